/- Contracts of the functions that the law NodeTells reaches, and what they answer (a session's own texts, joined; part 4). -/
import Derived.Below
import Derived.Test.YtdddhabemdbooaaDoorBNodeTells3
set_option maxHeartbeats 8000000
set_option maxRecDepth 100000
namespace Go.Proofs.YtdddhabemdbooaaDoor.X
open Go.RowKit Go.Proofs.YtdddhabemdbooaaDoorW.PrintWords Go.Proofs.YtdddhabemdbooaaDoorW.PrintLast Go.Proofs.YtdddhabemdbooaaDoorW.PrintMore
attribute [local go_sem] max2_int min2_int max_two min_two max_three min_three max_four min_four
set_option linter.unusedVariables false
set_option linter.unusedSimpArgs false
def oculuslaw22_alive.f (k : Nat)  : Option (Bool) := (some (([(⟨7, 67, (⟨0, 0, (⟨#[]⟩ : ByteArray)⟩ : S23), (⟨0, 0, false, false⟩ : S25), (⟨0, 0, false, false⟩ : S25), (([(⟨4, 0, (⟨0, 0, (⟨#[]⟩ : ByteArray)⟩ : S23), (⟨0, 0, false, false⟩ : S25), (⟨2, 0, false, false⟩ : S25), ([] : List (S28))⟩ : S28)] : List (S28)))⟩ : S28), (⟨1, 0, (⟨1, 10000, (⟨#[]⟩ : ByteArray)⟩ : S23), (⟨0, 0, false, false⟩ : S25), (⟨0, 0, false, false⟩ : S25), ([] : List (S28))⟩ : S28)] : List (S28)) : List (S28))).bind fun y107 => ((node_Formula.f k 6 2 0 0 (⟨#[]⟩ : ByteArray) 0 0 false false 0 0 false false y107).bind fun t111 => (if t111 = true then ((node_Right.f k 4 0 0 0 (⟨#[]⟩ : ByteArray) 0 0 false false 2 0 false false ([] : List (S28))).bind fun t112 => (if t112 = true then ((node_Formula.f k 4 0 0 0 (⟨#[]⟩ : ByteArray) 0 0 false false 2 0 false false ([] : List (S28))).bind fun t113 => (if t113 = true then (none) else ((node_Deep.f k 6 2 0 0 (⟨#[]⟩ : ByteArray) 0 0 false false 0 0 false false y107).bind fun t114 => (if t114 = 3 then ((node_Count.f k 6 2 0 0 (⟨#[]⟩ : ByteArray) 0 0 false false 0 0 false false y107).bind fun t115 => (if t115 = 4 then ((node_Right.f k 5 0 0 0 (⟨#[]⟩ : ByteArray) 0 0 false false 0 0 false false (([(⟨4, 0, (⟨0, 0, (⟨#[]⟩ : ByteArray)⟩ : S23), (⟨0, 0, false, false⟩ : S25), (⟨2, 0, false, false⟩ : S25), ([] : List (S28))⟩ : S28)] : List (S28)))).bind fun t119 => (if t119 = true then (none) else ((node_List.f k 6 2 0 0 (⟨#[]⟩ : ByteArray) 0 0 false false 0 0 false false y107).bind fun t120 => (if 3 < (t120.length : Int) then ((node_Same.f k ((rd_T28 t120 3).f0) ((rd_T28 t120 3).f1) ((rd_T28 t120 3).f2.f0) ((rd_T28 t120 3).f2.f1) ((rd_T28 t120 3).f2.f2) ((rd_T28 t120 3).f3.f0) ((rd_T28 t120 3).f3.f1) ((rd_T28 t120 3).f3.f2) ((rd_T28 t120 3).f3.f3) ((rd_T28 t120 3).f4.f0) ((rd_T28 t120 3).f4.f1) ((rd_T28 t120 3).f4.f2) ((rd_T28 t120 3).f4.f3) ((rd_T28 t120 3).f5) 1 0 1 10000 (⟨#[]⟩ : ByteArray) 0 0 false false 0 0 false false ([] : List (S28))).bind fun t124 => (some t124)) else (none))))) else (none))) else (none))))) else (none))) else (none)))
def oculuslaw22_alive.T5 : Bool × List (List Nat × List Nat) := (true, [([], []), ([0], [0]), ([1, 1], [1]), ([2], [2]), ([3, 2, 2], [2, 3]), ([2, 4], [2, 4]), ([5, 4], [5]), ([6], [6]), ([7, 6, 6], [6, 7]), ([8, 6], [6, 8]), ([6, 9], [6, 9]), ([10, 8], [10]), ([11], [11]), ([12, 11, 11], [11, 12]), ([13, 11], [11, 13]), ([11, 14], [11, 14]), ([15, 13], [15]), ([16], [16]), ([17, 16, 16], [16, 17]), ([18, 16], [16, 18]), ([16, 19], [16, 19]), ([20, 18], [20]), ([21], [21]), ([22, 21], [21, 22]), ([23, 21], [21, 23]), ([24, 21, 21], [21, 24]), ([25, 21], [21, 25]), ([21, 26], [21, 26]), ([27, 25], [27]), ([28], [28]), ([29, 28, 28], [28, 29]), ([30, 28], [28, 30]), ([31, 28], [28, 31]), ([28], [28]), ([32, 33, 30, 28], [28, 32, 33]), ([28, 34], [28, 34]), ([35, 34, 0, 1, 2, 3, 4, 5, 6, 7, 8, 9, 10, 11, 12, 13, 14, 15, 16, 17, 18, 19, 20, 21, 22, 23, 24, 25, 26, 27, 28, 29, 30, 31, 32, 33, 34, 35], [35])])
def oculuslaw22_alive.B5 : List Nat := [0, 1, 3, 7, 15, 31, 63, 127, 255, 511, 1023, 2047, 4095, 8191, 16383, 32767, 65535, 131071, 262143, 524287, 1048575, 2097151, 4194303, 8388607, 16777215, 33554431, 67108863, 134217727, 268435455, 536870911, 1073741823, 2147483647, 4294967295, 536870911, 17179869183, 34359738367, 68719476735]
theorem oculuslaw22_alive.tab5 : rtab .any (opsOf Tryd.f7 5) = oculuslaw22_alive.T5 := by kernel_rfl
theorem oculuslaw22_alive.bits5 : waitsOk oculuslaw22_alive.T5.2 oculuslaw22_alive.B5 = true := by kernel_rfl
theorem oculuslaw22_alive.calls (k : Nat)  (r : Bool) (w : World) (hT : Aside0 (Tab w)) (h : oculuslaw22_alive.f k  = some r) :
  Calls Tryd.prog 7 #[] w fun e w' => e = .returned (.bool r) ∧ Below w.heap.size w w' := by
 have hu25 := Tryd.underlying25; have hu28 := Tryd.underlying28; have hu23 := Tryd.underlying23; have HB := A_ (Below.refl w.heap.size w)
 have H : ((some (([(⟨7, 67, (⟨0, 0, (⟨#[]⟩ : ByteArray)⟩ : S23), (⟨0, 0, false, false⟩ : S25), (⟨0, 0, false, false⟩ : S25), (([(⟨4, 0, (⟨0, 0, (⟨#[]⟩ : ByteArray)⟩ : S23), (⟨0, 0, false, false⟩ : S25), (⟨2, 0, false, false⟩ : S25), ([] : List (S28))⟩ : S28)] : List (S28)))⟩ : S28), (⟨1, 0, (⟨1, 10000, (⟨#[]⟩ : ByteArray)⟩ : S23), (⟨0, 0, false, false⟩ : S25), (⟨0, 0, false, false⟩ : S25), ([] : List (S28))⟩ : S28)] : List (S28)) : List (S28))).bind fun y107 => ((node_Formula.f k 6 2 0 0 (⟨#[]⟩ : ByteArray) 0 0 false false 0 0 false false y107).bind fun t111 => (if t111 = true then ((node_Right.f k 4 0 0 0 (⟨#[]⟩ : ByteArray) 0 0 false false 2 0 false false ([] : List (S28))).bind fun t112 => (if t112 = true then ((node_Formula.f k 4 0 0 0 (⟨#[]⟩ : ByteArray) 0 0 false false 2 0 false false ([] : List (S28))).bind fun t113 => (if t113 = true then (none) else ((node_Deep.f k 6 2 0 0 (⟨#[]⟩ : ByteArray) 0 0 false false 0 0 false false y107).bind fun t114 => (if t114 = 3 then ((node_Count.f k 6 2 0 0 (⟨#[]⟩ : ByteArray) 0 0 false false 0 0 false false y107).bind fun t115 => (if t115 = 4 then ((node_Right.f k 5 0 0 0 (⟨#[]⟩ : ByteArray) 0 0 false false 0 0 false false (([(⟨4, 0, (⟨0, 0, (⟨#[]⟩ : ByteArray)⟩ : S23), (⟨0, 0, false, false⟩ : S25), (⟨2, 0, false, false⟩ : S25), ([] : List (S28))⟩ : S28)] : List (S28)))).bind fun t119 => (if t119 = true then (none) else ((node_List.f k 6 2 0 0 (⟨#[]⟩ : ByteArray) 0 0 false false 0 0 false false y107).bind fun t120 => (if 3 < (t120.length : Int) then ((node_Same.f k ((rd_T28 t120 3).f0) ((rd_T28 t120 3).f1) ((rd_T28 t120 3).f2.f0) ((rd_T28 t120 3).f2.f1) ((rd_T28 t120 3).f2.f2) ((rd_T28 t120 3).f3.f0) ((rd_T28 t120 3).f3.f1) ((rd_T28 t120 3).f3.f2) ((rd_T28 t120 3).f3.f3) ((rd_T28 t120 3).f4.f0) ((rd_T28 t120 3).f4.f1) ((rd_T28 t120 3).f4.f2) ((rd_T28 t120 3).f4.f3) ((rd_T28 t120 3).f5) 1 0 1 10000 (⟨#[]⟩ : ByteArray) 0 0 false false 0 0 false false ([] : List (S28))).bind fun t124 => (some t124)) else (none))))) else (none))) else (none))))) else (none))) else (none)))) = some r := h
 clear h; obtain ⟨y102, hy102⟩ : ∃ y_ : List (S28), y_ = (([(⟨4, 0, (⟨0, 0, (⟨#[]⟩ : ByteArray)⟩ : S23), (⟨0, 0, false, false⟩ : S25), (⟨2, 0, false, false⟩ : S25), ([] : List (S28))⟩ : S28)] : List (S28))) := ⟨_, rfl⟩
 replace H : ((some (([(⟨7, 67, (⟨0, 0, (⟨#[]⟩ : ByteArray)⟩ : S23), (⟨0, 0, false, false⟩ : S25), (⟨0, 0, false, false⟩ : S25), y102⟩ : S28), (⟨1, 0, (⟨1, 10000, (⟨#[]⟩ : ByteArray)⟩ : S23), (⟨0, 0, false, false⟩ : S25), (⟨0, 0, false, false⟩ : S25), ([] : List (S28))⟩ : S28)] : List (S28)) : List (S28))).bind fun y107 => ((node_Formula.f k 6 2 0 0 (⟨#[]⟩ : ByteArray) 0 0 false false 0 0 false false y107).bind fun t111 => (if t111 = true then ((node_Right.f k 4 0 0 0 (⟨#[]⟩ : ByteArray) 0 0 false false 2 0 false false ([] : List (S28))).bind fun t112 => (if t112 = true then ((node_Formula.f k 4 0 0 0 (⟨#[]⟩ : ByteArray) 0 0 false false 2 0 false false ([] : List (S28))).bind fun t113 => (if t113 = true then (none) else ((node_Deep.f k 6 2 0 0 (⟨#[]⟩ : ByteArray) 0 0 false false 0 0 false false y107).bind fun t114 => (if t114 = 3 then ((node_Count.f k 6 2 0 0 (⟨#[]⟩ : ByteArray) 0 0 false false 0 0 false false y107).bind fun t115 => (if t115 = 4 then ((node_Right.f k 5 0 0 0 (⟨#[]⟩ : ByteArray) 0 0 false false 0 0 false false (([(⟨4, 0, (⟨0, 0, (⟨#[]⟩ : ByteArray)⟩ : S23), (⟨0, 0, false, false⟩ : S25), (⟨2, 0, false, false⟩ : S25), ([] : List (S28))⟩ : S28)] : List (S28)))).bind fun t119 => (if t119 = true then (none) else ((node_List.f k 6 2 0 0 (⟨#[]⟩ : ByteArray) 0 0 false false 0 0 false false y107).bind fun t120 => (if 3 < (t120.length : Int) then ((node_Same.f k ((rd_T28 t120 3).f0) ((rd_T28 t120 3).f1) ((rd_T28 t120 3).f2.f0) ((rd_T28 t120 3).f2.f1) ((rd_T28 t120 3).f2.f2) ((rd_T28 t120 3).f3.f0) ((rd_T28 t120 3).f3.f1) ((rd_T28 t120 3).f3.f2) ((rd_T28 t120 3).f3.f3) ((rd_T28 t120 3).f4.f0) ((rd_T28 t120 3).f4.f1) ((rd_T28 t120 3).f4.f2) ((rd_T28 t120 3).f4.f3) ((rd_T28 t120 3).f5) 1 0 1 10000 (⟨#[]⟩ : ByteArray) 0 0 false false 0 0 false false ([] : List (S28))).bind fun t124 => (some t124)) else (none))))) else (none))) else (none))))) else (none))) else (none)))) = some r := by first | (rw [hy102]; with_reducible exact H) | (have H2_ := (Option.bind_some _ _).symm.trans H; rw [hy102]; with_reducible exact H2_) | (have H2_ := (Option.bind_some _ _).symm.trans H; with_reducible exact H2_) | with_reducible exact H | (rw [hy102]; exact H) | exact H
 have Ny102 := A_ hy102; clear hy102; obtain ⟨y107, hy107⟩ : ∃ y_ : List (S28), y_ = (([(⟨7, 67, (⟨0, 0, (⟨#[]⟩ : ByteArray)⟩ : S23), (⟨0, 0, false, false⟩ : S25), (⟨0, 0, false, false⟩ : S25), y102⟩ : S28), (⟨1, 0, (⟨1, 10000, (⟨#[]⟩ : ByteArray)⟩ : S23), (⟨0, 0, false, false⟩ : S25), (⟨0, 0, false, false⟩ : S25), ([] : List (S28))⟩ : S28)] : List (S28))) := ⟨_, rfl⟩
 replace H : ((node_Formula.f k 6 2 0 0 (⟨#[]⟩ : ByteArray) 0 0 false false 0 0 false false y107).bind fun t111 => (if t111 = true then ((node_Right.f k 4 0 0 0 (⟨#[]⟩ : ByteArray) 0 0 false false 2 0 false false ([] : List (S28))).bind fun t112 => (if t112 = true then ((node_Formula.f k 4 0 0 0 (⟨#[]⟩ : ByteArray) 0 0 false false 2 0 false false ([] : List (S28))).bind fun t113 => (if t113 = true then (none) else ((node_Deep.f k 6 2 0 0 (⟨#[]⟩ : ByteArray) 0 0 false false 0 0 false false y107).bind fun t114 => (if t114 = 3 then ((node_Count.f k 6 2 0 0 (⟨#[]⟩ : ByteArray) 0 0 false false 0 0 false false y107).bind fun t115 => (if t115 = 4 then ((node_Right.f k 5 0 0 0 (⟨#[]⟩ : ByteArray) 0 0 false false 0 0 false false (([(⟨4, 0, (⟨0, 0, (⟨#[]⟩ : ByteArray)⟩ : S23), (⟨0, 0, false, false⟩ : S25), (⟨2, 0, false, false⟩ : S25), ([] : List (S28))⟩ : S28)] : List (S28)))).bind fun t119 => (if t119 = true then (none) else ((node_List.f k 6 2 0 0 (⟨#[]⟩ : ByteArray) 0 0 false false 0 0 false false y107).bind fun t120 => (if 3 < (t120.length : Int) then ((node_Same.f k ((rd_T28 t120 3).f0) ((rd_T28 t120 3).f1) ((rd_T28 t120 3).f2.f0) ((rd_T28 t120 3).f2.f1) ((rd_T28 t120 3).f2.f2) ((rd_T28 t120 3).f3.f0) ((rd_T28 t120 3).f3.f1) ((rd_T28 t120 3).f3.f2) ((rd_T28 t120 3).f3.f3) ((rd_T28 t120 3).f4.f0) ((rd_T28 t120 3).f4.f1) ((rd_T28 t120 3).f4.f2) ((rd_T28 t120 3).f4.f3) ((rd_T28 t120 3).f5) 1 0 1 10000 (⟨#[]⟩ : ByteArray) 0 0 false false 0 0 false false ([] : List (S28))).bind fun t124 => (some t124)) else (none))))) else (none))) else (none))))) else (none))) else (none))) = some r := by first | (rw [hy107]; with_reducible exact H) | (have H2_ := (Option.bind_some _ _).symm.trans H; rw [hy107]; with_reducible exact H2_) | (have H2_ := (Option.bind_some _ _).symm.trans H; with_reducible exact H2_) | with_reducible exact H | (rw [hy107]; exact H) | exact H
 have Ny107 := A_ hy107; clear hy107; obtain ⟨t111, A1, H⟩ := bo_ H
 replace H := ib_ H; rcases H with ⟨rfl,H⟩|⟨rfl,H⟩
 ·obtain ⟨t112, A3, H⟩ := bo_ H
  replace H := ib_ H; rcases H with ⟨rfl,H⟩|⟨rfl,H⟩
  ·obtain ⟨t113, A5, H⟩ := bo_ H
   replace H := ib_ H; rcases H with ⟨rfl,H⟩|⟨rfl,H⟩
   ·exact absurd H (by simp)
   ·obtain ⟨t114, A7, H⟩ := bo_ H
    by_cases c8 : t114 = 3
    ·rw [if_pos c8] at H; have ⟨c8b0,c8b1⟩ := e1_ c8; clear c8; obtain ⟨t115, A9, H⟩ := bo_ H
     by_cases c10 : t115 = 4
     ·rw [if_pos c10] at H; have ⟨c10b0,c10b1⟩ := e1_ c10; clear c10; obtain ⟨y116, hy116⟩ : ∃ y_ : List (S28), y_ = (([(⟨4, 0, (⟨0, 0, (⟨#[]⟩ : ByteArray)⟩ : S23), (⟨0, 0, false, false⟩ : S25), (⟨2, 0, false, false⟩ : S25), ([] : List (S28))⟩ : S28)] : List (S28))) := ⟨_, rfl⟩
      replace H : ((node_Right.f k 5 0 0 0 (⟨#[]⟩ : ByteArray) 0 0 false false 0 0 false false y116).bind fun t119 => (if t119 = true then (none) else ((node_List.f k 6 2 0 0 (⟨#[]⟩ : ByteArray) 0 0 false false 0 0 false false y107).bind fun t120 => (if 3 < (t120.length : Int) then ((node_Same.f k ((rd_T28 t120 3).f0) ((rd_T28 t120 3).f1) ((rd_T28 t120 3).f2.f0) ((rd_T28 t120 3).f2.f1) ((rd_T28 t120 3).f2.f2) ((rd_T28 t120 3).f3.f0) ((rd_T28 t120 3).f3.f1) ((rd_T28 t120 3).f3.f2) ((rd_T28 t120 3).f3.f3) ((rd_T28 t120 3).f4.f0) ((rd_T28 t120 3).f4.f1) ((rd_T28 t120 3).f4.f2) ((rd_T28 t120 3).f4.f3) ((rd_T28 t120 3).f5) 1 0 1 10000 (⟨#[]⟩ : ByteArray) 0 0 false false 0 0 false false ([] : List (S28))).bind fun t124 => (some t124)) else (none))))) = some r := by first | (rw [hy116]; with_reducible exact H) | (have H2_ := (Option.bind_some _ _).symm.trans H; rw [hy116]; with_reducible exact H2_) | (have H2_ := (Option.bind_some _ _).symm.trans H; with_reducible exact H2_) | with_reducible exact H | (rw [hy116]; exact H) | exact H
      have Ny116 := A_ hy116; clear hy116; obtain ⟨t119, A11, H⟩ := bo_ H
      replace H := ib_ H; rcases H with ⟨rfl,H⟩|⟨rfl,H⟩
      ·exact absurd H (by simp)
      ·obtain ⟨t120, A13, H⟩ := bo_ H
       by_cases c14 : 3 < (t120.length : Int)
       ·rw [if_pos c14] at H; have c14b0 := decide_eq_true c14; have c14b1 : decide (3 < t120.length) = true := decide_eq_true (by omega); clear c14; obtain ⟨t124, A15, H⟩ := bo_ H; obtain rfl := Option.some.inj H
        go_enter Tryd.func7, Tryd.ntmps7
        try go_wp2_with (first | ((with_reducible refine gd_ 1 ?_); (try (refine gate_guard (by rfl) ?_; dsimp only)); refine be_ (N:=1) (cs := #[.int .i64 0, .int .i64 0, .int .i64 0, .int .i64 0, .string (⟨#[]⟩ : ByteArray), .int .i64 0, .int .i64 0, .bool false, .bool false, .int .i64 0, .int .i64 0, .bool false, .bool false, .slice none 0 0]) (t:=28) ?_; intro g1 hg w16 hbox hb; have BK101 := A_ (hbox); have GW101 := hs_ HB hg; have GE101 := hs_ HB hg; replace HB := bs_ HB hb; clear hb hbox hg; have hcz17_0 : w16.cell? ⟨g1, 0, none⟩ = some (.int .i64 0) := bc_ BK101 0 rfl; have hcz17_1 : w16.cell? ⟨g1, 1, none⟩ = some (.int .i64 0) := bc_ BK101 1 rfl; have hcz17_2 : w16.cell? ⟨g1, 2, none⟩ = some (.int .i64 0) := bc_ BK101 2 rfl; have hcz17_3 : w16.cell? ⟨g1, 3, none⟩ = some (.int .i64 0) := bc_ BK101 3 rfl; have hcz17_4 : w16.cell? ⟨g1, 4, none⟩ = some (.string (⟨#[]⟩ : ByteArray)) := bc_ BK101 4 rfl; have hcz17_5 : w16.cell? ⟨g1, 5, none⟩ = some (.int .i64 0) := bc_ BK101 5 rfl; have hcz17_6 : w16.cell? ⟨g1, 6, none⟩ = some (.int .i64 0) := bc_ BK101 6 rfl; have hcz17_7 : w16.cell? ⟨g1, 7, none⟩ = some (.bool false) := bc_ BK101 7 rfl; have hcz17_8 : w16.cell? ⟨g1, 8, none⟩ = some (.bool false) := bc_ BK101 8 rfl; have hcz17_9 : w16.cell? ⟨g1, 9, none⟩ = some (.int .i64 0) := bc_ BK101 9 rfl; have hcz17_10 : w16.cell? ⟨g1, 10, none⟩ = some (.int .i64 0) := bc_ BK101 10 rfl; have hcz17_11 : w16.cell? ⟨g1, 11, none⟩ = some (.bool false) := bc_ BK101 11 rfl; have hcz17_12 : w16.cell? ⟨g1, 12, none⟩ = some (.bool false) := bc_ BK101 12 rfl; have hcz17_13 : w16.cell? ⟨g1, 13, none⟩ = some (.slice none 0 0) := bc_ BK101 13 rfl; have hfz17_0 := blk_frozen BK101.out 0; have hfz17_1 := blk_frozen BK101.out 1; have hfz17_2 := blk_frozen BK101.out 2; have hfz17_3 := blk_frozen BK101.out 3; have hfz17_4 := blk_frozen BK101.out 4; have hfz17_5 := blk_frozen BK101.out 5; have hfz17_6 := blk_frozen BK101.out 6; have hfz17_7 := blk_frozen BK101.out 7; have hfz17_8 := blk_frozen BK101.out 8; have hfz17_9 := blk_frozen BK101.out 9; have hfz17_10 := blk_frozen BK101.out 10; have hfz17_11 := blk_frozen BK101.out 11; have hfz17_12 := blk_frozen BK101.out 12; have hfz17_13 := blk_frozen BK101.out 13) | ((with_reducible refine gate_store (t:=28) (p:=1) rfl ?_); refine store_event (t:=28) (p:=1) (v:=?vo_w18) (w1 := ((((((((((((((w16.setCell ⟨g1, 0, none⟩ (.int .i64 4)).setCell ⟨g1, 1, none⟩ (.int .i64 0)).setCell ⟨g1, 2, none⟩ (.int .i64 0)).setCell ⟨g1, 3, none⟩ (.int .i64 0)).setCell ⟨g1, 4, none⟩ (.string (⟨#[]⟩ : ByteArray))).setCell ⟨g1, 5, none⟩ (.int .i64 0)).setCell ⟨g1, 6, none⟩ (.int .i64 0)).setCell ⟨g1, 7, none⟩ (.bool false)).setCell ⟨g1, 8, none⟩ (.bool false)).setCell ⟨g1, 9, none⟩ (.int .i64 2)).setCell ⟨g1, 10, none⟩ (.int .i64 0)).setCell ⟨g1, 11, none⟩ (.bool false)).setCell ⟨g1, 12, none⟩ (.bool false)).setCell ⟨g1, 13, none⟩ (.slice none 0 0))) ?hg ?ho ?hn ?hr ?_; (case ho => rfl); (case hg => rfl); (case hn => rfl); (case hr => first | (go_simp; done) | (go_simp; rfl)); intro w18 hw; have n0_ : Aside0 (w18.heap[g1]? = some (.cells #[.int .i64 4, .int .i64 0, .int .i64 0, .int .i64 0, .string (⟨#[]⟩ : ByteArray), .int .i64 0, .int .i64 0, .bool false, .bool false, .int .i64 2, .int .i64 0, .bool false, .bool false, .slice none 0 0] 28 (0, 0))) := ⟨(by rw [hw]; exact (by (iterate 14 apply pp_); exact pkx BK101; all_goals rfl))⟩; have n1_ : Aside0 (Below w.heap.size w w18) := ⟨(by rw [hw]; exact bl_)⟩; clear hw; clear BK101; clear HB; have BK101 := n0_; have HB := n1_; clear n0_ n1_; have hcz19_0 : w18.cell? ⟨g1, 0, none⟩ = some (.int .i64 4) := bc_ BK101 0 rfl; have hcz19_1 : w18.cell? ⟨g1, 1, none⟩ = some (.int .i64 0) := bc_ BK101 1 rfl; have hcz19_2 : w18.cell? ⟨g1, 2, none⟩ = some (.int .i64 0) := bc_ BK101 2 rfl; have hcz19_3 : w18.cell? ⟨g1, 3, none⟩ = some (.int .i64 0) := bc_ BK101 3 rfl; have hcz19_4 : w18.cell? ⟨g1, 4, none⟩ = some (.string (⟨#[]⟩ : ByteArray)) := bc_ BK101 4 rfl; have hcz19_5 : w18.cell? ⟨g1, 5, none⟩ = some (.int .i64 0) := bc_ BK101 5 rfl; have hcz19_6 : w18.cell? ⟨g1, 6, none⟩ = some (.int .i64 0) := bc_ BK101 6 rfl; have hcz19_7 : w18.cell? ⟨g1, 7, none⟩ = some (.bool false) := bc_ BK101 7 rfl; have hcz19_8 : w18.cell? ⟨g1, 8, none⟩ = some (.bool false) := bc_ BK101 8 rfl; have hcz19_9 : w18.cell? ⟨g1, 9, none⟩ = some (.int .i64 2) := bc_ BK101 9 rfl; have hcz19_10 : w18.cell? ⟨g1, 10, none⟩ = some (.int .i64 0) := bc_ BK101 10 rfl; have hcz19_11 : w18.cell? ⟨g1, 11, none⟩ = some (.bool false) := bc_ BK101 11 rfl; have hcz19_12 : w18.cell? ⟨g1, 12, none⟩ = some (.bool false) := bc_ BK101 12 rfl; have hcz19_13 : w18.cell? ⟨g1, 13, none⟩ = some (.slice none 0 0) := bc_ BK101 13 rfl; have hfz19_0 := blk_frozen BK101.out 0; have hfz19_1 := blk_frozen BK101.out 1; have hfz19_2 := blk_frozen BK101.out 2; have hfz19_3 := blk_frozen BK101.out 3; have hfz19_4 := blk_frozen BK101.out 4; have hfz19_5 := blk_frozen BK101.out 5; have hfz19_6 := blk_frozen BK101.out 6; have hfz19_7 := blk_frozen BK101.out 7; have hfz19_8 := blk_frozen BK101.out 8; have hfz19_9 := blk_frozen BK101.out 9; have hfz19_10 := blk_frozen BK101.out 10; have hfz19_11 := blk_frozen BK101.out 11; have hfz19_12 := blk_frozen BK101.out 12; have hfz19_13 := blk_frozen BK101.out 13) | ((with_reducible refine gd_ 8 ?_); (try (refine gate_guard (by rfl) ?_; dsimp only)); refine Kd.N_lit k28 _ 28 ?hg (N':=8) ?hd (xs := ([(⟨4, 0, (⟨0, 0, (⟨#[]⟩ : ByteArray)⟩ : S23), (⟨0, 0, false, false⟩ : S25), (⟨2, 0, false, false⟩ : S25), ([] : List (S28))⟩ : S28)] : List (S28))) (inner := [.int .i64 4, .int .i64 0, .int .i64 0, .int .i64 0, .string (⟨#[]⟩ : ByteArray), .int .i64 0, .int .i64 0, .bool false, .bool false, .int .i64 2, .int .i64 0, .bool false, .bool false, .slice none 0 0]) (ok := (fun k_ => k_ ≠ g1)) (okp := (fun k_ => k_ ≠ g1)) ?hr ?hp (fun _ hk => hk) ((show ∀ k_, w18.heap.size ≤ k_ → (fun k_ => k_ ≠ g1) k_ from fun k_ hk => Kd.freshB (pkx BK101) k_ hk) _ (Nat.le_refl _)) (Below.refl _ _) (Nat.le_refl _) (by simp) ?_; (case hd => rfl); (case hg => rfl); (case hr => first | (go_simp; done) | (go_simp; rfl)); (case hp => exact (Reps.front (show Kd.FK k28 _ _ (⟨4, 0, (⟨0, 0, (⟨#[]⟩ : ByteArray)⟩ : S23), (⟨0, 0, false, false⟩ : S25), (⟨2, 0, false, false⟩ : S25), ([] : List (S28))⟩ : S28) [.int .i64 4, .int .i64 0, .int .i64 0, .int .i64 0, .string (⟨#[]⟩ : ByteArray), .int .i64 0, .int .i64 0, .bool false, .bool false, .int .i64 2, .int .i64 0, .bool false, .bool false, .slice none 0 0] from (k28_mkF _ _ (⟨4, 0, (⟨0, 0, (⟨#[]⟩ : ByteArray)⟩ : S23), (⟨0, 0, false, false⟩ : S25), (⟨2, 0, false, false⟩ : S25), ([] : List (S28))⟩ : S28) (Nat.le_refl _) (Kd.F_nil _ _ _))) rfl (Reps.none _ _) rfl)); intro v103 w20 ho21 hb hg_ hnew_; clear hg_ hnew_; (first | rw [← Ny102.out] at ho21 | (simp only [Int.reduceToNat] at ho21; rw [← Ny102.out] at ho21)); have HO104 := A_ (Kd.N_lower ho21 (below_size (pbx HB))); replace BK101 := bb_ BK101 hb; replace HB := bs_ HB hb; clear hb ho21; obtain ⟨Ao22, co22, eo22⟩ := Kd.N_slice HO104.out; subst eo22) | ((with_reducible refine gd_ 2 ?_); (try (refine gate_guard (by rfl) ?_; dsimp only)); refine be_ (N:=2) (cs := #[.int .i64 0, .int .i64 0, .int .i64 0, .int .i64 0, .string (⟨#[]⟩ : ByteArray), .int .i64 0, .int .i64 0, .bool false, .bool false, .int .i64 0, .int .i64 0, .bool false, .bool false, .slice none 0 0]) (t:=28) ?_; intro g5 hg w23 hbox hb; have BK105 := A_ (hbox); have GW105 := hs_ HB hg; have GE105 := hs_ HB hg; have N15 := hl_ BK101 hg; have N51 := hr_ BK101 hg; replace HO104 := A_ (Kd.N_below (Kd.N_elderB (by (with_reducible repeat (first | apply Kd.N_alloc | apply Kd.N_drewN | apply Kd.N_drew)); exact HO104.out) g5 (Nat.le_of_eq hg.symm)) hb); replace BK101 := bb_ BK101 hb; replace HB := bs_ HB hb; clear hb hbox hg; have hnb24 := N51.out; have hnc24 := N15.out; have hcz25_0 : w23.cell? ⟨g5, 0, none⟩ = some (.int .i64 0) := bc_ BK105 0 rfl; have hcz25_1 : w23.cell? ⟨g5, 1, none⟩ = some (.int .i64 0) := bc_ BK105 1 rfl; have hcz25_2 : w23.cell? ⟨g5, 2, none⟩ = some (.int .i64 0) := bc_ BK105 2 rfl; have hcz25_3 : w23.cell? ⟨g5, 3, none⟩ = some (.int .i64 0) := bc_ BK105 3 rfl; have hcz25_4 : w23.cell? ⟨g5, 4, none⟩ = some (.string (⟨#[]⟩ : ByteArray)) := bc_ BK105 4 rfl; have hcz25_5 : w23.cell? ⟨g5, 5, none⟩ = some (.int .i64 0) := bc_ BK105 5 rfl; have hcz25_6 : w23.cell? ⟨g5, 6, none⟩ = some (.int .i64 0) := bc_ BK105 6 rfl; have hcz25_7 : w23.cell? ⟨g5, 7, none⟩ = some (.bool false) := bc_ BK105 7 rfl; have hcz25_8 : w23.cell? ⟨g5, 8, none⟩ = some (.bool false) := bc_ BK105 8 rfl; have hcz25_9 : w23.cell? ⟨g5, 9, none⟩ = some (.int .i64 0) := bc_ BK105 9 rfl; have hcz25_10 : w23.cell? ⟨g5, 10, none⟩ = some (.int .i64 0) := bc_ BK105 10 rfl; have hcz25_11 : w23.cell? ⟨g5, 11, none⟩ = some (.bool false) := bc_ BK105 11 rfl; have hcz25_12 : w23.cell? ⟨g5, 12, none⟩ = some (.bool false) := bc_ BK105 12 rfl; have hcz25_13 : w23.cell? ⟨g5, 13, none⟩ = some (.slice none 0 0) := bc_ BK105 13 rfl; have hfz25_0 := blk_frozen BK105.out 0; have hfz25_1 := blk_frozen BK105.out 1; have hfz25_2 := blk_frozen BK105.out 2; have hfz25_3 := blk_frozen BK105.out 3; have hfz25_4 := blk_frozen BK105.out 4; have hfz25_5 := blk_frozen BK105.out 5; have hfz25_6 := blk_frozen BK105.out 6; have hfz25_7 := blk_frozen BK105.out 7; have hfz25_8 := blk_frozen BK105.out 8; have hfz25_9 := blk_frozen BK105.out 9; have hfz25_10 := blk_frozen BK105.out 10; have hfz25_11 := blk_frozen BK105.out 11; have hfz25_12 := blk_frozen BK105.out 12; have hfz25_13 := blk_frozen BK105.out 13) | ((with_reducible refine gate_store (t:=28) (p:=2) rfl ?_); refine store_event (t:=28) (p:=2) (v:=?vo_w26) (w1 := ((((((((((((((w23.setCell ⟨g5, 0, none⟩ (.int .i64 7)).setCell ⟨g5, 1, none⟩ (.int .i64 67)).setCell ⟨g5, 2, none⟩ (.int .i64 0)).setCell ⟨g5, 3, none⟩ (.int .i64 0)).setCell ⟨g5, 4, none⟩ (.string (⟨#[]⟩ : ByteArray))).setCell ⟨g5, 5, none⟩ (.int .i64 0)).setCell ⟨g5, 6, none⟩ (.int .i64 0)).setCell ⟨g5, 7, none⟩ (.bool false)).setCell ⟨g5, 8, none⟩ (.bool false)).setCell ⟨g5, 9, none⟩ (.int .i64 0)).setCell ⟨g5, 10, none⟩ (.int .i64 0)).setCell ⟨g5, 11, none⟩ (.bool false)).setCell ⟨g5, 12, none⟩ (.bool false)).setCell ⟨g5, 13, none⟩ (.slice Ao22 y102.length co22))) ?hg ?ho ?hn ?hr ?_; (case ho => rfl); (case hg => rfl); (case hn => rfl); (case hr => first | (go_simp; done) | (go_simp; rfl)); intro w26 hw; have n0_ : Aside0 (Kd.N k28 28 w26 w.heap.size (fun k_ => k_ ≠ g1 ∧ k_ ≠ g5) (.slice Ao22 y102.length co22) y102) := ⟨(by rw [hw]; exact (by (with_reducible repeat (first | apply Kd.N_alloc | apply Kd.N_drewN | apply Kd.N_drew)); exact Kd.N_mono (Kd.N_far (p := ⟨g5, 13, none⟩) (Kd.N_far (p := ⟨g5, 12, none⟩) (Kd.N_far (p := ⟨g5, 11, none⟩) (Kd.N_far (p := ⟨g5, 10, none⟩) (Kd.N_far (p := ⟨g5, 9, none⟩) (Kd.N_far (p := ⟨g5, 8, none⟩) (Kd.N_far (p := ⟨g5, 7, none⟩) (Kd.N_far (p := ⟨g5, 6, none⟩) (Kd.N_far (p := ⟨g5, 5, none⟩) (Kd.N_far (p := ⟨g5, 4, none⟩) (Kd.N_far (p := ⟨g5, 3, none⟩) (Kd.N_far (p := ⟨g5, 2, none⟩) (Kd.N_far (p := ⟨g5, 1, none⟩) (Kd.N_far (p := ⟨g5, 0, none⟩) (Kd.N_mono HO104.out (fun k_ hk => (⟨hk, hk.2⟩ : _ ∧ k_ ≠ g5))) (fun _ hk => hk.2) (.int .i64 7)) (fun _ hk => hk.2) (.int .i64 67)) (fun _ hk => hk.2) (.int .i64 0)) (fun _ hk => hk.2) (.int .i64 0)) (fun _ hk => hk.2) (.string (⟨#[]⟩ : ByteArray))) (fun _ hk => hk.2) (.int .i64 0)) (fun _ hk => hk.2) (.int .i64 0)) (fun _ hk => hk.2) (.bool false)) (fun _ hk => hk.2) (.bool false)) (fun _ hk => hk.2) (.int .i64 0)) (fun _ hk => hk.2) (.int .i64 0)) (fun _ hk => hk.2) (.bool false)) (fun _ hk => hk.2) (.bool false)) (fun _ hk => hk.2) (.slice Ao22 y102.length co22)) (fun _ hk => ⟨hk.1.1, hk.1.2⟩)))⟩; have n1_ : Aside0 (w26.heap[g1]? = some (.cells #[.int .i64 4, .int .i64 0, .int .i64 0, .int .i64 0, .string (⟨#[]⟩ : ByteArray), .int .i64 0, .int .i64 0, .bool false, .bool false, .int .i64 2, .int .i64 0, .bool false, .bool false, .slice none 0 0] 28 (0, 0))) := ⟨(by rw [hw]; exact (by (iterate 14 refine pf_ ?_ N15.out); exact pkx BK101))⟩; have n2_ : Aside0 (w26.heap[g5]? = some (.cells #[.int .i64 7, .int .i64 67, .int .i64 0, .int .i64 0, .string (⟨#[]⟩ : ByteArray), .int .i64 0, .int .i64 0, .bool false, .bool false, .int .i64 0, .int .i64 0, .bool false, .bool false, .slice Ao22 y102.length co22] 28 (0, 0))) := ⟨(by rw [hw]; exact (by (iterate 14 apply pp_); exact pkx BK105; all_goals rfl))⟩; have n3_ : Aside0 (Below w.heap.size w w26) := ⟨(by rw [hw]; exact bl_)⟩; clear hw; clear HO104; clear BK101; clear BK105; clear HB; have HO104 := n0_; have BK101 := n1_; have BK105 := n2_; have HB := n3_; clear n0_ n1_ n2_ n3_) | ((with_reducible refine gd_ 3 ?_); (try (refine gate_guard (by rfl) ?_; dsimp only)); refine be_ (N:=3) (cs := #[.int .i64 0, .int .i64 0, .int .i64 0, .int .i64 0, .string (⟨#[]⟩ : ByteArray), .int .i64 0, .int .i64 0, .bool false, .bool false, .int .i64 0, .int .i64 0, .bool false, .bool false, .slice none 0 0]) (t:=28) ?_; intro g6 hg w27 hbox hb; have BK106 := A_ (hbox); have GW106 := hs_ HB hg; have GE106 := hs_ HB hg; have N16 := hl_ BK101 hg; have N61 := hr_ BK101 hg; have N56 := hl_ BK105 hg; have N65 := hr_ BK105 hg; replace HO104 := A_ (Kd.N_below (Kd.N_elderB (by (with_reducible repeat (first | apply Kd.N_alloc | apply Kd.N_drewN | apply Kd.N_drew)); exact HO104.out) g6 (Nat.le_of_eq hg.symm)) hb); replace BK101 := bb_ BK101 hb; replace BK105 := bb_ BK105 hb; replace HB := bs_ HB hb; clear hb hbox hg; have hnb28 := N61.out; have hnc28 := N16.out; have hnb29 := N65.out; have hnc29 := N56.out; have hcz30_0 : w27.cell? ⟨g6, 0, none⟩ = some (.int .i64 0) := bc_ BK106 0 rfl; have hcz30_1 : w27.cell? ⟨g6, 1, none⟩ = some (.int .i64 0) := bc_ BK106 1 rfl; have hcz30_2 : w27.cell? ⟨g6, 2, none⟩ = some (.int .i64 0) := bc_ BK106 2 rfl; have hcz30_3 : w27.cell? ⟨g6, 3, none⟩ = some (.int .i64 0) := bc_ BK106 3 rfl; have hcz30_4 : w27.cell? ⟨g6, 4, none⟩ = some (.string (⟨#[]⟩ : ByteArray)) := bc_ BK106 4 rfl; have hcz30_5 : w27.cell? ⟨g6, 5, none⟩ = some (.int .i64 0) := bc_ BK106 5 rfl; have hcz30_6 : w27.cell? ⟨g6, 6, none⟩ = some (.int .i64 0) := bc_ BK106 6 rfl; have hcz30_7 : w27.cell? ⟨g6, 7, none⟩ = some (.bool false) := bc_ BK106 7 rfl; have hcz30_8 : w27.cell? ⟨g6, 8, none⟩ = some (.bool false) := bc_ BK106 8 rfl; have hcz30_9 : w27.cell? ⟨g6, 9, none⟩ = some (.int .i64 0) := bc_ BK106 9 rfl; have hcz30_10 : w27.cell? ⟨g6, 10, none⟩ = some (.int .i64 0) := bc_ BK106 10 rfl; have hcz30_11 : w27.cell? ⟨g6, 11, none⟩ = some (.bool false) := bc_ BK106 11 rfl; have hcz30_12 : w27.cell? ⟨g6, 12, none⟩ = some (.bool false) := bc_ BK106 12 rfl; have hcz30_13 : w27.cell? ⟨g6, 13, none⟩ = some (.slice none 0 0) := bc_ BK106 13 rfl; have hfz30_0 := blk_frozen BK106.out 0; have hfz30_1 := blk_frozen BK106.out 1; have hfz30_2 := blk_frozen BK106.out 2; have hfz30_3 := blk_frozen BK106.out 3; have hfz30_4 := blk_frozen BK106.out 4; have hfz30_5 := blk_frozen BK106.out 5; have hfz30_6 := blk_frozen BK106.out 6; have hfz30_7 := blk_frozen BK106.out 7; have hfz30_8 := blk_frozen BK106.out 8; have hfz30_9 := blk_frozen BK106.out 9; have hfz30_10 := blk_frozen BK106.out 10; have hfz30_11 := blk_frozen BK106.out 11; have hfz30_12 := blk_frozen BK106.out 12; have hfz30_13 := blk_frozen BK106.out 13) | ((with_reducible refine gate_store (t:=28) (p:=3) rfl ?_); refine store_event (t:=28) (p:=3) (v:=?vo_w31) (w1 := ((((((((((((((w27.setCell ⟨g6, 0, none⟩ (.int .i64 1)).setCell ⟨g6, 1, none⟩ (.int .i64 0)).setCell ⟨g6, 2, none⟩ (.int .i64 1)).setCell ⟨g6, 3, none⟩ (.int .i64 10000)).setCell ⟨g6, 4, none⟩ (.string (⟨#[]⟩ : ByteArray))).setCell ⟨g6, 5, none⟩ (.int .i64 0)).setCell ⟨g6, 6, none⟩ (.int .i64 0)).setCell ⟨g6, 7, none⟩ (.bool false)).setCell ⟨g6, 8, none⟩ (.bool false)).setCell ⟨g6, 9, none⟩ (.int .i64 0)).setCell ⟨g6, 10, none⟩ (.int .i64 0)).setCell ⟨g6, 11, none⟩ (.bool false)).setCell ⟨g6, 12, none⟩ (.bool false)).setCell ⟨g6, 13, none⟩ (.slice none 0 0))) ?hg ?ho ?hn ?hr ?_; (case ho => rfl); (case hg => rfl); (case hn => rfl); (case hr => first | (go_simp; done) | (go_simp; rfl)); intro w31 hw; have n0_ : Aside0 (Kd.N k28 28 w31 w.heap.size (fun k_ => k_ ≠ g1 ∧ k_ ≠ g5 ∧ k_ ≠ g6) (.slice Ao22 y102.length co22) y102) := ⟨(by rw [hw]; exact (by (with_reducible repeat (first | apply Kd.N_alloc | apply Kd.N_drewN | apply Kd.N_drew)); exact Kd.N_mono (Kd.N_far (p := ⟨g6, 13, none⟩) (Kd.N_far (p := ⟨g6, 12, none⟩) (Kd.N_far (p := ⟨g6, 11, none⟩) (Kd.N_far (p := ⟨g6, 10, none⟩) (Kd.N_far (p := ⟨g6, 9, none⟩) (Kd.N_far (p := ⟨g6, 8, none⟩) (Kd.N_far (p := ⟨g6, 7, none⟩) (Kd.N_far (p := ⟨g6, 6, none⟩) (Kd.N_far (p := ⟨g6, 5, none⟩) (Kd.N_far (p := ⟨g6, 4, none⟩) (Kd.N_far (p := ⟨g6, 3, none⟩) (Kd.N_far (p := ⟨g6, 2, none⟩) (Kd.N_far (p := ⟨g6, 1, none⟩) (Kd.N_far (p := ⟨g6, 0, none⟩) (Kd.N_mono HO104.out (fun k_ hk => (⟨hk, hk.2⟩ : _ ∧ k_ ≠ g6))) (fun _ hk => hk.2) (.int .i64 1)) (fun _ hk => hk.2) (.int .i64 0)) (fun _ hk => hk.2) (.int .i64 1)) (fun _ hk => hk.2) (.int .i64 10000)) (fun _ hk => hk.2) (.string (⟨#[]⟩ : ByteArray))) (fun _ hk => hk.2) (.int .i64 0)) (fun _ hk => hk.2) (.int .i64 0)) (fun _ hk => hk.2) (.bool false)) (fun _ hk => hk.2) (.bool false)) (fun _ hk => hk.2) (.int .i64 0)) (fun _ hk => hk.2) (.int .i64 0)) (fun _ hk => hk.2) (.bool false)) (fun _ hk => hk.2) (.bool false)) (fun _ hk => hk.2) (.slice none 0 0)) (fun _ hk => ⟨hk.1.1.1, ⟨hk.1.1.2, hk.1.2⟩⟩)))⟩; have n1_ : Aside0 (w31.heap[g1]? = some (.cells #[.int .i64 4, .int .i64 0, .int .i64 0, .int .i64 0, .string (⟨#[]⟩ : ByteArray), .int .i64 0, .int .i64 0, .bool false, .bool false, .int .i64 2, .int .i64 0, .bool false, .bool false, .slice none 0 0] 28 (0, 0))) := ⟨(by rw [hw]; exact (by (iterate 14 refine pf_ ?_ N16.out); exact pkx BK101))⟩; have n2_ : Aside0 (w31.heap[g5]? = some (.cells #[.int .i64 7, .int .i64 67, .int .i64 0, .int .i64 0, .string (⟨#[]⟩ : ByteArray), .int .i64 0, .int .i64 0, .bool false, .bool false, .int .i64 0, .int .i64 0, .bool false, .bool false, .slice Ao22 y102.length co22] 28 (0, 0))) := ⟨(by rw [hw]; exact (by (iterate 14 refine pf_ ?_ N56.out); exact pkx BK105))⟩; have n3_ : Aside0 (w31.heap[g6]? = some (.cells #[.int .i64 1, .int .i64 0, .int .i64 1, .int .i64 10000, .string (⟨#[]⟩ : ByteArray), .int .i64 0, .int .i64 0, .bool false, .bool false, .int .i64 0, .int .i64 0, .bool false, .bool false, .slice none 0 0] 28 (0, 0))) := ⟨(by rw [hw]; exact (by (iterate 14 apply pp_); exact pkx BK106; all_goals rfl))⟩; have n4_ : Aside0 (Below w.heap.size w w31) := ⟨(by rw [hw]; exact bl_)⟩; clear hw; clear HO104; clear BK101; clear BK105; clear BK106; clear HB; have HO104 := n0_; have BK101 := n1_; have BK105 := n2_; have BK106 := n3_; have HB := n4_; clear n0_ n1_ n2_ n3_ n4_; have hcz32_0 : w31.cell? ⟨g5, 0, none⟩ = some (.int .i64 7) := bc_ BK105 0 rfl; have hcz32_1 : w31.cell? ⟨g5, 1, none⟩ = some (.int .i64 67) := bc_ BK105 1 rfl; have hcz32_2 : w31.cell? ⟨g5, 2, none⟩ = some (.int .i64 0) := bc_ BK105 2 rfl; have hcz32_3 : w31.cell? ⟨g5, 3, none⟩ = some (.int .i64 0) := bc_ BK105 3 rfl; have hcz32_4 : w31.cell? ⟨g5, 4, none⟩ = some (.string (⟨#[]⟩ : ByteArray)) := bc_ BK105 4 rfl; have hcz32_5 : w31.cell? ⟨g5, 5, none⟩ = some (.int .i64 0) := bc_ BK105 5 rfl; have hcz32_6 : w31.cell? ⟨g5, 6, none⟩ = some (.int .i64 0) := bc_ BK105 6 rfl; have hcz32_7 : w31.cell? ⟨g5, 7, none⟩ = some (.bool false) := bc_ BK105 7 rfl; have hcz32_8 : w31.cell? ⟨g5, 8, none⟩ = some (.bool false) := bc_ BK105 8 rfl; have hcz32_9 : w31.cell? ⟨g5, 9, none⟩ = some (.int .i64 0) := bc_ BK105 9 rfl; have hcz32_10 : w31.cell? ⟨g5, 10, none⟩ = some (.int .i64 0) := bc_ BK105 10 rfl; have hcz32_11 : w31.cell? ⟨g5, 11, none⟩ = some (.bool false) := bc_ BK105 11 rfl; have hcz32_12 : w31.cell? ⟨g5, 12, none⟩ = some (.bool false) := bc_ BK105 12 rfl; have hcz32_13 : w31.cell? ⟨g5, 13, none⟩ = some (.slice Ao22 y102.length co22) := bc_ BK105 13 rfl; have hfz32_0 := blk_frozen BK105.out 0; have hfz32_1 := blk_frozen BK105.out 1; have hfz32_2 := blk_frozen BK105.out 2; have hfz32_3 := blk_frozen BK105.out 3; have hfz32_4 := blk_frozen BK105.out 4; have hfz32_5 := blk_frozen BK105.out 5; have hfz32_6 := blk_frozen BK105.out 6; have hfz32_7 := blk_frozen BK105.out 7; have hfz32_8 := blk_frozen BK105.out 8; have hfz32_9 := blk_frozen BK105.out 9; have hfz32_10 := blk_frozen BK105.out 10; have hfz32_11 := blk_frozen BK105.out 11; have hfz32_12 := blk_frozen BK105.out 12; have hfz32_13 := blk_frozen BK105.out 13; have hcz33_0 : w31.cell? ⟨g6, 0, none⟩ = some (.int .i64 1) := bc_ BK106 0 rfl; have hcz33_1 : w31.cell? ⟨g6, 1, none⟩ = some (.int .i64 0) := bc_ BK106 1 rfl; have hcz33_2 : w31.cell? ⟨g6, 2, none⟩ = some (.int .i64 1) := bc_ BK106 2 rfl; have hcz33_3 : w31.cell? ⟨g6, 3, none⟩ = some (.int .i64 10000) := bc_ BK106 3 rfl; have hcz33_4 : w31.cell? ⟨g6, 4, none⟩ = some (.string (⟨#[]⟩ : ByteArray)) := bc_ BK106 4 rfl; have hcz33_5 : w31.cell? ⟨g6, 5, none⟩ = some (.int .i64 0) := bc_ BK106 5 rfl; have hcz33_6 : w31.cell? ⟨g6, 6, none⟩ = some (.int .i64 0) := bc_ BK106 6 rfl; have hcz33_7 : w31.cell? ⟨g6, 7, none⟩ = some (.bool false) := bc_ BK106 7 rfl; have hcz33_8 : w31.cell? ⟨g6, 8, none⟩ = some (.bool false) := bc_ BK106 8 rfl; have hcz33_9 : w31.cell? ⟨g6, 9, none⟩ = some (.int .i64 0) := bc_ BK106 9 rfl; have hcz33_10 : w31.cell? ⟨g6, 10, none⟩ = some (.int .i64 0) := bc_ BK106 10 rfl; have hcz33_11 : w31.cell? ⟨g6, 11, none⟩ = some (.bool false) := bc_ BK106 11 rfl; have hcz33_12 : w31.cell? ⟨g6, 12, none⟩ = some (.bool false) := bc_ BK106 12 rfl; have hcz33_13 : w31.cell? ⟨g6, 13, none⟩ = some (.slice none 0 0) := bc_ BK106 13 rfl; have hfz33_0 := blk_frozen BK106.out 0; have hfz33_1 := blk_frozen BK106.out 1; have hfz33_2 := blk_frozen BK106.out 2; have hfz33_3 := blk_frozen BK106.out 3; have hfz33_4 := blk_frozen BK106.out 4; have hfz33_5 := blk_frozen BK106.out 5; have hfz33_6 := blk_frozen BK106.out 6; have hfz33_7 := blk_frozen BK106.out 7; have hfz33_8 := blk_frozen BK106.out 8; have hfz33_9 := blk_frozen BK106.out 9; have hfz33_10 := blk_frozen BK106.out 10; have hfz33_11 := blk_frozen BK106.out 11; have hfz33_12 := blk_frozen BK106.out 12; have hfz33_13 := blk_frozen BK106.out 13) | ((with_reducible refine gd_ 14 ?_); (try (refine gate_guard (by rfl) ?_; dsimp only)); refine Kd.N_lit k28 _ 28 ?hg (N':=14) ?hd (xs := ([(⟨7, 67, (⟨0, 0, (⟨#[]⟩ : ByteArray)⟩ : S23), (⟨0, 0, false, false⟩ : S25), (⟨0, 0, false, false⟩ : S25), y102⟩ : S28), (⟨1, 0, (⟨1, 10000, (⟨#[]⟩ : ByteArray)⟩ : S23), (⟨0, 0, false, false⟩ : S25), (⟨0, 0, false, false⟩ : S25), ([] : List (S28))⟩ : S28)] : List (S28))) (inner := [.int .i64 7, .int .i64 67, .int .i64 0, .int .i64 0, .string (⟨#[]⟩ : ByteArray), .int .i64 0, .int .i64 0, .bool false, .bool false, .int .i64 0, .int .i64 0, .bool false, .bool false, .slice Ao22 y102.length co22, .int .i64 1, .int .i64 0, .int .i64 1, .int .i64 10000, .string (⟨#[]⟩ : ByteArray), .int .i64 0, .int .i64 0, .bool false, .bool false, .int .i64 0, .int .i64 0, .bool false, .bool false, .slice none 0 0]) (ok := (fun k_ => k_ ≠ g1 ∧ k_ ≠ g5 ∧ k_ ≠ g6)) (okp := (fun k_ => k_ ≠ g1 ∧ k_ ≠ g5 ∧ k_ ≠ g6)) ?hr ?hp (fun _ hk => hk) ((show ∀ k_, w31.heap.size ≤ k_ → (fun k_ => k_ ≠ g1 ∧ k_ ≠ g5 ∧ k_ ≠ g6) k_ from fun k_ hk => ⟨Kd.freshB (pkx BK101) k_ hk, Kd.freshB (pkx BK105) k_ hk, Kd.freshB (pkx BK106) k_ hk⟩) _ (Nat.le_refl _)) (Below.refl _ _) (Nat.le_refl _) (by simp) ?_; (case hd => rfl); (case hg => rfl); (case hr => first | (go_simp; done) | (go_simp; rfl)); (case hp => exact (Reps.front (show Kd.FK k28 _ _ (⟨7, 67, (⟨0, 0, (⟨#[]⟩ : ByteArray)⟩ : S23), (⟨0, 0, false, false⟩ : S25), (⟨0, 0, false, false⟩ : S25), y102⟩ : S28) [.int .i64 7, .int .i64 67, .int .i64 0, .int .i64 0, .string (⟨#[]⟩ : ByteArray), .int .i64 0, .int .i64 0, .bool false, .bool false, .int .i64 0, .int .i64 0, .bool false, .bool false, .slice Ao22 y102.length co22] from (k28_mkF _ _ (⟨7, 67, (⟨0, 0, (⟨#[]⟩ : ByteArray)⟩ : S23), (⟨0, 0, false, false⟩ : S25), (⟨0, 0, false, false⟩ : S25), y102⟩ : S28) (Kd.N_reads' (Kd.N_mono (ok' := (fun k_ => k_ ≠ g1 ∧ k_ ≠ g5 ∧ k_ ≠ g6)) (HO104.out) (fun k_ hk => ⟨hk.1, ⟨hk.2.1, hk.2.2⟩⟩))).2.1 (Kd.N_F (Kd.N_mono (ok' := (fun k_ => k_ ≠ g1 ∧ k_ ≠ g5 ∧ k_ ≠ g6)) (HO104.out) (fun k_ hk => ⟨hk.1, ⟨hk.2.1, hk.2.2⟩⟩))))) rfl (Reps.front (show Kd.FK k28 _ _ (⟨1, 0, (⟨1, 10000, (⟨#[]⟩ : ByteArray)⟩ : S23), (⟨0, 0, false, false⟩ : S25), (⟨0, 0, false, false⟩ : S25), ([] : List (S28))⟩ : S28) [.int .i64 1, .int .i64 0, .int .i64 1, .int .i64 10000, .string (⟨#[]⟩ : ByteArray), .int .i64 0, .int .i64 0, .bool false, .bool false, .int .i64 0, .int .i64 0, .bool false, .bool false, .slice none 0 0] from (k28_mkF _ _ (⟨1, 0, (⟨1, 10000, (⟨#[]⟩ : ByteArray)⟩ : S23), (⟨0, 0, false, false⟩ : S25), (⟨0, 0, false, false⟩ : S25), ([] : List (S28))⟩ : S28) (Nat.le_refl _) (Kd.F_nil _ _ _))) rfl (Reps.none _ _) rfl) rfl)); intro v108 w34 ho35 hb hg_ hnew_; clear hg_ hnew_; (first | rw [← Ny107.out] at ho35 | (simp only [Int.reduceToNat] at ho35; rw [← Ny107.out] at ho35)); have HO109 := A_ (Kd.N_lower ho35 (below_size (pbx HB))); replace BK101 := bb_ BK101 hb; replace BK105 := bb_ BK105 hb; replace BK106 := bb_ BK106 hb; replace HB := bs_ HB hb; clear HO104; clear hb ho35; obtain ⟨Ao36, co36, eo36⟩ := Kd.N_slice HO109.out; subst eo36) | ((with_reducible refine gd_ 4 ?_); (try (refine gate_guard (by rfl) ?_; dsimp only)); refine be_ (N:=4) (cs := #[.int .i64 0, .int .i64 0, .int .i64 0, .int .i64 0, .string (⟨#[]⟩ : ByteArray), .int .i64 0, .int .i64 0, .bool false, .bool false, .int .i64 0, .int .i64 0, .bool false, .bool false, .slice none 0 0]) (t:=28) ?_; intro gb110 hg w37 hbox hb; have BK110 := A_ (hbox); have GW110 := hs_ HB hg; have GE110 := hs_ HB hg; have NB101_110 := hl_ BK101 hg; have NB110_101 := hr_ BK101 hg; have NB105_110 := hl_ BK105 hg; have NB110_105 := hr_ BK105 hg; have NB106_110 := hl_ BK106 hg; have NB110_106 := hr_ BK106 hg; replace HO109 := A_ (Kd.N_below (Kd.N_elderB (by (with_reducible repeat (first | apply Kd.N_alloc | apply Kd.N_drewN | apply Kd.N_drew)); exact HO109.out) gb110 (Nat.le_of_eq hg.symm)) hb); replace BK101 := bb_ BK101 hb; replace BK105 := bb_ BK105 hb; replace BK106 := bb_ BK106 hb; replace HB := bs_ HB hb; clear hb hbox hg; have hnb38 := NB110_101.out; have hnc38 := NB101_110.out; have hnb39 := NB110_105.out; have hnc39 := NB105_110.out; have hnb40 := NB110_106.out; have hnc40 := NB106_110.out; have hcz41_0 : w37.cell? ⟨gb110, 0, none⟩ = some (.int .i64 0) := bc_ BK110 0 rfl; have hcz41_1 : w37.cell? ⟨gb110, 1, none⟩ = some (.int .i64 0) := bc_ BK110 1 rfl; have hcz41_2 : w37.cell? ⟨gb110, 2, none⟩ = some (.int .i64 0) := bc_ BK110 2 rfl; have hcz41_3 : w37.cell? ⟨gb110, 3, none⟩ = some (.int .i64 0) := bc_ BK110 3 rfl; have hcz41_4 : w37.cell? ⟨gb110, 4, none⟩ = some (.string (⟨#[]⟩ : ByteArray)) := bc_ BK110 4 rfl; have hcz41_5 : w37.cell? ⟨gb110, 5, none⟩ = some (.int .i64 0) := bc_ BK110 5 rfl; have hcz41_6 : w37.cell? ⟨gb110, 6, none⟩ = some (.int .i64 0) := bc_ BK110 6 rfl; have hcz41_7 : w37.cell? ⟨gb110, 7, none⟩ = some (.bool false) := bc_ BK110 7 rfl; have hcz41_8 : w37.cell? ⟨gb110, 8, none⟩ = some (.bool false) := bc_ BK110 8 rfl; have hcz41_9 : w37.cell? ⟨gb110, 9, none⟩ = some (.int .i64 0) := bc_ BK110 9 rfl; have hcz41_10 : w37.cell? ⟨gb110, 10, none⟩ = some (.int .i64 0) := bc_ BK110 10 rfl; have hcz41_11 : w37.cell? ⟨gb110, 11, none⟩ = some (.bool false) := bc_ BK110 11 rfl; have hcz41_12 : w37.cell? ⟨gb110, 12, none⟩ = some (.bool false) := bc_ BK110 12 rfl; have hcz41_13 : w37.cell? ⟨gb110, 13, none⟩ = some (.slice none 0 0) := bc_ BK110 13 rfl; have hfz41_0 := blk_frozen BK110.out 0; have hfz41_1 := blk_frozen BK110.out 1; have hfz41_2 := blk_frozen BK110.out 2; have hfz41_3 := blk_frozen BK110.out 3; have hfz41_4 := blk_frozen BK110.out 4; have hfz41_5 := blk_frozen BK110.out 5; have hfz41_6 := blk_frozen BK110.out 6; have hfz41_7 := blk_frozen BK110.out 7; have hfz41_8 := blk_frozen BK110.out 8; have hfz41_9 := blk_frozen BK110.out 9; have hfz41_10 := blk_frozen BK110.out 10; have hfz41_11 := blk_frozen BK110.out 11; have hfz41_12 := blk_frozen BK110.out 12; have hfz41_13 := blk_frozen BK110.out 13))
        have n0_ : Aside0 (Kd.N k28 28 ((((((((((((((w37.setCell ⟨gb110, 0, none⟩ (.int .i64 6)).setCell ⟨gb110, 1, none⟩ (.int .i64 2)).setCell ⟨gb110, 2, none⟩ (.int .i64 0)).setCell ⟨gb110, 3, none⟩ (.int .i64 0)).setCell ⟨gb110, 4, none⟩ (.string (⟨#[]⟩ : ByteArray))).setCell ⟨gb110, 5, none⟩ (.int .i64 0)).setCell ⟨gb110, 6, none⟩ (.int .i64 0)).setCell ⟨gb110, 7, none⟩ (.bool false)).setCell ⟨gb110, 8, none⟩ (.bool false)).setCell ⟨gb110, 9, none⟩ (.int .i64 0)).setCell ⟨gb110, 10, none⟩ (.int .i64 0)).setCell ⟨gb110, 11, none⟩ (.bool false)).setCell ⟨gb110, 12, none⟩ (.bool false)).setCell ⟨gb110, 13, none⟩ (.slice Ao36 y107.length co36)) w.heap.size (fun k_ => k_ ≠ g1 ∧ k_ ≠ g5 ∧ k_ ≠ g6 ∧ k_ ≠ gb110) (.slice Ao36 y107.length co36) y107) := ⟨by (with_reducible repeat (first | apply Kd.N_alloc | apply Kd.N_drewN | apply Kd.N_drew)); exact Kd.N_mono (Kd.N_far (p := ⟨gb110, 13, none⟩) (Kd.N_far (p := ⟨gb110, 12, none⟩) (Kd.N_far (p := ⟨gb110, 11, none⟩) (Kd.N_far (p := ⟨gb110, 10, none⟩) (Kd.N_far (p := ⟨gb110, 9, none⟩) (Kd.N_far (p := ⟨gb110, 8, none⟩) (Kd.N_far (p := ⟨gb110, 7, none⟩) (Kd.N_far (p := ⟨gb110, 6, none⟩) (Kd.N_far (p := ⟨gb110, 5, none⟩) (Kd.N_far (p := ⟨gb110, 4, none⟩) (Kd.N_far (p := ⟨gb110, 3, none⟩) (Kd.N_far (p := ⟨gb110, 2, none⟩) (Kd.N_far (p := ⟨gb110, 1, none⟩) (Kd.N_far (p := ⟨gb110, 0, none⟩) (Kd.N_mono HO109.out (fun k_ hk => (⟨hk, hk.2⟩ : _ ∧ k_ ≠ gb110))) (fun _ hk => hk.2) (.int .i64 6)) (fun _ hk => hk.2) (.int .i64 2)) (fun _ hk => hk.2) (.int .i64 0)) (fun _ hk => hk.2) (.int .i64 0)) (fun _ hk => hk.2) (.string (⟨#[]⟩ : ByteArray))) (fun _ hk => hk.2) (.int .i64 0)) (fun _ hk => hk.2) (.int .i64 0)) (fun _ hk => hk.2) (.bool false)) (fun _ hk => hk.2) (.bool false)) (fun _ hk => hk.2) (.int .i64 0)) (fun _ hk => hk.2) (.int .i64 0)) (fun _ hk => hk.2) (.bool false)) (fun _ hk => hk.2) (.bool false)) (fun _ hk => hk.2) (.slice Ao36 y107.length co36)) (fun _ hk => ⟨hk.1.1.1, ⟨hk.1.1.2.1, ⟨hk.1.1.2.2, hk.1.2⟩⟩⟩)⟩
        have n1_ : Aside0 (((((((((((((((w37.setCell ⟨gb110, 0, none⟩ (.int .i64 6)).setCell ⟨gb110, 1, none⟩ (.int .i64 2)).setCell ⟨gb110, 2, none⟩ (.int .i64 0)).setCell ⟨gb110, 3, none⟩ (.int .i64 0)).setCell ⟨gb110, 4, none⟩ (.string (⟨#[]⟩ : ByteArray))).setCell ⟨gb110, 5, none⟩ (.int .i64 0)).setCell ⟨gb110, 6, none⟩ (.int .i64 0)).setCell ⟨gb110, 7, none⟩ (.bool false)).setCell ⟨gb110, 8, none⟩ (.bool false)).setCell ⟨gb110, 9, none⟩ (.int .i64 0)).setCell ⟨gb110, 10, none⟩ (.int .i64 0)).setCell ⟨gb110, 11, none⟩ (.bool false)).setCell ⟨gb110, 12, none⟩ (.bool false)).setCell ⟨gb110, 13, none⟩ (.slice Ao36 y107.length co36)).heap[g1]? = some (.cells #[.int .i64 4, .int .i64 0, .int .i64 0, .int .i64 0, .string (⟨#[]⟩ : ByteArray), .int .i64 0, .int .i64 0, .bool false, .bool false, .int .i64 2, .int .i64 0, .bool false, .bool false, .slice none 0 0] 28 (0, 0))) := ⟨by (iterate 14 refine pf_ ?_ NB101_110.out); exact pkx BK101⟩
        have n2_ : Aside0 (((((((((((((((w37.setCell ⟨gb110, 0, none⟩ (.int .i64 6)).setCell ⟨gb110, 1, none⟩ (.int .i64 2)).setCell ⟨gb110, 2, none⟩ (.int .i64 0)).setCell ⟨gb110, 3, none⟩ (.int .i64 0)).setCell ⟨gb110, 4, none⟩ (.string (⟨#[]⟩ : ByteArray))).setCell ⟨gb110, 5, none⟩ (.int .i64 0)).setCell ⟨gb110, 6, none⟩ (.int .i64 0)).setCell ⟨gb110, 7, none⟩ (.bool false)).setCell ⟨gb110, 8, none⟩ (.bool false)).setCell ⟨gb110, 9, none⟩ (.int .i64 0)).setCell ⟨gb110, 10, none⟩ (.int .i64 0)).setCell ⟨gb110, 11, none⟩ (.bool false)).setCell ⟨gb110, 12, none⟩ (.bool false)).setCell ⟨gb110, 13, none⟩ (.slice Ao36 y107.length co36)).heap[g5]? = some (.cells #[.int .i64 7, .int .i64 67, .int .i64 0, .int .i64 0, .string (⟨#[]⟩ : ByteArray), .int .i64 0, .int .i64 0, .bool false, .bool false, .int .i64 0, .int .i64 0, .bool false, .bool false, .slice Ao22 y102.length co22] 28 (0, 0))) := ⟨by (iterate 14 refine pf_ ?_ NB105_110.out); exact pkx BK105⟩
        have n3_ : Aside0 (((((((((((((((w37.setCell ⟨gb110, 0, none⟩ (.int .i64 6)).setCell ⟨gb110, 1, none⟩ (.int .i64 2)).setCell ⟨gb110, 2, none⟩ (.int .i64 0)).setCell ⟨gb110, 3, none⟩ (.int .i64 0)).setCell ⟨gb110, 4, none⟩ (.string (⟨#[]⟩ : ByteArray))).setCell ⟨gb110, 5, none⟩ (.int .i64 0)).setCell ⟨gb110, 6, none⟩ (.int .i64 0)).setCell ⟨gb110, 7, none⟩ (.bool false)).setCell ⟨gb110, 8, none⟩ (.bool false)).setCell ⟨gb110, 9, none⟩ (.int .i64 0)).setCell ⟨gb110, 10, none⟩ (.int .i64 0)).setCell ⟨gb110, 11, none⟩ (.bool false)).setCell ⟨gb110, 12, none⟩ (.bool false)).setCell ⟨gb110, 13, none⟩ (.slice Ao36 y107.length co36)).heap[g6]? = some (.cells #[.int .i64 1, .int .i64 0, .int .i64 1, .int .i64 10000, .string (⟨#[]⟩ : ByteArray), .int .i64 0, .int .i64 0, .bool false, .bool false, .int .i64 0, .int .i64 0, .bool false, .bool false, .slice none 0 0] 28 (0, 0))) := ⟨by (iterate 14 refine pf_ ?_ NB106_110.out); exact pkx BK106⟩
        have n4_ : Aside0 (((((((((((((((w37.setCell ⟨gb110, 0, none⟩ (.int .i64 6)).setCell ⟨gb110, 1, none⟩ (.int .i64 2)).setCell ⟨gb110, 2, none⟩ (.int .i64 0)).setCell ⟨gb110, 3, none⟩ (.int .i64 0)).setCell ⟨gb110, 4, none⟩ (.string (⟨#[]⟩ : ByteArray))).setCell ⟨gb110, 5, none⟩ (.int .i64 0)).setCell ⟨gb110, 6, none⟩ (.int .i64 0)).setCell ⟨gb110, 7, none⟩ (.bool false)).setCell ⟨gb110, 8, none⟩ (.bool false)).setCell ⟨gb110, 9, none⟩ (.int .i64 0)).setCell ⟨gb110, 10, none⟩ (.int .i64 0)).setCell ⟨gb110, 11, none⟩ (.bool false)).setCell ⟨gb110, 12, none⟩ (.bool false)).setCell ⟨gb110, 13, none⟩ (.slice Ao36 y107.length co36)).heap[gb110]? = some (.cells #[.int .i64 6, .int .i64 2, .int .i64 0, .int .i64 0, .string (⟨#[]⟩ : ByteArray), .int .i64 0, .int .i64 0, .bool false, .bool false, .int .i64 0, .int .i64 0, .bool false, .bool false, .slice Ao36 y107.length co36] 28 (0, 0))) := ⟨by (iterate 14 apply pp_); exact pkx BK110; all_goals rfl⟩
        have n5_ : Aside0 (Below w.heap.size w ((((((((((((((w37.setCell ⟨gb110, 0, none⟩ (.int .i64 6)).setCell ⟨gb110, 1, none⟩ (.int .i64 2)).setCell ⟨gb110, 2, none⟩ (.int .i64 0)).setCell ⟨gb110, 3, none⟩ (.int .i64 0)).setCell ⟨gb110, 4, none⟩ (.string (⟨#[]⟩ : ByteArray))).setCell ⟨gb110, 5, none⟩ (.int .i64 0)).setCell ⟨gb110, 6, none⟩ (.int .i64 0)).setCell ⟨gb110, 7, none⟩ (.bool false)).setCell ⟨gb110, 8, none⟩ (.bool false)).setCell ⟨gb110, 9, none⟩ (.int .i64 0)).setCell ⟨gb110, 10, none⟩ (.int .i64 0)).setCell ⟨gb110, 11, none⟩ (.bool false)).setCell ⟨gb110, 12, none⟩ (.bool false)).setCell ⟨gb110, 13, none⟩ (.slice Ao36 y107.length co36))) := ⟨bl_⟩; (try clear HO109); (try clear BK101); (try clear BK105); (try clear BK106); (try clear BK110); (try clear HB)
        generalize ((((((((((((((w37.setCell ⟨gb110, 0, none⟩ (.int .i64 6)).setCell ⟨gb110, 1, none⟩ (.int .i64 2)).setCell ⟨gb110, 2, none⟩ (.int .i64 0)).setCell ⟨gb110, 3, none⟩ (.int .i64 0)).setCell ⟨gb110, 4, none⟩ (.string (⟨#[]⟩ : ByteArray))).setCell ⟨gb110, 5, none⟩ (.int .i64 0)).setCell ⟨gb110, 6, none⟩ (.int .i64 0)).setCell ⟨gb110, 7, none⟩ (.bool false)).setCell ⟨gb110, 8, none⟩ (.bool false)).setCell ⟨gb110, 9, none⟩ (.int .i64 0)).setCell ⟨gb110, 10, none⟩ (.int .i64 0)).setCell ⟨gb110, 11, none⟩ (.bool false)).setCell ⟨gb110, 12, none⟩ (.bool false)).setCell ⟨gb110, 13, none⟩ (.slice Ao36 y107.length co36)) = w42 at n0_ n1_ n2_ n3_ n4_ n5_ ⊢; have HO109 := n0_; have BK101 := n1_; have BK105 := n2_; have BK106 := n3_; have BK110 := n4_; have HB := n5_; clear n0_ n1_ n2_ n3_ n4_ n5_; (try (rw [drewN_self w42]; generalize hq_ : World.drewN w42 _ = w42; have n0_ : Aside0 (Kd.N k28 28 w42 w.heap.size (fun k_ => k_ ≠ g1 ∧ k_ ≠ g5 ∧ k_ ≠ g6 ∧ k_ ≠ gb110) (.slice Ao36 y107.length co36) y107) := ⟨by rw [← hq_]; exact (by (with_reducible repeat (first | apply Kd.N_alloc | apply Kd.N_drewN | apply Kd.N_drew)); exact HO109.out)⟩; have n1_ : Aside0 (w42.heap[g1]? = some (.cells #[.int .i64 4, .int .i64 0, .int .i64 0, .int .i64 0, .string (⟨#[]⟩ : ByteArray), .int .i64 0, .int .i64 0, .bool false, .bool false, .int .i64 2, .int .i64 0, .bool false, .bool false, .slice none 0 0] 28 (0, 0))) := ⟨by rw [← hq_]; exact (pkx BK101)⟩; have n2_ : Aside0 (w42.heap[g5]? = some (.cells #[.int .i64 7, .int .i64 67, .int .i64 0, .int .i64 0, .string (⟨#[]⟩ : ByteArray), .int .i64 0, .int .i64 0, .bool false, .bool false, .int .i64 0, .int .i64 0, .bool false, .bool false, .slice Ao22 y102.length co22] 28 (0, 0))) := ⟨by rw [← hq_]; exact (pkx BK105)⟩; have n3_ : Aside0 (w42.heap[g6]? = some (.cells #[.int .i64 1, .int .i64 0, .int .i64 1, .int .i64 10000, .string (⟨#[]⟩ : ByteArray), .int .i64 0, .int .i64 0, .bool false, .bool false, .int .i64 0, .int .i64 0, .bool false, .bool false, .slice none 0 0] 28 (0, 0))) := ⟨by rw [← hq_]; exact (pkx BK106)⟩; have n4_ : Aside0 (w42.heap[gb110]? = some (.cells #[.int .i64 6, .int .i64 2, .int .i64 0, .int .i64 0, .string (⟨#[]⟩ : ByteArray), .int .i64 0, .int .i64 0, .bool false, .bool false, .int .i64 0, .int .i64 0, .bool false, .bool false, .slice Ao36 y107.length co36] 28 (0, 0))) := ⟨by rw [← hq_]; exact (pkx BK110)⟩; have n5_ : Aside0 (Below w.heap.size w w42) := ⟨by rw [← hq_]; exact (pbx HB)⟩; clear HO109 BK101 BK105 BK106 BK110 HB hq_; have HO109 := n0_; have BK101 := n1_; have BK105 := n2_; have BK106 := n3_; have BK110 := n4_; have HB := n5_; clear n0_ n1_ n2_ n3_ n4_ n5_))
        replace HO109 := A_ (Kd.N_drew HO109.out); replace BK101 := A_ (blk_drew BK101.out); replace BK105 := A_ (blk_drew BK105.out); replace BK106 := A_ (blk_drew BK106.out); replace BK110 := A_ (blk_drew BK110.out); replace HB := A_ (below_drew1 HB.out)
        refine start_ (n:=37) (S := fun w' => w'.cell? ⟨gb110, 0, none⟩ = some (.int .i64 6) ∧ w'.cell? ⟨gb110, 1, none⟩ = some (.int .i64 2) ∧ w'.cell? ⟨gb110, 2, none⟩ = some (.int .i64 0) ∧ w'.cell? ⟨gb110, 3, none⟩ = some (.int .i64 0) ∧ w'.cell? ⟨gb110, 4, none⟩ = some (.string (⟨#[]⟩ : ByteArray)) ∧ w'.cell? ⟨gb110, 5, none⟩ = some (.int .i64 0) ∧ w'.cell? ⟨gb110, 6, none⟩ = some (.int .i64 0) ∧ w'.cell? ⟨gb110, 7, none⟩ = some (.bool false) ∧ w'.cell? ⟨gb110, 8, none⟩ = some (.bool false) ∧ w'.cell? ⟨gb110, 9, none⟩ = some (.int .i64 0) ∧ w'.cell? ⟨gb110, 10, none⟩ = some (.int .i64 0) ∧ w'.cell? ⟨gb110, 11, none⟩ = some (.bool false) ∧ w'.cell? ⟨gb110, 12, none⟩ = some (.bool false) ∧ w'.cell? ⟨gb110, 13, none⟩ = some (.slice Ao36 y107.length co36) ∧ w'.cell? ⟨g1, 0, none⟩ = some (.int .i64 4) ∧ w'.cell? ⟨g1, 1, none⟩ = some (.int .i64 0) ∧ w'.cell? ⟨g1, 2, none⟩ = some (.int .i64 0) ∧ w'.cell? ⟨g1, 3, none⟩ = some (.int .i64 0) ∧ w'.cell? ⟨g1, 4, none⟩ = some (.string (⟨#[]⟩ : ByteArray)) ∧ w'.cell? ⟨g1, 5, none⟩ = some (.int .i64 0) ∧ w'.cell? ⟨g1, 6, none⟩ = some (.int .i64 0) ∧ w'.cell? ⟨g1, 7, none⟩ = some (.bool false) ∧ w'.cell? ⟨g1, 8, none⟩ = some (.bool false) ∧ w'.cell? ⟨g1, 9, none⟩ = some (.int .i64 2) ∧ w'.cell? ⟨g1, 10, none⟩ = some (.int .i64 0) ∧ w'.cell? ⟨g1, 11, none⟩ = some (.bool false) ∧ w'.cell? ⟨g1, 12, none⟩ = some (.bool false) ∧ w'.cell? ⟨g1, 13, none⟩ = some (.slice none 0 0) ∧ w'.cell? ⟨g6, 0, none⟩ = some (.int .i64 1) ∧ w'.cell? ⟨g6, 1, none⟩ = some (.int .i64 0) ∧ w'.cell? ⟨g6, 2, none⟩ = some (.int .i64 1) ∧ w'.cell? ⟨g6, 3, none⟩ = some (.int .i64 10000) ∧ w'.cell? ⟨g6, 4, none⟩ = some (.string (⟨#[]⟩ : ByteArray)) ∧ w'.cell? ⟨g6, 5, none⟩ = some (.int .i64 0) ∧ w'.cell? ⟨g6, 6, none⟩ = some (.int .i64 0) ∧ w'.cell? ⟨g6, 7, none⟩ = some (.bool false) ∧ w'.cell? ⟨g6, 8, none⟩ = some (.bool false) ∧ w'.cell? ⟨g6, 9, none⟩ = some (.int .i64 0) ∧ w'.cell? ⟨g6, 10, none⟩ = some (.int .i64 0) ∧ w'.cell? ⟨g6, 11, none⟩ = some (.bool false) ∧ w'.cell? ⟨g6, 12, none⟩ = some (.bool false) ∧ w'.cell? ⟨g6, 13, none⟩ = some (.slice none 0 0)) (ds := []) #[F,F,F,F,F,F,F,F,F,F,F,F,F,F,F,F,F,F,F,F,F,F,F,F,F,F,F,F,F,F,F,F,F,F,F,F,F] (by kernel_rfl) rfl rfl ⟨bc_ BK110 0 rfl, bc_ BK110 1 rfl, bc_ BK110 2 rfl, bc_ BK110 3 rfl, bc_ BK110 4 rfl, bc_ BK110 5 rfl, bc_ BK110 6 rfl, bc_ BK110 7 rfl, bc_ BK110 8 rfl, bc_ BK110 9 rfl, bc_ BK110 10 rfl, bc_ BK110 11 rfl, bc_ BK110 12 rfl, bc_ BK110 13 rfl, bc_ BK101 0 rfl, bc_ BK101 1 rfl, bc_ BK101 2 rfl, bc_ BK101 3 rfl, bc_ BK101 4 rfl, bc_ BK101 5 rfl, bc_ BK101 6 rfl, bc_ BK101 7 rfl, bc_ BK101 8 rfl, bc_ BK101 9 rfl, bc_ BK101 10 rfl, bc_ BK101 11 rfl, bc_ BK101 12 rfl, bc_ BK101 13 rfl, bc_ BK106 0 rfl, bc_ BK106 1 rfl, bc_ BK106 2 rfl, bc_ BK106 3 rfl, bc_ BK106 4 rfl, bc_ BK106 5 rfl, bc_ BK106 6 rfl, bc_ BK106 7 rfl, bc_ BK106 8 rfl, bc_ BK106 9 rfl, bc_ BK106 10 rfl, bc_ BK106 11 rfl, bc_ BK106 12 rfl, bc_ BK106 13 rfl⟩ (fun hHeld => ?_); refine with_tabW oculuslaw22_alive.tab5 oculuslaw22_alive.bits5 (fun HT_ HW_ => ?_)
        generalize w42.drew = w43 at HO109 BK101 BK105 BK106 BK110 HB hHeld ⊢; refine take_ (i:=0) (N:=some 16) (v:=?_) (a':=?_) ⟨m_ 37 1⟩ rfl rfl (tw_ HT_ HW_) (fun _ _ _ h=>h) (Or.inl ⟨rfl, ?_⟩) hHeld ?_ ?_; rotate_left
        ·rintro w' ⟨s0, s1, s2, s3, s4, s5, s6, s7, s8, s9, s10, s11, s12, s13, s14, s15, s16, s17, s18, s19, s20, s21, s22, s23, s24, s25, s26, s27, s28, s29, s30, s31, s32, s33, s34, s35, s36, s37, s38, s39, s40, s41⟩; go_simp; with_reducible rfl
        rotate_left
        ·simp only [q_, i64_w, i32_w]; rfl
        refine one_ (i:=1) (N:=some 17) ⟨m_ 37 3⟩ rfl rfl (oo_ HT_) (by decide) (fun K hK => ?_); refine goes_ Tryd.func15 (by kernel_rfl) rfl #[.agg #[.int .i64 6, .int .i64 2, .int .i64 0, .int .i64 0, .string (⟨#[]⟩ : ByteArray), .int .i64 0, .int .i64 0, .bool false, .bool false, .int .i64 0, .int .i64 0, .bool false, .bool false, .slice Ao36 y107.length co36]] (by rfl) rfl rfl ha_ ?_; with_reducible refine (node_Formula.calls k 6 2 0 0 (⟨#[]⟩ : ByteArray) 0 0 false false 0 0 false false _ _ y107 true _ (by refine tb_ ?_ hT; repeat' (first | exact pbx HB | exact Below.refl _ _ | assumption | refine below_set ?_ (Aside0.out ?_))) ?side1 ?side2 A1.out).mono ?_; (case side1 => exact ca_ (Kd.N_reads' HO109.out).2.2); (case side2 => exact (Kd.N_reads' HO109.out).2.1); rintro e w44 ⟨rfl, hb⟩; refine ⟨_, rfl, ?_⟩
        replace HO109 := A_ (Kd.N_below (by (with_reducible repeat (first | apply Kd.N_alloc | apply Kd.N_drewN | apply Kd.N_drew)); exact HO109.out) hb); replace BK101 := bb_ BK101 hb; replace BK105 := bb_ BK105 hb; replace BK106 := bb_ BK106 hb; replace BK110 := bb_ BK110 hb; replace HB := bs_ HB hb
        (try clear hb); (try clear hk); refine hK.out _ _ ⟨bc_ BK110 0 rfl, bc_ BK110 1 rfl, bc_ BK110 2 rfl, bc_ BK110 3 rfl, bc_ BK110 4 rfl, bc_ BK110 5 rfl, bc_ BK110 6 rfl, bc_ BK110 7 rfl, bc_ BK110 8 rfl, bc_ BK110 9 rfl, bc_ BK110 10 rfl, bc_ BK110 11 rfl, bc_ BK110 12 rfl, bc_ BK110 13 rfl, bc_ BK101 0 rfl, bc_ BK101 1 rfl, bc_ BK101 2 rfl, bc_ BK101 3 rfl, bc_ BK101 4 rfl, bc_ BK101 5 rfl, bc_ BK101 6 rfl, bc_ BK101 7 rfl, bc_ BK101 8 rfl, bc_ BK101 9 rfl, bc_ BK101 10 rfl, bc_ BK101 11 rfl, bc_ BK101 12 rfl, bc_ BK101 13 rfl, bc_ BK106 0 rfl, bc_ BK106 1 rfl, bc_ BK106 2 rfl, bc_ BK106 3 rfl, bc_ BK106 4 rfl, bc_ BK106 5 rfl, bc_ BK106 6 rfl, bc_ BK106 7 rfl, bc_ BK106 8 rfl, bc_ BK106 9 rfl, bc_ BK106 10 rfl, bc_ BK106 11 rfl, bc_ BK106 12 rfl, bc_ BK106 13 rfl⟩ (fun hHeld => ?_); clear hK K; refine norm_ (a':=?_) ?_ ?_; rotate_left
        ·show Act.put _ (some 17) _ = _; simp only [q_, i64_w, i32_w]; rfl
        refine pure_ (i:=2) (N:=some 18) (v:=?_) (a':=?_) ⟨m_ 37 7⟩ rfl rfl (ao_ HT_) (fun _ _ _ h=>h) (Or.inl ⟨rfl, ?_⟩) ?_ ?_; rotate_left
        ·intro w'; go_simp; with_reducible rfl
        rotate_left
        ·simp only [q_, i64_w, i32_w]; rfl
        refine take_ (i:=3) (N:=some 19) (v:=?_) (a':=?_) ⟨m_ 37 15⟩ rfl rfl (tw_ HT_ HW_) (fun _ _ _ h=>h) (Or.inl ⟨rfl, ?_⟩) hHeld ?_ ?_; rotate_left
        ·rintro w' ⟨s0, s1, s2, s3, s4, s5, s6, s7, s8, s9, s10, s11, s12, s13, s14, s15, s16, s17, s18, s19, s20, s21, s22, s23, s24, s25, s26, s27, s28, s29, s30, s31, s32, s33, s34, s35, s36, s37, s38, s39, s40, s41⟩; go_simp; with_reducible rfl
        rotate_left
        ·simp only [q_, i64_w, i32_w]; rfl
        refine one_ (i:=4) (N:=some 20) ⟨m_ 37 31⟩ rfl rfl (oo_ HT_) (by decide) (fun K hK => ?_); refine goes_ Tryd.func13 (by kernel_rfl) rfl #[.agg #[.int .i64 4, .int .i64 0, .int .i64 0, .int .i64 0, .string (⟨#[]⟩ : ByteArray), .int .i64 0, .int .i64 0, .bool false, .bool false, .int .i64 2, .int .i64 0, .bool false, .bool false, .slice none 0 0]] (by rfl) rfl rfl ha_ ?_
        refine (node_Right.calls k 4 0 0 0 (⟨#[]⟩ : ByteArray) 0 0 false false 2 0 false false _ _ ([] : List (S28)) true _ (by refine tb_ ?_ hT; repeat' (first | exact pbx HB | exact Below.refl _ _ | assumption | refine below_set ?_ (Aside0.out ?_))) ?side1 ?side2 A3.out).mono ?_
        (case side1 => exact Kd.C_nil _ _); (case side2 => exact Nat.le_refl _); rintro e w45 ⟨rfl, hb⟩; refine ⟨_, rfl, ?_⟩
        replace HO109 := A_ (Kd.N_below (by (with_reducible repeat (first | apply Kd.N_alloc | apply Kd.N_drewN | apply Kd.N_drew)); exact HO109.out) hb); replace BK101 := bb_ BK101 hb; replace BK105 := bb_ BK105 hb; replace BK106 := bb_ BK106 hb; replace BK110 := bb_ BK110 hb; replace HB := bs_ HB hb
        (try clear hb); (try clear hk); refine hK.out _ _ ⟨bc_ BK110 0 rfl, bc_ BK110 1 rfl, bc_ BK110 2 rfl, bc_ BK110 3 rfl, bc_ BK110 4 rfl, bc_ BK110 5 rfl, bc_ BK110 6 rfl, bc_ BK110 7 rfl, bc_ BK110 8 rfl, bc_ BK110 9 rfl, bc_ BK110 10 rfl, bc_ BK110 11 rfl, bc_ BK110 12 rfl, bc_ BK110 13 rfl, bc_ BK101 0 rfl, bc_ BK101 1 rfl, bc_ BK101 2 rfl, bc_ BK101 3 rfl, bc_ BK101 4 rfl, bc_ BK101 5 rfl, bc_ BK101 6 rfl, bc_ BK101 7 rfl, bc_ BK101 8 rfl, bc_ BK101 9 rfl, bc_ BK101 10 rfl, bc_ BK101 11 rfl, bc_ BK101 12 rfl, bc_ BK101 13 rfl, bc_ BK106 0 rfl, bc_ BK106 1 rfl, bc_ BK106 2 rfl, bc_ BK106 3 rfl, bc_ BK106 4 rfl, bc_ BK106 5 rfl, bc_ BK106 6 rfl, bc_ BK106 7 rfl, bc_ BK106 8 rfl, bc_ BK106 9 rfl, bc_ BK106 10 rfl, bc_ BK106 11 rfl, bc_ BK106 12 rfl, bc_ BK106 13 rfl⟩ (fun hHeld => ?_); clear hK K; refine norm_ (a':=?_) ?_ ?_; rotate_left
        ·show Act.put _ (some 20) _ = _; simp only [q_, i64_w, i32_w]; rfl
        refine pure_ (i:=5) (N:=some 21) (v:=?_) (a':=?_) ⟨m_ 37 63⟩ rfl rfl (ao_ HT_) (fun _ _ _ h=>h) (Or.inl ⟨rfl, ?_⟩) ?_ ?_; rotate_left
        ·intro w'; go_simp; with_reducible rfl
        rotate_left
        ·simp only [q_, i64_w, i32_w]; rfl
        refine pure_ (i:=6) (N:=some 22) (v:=?_) (a':=?_) ⟨m_ 37 127⟩ rfl rfl (ao_ HT_) (fun _ _ _ h=>h) (Or.inl ⟨rfl, ?_⟩) ?_ ?_; rotate_left
        ·intro w'; go_simp; with_reducible rfl
        rotate_left
        ·simp only [q_, i64_w, i32_w]; rfl
        refine take_ (i:=7) (N:=some 23) (v:=?_) (a':=?_) ⟨m_ 37 255⟩ rfl rfl (tw_ HT_ HW_) (fun _ _ _ h=>h) (Or.inl ⟨rfl, ?_⟩) hHeld ?_ ?_; rotate_left
        ·rintro w' ⟨s0, s1, s2, s3, s4, s5, s6, s7, s8, s9, s10, s11, s12, s13, s14, s15, s16, s17, s18, s19, s20, s21, s22, s23, s24, s25, s26, s27, s28, s29, s30, s31, s32, s33, s34, s35, s36, s37, s38, s39, s40, s41⟩; go_simp; with_reducible rfl
        rotate_left
        ·simp only [q_, i64_w, i32_w]; rfl
        refine one_ (i:=8) (N:=some 24) ⟨m_ 37 511⟩ rfl rfl (oo_ HT_) (by decide) (fun K hK => ?_); refine goes_ Tryd.func15 (by kernel_rfl) rfl #[.agg #[.int .i64 4, .int .i64 0, .int .i64 0, .int .i64 0, .string (⟨#[]⟩ : ByteArray), .int .i64 0, .int .i64 0, .bool false, .bool false, .int .i64 2, .int .i64 0, .bool false, .bool false, .slice none 0 0]] (by rfl) rfl rfl ha_ ?_
        refine (node_Formula.calls k 4 0 0 0 (⟨#[]⟩ : ByteArray) 0 0 false false 2 0 false false _ _ ([] : List (S28)) false _ (by refine tb_ ?_ hT; repeat' (first | exact pbx HB | exact Below.refl _ _ | assumption | refine below_set ?_ (Aside0.out ?_))) ?side1 ?side2 A5.out).mono ?_
        (case side1 => exact Kd.C_nil _ _); (case side2 => exact Nat.le_refl _); rintro e w46 ⟨rfl, hb⟩; refine ⟨_, rfl, ?_⟩
        replace HO109 := A_ (Kd.N_below (by (with_reducible repeat (first | apply Kd.N_alloc | apply Kd.N_drewN | apply Kd.N_drew)); exact HO109.out) hb); replace BK101 := bb_ BK101 hb; replace BK105 := bb_ BK105 hb; replace BK106 := bb_ BK106 hb; replace BK110 := bb_ BK110 hb; replace HB := bs_ HB hb
        (try clear hb); (try clear hk); refine hK.out _ _ ⟨bc_ BK110 0 rfl, bc_ BK110 1 rfl, bc_ BK110 2 rfl, bc_ BK110 3 rfl, bc_ BK110 4 rfl, bc_ BK110 5 rfl, bc_ BK110 6 rfl, bc_ BK110 7 rfl, bc_ BK110 8 rfl, bc_ BK110 9 rfl, bc_ BK110 10 rfl, bc_ BK110 11 rfl, bc_ BK110 12 rfl, bc_ BK110 13 rfl, bc_ BK101 0 rfl, bc_ BK101 1 rfl, bc_ BK101 2 rfl, bc_ BK101 3 rfl, bc_ BK101 4 rfl, bc_ BK101 5 rfl, bc_ BK101 6 rfl, bc_ BK101 7 rfl, bc_ BK101 8 rfl, bc_ BK101 9 rfl, bc_ BK101 10 rfl, bc_ BK101 11 rfl, bc_ BK101 12 rfl, bc_ BK101 13 rfl, bc_ BK106 0 rfl, bc_ BK106 1 rfl, bc_ BK106 2 rfl, bc_ BK106 3 rfl, bc_ BK106 4 rfl, bc_ BK106 5 rfl, bc_ BK106 6 rfl, bc_ BK106 7 rfl, bc_ BK106 8 rfl, bc_ BK106 9 rfl, bc_ BK106 10 rfl, bc_ BK106 11 rfl, bc_ BK106 12 rfl, bc_ BK106 13 rfl⟩ (fun hHeld => ?_); clear hK K; refine norm_ (a':=?_) ?_ ?_; rotate_left
        ·show Act.put _ (some 24) _ = _; simp only [q_, i64_w, i32_w]; rfl
        refine pure_ (i:=9) (N:=some 25) (v:=?_) (a':=?_) ⟨m_ 37 1023⟩ rfl rfl (ao_ HT_) (fun _ _ _ h=>h) (Or.inl ⟨rfl, ?_⟩) ?_ ?_; rotate_left
        ·intro w'; go_simp; with_reducible rfl
        rotate_left
        ·simp only [q_, i64_w, i32_w]; rfl
        refine pure_ (i:=10) (N:=some 26) (v:=?_) (a':=?_) ⟨m_ 37 2047⟩ rfl rfl (ao_ HT_) (fun _ _ _ h=>h) (Or.inl ⟨rfl, ?_⟩) ?_ ?_; rotate_left
        ·intro w'; go_simp; with_reducible rfl
        rotate_left
        ·simp only [q_, i64_w, i32_w]; rfl
        refine pure_ (i:=11) (N:=some 27) (v:=?_) (a':=?_) ⟨m_ 37 4095⟩ rfl rfl (ao_ HT_) (fun _ _ _ h=>h) (Or.inl ⟨rfl, ?_⟩) ?_ ?_; rotate_left
        ·intro w'; go_simp; with_reducible rfl
        rotate_left
        ·simp only [q_, i64_w, i32_w]; rfl
        refine take_ (i:=12) (N:=some 28) (v:=?_) (a':=?_) ⟨m_ 37 8191⟩ rfl rfl (tw_ HT_ HW_) (fun _ _ _ h=>h) (Or.inl ⟨rfl, ?_⟩) hHeld ?_ ?_; rotate_left
        ·rintro w' ⟨s0, s1, s2, s3, s4, s5, s6, s7, s8, s9, s10, s11, s12, s13, s14, s15, s16, s17, s18, s19, s20, s21, s22, s23, s24, s25, s26, s27, s28, s29, s30, s31, s32, s33, s34, s35, s36, s37, s38, s39, s40, s41⟩; go_simp; with_reducible rfl
        rotate_left
        ·simp only [q_, i64_w, i32_w]; rfl
        refine one_ (i:=13) (N:=some 29) ⟨m_ 37 16383⟩ rfl rfl (oo_ HT_) (by decide) (fun K hK => ?_); refine goes_ Tryd.func11 (by kernel_rfl) rfl #[.agg #[.int .i64 6, .int .i64 2, .int .i64 0, .int .i64 0, .string (⟨#[]⟩ : ByteArray), .int .i64 0, .int .i64 0, .bool false, .bool false, .int .i64 0, .int .i64 0, .bool false, .bool false, .slice Ao36 y107.length co36]] (by rfl) rfl rfl ha_ ?_; with_reducible refine (node_Deep.calls k 6 2 0 0 (⟨#[]⟩ : ByteArray) 0 0 false false 0 0 false false _ _ y107 t114 _ ?side1 ?side2 A7.out).mono ?_; (case side1 => exact ca_ (Kd.N_reads' HO109.out).2.2); (case side2 => exact (Kd.N_reads' HO109.out).2.1); rintro e w47 ⟨rfl, hb⟩; refine ⟨_, rfl, ?_⟩
        replace HO109 := A_ (Kd.N_below (by (with_reducible repeat (first | apply Kd.N_alloc | apply Kd.N_drewN | apply Kd.N_drew)); exact HO109.out) hb); replace BK101 := bb_ BK101 hb; replace BK105 := bb_ BK105 hb; replace BK106 := bb_ BK106 hb; replace BK110 := bb_ BK110 hb; replace HB := bs_ HB hb
        (try clear hb); (try clear hk); refine hK.out _ _ ⟨bc_ BK110 0 rfl, bc_ BK110 1 rfl, bc_ BK110 2 rfl, bc_ BK110 3 rfl, bc_ BK110 4 rfl, bc_ BK110 5 rfl, bc_ BK110 6 rfl, bc_ BK110 7 rfl, bc_ BK110 8 rfl, bc_ BK110 9 rfl, bc_ BK110 10 rfl, bc_ BK110 11 rfl, bc_ BK110 12 rfl, bc_ BK110 13 rfl, bc_ BK101 0 rfl, bc_ BK101 1 rfl, bc_ BK101 2 rfl, bc_ BK101 3 rfl, bc_ BK101 4 rfl, bc_ BK101 5 rfl, bc_ BK101 6 rfl, bc_ BK101 7 rfl, bc_ BK101 8 rfl, bc_ BK101 9 rfl, bc_ BK101 10 rfl, bc_ BK101 11 rfl, bc_ BK101 12 rfl, bc_ BK101 13 rfl, bc_ BK106 0 rfl, bc_ BK106 1 rfl, bc_ BK106 2 rfl, bc_ BK106 3 rfl, bc_ BK106 4 rfl, bc_ BK106 5 rfl, bc_ BK106 6 rfl, bc_ BK106 7 rfl, bc_ BK106 8 rfl, bc_ BK106 9 rfl, bc_ BK106 10 rfl, bc_ BK106 11 rfl, bc_ BK106 12 rfl, bc_ BK106 13 rfl⟩ (fun hHeld => ?_); clear hK K; refine norm_ (a':=?_) ?_ ?_; rotate_left
        ·show Act.put _ (some 29) _ = _; simp only [q_, i64_w, i32_w]; rfl
        refine pure_ (i:=14) (N:=some 30) (v:=?_) (a':=?_) ⟨m_ 37 32767⟩ rfl rfl (ao_ HT_) (fun _ _ _ h=>h) (Or.inl ⟨rfl, ?_⟩) ?_ ?_; rotate_left
        ·intro w'; go_simp; with_reducible rfl
        rotate_left
        ·simp only [q_, i64_w, i32_w]; rfl
        refine pure_ (i:=15) (N:=some 31) (v:=?_) (a':=?_) ⟨m_ 37 65535⟩ rfl rfl (ao_ HT_) (fun _ _ _ h=>h) (Or.inl ⟨rfl, ?_⟩) ?_ ?_; rotate_left
        ·intro w'; go_simp; with_reducible rfl
        rotate_left
        ·simp only [q_, i64_w, i32_w]; rfl
        refine pure_ (i:=16) (N:=some 32) (v:=?_) (a':=?_) ⟨m_ 37 131071⟩ rfl rfl (ao_ HT_) (fun _ _ _ h=>h) (Or.inl ⟨rfl, ?_⟩) ?_ ?_; rotate_left
        ·intro w'; go_simp; with_reducible rfl
        rotate_left
        ·simp only [q_, i64_w, i32_w]; rfl
        refine take_ (i:=17) (N:=some 33) (v:=?_) (a':=?_) ⟨m_ 37 262143⟩ rfl rfl (tw_ HT_ HW_) (fun _ _ _ h=>h) (Or.inl ⟨rfl, ?_⟩) hHeld ?_ ?_; rotate_left
        ·rintro w' ⟨s0, s1, s2, s3, s4, s5, s6, s7, s8, s9, s10, s11, s12, s13, s14, s15, s16, s17, s18, s19, s20, s21, s22, s23, s24, s25, s26, s27, s28, s29, s30, s31, s32, s33, s34, s35, s36, s37, s38, s39, s40, s41⟩; go_simp; with_reducible rfl
        rotate_left
        ·simp only [q_, i64_w, i32_w]; rfl
        refine one_ (i:=18) (N:=some 34) ⟨m_ 37 524287⟩ rfl rfl (oo_ HT_) (by decide) (fun K hK => ?_); refine goes_ Tryd.func10 (by kernel_rfl) rfl #[.agg #[.int .i64 6, .int .i64 2, .int .i64 0, .int .i64 0, .string (⟨#[]⟩ : ByteArray), .int .i64 0, .int .i64 0, .bool false, .bool false, .int .i64 0, .int .i64 0, .bool false, .bool false, .slice Ao36 y107.length co36]] (by rfl) rfl rfl ha_ ?_; with_reducible refine (node_Count.calls k 6 2 0 0 (⟨#[]⟩ : ByteArray) 0 0 false false 0 0 false false _ _ y107 t115 _ ?side1 ?side2 A9.out).mono ?_; (case side1 => exact ca_ (Kd.N_reads' HO109.out).2.2); (case side2 => exact (Kd.N_reads' HO109.out).2.1); rintro e w48 ⟨rfl, hb⟩; refine ⟨_, rfl, ?_⟩
        replace HO109 := A_ (Kd.N_below (by (with_reducible repeat (first | apply Kd.N_alloc | apply Kd.N_drewN | apply Kd.N_drew)); exact HO109.out) hb); replace BK101 := bb_ BK101 hb; replace BK105 := bb_ BK105 hb; replace BK106 := bb_ BK106 hb; replace BK110 := bb_ BK110 hb; replace HB := bs_ HB hb
        (try clear hb); (try clear hk); refine hK.out _ _ ⟨bc_ BK110 0 rfl, bc_ BK110 1 rfl, bc_ BK110 2 rfl, bc_ BK110 3 rfl, bc_ BK110 4 rfl, bc_ BK110 5 rfl, bc_ BK110 6 rfl, bc_ BK110 7 rfl, bc_ BK110 8 rfl, bc_ BK110 9 rfl, bc_ BK110 10 rfl, bc_ BK110 11 rfl, bc_ BK110 12 rfl, bc_ BK110 13 rfl, bc_ BK101 0 rfl, bc_ BK101 1 rfl, bc_ BK101 2 rfl, bc_ BK101 3 rfl, bc_ BK101 4 rfl, bc_ BK101 5 rfl, bc_ BK101 6 rfl, bc_ BK101 7 rfl, bc_ BK101 8 rfl, bc_ BK101 9 rfl, bc_ BK101 10 rfl, bc_ BK101 11 rfl, bc_ BK101 12 rfl, bc_ BK101 13 rfl, bc_ BK106 0 rfl, bc_ BK106 1 rfl, bc_ BK106 2 rfl, bc_ BK106 3 rfl, bc_ BK106 4 rfl, bc_ BK106 5 rfl, bc_ BK106 6 rfl, bc_ BK106 7 rfl, bc_ BK106 8 rfl, bc_ BK106 9 rfl, bc_ BK106 10 rfl, bc_ BK106 11 rfl, bc_ BK106 12 rfl, bc_ BK106 13 rfl⟩ (fun hHeld => ?_); clear hK K; refine norm_ (a':=?_) ?_ ?_; rotate_left
        ·show Act.put _ (some 34) _ = _; simp only [q_, i64_w, i32_w]; rfl
        refine pure_ (i:=19) (N:=some 35) (v:=?_) (a':=?_) ⟨m_ 37 1048575⟩ rfl rfl (ao_ HT_) (fun _ _ _ h=>h) (Or.inl ⟨rfl, ?_⟩) ?_ ?_; rotate_left
        ·intro w'; go_simp; with_reducible rfl
        rotate_left
        ·simp only [q_, i64_w, i32_w]; rfl
        refine pure_ (i:=20) (N:=some 36) (v:=?_) (a':=?_) ⟨m_ 37 2097151⟩ rfl rfl (ao_ HT_) (fun _ _ _ h=>h) (Or.inl ⟨rfl, ?_⟩) ?_ ?_; rotate_left
        ·intro w'; go_simp; with_reducible rfl
        rotate_left
        ·simp only [q_, i64_w, i32_w]; rfl
        refine pure_ (i:=21) (N:=some 37) (v:=?_) (a':=?_) ⟨m_ 37 4194303⟩ rfl rfl (ao_ HT_) (fun _ _ _ h=>h) (Or.inl ⟨rfl, ?_⟩) ?_ ?_; rotate_left
        ·intro w'; go_simp; with_reducible rfl
        rotate_left
        ·simp only [q_, i64_w, i32_w]; rfl
        refine take_ (i:=22) (N:=some 38) (v:=?_) (a':=?_) ⟨m_ 37 8388607⟩ rfl rfl (tw_ HT_ HW_) (fun _ _ _ h=>h) (Or.inl ⟨rfl, ?_⟩) hHeld ?_ ?_; rotate_left
        ·rintro w' ⟨s0, s1, s2, s3, s4, s5, s6, s7, s8, s9, s10, s11, s12, s13, s14, s15, s16, s17, s18, s19, s20, s21, s22, s23, s24, s25, s26, s27, s28, s29, s30, s31, s32, s33, s34, s35, s36, s37, s38, s39, s40, s41⟩; go_simp; with_reducible rfl
        rotate_left
        ·simp only [q_, i64_w, i32_w]; rfl
        refine one_ (i:=23) (N:=some 39) ⟨m_ 37 16777215⟩ rfl rfl (oo_ HT_) (by decide) (fun K hK => ?_)
        refine Kd.N_lit_step k28 _ 28 ?hg (N':=39) ?hd (xs := ([(⟨4, 0, (⟨0, 0, (⟨#[]⟩ : ByteArray)⟩ : S23), (⟨0, 0, false, false⟩ : S25), (⟨2, 0, false, false⟩ : S25), ([] : List (S28))⟩ : S28)] : List (S28))) (inner := [.int .i64 4, .int .i64 0, .int .i64 0, .int .i64 0, .string (⟨#[]⟩ : ByteArray), .int .i64 0, .int .i64 0, .bool false, .bool false, .int .i64 2, .int .i64 0, .bool false, .bool false, .slice none 0 0]) (ok := (fun k_ => some k_ ≠ (.slice Ao36 y107.length co36 : Value).ownBlock ∧ k_ ≠ g1 ∧ k_ ≠ g5 ∧ k_ ≠ g6 ∧ k_ ≠ gb110)) (okp := (fun k_ => some k_ ≠ (.slice Ao36 y107.length co36 : Value).ownBlock ∧ k_ ≠ g1 ∧ k_ ≠ g5 ∧ k_ ≠ g6 ∧ k_ ≠ gb110)) ?hr ?hp (fun _ hk => hk) ((show ∀ k_, w48.heap.size ≤ k_ → (fun k_ => some k_ ≠ (.slice Ao36 y107.length co36 : Value).ownBlock ∧ k_ ≠ g1 ∧ k_ ≠ g5 ∧ k_ ≠ g6 ∧ k_ ≠ gb110) k_ from fun k_ hk => ⟨Kd.fresh' (Kd.N_lt (by (with_reducible repeat (first | apply Kd.N_alloc | apply Kd.N_drewN | apply Kd.N_drew)); exact HO109.out)) k_ hk, Kd.freshB (pkx BK101) k_ hk, Kd.freshB (pkx BK105) k_ hk, Kd.freshB (pkx BK106) k_ hk, Kd.freshB (pkx BK110) k_ hk⟩) _ (Nat.le_refl _)) (Below.refl _ _) (Nat.le_refl _) (by simp) ?_; (case hd => rfl); (case hg => rfl); (case hr => first | (go_simp; done) | (go_simp; rfl)); (case hp => exact (Reps.front (show Kd.FK k28 _ _ (⟨4, 0, (⟨0, 0, (⟨#[]⟩ : ByteArray)⟩ : S23), (⟨0, 0, false, false⟩ : S25), (⟨2, 0, false, false⟩ : S25), ([] : List (S28))⟩ : S28) [.int .i64 4, .int .i64 0, .int .i64 0, .int .i64 0, .string (⟨#[]⟩ : ByteArray), .int .i64 0, .int .i64 0, .bool false, .bool false, .int .i64 2, .int .i64 0, .bool false, .bool false, .slice none 0 0] from (k28_mkF _ _ (⟨4, 0, (⟨0, 0, (⟨#[]⟩ : ByteArray)⟩ : S23), (⟨0, 0, false, false⟩ : S25), (⟨2, 0, false, false⟩ : S25), ([] : List (S28))⟩ : S28) (Nat.le_refl _) (Kd.F_nil _ _ _))) rfl (Reps.none _ _) rfl))
        intro v117 w49 ho50 hb hg_ hnew_; clear hg_ hnew_; (first | rw [← Ny116.out] at ho50 | (simp only [Int.reduceToNat] at ho50; rw [← Ny116.out] at ho50))
        have HO118 := A_ (Kd.N_lower ho50 (below_size (pbx HB))); replace HO109 := A_ (Kd.N_elder' (by (with_reducible repeat (first | apply Kd.N_alloc | apply Kd.N_drewN | apply Kd.N_drew)); exact HO109.out) (Kd.N_base ho50) hb); replace BK101 := bb_ BK101 hb; replace BK105 := bb_ BK105 hb; replace BK106 := bb_ BK106 hb; replace BK110 := bb_ BK110 hb; replace HB := bs_ HB hb; clear hb ho50; obtain ⟨Ao51, co51, eo51⟩ := Kd.N_slice HO118.out
        (first | subst eo51 | (injection eo51 with f1_ f2_ f3_; have f4_ := f1_.symm; have f5_ := f3_.symm; clear f1_ f2_ f3_; subst f4_; subst f5_)); refine hK.out _ _ ⟨bc_ BK110 0 rfl, bc_ BK110 1 rfl, bc_ BK110 2 rfl, bc_ BK110 3 rfl, bc_ BK110 4 rfl, bc_ BK110 5 rfl, bc_ BK110 6 rfl, bc_ BK110 7 rfl, bc_ BK110 8 rfl, bc_ BK110 9 rfl, bc_ BK110 10 rfl, bc_ BK110 11 rfl, bc_ BK110 12 rfl, bc_ BK110 13 rfl, bc_ BK101 0 rfl, bc_ BK101 1 rfl, bc_ BK101 2 rfl, bc_ BK101 3 rfl, bc_ BK101 4 rfl, bc_ BK101 5 rfl, bc_ BK101 6 rfl, bc_ BK101 7 rfl, bc_ BK101 8 rfl, bc_ BK101 9 rfl, bc_ BK101 10 rfl, bc_ BK101 11 rfl, bc_ BK101 12 rfl, bc_ BK101 13 rfl, bc_ BK106 0 rfl, bc_ BK106 1 rfl, bc_ BK106 2 rfl, bc_ BK106 3 rfl, bc_ BK106 4 rfl, bc_ BK106 5 rfl, bc_ BK106 6 rfl, bc_ BK106 7 rfl, bc_ BK106 8 rfl, bc_ BK106 9 rfl, bc_ BK106 10 rfl, bc_ BK106 11 rfl, bc_ BK106 12 rfl, bc_ BK106 13 rfl⟩ (fun hHeld => ?_); clear hK K; refine norm_ (a':=?_) ?_ ?_; rotate_left
        ·show Act.put _ (some 39) _ = _; simp only [q_, i64_w, i32_w]; rfl
        refine pure_ (i:=24) (N:=some 40) (v:=?_) (a':=?_) ⟨m_ 37 33554431⟩ rfl rfl (ao_ HT_) (fun _ _ _ h=>h) (Or.inl ⟨rfl, ?_⟩) ?_ ?_; rotate_left
        ·intro w'; go_simp; with_reducible rfl
        rotate_left
        ·simp only [q_, i64_w, i32_w]; rfl
        refine one_ (i:=25) (N:=some 41) ⟨m_ 37 67108863⟩ rfl rfl (oo_ HT_) (by decide) (fun K hK => ?_); refine goes_ Tryd.func13 (by kernel_rfl) rfl #[.agg #[.int .i64 5, .int .i64 0, .int .i64 0, .int .i64 0, .string (⟨#[]⟩ : ByteArray), .int .i64 0, .int .i64 0, .bool false, .bool false, .int .i64 0, .int .i64 0, .bool false, .bool false, .slice Ao51 y116.length co51]] (by rfl) rfl rfl ha_ ?_; with_reducible refine (node_Right.calls k 5 0 0 0 (⟨#[]⟩ : ByteArray) 0 0 false false 0 0 false false _ _ y116 false _ (by refine tb_ ?_ hT; repeat' (first | exact pbx HB | exact Below.refl _ _ | assumption | refine below_set ?_ (Aside0.out ?_))) ?side1 ?side2 A11.out).mono ?_; (case side1 => exact ca_ (Kd.N_reads' HO118.out).2.2); (case side2 => exact (Kd.N_reads' HO118.out).2.1); rintro e w52 ⟨rfl, hb⟩; refine ⟨_, rfl, ?_⟩
        replace HO109 := A_ (Kd.N_below (by (with_reducible repeat (first | apply Kd.N_alloc | apply Kd.N_drewN | apply Kd.N_drew)); exact HO109.out) hb); replace HO118 := A_ (Kd.N_below (by (with_reducible repeat (first | apply Kd.N_alloc | apply Kd.N_drewN | apply Kd.N_drew)); exact HO118.out) hb); replace BK101 := bb_ BK101 hb; replace BK105 := bb_ BK105 hb; replace BK106 := bb_ BK106 hb; replace BK110 := bb_ BK110 hb; replace HB := bs_ HB hb
        (try clear hb); (try clear hk); refine hK.out _ _ ⟨bc_ BK110 0 rfl, bc_ BK110 1 rfl, bc_ BK110 2 rfl, bc_ BK110 3 rfl, bc_ BK110 4 rfl, bc_ BK110 5 rfl, bc_ BK110 6 rfl, bc_ BK110 7 rfl, bc_ BK110 8 rfl, bc_ BK110 9 rfl, bc_ BK110 10 rfl, bc_ BK110 11 rfl, bc_ BK110 12 rfl, bc_ BK110 13 rfl, bc_ BK101 0 rfl, bc_ BK101 1 rfl, bc_ BK101 2 rfl, bc_ BK101 3 rfl, bc_ BK101 4 rfl, bc_ BK101 5 rfl, bc_ BK101 6 rfl, bc_ BK101 7 rfl, bc_ BK101 8 rfl, bc_ BK101 9 rfl, bc_ BK101 10 rfl, bc_ BK101 11 rfl, bc_ BK101 12 rfl, bc_ BK101 13 rfl, bc_ BK106 0 rfl, bc_ BK106 1 rfl, bc_ BK106 2 rfl, bc_ BK106 3 rfl, bc_ BK106 4 rfl, bc_ BK106 5 rfl, bc_ BK106 6 rfl, bc_ BK106 7 rfl, bc_ BK106 8 rfl, bc_ BK106 9 rfl, bc_ BK106 10 rfl, bc_ BK106 11 rfl, bc_ BK106 12 rfl, bc_ BK106 13 rfl⟩ (fun hHeld => ?_); clear hK K; refine norm_ (a':=?_) ?_ ?_; rotate_left
        ·show Act.put _ (some 41) _ = _; simp only [q_, i64_w, i32_w]; rfl
        refine pure_ (i:=26) (N:=some 42) (v:=?_) (a':=?_) ⟨m_ 37 134217727⟩ rfl rfl (ao_ HT_) (fun _ _ _ h=>h) (Or.inl ⟨rfl, ?_⟩) ?_ ?_; rotate_left
        ·intro w'; go_simp; with_reducible rfl
        rotate_left
        ·simp only [q_, i64_w, i32_w]; rfl
        refine pure_ (i:=27) (N:=some 43) (v:=?_) (a':=?_) ⟨m_ 37 268435455⟩ rfl rfl (ao_ HT_) (fun _ _ _ h=>h) (Or.inl ⟨rfl, ?_⟩) ?_ ?_; rotate_left
        ·intro w'; go_simp; with_reducible rfl
        rotate_left
        ·simp only [q_, i64_w, i32_w]; rfl
        refine pure_ (i:=28) (N:=some 44) (v:=?_) (a':=?_) ⟨m_ 37 536870911⟩ rfl rfl (ao_ HT_) (fun _ _ _ h=>h) (Or.inl ⟨rfl, ?_⟩) ?_ ?_; rotate_left
        ·intro w'; go_simp; with_reducible rfl
        rotate_left
        ·simp only [q_, i64_w, i32_w]; rfl
        refine take_ (i:=29) (N:=some 45) (v:=?_) (a':=?_) ⟨m_ 37 1073741823⟩ rfl rfl (tw_ HT_ HW_) (fun _ _ _ h=>h) (Or.inl ⟨rfl, ?_⟩) hHeld ?_ ?_; rotate_left
        ·rintro w' ⟨s0, s1, s2, s3, s4, s5, s6, s7, s8, s9, s10, s11, s12, s13, s14, s15, s16, s17, s18, s19, s20, s21, s22, s23, s24, s25, s26, s27, s28, s29, s30, s31, s32, s33, s34, s35, s36, s37, s38, s39, s40, s41⟩; go_simp; with_reducible rfl
        rotate_left
        ·simp only [q_, i64_w, i32_w]; rfl
        refine take_ (i:=33) (N:=some 49) (v:=?_) (a':=?_) ⟨m_ 37 9663676415⟩ rfl rfl (tw_ HT_ HW_) (fun _ _ _ h=>h) (Or.inl ⟨rfl, ?_⟩) hHeld ?_ ?_; rotate_left
        ·rintro w' ⟨s0, s1, s2, s3, s4, s5, s6, s7, s8, s9, s10, s11, s12, s13, s14, s15, s16, s17, s18, s19, s20, s21, s22, s23, s24, s25, s26, s27, s28, s29, s30, s31, s32, s33, s34, s35, s36, s37, s38, s39, s40, s41⟩; go_simp; with_reducible rfl
        rotate_left
        ·simp only [q_, i64_w, i32_w]; rfl
        refine one_ (i:=30) (N:=some 46) ⟨m_ 37 10737418239⟩ rfl rfl (oo_ HT_) (by decide) (fun K hK => ?_); refine goes_ Tryd.func8 (by kernel_rfl) rfl #[.agg #[.int .i64 6, .int .i64 2, .int .i64 0, .int .i64 0, .string (⟨#[]⟩ : ByteArray), .int .i64 0, .int .i64 0, .bool false, .bool false, .int .i64 0, .int .i64 0, .bool false, .bool false, .slice Ao36 y107.length co36]] (by rfl) rfl rfl ha_ ?_; with_reducible refine (node_List.calls k 6 2 0 0 (⟨#[]⟩ : ByteArray) 0 0 false false 0 0 false false (fun k_ => ((k_ ≠ g1 ∧ (k_ ≠ g5 ∧ (k_ ≠ g6 ∧ k_ ≠ gb110))) ∧ some k_ ≠ (.slice Ao51 y116.length co51 : Value).ownBlock)) _ _ y107 t120 _ ?side1 A13.out).mono ?_; (case side1 => exact Kd.N_V (HO109.out)); rintro e w53 ⟨v121, rfl, ho0, hb⟩; refine ⟨_, rfl, ?_⟩
        have HO122 := A_ (Kd.N_lower (Kd.N_mono (ok' := fun k_ => some k_ ≠ (.slice Ao51 y116.length co51 : Value).ownBlock ∧ k_ ≠ g1 ∧ k_ ≠ g5 ∧ k_ ≠ g6 ∧ k_ ≠ gb110) ho0 (fun k_ hk_ => ⟨Or.elim hk_ (fun hs_ => hs_.2) (fun hn_ => (Kd.fresh' (Kd.N_lt (by (with_reducible repeat (first | apply Kd.N_alloc | apply Kd.N_drewN | apply Kd.N_drew)); exact HO118.out)) k_ hn_)), Or.elim hk_ (fun hs_ => hs_.1.1) (fun hn_ => (Kd.freshB (pkx BK101) k_ hn_)), Or.elim hk_ (fun hs_ => hs_.1.2.1) (fun hn_ => (Kd.freshB (pkx BK105) k_ hn_)), Or.elim hk_ (fun hs_ => hs_.1.2.2.1) (fun hn_ => (Kd.freshB (pkx BK106) k_ hn_)), Or.elim hk_ (fun hs_ => hs_.1.2.2.2) (fun hn_ => (Kd.freshB (pkx BK110) k_ hn_))⟩)) (below_size (pbx HB))); replace HO109 := A_ (Kd.N_elder' (by (with_reducible repeat (first | apply Kd.N_alloc | apply Kd.N_drewN | apply Kd.N_drew)); exact HO109.out) (Kd.N_base ho0) hb); replace HO118 := A_ (Kd.N_elder' (by (with_reducible repeat (first | apply Kd.N_alloc | apply Kd.N_drewN | apply Kd.N_drew)); exact HO118.out) (Kd.N_base ho0) hb); replace BK101 := bb_ BK101 hb; replace BK105 := bb_ BK105 hb; replace BK106 := bb_ BK106 hb; replace BK110 := bb_ BK110 hb; replace HB := bs_ HB hb; (try clear hb); (try clear hk); (try clear ho0); obtain ⟨Ao54, co54, eo54⟩ := Kd.N_slice HO122.out; (first | subst eo54 | (injection eo54 with f1_ f2_ f3_; have f4_ := f1_.symm; have f5_ := f3_.symm; clear f1_ f2_ f3_; subst f4_; subst f5_))
        have p123 : 0 ≤ (3 : Int) := (by omega)
        have q123 : 3 < (t120.length : Int) := of_decide_eq_true as_
        obtain ⟨ad123, A123_13, c123_13, e123, hx123_0, hx123_1, hx123_2, hx123_3, hx123_4, hx123_5, hx123_6, hx123_7, hx123_8, hx123_9, hx123_10, hx123_11, hx123_12, hx123_13, hl123_13, hi123_13⟩ := at_T28 (Kd.N_reads' HO122.out).2.2 3 p123 q123
        cases e123
        obtain ⟨ce123, hce123, hMe123, hcc123⟩ := Kd.N_get HO122.out z28 3 p123 (by first | exact q123 | exact of_decide_eq_true as_ | (have e_ := (Kd.N_reads' HO122.out).1; omega)); obtain ⟨ua123_13, uc123_13, rfl, ul123_13, ge123_13⟩ := k28_openF hMe123; have hv123_13 := hcc123 13 _ rfl; rw [add_field _ _ 13 (by omega)] at hv123_13; replace hv123_13 := Option.some.inj (hv123_13.symm.trans hx123_13)
        injection hv123_13 with hva_ hvn_ hvc_
        rw [hva_] at ge123_13; rw [hvc_] at ul123_13; have HL123_13 := A_ (show Kd.V k28 28 _ w.heap.size _ _ ((rd_T28 t120 3).f5) from Kd.V_mk ul123_13 ge123_13); clear hva_ hvn_ hvc_ ge123_13 ul123_13; clear hcc123 hce123; (try simp only [show (3 : Int).toNat = 3 from rfl, Nat.reduceMul, Nat.reduceEqDiff, Go.Addr.add, ↓reduceIte] at hx123_0); (try simp only [show (3 : Int).toNat = 3 from rfl, Nat.reduceMul, Nat.reduceEqDiff, Go.Addr.add, ↓reduceIte] at hx123_1); (try simp only [show (3 : Int).toNat = 3 from rfl, Nat.reduceMul, Nat.reduceEqDiff, Go.Addr.add, ↓reduceIte] at hx123_2); (try simp only [show (3 : Int).toNat = 3 from rfl, Nat.reduceMul, Nat.reduceEqDiff, Go.Addr.add, ↓reduceIte] at hx123_3); (try simp only [show (3 : Int).toNat = 3 from rfl, Nat.reduceMul, Nat.reduceEqDiff, Go.Addr.add, ↓reduceIte] at hx123_4); (try simp only [show (3 : Int).toNat = 3 from rfl, Nat.reduceMul, Nat.reduceEqDiff, Go.Addr.add, ↓reduceIte] at hx123_5); (try simp only [show (3 : Int).toNat = 3 from rfl, Nat.reduceMul, Nat.reduceEqDiff, Go.Addr.add, ↓reduceIte] at hx123_6); (try simp only [show (3 : Int).toNat = 3 from rfl, Nat.reduceMul, Nat.reduceEqDiff, Go.Addr.add, ↓reduceIte] at hx123_7); (try simp only [show (3 : Int).toNat = 3 from rfl, Nat.reduceMul, Nat.reduceEqDiff, Go.Addr.add, ↓reduceIte] at hx123_8); (try simp only [show (3 : Int).toNat = 3 from rfl, Nat.reduceMul, Nat.reduceEqDiff, Go.Addr.add, ↓reduceIte] at hx123_9); (try simp only [show (3 : Int).toNat = 3 from rfl, Nat.reduceMul, Nat.reduceEqDiff, Go.Addr.add, ↓reduceIte] at hx123_10)
        (try simp only [show (3 : Int).toNat = 3 from rfl, Nat.reduceMul, Nat.reduceEqDiff, Go.Addr.add, ↓reduceIte] at hx123_11); (try simp only [show (3 : Int).toNat = 3 from rfl, Nat.reduceMul, Nat.reduceEqDiff, Go.Addr.add, ↓reduceIte] at hx123_12); (try simp only [show (3 : Int).toNat = 3 from rfl, Nat.reduceMul, Nat.reduceEqDiff, Go.Addr.add, ↓reduceIte] at hx123_13); have qi123 : (3 < t120.length) = True := eq_true (by omega); (try rw [show ((3 : Int)).toNat = 3 from rfl] at hx123_0); (try rw [show 3 * 14 = 42 from rfl] at hx123_0); (try rw [show ((3 : Int)).toNat = 3 from rfl] at hx123_1); (try rw [show 3 * 14 = 42 from rfl] at hx123_1); (try rw [show ((3 : Int)).toNat = 3 from rfl] at hx123_2); (try rw [show 3 * 14 = 42 from rfl] at hx123_2); (try rw [show ((3 : Int)).toNat = 3 from rfl] at hx123_3); (try rw [show 3 * 14 = 42 from rfl] at hx123_3); (try rw [show ((3 : Int)).toNat = 3 from rfl] at hx123_4); (try rw [show 3 * 14 = 42 from rfl] at hx123_4); (try rw [show ((3 : Int)).toNat = 3 from rfl] at hx123_5); (try rw [show 3 * 14 = 42 from rfl] at hx123_5); (try rw [show ((3 : Int)).toNat = 3 from rfl] at hx123_6); (try rw [show 3 * 14 = 42 from rfl] at hx123_6); (try rw [show ((3 : Int)).toNat = 3 from rfl] at hx123_7); (try rw [show 3 * 14 = 42 from rfl] at hx123_7); (try rw [show ((3 : Int)).toNat = 3 from rfl] at hx123_8); (try rw [show 3 * 14 = 42 from rfl] at hx123_8); (try rw [show ((3 : Int)).toNat = 3 from rfl] at hx123_9); (try rw [show 3 * 14 = 42 from rfl] at hx123_9)
        (try rw [show ((3 : Int)).toNat = 3 from rfl] at hx123_10); (try rw [show 3 * 14 = 42 from rfl] at hx123_10); (try rw [show ((3 : Int)).toNat = 3 from rfl] at hx123_11); (try rw [show 3 * 14 = 42 from rfl] at hx123_11); (try rw [show ((3 : Int)).toNat = 3 from rfl] at hx123_12); (try rw [show 3 * 14 = 42 from rfl] at hx123_12); (try rw [show ((3 : Int)).toNat = 3 from rfl] at hx123_13); (try rw [show 3 * 14 = 42 from rfl] at hx123_13)
        have HR123_13 := A_ hi123_13; have HC123_13 := A_ hl123_13; clear hi123_13 hl123_13; replace p123 := eq_true p123; replace q123 := eq_true q123; refine hK.out _ _ ⟨bc_ BK110 0 rfl, bc_ BK110 1 rfl, bc_ BK110 2 rfl, bc_ BK110 3 rfl, bc_ BK110 4 rfl, bc_ BK110 5 rfl, bc_ BK110 6 rfl, bc_ BK110 7 rfl, bc_ BK110 8 rfl, bc_ BK110 9 rfl, bc_ BK110 10 rfl, bc_ BK110 11 rfl, bc_ BK110 12 rfl, bc_ BK110 13 rfl, bc_ BK101 0 rfl, bc_ BK101 1 rfl, bc_ BK101 2 rfl, bc_ BK101 3 rfl, bc_ BK101 4 rfl, bc_ BK101 5 rfl, bc_ BK101 6 rfl, bc_ BK101 7 rfl, bc_ BK101 8 rfl, bc_ BK101 9 rfl, bc_ BK101 10 rfl, bc_ BK101 11 rfl, bc_ BK101 12 rfl, bc_ BK101 13 rfl, bc_ BK106 0 rfl, bc_ BK106 1 rfl, bc_ BK106 2 rfl, bc_ BK106 3 rfl, bc_ BK106 4 rfl, bc_ BK106 5 rfl, bc_ BK106 6 rfl, bc_ BK106 7 rfl, bc_ BK106 8 rfl, bc_ BK106 9 rfl, bc_ BK106 10 rfl, bc_ BK106 11 rfl, bc_ BK106 12 rfl, bc_ BK106 13 rfl⟩ (fun hHeld => ?_); clear hK K; refine norm_ (a':=?_) ?_ ?_; rotate_left
        ·show Act.put _ (some 46) _ = _; simp only [q_, i64_w, i32_w]; rfl
        refine pure_ (i:=31) (N:=some 47) (v:=?_) (a':=?_) ⟨m_ 37 12884901887⟩ rfl rfl (ao_ HT_) (fun _ _ _ h=>h) (Or.inl ⟨rfl, ?_⟩) ?_ ?_; rotate_left
        ·intro w'; go_simp; with_reducible rfl
        rotate_left
        ·simp only [q_, i64_w, i32_w]; rfl
        refine one_ (i:=32) (N:=some 48) ⟨m_ 37 17179869183⟩ rfl rfl (oo_ HT_) (by decide) (fun K hK => ?_)
        refine event_step (v:=?v48) (w1 := ?w48) ?hw48 ?hr48 ?_
        (case hw48 => rfl); (case hr48 => go_simp; constructor <;> with_reducible rfl); refine hK.out _ _ hHeld (fun hHeld => ?_); refine norm_ (a':=?_) ?_ ?_; rotate_left
        ·show Act.put _ (some 48) _ = _; simp only [q_, i64_w, i32_w]; rfl
        refine one_ (i:=34) (N:=some 50) ⟨m_ 37 34359738367⟩ rfl rfl (oo_ HT_) (by decide) (fun K hK => ?_); refine goes_ Tryd.func18 (by kernel_rfl) rfl #[.agg #[.int .i64 ((rd_T28 t120 3).f0), .int .i64 ((rd_T28 t120 3).f1), .int .i64 ((rd_T28 t120 3).f2.f0), .int .i64 ((rd_T28 t120 3).f2.f1), .string ((rd_T28 t120 3).f2.f2), .int .i64 ((rd_T28 t120 3).f3.f0), .int .i64 ((rd_T28 t120 3).f3.f1), .bool ((rd_T28 t120 3).f3.f2), .bool ((rd_T28 t120 3).f3.f3), .int .i64 ((rd_T28 t120 3).f4.f0), .int .i64 ((rd_T28 t120 3).f4.f1), .bool ((rd_T28 t120 3).f4.f2), .bool ((rd_T28 t120 3).f4.f3), .slice A123_13 ((rd_T28 t120 3).f5).length c123_13], .agg #[.int .i64 1, .int .i64 0, .int .i64 1, .int .i64 10000, .string (⟨#[]⟩ : ByteArray), .int .i64 0, .int .i64 0, .bool false, .bool false, .int .i64 0, .int .i64 0, .bool false, .bool false, .slice none 0 0]] (by rfl) rfl rfl ha_ ?_
        refine (node_Same.calls k ((rd_T28 t120 3).f0) ((rd_T28 t120 3).f1) ((rd_T28 t120 3).f2.f0) ((rd_T28 t120 3).f2.f1) ((rd_T28 t120 3).f2.f2) ((rd_T28 t120 3).f3.f0) ((rd_T28 t120 3).f3.f1) ((rd_T28 t120 3).f3.f2) ((rd_T28 t120 3).f3.f3) ((rd_T28 t120 3).f4.f0) ((rd_T28 t120 3).f4.f1) ((rd_T28 t120 3).f4.f2) ((rd_T28 t120 3).f4.f3) _ _ ((rd_T28 t120 3).f5) 1 0 1 10000 (⟨#[]⟩ : ByteArray) 0 0 false false 0 0 false false _ _ ([] : List (S28)) t124 _ ?side1 ?side2 ?side3 ?side4 A15.out).mono ?_
        (case side1 => exact ca_ (by repeat (first | (with_reducible exact HR123_13.out) | (with_reducible refine Kd.C_alloc ?_ _) | (with_reducible refine Kd.C_drewN ?_ _) | (with_reducible refine Kd.C_drew ?_) | exact HR123_13.out))); (case side2 => exact HC123_13.out); (case side3 => exact Kd.C_nil _ _); (case side4 => exact Nat.le_refl _); rintro e w55 ⟨rfl, hb⟩; refine ⟨_, rfl, ?_⟩
        replace HO109 := A_ (Kd.N_below (by (with_reducible repeat (first | apply Kd.N_alloc | apply Kd.N_drewN | apply Kd.N_drew)); exact HO109.out) hb); replace HO118 := A_ (Kd.N_below (by (with_reducible repeat (first | apply Kd.N_alloc | apply Kd.N_drewN | apply Kd.N_drew)); exact HO118.out) hb); replace HO122 := A_ (Kd.N_below (by (with_reducible repeat (first | apply Kd.N_alloc | apply Kd.N_drewN | apply Kd.N_drew)); exact HO122.out) hb); replace HL123_13 := A_ (Kd.V_below (by (with_reducible repeat (first | apply Kd.V_alloc | apply Kd.V_drewN | apply Kd.V_drew)); exact HL123_13.out) hb); replace BK101 := bb_ BK101 hb; replace BK105 := bb_ BK105 hb; replace BK106 := bb_ BK106 hb; replace BK110 := bb_ BK110 hb; replace HR123_13 := A_ (Kd.C_below (by repeat (first | (with_reducible exact HR123_13.out) | (with_reducible refine Kd.C_alloc ?_ _) | (with_reducible refine Kd.C_drewN ?_ _) | (with_reducible refine Kd.C_drew ?_) | exact HR123_13.out)) hb); replace HB := bs_ HB hb; (try clear hb); (try clear hk); refine hK.out _ _ ⟨bc_ BK110 0 rfl, bc_ BK110 1 rfl, bc_ BK110 2 rfl, bc_ BK110 3 rfl, bc_ BK110 4 rfl, bc_ BK110 5 rfl, bc_ BK110 6 rfl, bc_ BK110 7 rfl, bc_ BK110 8 rfl, bc_ BK110 9 rfl, bc_ BK110 10 rfl, bc_ BK110 11 rfl, bc_ BK110 12 rfl, bc_ BK110 13 rfl, bc_ BK101 0 rfl, bc_ BK101 1 rfl, bc_ BK101 2 rfl, bc_ BK101 3 rfl, bc_ BK101 4 rfl, bc_ BK101 5 rfl, bc_ BK101 6 rfl, bc_ BK101 7 rfl, bc_ BK101 8 rfl, bc_ BK101 9 rfl, bc_ BK101 10 rfl, bc_ BK101 11 rfl, bc_ BK101 12 rfl, bc_ BK101 13 rfl, bc_ BK106 0 rfl, bc_ BK106 1 rfl, bc_ BK106 2 rfl, bc_ BK106 3 rfl, bc_ BK106 4 rfl, bc_ BK106 5 rfl, bc_ BK106 6 rfl, bc_ BK106 7 rfl, bc_ BK106 8 rfl, bc_ BK106 9 rfl, bc_ BK106 10 rfl, bc_ BK106 11 rfl, bc_ BK106 12 rfl, bc_ BK106 13 rfl⟩ (fun hHeld => ?_); clear hK K; refine norm_ (a':=?_) ?_ ?_; rotate_left
        ·show Act.put _ (some 50) _ = _; simp only [q_, i64_w, i32_w]; rfl
        refine pure_ (i:=35) (N:=some 51) (v:=?_) (a':=?_) ⟨m_ 37 68719476735⟩ rfl rfl (ao_ HT_) (fun _ _ _ h=>h) (Or.inl ⟨rfl, ?_⟩) ?_ ?_; rotate_left
        ·intro w'; go_simp; with_reducible rfl
        rotate_left
        ·simp only [q_, i64_w, i32_w]; rfl
        refine pure_ (i:=36) (N:=some 0) (v:=?_) (a':=?_) ⟨m_ 37 137438953471⟩ rfl rfl (ao_ HT_) (fun _ _ _ h=>h) (Or.inl ⟨rfl, ?_⟩) ?_ ?_; rotate_left
        ·intro w'; go_simp; with_reducible rfl
        rotate_left
        ·simp only [q_, i64_w, i32_w]; rfl
        refine done_ (done_of HT_.out (by kernel_rfl)) ?_
        try go_wp2
        go_ret
        exact fi_ (pbx HB)
       ·rw [if_neg c14] at H
        exact absurd H (by simp)
     ·rw [if_neg c10] at H; have ⟨c10b0,c10b1⟩ := e0_ c10
      exact absurd H (by simp)
    ·rw [if_neg c8] at H; have ⟨c8b0,c8b1⟩ := e0_ c8
     exact absurd H (by simp)
  ·exact absurd H (by simp)
 ·exact absurd H (by simp)

end Go.Proofs.YtdddhabemdbooaaDoor.X

-- fix22b
namespace Go.Proofs.YtdddhabemdbooaaDoor.X
open Go.RowKit Go.Proofs.YtdddhabemdbooaaDoorW.PrintWords Go.Proofs.YtdddhabemdbooaaDoorW.PrintLast Go.Proofs.YtdddhabemdbooaaDoorW.PrintMore
attribute [local go_sem] max2_int min2_int max_two min_two max_three min_three max_four min_four
set_option linter.unusedVariables false
set_option linter.unusedSimpArgs false
mutual
def oculusref22_List.l0 : Nat → List (S28) → Int → Int → Int → Int → Int → ByteArray → Int → Int → Bool → Bool → Int → Int → Bool → Bool → List (S28) → Option ((List (S28)))
 | 0, _, _, _, _, _, _, _, _, _, _, _, _, _, _, _, _ => none
 | k + 1, x3, x4, x102000, x102001, x102002, x102003, x102004, x102005, x102006, x102007, x102008, x102009, x102010, x102011, x102012, x102013 => if x4 < (x102013.length : Int) then (if 0 ≤ x4 then ((oculusref22_List.f k ((rd_T28 x102013 x4).f0) ((rd_T28 x102013 x4).f1) ((rd_T28 x102013 x4).f2.f0) ((rd_T28 x102013 x4).f2.f1) ((rd_T28 x102013 x4).f2.f2) ((rd_T28 x102013 x4).f3.f0) ((rd_T28 x102013 x4).f3.f1) ((rd_T28 x102013 x4).f3.f2) ((rd_T28 x102013 x4).f3.f3) ((rd_T28 x102013 x4).f4.f0) ((rd_T28 x102013 x4).f4.f1) ((rd_T28 x102013 x4).f4.f2) ((rd_T28 x102013 x4).f4.f3) ((rd_T28 x102013 x4).f5)).bind fun t106 => (if x3.length + t106.length < 1172812402961 then (oculusref22_List.l0 k (x3 ++ t106) (wrap64 (x4 + 1)) x102000 x102001 x102002 x102003 x102004 x102005 x102006 x102007 x102008 x102009 x102010 x102011 x102012 x102013) else (none))) else (none)) else (some x3)
def oculusref22_List.f : Nat → Int → Int → Int → Int → ByteArray → Int → Int → Bool → Bool → Int → Int → Bool → Bool → List (S28) → Option ((List (S28)))
 | 0, _, _, _, _, _, _, _, _, _, _, _, _, _, _ => none
 | k + 1, a0_0, a0_1, a0_2, a0_3, a0_4, a0_5, a0_6, a0_7, a0_8, a0_9, a0_10, a0_11, a0_12, l0_13 => if ([] : List (S28)).length < 1172812402961 then (oculusref22_List.l0 k (([] : List (S28)) ++ [(⟨a0_0, a0_1, (⟨a0_2, a0_3, a0_4⟩ : S23), (⟨a0_5, a0_6, a0_7, a0_8⟩ : S25), (⟨a0_9, a0_10, a0_11, a0_12⟩ : S25), l0_13⟩ : S28)]) 0 a0_0 a0_1 a0_2 a0_3 a0_4 a0_5 a0_6 a0_7 a0_8 a0_9 a0_10 a0_11 a0_12 l0_13) else (none)
end
theorem oculusref22_List.calls (k : Nat) : ∀ (a0_0 : Int) (a0_1 : Int) (a0_2 : Int) (a0_3 : Int) (a0_4 : ByteArray) (a0_5 : Int) (a0_6 : Int) (a0_7 : Bool) (a0_8 : Bool) (a0_9 : Int) (a0_10 : Int) (a0_11 : Bool) (a0_12 : Bool) (P0_13_ : Nat → Prop) (A0_13 : Option Addr) (c0_13 : Nat) (l0_13 : List (S28)) (r : List (S28)) (w : World) (hs0_13 : Kd.V k28 28 w w.heap.size (fun k_ => P0_13_ k_) (.slice A0_13 l0_13.length c0_13) l0_13) (h : oculusref22_List.f k a0_0 a0_1 a0_2 a0_3 a0_4 a0_5 a0_6 a0_7 a0_8 a0_9 a0_10 a0_11 a0_12 l0_13 = some r),
  Calls Tryd.prog 9 #[.agg #[.int .i64 a0_0, .int .i64 a0_1, .int .i64 a0_2, .int .i64 a0_3, .string a0_4, .int .i64 a0_5, .int .i64 a0_6, .bool a0_7, .bool a0_8, .int .i64 a0_9, .int .i64 a0_10, .bool a0_11, .bool a0_12, .slice A0_13 l0_13.length c0_13]] w fun e w' => ∃ v0_ : Value, e = .returned (v0_) ∧ Kd.N k28 28 w' w.heap.size (fun k_ => (P0_13_ k_ ∨ w.heap.size ≤ k_)) v0_ r ∧ Below w.heap.size w w' := by
 induction k using Nat.strongRecOn with
 | _ k ih =>
 intro a0_0 a0_1 a0_2 a0_3 a0_4 a0_5 a0_6 a0_7 a0_8 a0_9 a0_10 a0_11 a0_12 P0_13_ A0_13 c0_13 l0_13 r w hs0_13 h
 cases k with
 | zero => exact absurd h (by simp [oculusref22_List.f])
 | succ k =>
 simp only [oculusref22_List.f] at h
 have hu28 := Tryd.underlying28; have HO0_13 := A_ (show Kd.V k28 28 w w.heap.size (fun k_ => (P0_13_ k_ ∨ w.heap.size ≤ k_)) (.slice A0_13 l0_13.length c0_13) l0_13 from Kd.V_mono hs0_13 (fun k_ hk => .inl hk)); have HB := A_ (Below.refl w.heap.size w)
 have H : (if ([] : List (S28)).length < 1172812402961 then (oculusref22_List.l0 k (([] : List (S28)) ++ [(⟨a0_0, a0_1, (⟨a0_2, a0_3, a0_4⟩ : S23), (⟨a0_5, a0_6, a0_7, a0_8⟩ : S25), (⟨a0_9, a0_10, a0_11, a0_12⟩ : S25), l0_13⟩ : S28)]) 0 a0_0 a0_1 a0_2 a0_3 a0_4 a0_5 a0_6 a0_7 a0_8 a0_9 a0_10 a0_11 a0_12 l0_13) else (none)) = some r := h
 clear h
 by_cases c2 : ([] : List (S28)).length < 1172812402961
 ·rw [if_pos c2] at H; have LMc2 := A_ c2; clear c2; obtain ⟨y102, hy102⟩ : ∃ y_ : List (S28), y_ = (([] : List (S28)) ++ [(⟨a0_0, a0_1, (⟨a0_2, a0_3, a0_4⟩ : S23), (⟨a0_5, a0_6, a0_7, a0_8⟩ : S25), (⟨a0_9, a0_10, a0_11, a0_12⟩ : S25), l0_13⟩ : S28)]) := ⟨_, rfl⟩
  replace H : (oculusref22_List.l0 k y102 0 a0_0 a0_1 a0_2 a0_3 a0_4 a0_5 a0_6 a0_7 a0_8 a0_9 a0_10 a0_11 a0_12 l0_13) = some r := by first | (rw [hy102]; with_reducible exact H) | (have H2_ := (Option.bind_some _ _).symm.trans H; rw [hy102]; with_reducible exact H2_) | (have H2_ := (Option.bind_some _ _).symm.trans H; with_reducible exact H2_) | with_reducible exact H | (rw [hy102]; exact H) | exact H
  have Ny102 := A_ hy102; clear hy102
  have H' := A_ H
  clear H
  go_enter Tryd.func9, Tryd.ntmps9
  go_wp2_with (first | ((with_reducible refine gd_ 1 ?_); refine be_ (N:=1) (cs := #[.int .i64 a0_0, .int .i64 a0_1, .int .i64 a0_2, .int .i64 a0_3, .string a0_4, .int .i64 a0_5, .int .i64 a0_6, .bool a0_7, .bool a0_8, .int .i64 a0_9, .int .i64 a0_10, .bool a0_11, .bool a0_12, .slice A0_13 l0_13.length c0_13]) (t:=28) ?_; intro g1 hg w3 hbox hb; have B1 := A_ (hbox); replace HO0_13 := A_ (Kd.V_below (Kd.V_elderB (va_ HO0_13.out) g1 (Nat.le_of_eq hg.symm)) hb); replace HB := bs_ HB hb; clear hb hbox hg; have hcz4_0 : w3.cell? ⟨g1, 0, none⟩ = some (.int .i64 a0_0) := bc_ B1 0 rfl; have hcz4_1 : w3.cell? ⟨g1, 1, none⟩ = some (.int .i64 a0_1) := bc_ B1 1 rfl; have hcz4_2 : w3.cell? ⟨g1, 2, none⟩ = some (.int .i64 a0_2) := bc_ B1 2 rfl; have hcz4_3 : w3.cell? ⟨g1, 3, none⟩ = some (.int .i64 a0_3) := bc_ B1 3 rfl; have hcz4_4 : w3.cell? ⟨g1, 4, none⟩ = some (.string a0_4) := bc_ B1 4 rfl; have hcz4_5 : w3.cell? ⟨g1, 5, none⟩ = some (.int .i64 a0_5) := bc_ B1 5 rfl; have hcz4_6 : w3.cell? ⟨g1, 6, none⟩ = some (.int .i64 a0_6) := bc_ B1 6 rfl; have hcz4_7 : w3.cell? ⟨g1, 7, none⟩ = some (.bool a0_7) := bc_ B1 7 rfl; have hcz4_8 : w3.cell? ⟨g1, 8, none⟩ = some (.bool a0_8) := bc_ B1 8 rfl; have hcz4_9 : w3.cell? ⟨g1, 9, none⟩ = some (.int .i64 a0_9) := bc_ B1 9 rfl; have hcz4_10 : w3.cell? ⟨g1, 10, none⟩ = some (.int .i64 a0_10) := bc_ B1 10 rfl; have hcz4_11 : w3.cell? ⟨g1, 11, none⟩ = some (.bool a0_11) := bc_ B1 11 rfl; have hcz4_12 : w3.cell? ⟨g1, 12, none⟩ = some (.bool a0_12) := bc_ B1 12 rfl; have hcz4_13 : w3.cell? ⟨g1, 13, none⟩ = some (.slice A0_13 l0_13.length c0_13) := bc_ B1 13 rfl) | ((with_reducible refine gate_builtin (b := .append) (xs := #[.tmp 5, .tmp 7]) rfl ?_); at_builtin; refine Kd.N_append k28 (w0 := w) w.heap.size rfl (.tmp 5) (.tmp 7) 26 28 (.agg #[(.int .i64 0), (.int .i64 0), (.int .i64 0), (.int .i64 0), (.string ⟨#[]⟩), (.int .i64 0), (.int .i64 0), (.bool false), (.bool false), (.int .i64 0), (.int .i64 0), (.bool false), (.bool false), (.slice none 0 0)]) 120 rfl Tryd.underlying26 info28 rfl (by decide) (by omega) (.slice none 0 0) ([] : List (S28)) (⟨a0_0, a0_1, (⟨a0_2, a0_3, a0_4⟩ : S23), (⟨a0_5, a0_6, a0_7, a0_8⟩ : S25), (⟨a0_9, a0_10, a0_11, a0_12⟩ : S25), l0_13⟩ : S28) [.int .i64 a0_0, .int .i64 a0_1, .int .i64 a0_2, .int .i64 a0_3, .string a0_4, .int .i64 a0_5, .int .i64 a0_6, .bool a0_7, .bool a0_8, .int .i64 a0_9, .int .i64 a0_10, .bool a0_11, .bool a0_12, .slice A0_13 l0_13.length c0_13] (fun k_ => (P0_13_ k_ ∨ w.heap.size ≤ k_) ∧ k_ ≠ g1) (fun k_ => ((fun k_ => (P0_13_ k_ ∨ w.heap.size ≤ k_) ∧ k_ ≠ g1)) k_ ∧ some k_ ≠ (.slice none 0 0 : Value).ownBlock) rfl rfl ?aP (fun _ hk => hk) ?aF ?aO ?aB ?aS ?aL ?_; (case aP => exact (k28_mkF _ _ (⟨a0_0, a0_1, (⟨a0_2, a0_3, a0_4⟩ : S23), (⟨a0_5, a0_6, a0_7, a0_8⟩ : S25), (⟨a0_9, a0_10, a0_11, a0_12⟩ : S25), l0_13⟩ : S28) (Kd.V_reads' (Kd.V_mono (ok' := (fun k_ => ((fun k_ => (P0_13_ k_ ∨ w.heap.size ≤ k_) ∧ k_ ≠ g1)) k_ ∧ some k_ ≠ (.slice none 0 0 : Value).ownBlock)) (HO0_13.out) (fun k_ hk => ⟨⟨hk.1, hk.2⟩, (by simp [Value.ownBlock])⟩))).2.1 (Kd.V_F (Kd.V_mono (ok' := (fun k_ => ((fun k_ => (P0_13_ k_ ∨ w.heap.size ≤ k_) ∧ k_ ≠ g1)) k_ ∧ some k_ ≠ (.slice none 0 0 : Value).ownBlock)) (HO0_13.out) (fun k_ hk => ⟨⟨hk.1, hk.2⟩, (by simp [Value.ownBlock])⟩))))); (case aB => exact (pbx HB)); (case aF => exact (fun k_ hk => ⟨(.inr (Nat.le_trans (below_size (pbx HB)) hk)), Kd.freshB (pkx B1) k_ hk⟩)); (case aO => exact ((Kd.N_nil _ _ _ _ (fun k_ => (P0_13_ k_ ∨ w.heap.size ≤ k_) ∧ k_ ≠ g1)))); (case aS => exact (below_size (pbx HB))); (case aL => have := LMc2.out; omega); intro v103 w5 ho hb hg hat; rw [← Ny102.out] at ho; have HO104 := A_ (ho); replace HO0_13 := A_ (Kd.V_afterv (Kd.V_apart_nil (va_ HO0_13.out)) hg hat); replace B1 := A_ (blk_grown (pkx B1) hg (by simp [Value.ownBlock])); replace HB := A_ (hb); clear ho hb hg hat))
  go_loopg [3, 4] k (fun kq v3 v4 w' => ∃ (x3_1 : List (S28)) (x4_1 : Int), v4 = .int .i64 x4_1 ∧ Aside0 (oculusref22_List.l0 kq x3_1 x4_1 a0_0 a0_1 a0_2 a0_3 a0_4 a0_5 a0_6 a0_7 a0_8 a0_9 a0_10 a0_11 a0_12 l0_13 = some r) ∧ Aside0 (kq ≤ k) ∧ Aside0 (Kd.N k28 28 w' w.heap.size (fun k_ => (P0_13_ k_ ∨ w.heap.size ≤ k_) ∧ k_ ≠ g1) v3 x3_1) ∧ Aside0 (Kd.V k28 28 w' w.heap.size (fun k_ => (P0_13_ k_ ∨ w.heap.size ≤ k_) ∧ some k_ ≠ (v3 : Value).ownBlock ∧ k_ ≠ g1) (.slice A0_13 l0_13.length c0_13) l0_13) ∧ Aside0 (w'.heap[g1]? = some (.cells #[.int .i64 a0_0, .int .i64 a0_1, .int .i64 a0_2, .int .i64 a0_3, .string a0_4, .int .i64 a0_5, .int .i64 a0_6, .bool a0_7, .bool a0_8, .int .i64 a0_9, .int .i64 a0_10, .bool a0_11, .bool a0_12, (.slice A0_13 l0_13.length c0_13)] 28 (0, 0))) ∧ Aside0 (Below w.heap.size w w'))
  case atStart => exact ⟨(y102), (0), sq_, H', ⟨Nat.le_refl _⟩, ⟨by (with_reducible repeat (first | apply Kd.N_alloc | apply Kd.N_drewN | apply Kd.N_drew)); exact HO104.out⟩, ⟨by (with_reducible repeat (first | apply Kd.V_alloc | apply Kd.V_drewN | apply Kd.V_drew)); exact Kd.V_mono HO0_13.out (fun _ hk => ⟨hk.1.1, ⟨hk.2, hk.1.2⟩⟩)⟩, ⟨pkx B1⟩, ⟨pbx HB⟩⟩
  case round =>
   clear H'; (try clear c2); (try clear hcz4_0); (try clear hcz4_1); (try clear hcz4_10); (try clear hcz4_11); (try clear hcz4_12); (try clear hcz4_13); (try clear hcz4_2); (try clear hcz4_3); (try clear hcz4_4); (try clear hcz4_5); (try clear hcz4_6); (try clear hcz4_7); (try clear hcz4_8); (try clear hcz4_9); obtain ⟨x3_1, x4_1, rfl, HA, HK1, HO_3, HO_102013, B1, HB⟩ := hrel
   cases gk with
   | zero => exact absurd HA.out (by simp [oculusref22_List.l0])
   | succ k1 =>
    have H := HA.out; clear HA
    simp only [oculusref22_List.l0] at H
    by_cases c6 : x4_1 < (l0_13.length : Int)
    ·rw [if_pos c6] at H; have c6b0 := decide_eq_true c6; clear c6
     by_cases c7 : 0 ≤ x4_1
     ·rw [if_pos c7] at H; have c7b0 := decide_eq_true c7; clear c7; obtain ⟨t106, A8, H⟩ := bo_ H
      by_cases c9 : x3_1.length + t106.length < 1172812402961
      ·rw [if_pos c9] at H; have LMc9 := A_ c9; clear c9; obtain ⟨y109, hy109⟩ : ∃ y_ : List (S28), y_ = (x3_1 ++ t106) := ⟨_, rfl⟩
       replace H : (oculusref22_List.l0 k1 y109 (wrap64 (x4_1 + 1)) a0_0 a0_1 a0_2 a0_3 a0_4 a0_5 a0_6 a0_7 a0_8 a0_9 a0_10 a0_11 a0_12 l0_13) = some r := by first | (rw [hy109]; with_reducible exact H) | (have H2_ := (Option.bind_some _ _).symm.trans H; rw [hy109]; with_reducible exact H2_) | (have H2_ := (Option.bind_some _ _).symm.trans H; with_reducible exact H2_) | with_reducible exact H | (rw [hy109]; exact H) | exact H
       have Ny109 := A_ hy109; clear hy109
       have H' := A_ H
       clear H
       have hcz10_0 : wr.cell? ⟨g1, 0, none⟩ = some (.int .i64 a0_0) := bc_ B1 0 rfl
       have hcz10_1 : wr.cell? ⟨g1, 1, none⟩ = some (.int .i64 a0_1) := bc_ B1 1 rfl
       have hcz10_2 : wr.cell? ⟨g1, 2, none⟩ = some (.int .i64 a0_2) := bc_ B1 2 rfl
       have hcz10_3 : wr.cell? ⟨g1, 3, none⟩ = some (.int .i64 a0_3) := bc_ B1 3 rfl
       have hcz10_4 : wr.cell? ⟨g1, 4, none⟩ = some (.string a0_4) := bc_ B1 4 rfl
       have hcz10_5 : wr.cell? ⟨g1, 5, none⟩ = some (.int .i64 a0_5) := bc_ B1 5 rfl
       have hcz10_6 : wr.cell? ⟨g1, 6, none⟩ = some (.int .i64 a0_6) := bc_ B1 6 rfl
       have hcz10_7 : wr.cell? ⟨g1, 7, none⟩ = some (.bool a0_7) := bc_ B1 7 rfl
       have hcz10_8 : wr.cell? ⟨g1, 8, none⟩ = some (.bool a0_8) := bc_ B1 8 rfl
       have hcz10_9 : wr.cell? ⟨g1, 9, none⟩ = some (.int .i64 a0_9) := bc_ B1 9 rfl
       have hcz10_10 : wr.cell? ⟨g1, 10, none⟩ = some (.int .i64 a0_10) := bc_ B1 10 rfl
       have hcz10_11 : wr.cell? ⟨g1, 11, none⟩ = some (.bool a0_11) := bc_ B1 11 rfl
       have hcz10_12 : wr.cell? ⟨g1, 12, none⟩ = some (.bool a0_12) := bc_ B1 12 rfl
       have hcz10_13 : wr.cell? ⟨g1, 13, none⟩ = some (.slice A0_13 l0_13.length c0_13) := bc_ B1 13 rfl
       have p105 : 0 ≤ (x4_1 : Int) := of_decide_eq_true as_
       have q105 : x4_1 < (l0_13.length : Int) := of_decide_eq_true as_
       obtain ⟨ad105, A105_13, c105_13, e105, hx105_0, hx105_1, hx105_2, hx105_3, hx105_4, hx105_5, hx105_6, hx105_7, hx105_8, hx105_9, hx105_10, hx105_11, hx105_12, hx105_13, hl105_13, hi105_13⟩ := at_T28 (Kd.V_reads' HO_102013.out).2.2 x4_1 p105 q105
       cases e105
       obtain ⟨ce105, hce105, hMe105, hcc105⟩ := Kd.V_get HO_102013.out z28 x4_1 p105 (by first | exact q105 | exact of_decide_eq_true as_ | (have e_ := (Kd.V_reads' HO_102013.out).1; omega)); obtain ⟨ua105_13, uc105_13, rfl, ul105_13, ge105_13⟩ := k28_openF hMe105; have hv105_13 := hcc105 13 _ rfl; rw [add_field _ _ 13 (by omega)] at hv105_13; replace hv105_13 := Option.some.inj (hv105_13.symm.trans hx105_13)
       injection hv105_13 with hva_ hvn_ hvc_
       rw [hva_] at ge105_13; rw [hvc_] at ul105_13; have HL105_13 := A_ (show Kd.V k28 28 _ w.heap.size _ _ ((rd_T28 l0_13 x4_1).f5) from Kd.V_mk ul105_13 ge105_13); clear hva_ hvn_ hvc_ ge105_13 ul105_13; clear hcc105 hce105; have HR105_13 := A_ hi105_13; have HC105_13 := A_ hl105_13; clear hi105_13 hl105_13; replace p105 := eq_true p105; replace q105 := eq_true q105
       go_wp2_with (first | ((with_reducible refine gate_callee (f:=9) rfl ?_); refine gL_ (some 22) rfl rfl Tryd.func9 rfl #[.agg #[.int .i64 ((rd_T28 l0_13 x4_1).f0), .int .i64 ((rd_T28 l0_13 x4_1).f1), .int .i64 ((rd_T28 l0_13 x4_1).f2.f0), .int .i64 ((rd_T28 l0_13 x4_1).f2.f1), .string ((rd_T28 l0_13 x4_1).f2.f2), .int .i64 ((rd_T28 l0_13 x4_1).f3.f0), .int .i64 ((rd_T28 l0_13 x4_1).f3.f1), .bool ((rd_T28 l0_13 x4_1).f3.f2), .bool ((rd_T28 l0_13 x4_1).f3.f3), .int .i64 ((rd_T28 l0_13 x4_1).f4.f0), .int .i64 ((rd_T28 l0_13 x4_1).f4.f1), .bool ((rd_T28 l0_13 x4_1).f4.f2), .bool ((rd_T28 l0_13 x4_1).f4.f3), .slice A105_13 ((rd_T28 l0_13 x4_1).f5).length c105_13]] rfl ?_; (with_reducible refine (ih k1 (by have := HK1.out; omega) ((rd_T28 l0_13 x4_1).f0) ((rd_T28 l0_13 x4_1).f1) ((rd_T28 l0_13 x4_1).f2.f0) ((rd_T28 l0_13 x4_1).f2.f1) ((rd_T28 l0_13 x4_1).f2.f2) ((rd_T28 l0_13 x4_1).f3.f0) ((rd_T28 l0_13 x4_1).f3.f1) ((rd_T28 l0_13 x4_1).f3.f2) ((rd_T28 l0_13 x4_1).f3.f3) ((rd_T28 l0_13 x4_1).f4.f0) ((rd_T28 l0_13 x4_1).f4.f1) ((rd_T28 l0_13 x4_1).f4.f2) ((rd_T28 l0_13 x4_1).f4.f3) (fun k_ => ((P0_13_ k_ ∨ w.heap.size ≤ k_) ∧ (some k_ ≠ (u3 : Value).ownBlock ∧ k_ ≠ g1))) _ _ ((rd_T28 l0_13 x4_1).f5) t106 _ ?side1 A8.out).mono ?_); (case side1 => exact HL105_13.out); rintro e w11 ⟨v107, rfl, ho0, hb⟩; refine ⟨_, rfl, ?_⟩; have HO108 := A_ (Kd.N_lower (Kd.N_mono (ok' := fun k_ => (P0_13_ k_ ∨ w.heap.size ≤ k_) ∧ some k_ ≠ (u3 : Value).ownBlock ∧ k_ ≠ g1) ho0 (fun k_ hk_ => ⟨Or.elim hk_ (fun hs_ => hs_.1) (fun hn_ => (.inr (Nat.le_trans (below_size (pbx HB)) hn_))), Or.elim hk_ (fun hs_ => hs_.2.1) (fun hn_ => (Kd.fresh' (Kd.N_lt (by (with_reducible repeat (first | apply Kd.N_alloc | apply Kd.N_drewN | apply Kd.N_drew)); exact HO_3.out)) k_ hn_)), Or.elim hk_ (fun hs_ => hs_.2.2) (fun hn_ => (Kd.freshB (pkx B1) k_ hn_))⟩)) (below_size (pbx HB))); replace HO_3 := A_ (Kd.N_elder' (by (with_reducible repeat (first | apply Kd.N_alloc | apply Kd.N_drewN | apply Kd.N_drew)); exact HO_3.out) (Kd.N_base ho0) hb); replace HO_102013 := A_ (Kd.V_elder' (va_ HO_102013.out) (Kd.N_base ho0) hb); replace HL105_13 := A_ (Kd.V_elder' (by (with_reducible repeat (first | apply Kd.V_alloc | apply Kd.V_drewN | apply Kd.V_drew)); exact HL105_13.out) (Kd.N_base ho0) hb); replace B1 := bb_ B1 hb; replace HR105_13 := A_ (Kd.C_below (by repeat (first | (with_reducible exact HR105_13.out) | (with_reducible refine Kd.C_alloc ?_ _) | (with_reducible refine Kd.C_drewN ?_ _) | (with_reducible refine Kd.C_drew ?_) | exact HR105_13.out)) hb); replace HB := bs_ HB hb; (try clear hb); (try clear hk); obtain ⟨Ao13, co13, eo13⟩ := Kd.N_slice HO108.out; subst eo13) | ((with_reducible refine gate_builtin (b := .append) (xs := #[.tmp 16, .tmp 22]) rfl ?_); at_builtin; refine Kd.N_append_rows k28 (w0 := w) w.heap.size rfl (.tmp 16) (.tmp 22) 26 28 (.agg #[(.int .i64 0), (.int .i64 0), (.int .i64 0), (.int .i64 0), (.string ⟨#[]⟩), (.int .i64 0), (.int .i64 0), (.bool false), (.bool false), (.int .i64 0), (.int .i64 0), (.bool false), (.bool false), (.slice none 0 0)]) 120 rfl Tryd.underlying26 info28 rfl (by decide) (by omega) u3 x3_1 t106 _ _ _ (fun k_ => (P0_13_ k_ ∨ w.heap.size ≤ k_) ∧ k_ ≠ g1) (fun k_ => ((fun k_ => (P0_13_ k_ ∨ w.heap.size ≤ k_) ∧ k_ ≠ g1)) k_ ∧ some k_ ≠ (u3 : Value).ownBlock) rfl rfl ?aO ?aR (fun _ hk => hk) ?aF ?aB ?aS ?aL ?_; (case aR => exact (by skip; exact Kd.N_F (Kd.N_mono (ok' := (fun k_ => ((fun k_ => (P0_13_ k_ ∨ w.heap.size ≤ k_) ∧ k_ ≠ g1)) k_ ∧ some k_ ≠ (u3 : Value).ownBlock)) (HO108.out) (fun k_ hk => ⟨⟨hk.1, hk.2.2⟩, hk.2.1⟩)))); (case aB => exact (pbx HB)); (case aF => exact (fun k_ hk => ⟨(.inr (Nat.le_trans (below_size (pbx HB)) hk)), Kd.freshB (pkx B1) k_ hk⟩)); (case aO => exact (by (with_reducible repeat (first | apply Kd.N_alloc | apply Kd.N_drewN | apply Kd.N_drew)); exact Kd.N_mono HO_3.out (fun _ hk => ⟨hk.1.1, hk.1.2⟩))); (case aS => exact (below_size (pbx HB))); (case aL => have := LMc9.out; omega); intro v110 w12 ho hb hg hat; rw [← Ny109.out] at ho; have HO111 := A_ (ho); replace HO_102013 := A_ (Kd.V_afterv (ok := (fun k_ => (P0_13_ k_ ∨ w.heap.size ≤ k_) ∧ some k_ ≠ (.slice Ao13 t106.length co13 : Value).ownBlock ∧ k_ ≠ g1)) (by (with_reducible repeat (first | apply Kd.V_alloc | apply Kd.V_drewN | apply Kd.V_drew)); exact Kd.V_mono HO_102013.out (fun _ hk => ⟨⟨hk.1.1, ⟨hk.2, hk.1.2.2⟩⟩, hk.1.2.1⟩)) hg hat); replace B1 := A_ (blk_grown (pkx B1) hg (Kd.N_away HO_3.out (fun _ hk => hk.1.2))); replace HL105_13 := A_ (Kd.V_afterv (ok := (fun k_ => (P0_13_ k_ ∨ w.heap.size ≤ k_) ∧ some k_ ≠ (.slice Ao13 t106.length co13 : Value).ownBlock ∧ k_ ≠ g1)) (by (with_reducible repeat (first | apply Kd.V_alloc | apply Kd.V_drewN | apply Kd.V_drew)); exact Kd.V_mono HL105_13.out (fun _ hk => ⟨⟨hk.1.1, ⟨hk.2, hk.1.2.2⟩⟩, hk.1.2.1⟩)) hg hat); replace HO108 := A_ (Kd.N_afterv (ok := (fun k_ => (P0_13_ k_ ∨ w.heap.size ≤ k_) ∧ k_ ≠ g1)) (by (with_reducible repeat (first | apply Kd.N_alloc | apply Kd.N_drewN | apply Kd.N_drew)); exact Kd.N_mono HO108.out (fun _ hk => ⟨⟨hk.1, hk.2.2⟩, hk.2.1⟩)) hg hat); replace HB := A_ (hb); clear HO_3; clear ho hb hg hat))
       go_roundg k1
       case measure => have := HK1.out; omega
       case rel => exact ⟨(y109), (wrap64 (x4_1 + 1)), sq_, H', ⟨by have := HK1.out; omega⟩, ⟨by (with_reducible repeat (first | apply Kd.N_alloc | apply Kd.N_drewN | apply Kd.N_drew)); exact HO111.out⟩, ⟨by (with_reducible repeat (first | apply Kd.V_alloc | apply Kd.V_drewN | apply Kd.V_drew)); exact Kd.V_mono HO_102013.out (fun _ hk => ⟨hk.1.1, ⟨hk.2, hk.1.2.2⟩⟩)⟩, ⟨pkx B1⟩, ⟨pbx HB⟩⟩
      ·rw [if_neg c9] at H
       exact absurd H (by simp)
     ·rw [if_neg c7] at H
      exact absurd H (by simp)
    ·rw [if_neg c6] at H; have c6b0 := decide_eq_false c6; clear c6; obtain rfl := Option.some.inj H
     have hcz14_0 : wr.cell? ⟨g1, 0, none⟩ = some (.int .i64 a0_0) := bc_ B1 0 rfl
     have hcz14_1 : wr.cell? ⟨g1, 1, none⟩ = some (.int .i64 a0_1) := bc_ B1 1 rfl
     have hcz14_2 : wr.cell? ⟨g1, 2, none⟩ = some (.int .i64 a0_2) := bc_ B1 2 rfl
     have hcz14_3 : wr.cell? ⟨g1, 3, none⟩ = some (.int .i64 a0_3) := bc_ B1 3 rfl
     have hcz14_4 : wr.cell? ⟨g1, 4, none⟩ = some (.string a0_4) := bc_ B1 4 rfl
     have hcz14_5 : wr.cell? ⟨g1, 5, none⟩ = some (.int .i64 a0_5) := bc_ B1 5 rfl
     have hcz14_6 : wr.cell? ⟨g1, 6, none⟩ = some (.int .i64 a0_6) := bc_ B1 6 rfl
     have hcz14_7 : wr.cell? ⟨g1, 7, none⟩ = some (.bool a0_7) := bc_ B1 7 rfl
     have hcz14_8 : wr.cell? ⟨g1, 8, none⟩ = some (.bool a0_8) := bc_ B1 8 rfl
     have hcz14_9 : wr.cell? ⟨g1, 9, none⟩ = some (.int .i64 a0_9) := bc_ B1 9 rfl
     have hcz14_10 : wr.cell? ⟨g1, 10, none⟩ = some (.int .i64 a0_10) := bc_ B1 10 rfl
     have hcz14_11 : wr.cell? ⟨g1, 11, none⟩ = some (.bool a0_11) := bc_ B1 11 rfl
     have hcz14_12 : wr.cell? ⟨g1, 12, none⟩ = some (.bool a0_12) := bc_ B1 12 rfl
     have hcz14_13 : wr.cell? ⟨g1, 13, none⟩ = some (.slice A0_13 l0_13.length c0_13) := bc_ B1 13 rfl
     go_wp2
     go_ret
     exact ⟨_, by first | rfl | (simp [errW_none, errW_some] <;> rfl) | (simp [*, errW_none, errW_some] <;> rfl), by (with_reducible repeat (first | apply Kd.N_alloc | apply Kd.N_drewN | apply Kd.N_drew)); exact Kd.N_mono HO_3.out (fun _ hk => hk.1), pbx HB⟩
 ·rw [if_neg c2] at H
  exact absurd H (by simp)

mutual
def oculusref22_Deep.l0 : Nat → Int → Int → Int → Int → Int → Int → ByteArray → Int → Int → Bool → Bool → Int → Int → Bool → Bool → List (S28) → Option (Int)
 | 0, _, _, _, _, _, _, _, _, _, _, _, _, _, _, _, _ => none
 | k + 1, x3, x4, x102000, x102001, x102002, x102003, x102004, x102005, x102006, x102007, x102008, x102009, x102010, x102011, x102012, x102013 => if x4 < (x102013.length : Int) then (if 0 ≤ x4 then ((oculusref22_Deep.f k ((rd_T28 x102013 x4).f0) ((rd_T28 x102013 x4).f1) ((rd_T28 x102013 x4).f2.f0) ((rd_T28 x102013 x4).f2.f1) ((rd_T28 x102013 x4).f2.f2) ((rd_T28 x102013 x4).f3.f0) ((rd_T28 x102013 x4).f3.f1) ((rd_T28 x102013 x4).f3.f2) ((rd_T28 x102013 x4).f3.f3) ((rd_T28 x102013 x4).f4.f0) ((rd_T28 x102013 x4).f4.f1) ((rd_T28 x102013 x4).f4.f2) ((rd_T28 x102013 x4).f4.f3) ((rd_T28 x102013 x4).f5)).bind fun t103 => (if (wrap64 (t103 + 1)) > x3 then (oculusref22_Deep.l0 k (wrap64 (t103 + 1)) (wrap64 (x4 + 1)) x102000 x102001 x102002 x102003 x102004 x102005 x102006 x102007 x102008 x102009 x102010 x102011 x102012 x102013) else (oculusref22_Deep.l0 k x3 (wrap64 (x4 + 1)) x102000 x102001 x102002 x102003 x102004 x102005 x102006 x102007 x102008 x102009 x102010 x102011 x102012 x102013))) else (none)) else (some x3)
def oculusref22_Deep.f : Nat → Int → Int → Int → Int → ByteArray → Int → Int → Bool → Bool → Int → Int → Bool → Bool → List (S28) → Option (Int)
 | 0, _, _, _, _, _, _, _, _, _, _, _, _, _, _ => none
 | k + 1, a0_0, a0_1, a0_2, a0_3, a0_4, a0_5, a0_6, a0_7, a0_8, a0_9, a0_10, a0_11, a0_12, l0_13 => oculusref22_Deep.l0 k 1 0 a0_0 a0_1 a0_2 a0_3 a0_4 a0_5 a0_6 a0_7 a0_8 a0_9 a0_10 a0_11 a0_12 l0_13
end
theorem oculusref22_Deep.calls (k : Nat) : ∀ (a0_0 : Int) (a0_1 : Int) (a0_2 : Int) (a0_3 : Int) (a0_4 : ByteArray) (a0_5 : Int) (a0_6 : Int) (a0_7 : Bool) (a0_8 : Bool) (a0_9 : Int) (a0_10 : Int) (a0_11 : Bool) (a0_12 : Bool) (A0_13 : Option Addr) (c0_13 : Nat) (l0_13 : List (S28)) (r : Int) (w : World) (hr0_13 : Kd.C k28 w A0_13 l0_13.length l0_13) (hc0_13 : l0_13.length ≤ c0_13) (h : oculusref22_Deep.f k a0_0 a0_1 a0_2 a0_3 a0_4 a0_5 a0_6 a0_7 a0_8 a0_9 a0_10 a0_11 a0_12 l0_13 = some r),
  Calls Tryd.prog 12 #[.agg #[.int .i64 a0_0, .int .i64 a0_1, .int .i64 a0_2, .int .i64 a0_3, .string a0_4, .int .i64 a0_5, .int .i64 a0_6, .bool a0_7, .bool a0_8, .int .i64 a0_9, .int .i64 a0_10, .bool a0_11, .bool a0_12, .slice A0_13 l0_13.length c0_13]] w fun e w' => e = .returned (.int .i64 r) ∧ Below w.heap.size w w' := by
 induction k using Nat.strongRecOn with
 | _ k ih =>
 intro a0_0 a0_1 a0_2 a0_3 a0_4 a0_5 a0_6 a0_7 a0_8 a0_9 a0_10 a0_11 a0_12 A0_13 c0_13 l0_13 r w hr0_13 hc0_13 h
 cases k with
 | zero => exact absurd h (by simp [oculusref22_Deep.f])
 | succ k =>
 simp only [oculusref22_Deep.f] at h
 have hu28 := Tryd.underlying28; have HR0_13 := A_ hr0_13; have HC0_13 := A_ hc0_13; clear hr0_13 hc0_13; have HB := A_ (Below.refl w.heap.size w)
 have H : (oculusref22_Deep.l0 k 1 0 a0_0 a0_1 a0_2 a0_3 a0_4 a0_5 a0_6 a0_7 a0_8 a0_9 a0_10 a0_11 a0_12 l0_13) = some r := h
 clear h
 have H' := A_ H
 clear H
 go_enter Tryd.func12, Tryd.ntmps12
 go_wp2_with (first | ((with_reducible refine gd_ 1 ?_); refine be_ (N:=1) (cs := #[.int .i64 a0_0, .int .i64 a0_1, .int .i64 a0_2, .int .i64 a0_3, .string a0_4, .int .i64 a0_5, .int .i64 a0_6, .bool a0_7, .bool a0_8, .int .i64 a0_9, .int .i64 a0_10, .bool a0_11, .bool a0_12, .slice A0_13 l0_13.length c0_13]) (t:=28) ?_; intro g1 hg w2 hbox hb; have B1 := A_ (hbox); replace HB := bs_ HB hb; clear hb hbox hg))
 go_loopg [3, 4] k (fun kq v3 v4 w' => ∃ (x3_1 : Int) (x4_1 : Int), v3 = .int .i64 x3_1 ∧ v4 = .int .i64 x4_1 ∧ Aside0 (oculusref22_Deep.l0 kq x3_1 x4_1 a0_0 a0_1 a0_2 a0_3 a0_4 a0_5 a0_6 a0_7 a0_8 a0_9 a0_10 a0_11 a0_12 l0_13 = some r) ∧ Aside0 (kq ≤ k) ∧ Aside0 (w'.heap[g1]? = some (.cells #[.int .i64 a0_0, .int .i64 a0_1, .int .i64 a0_2, .int .i64 a0_3, .string a0_4, .int .i64 a0_5, .int .i64 a0_6, .bool a0_7, .bool a0_8, .int .i64 a0_9, .int .i64 a0_10, .bool a0_11, .bool a0_12, (.slice A0_13 l0_13.length c0_13)] 28 (0, 0))) ∧ Aside0 (Below w.heap.size w w'))
 case atStart => exact ⟨(1), (0), sq_, sq_, H', ⟨Nat.le_refl _⟩, ⟨pkx B1⟩, ⟨pbx HB⟩⟩
 case round =>
  clear H'; obtain ⟨x3_1, x4_1, rfl, rfl, HA, HK1, B1, HB⟩ := hrel
  cases gk with
  | zero => exact absurd HA.out (by simp [oculusref22_Deep.l0])
  | succ k1 =>
   have H := HA.out; clear HA
   simp only [oculusref22_Deep.l0] at H
   by_cases c3 : x4_1 < (l0_13.length : Int)
   ·rw [if_pos c3] at H; have c3b0 := decide_eq_true c3; clear c3
    by_cases c4 : 0 ≤ x4_1
    ·rw [if_pos c4] at H; have c4b0 := decide_eq_true c4; clear c4; obtain ⟨t103, A5, H⟩ := bo_ H
     by_cases c6 : (wrap64 (t103 + 1)) > x3_1
     ·rw [if_pos c6] at H; have c6b0 := decide_eq_true c6; clear c6
      have H' := A_ H
      clear H
      have hcz7_0 : wr.cell? ⟨g1, 0, none⟩ = some (.int .i64 a0_0) := bc_ B1 0 rfl
      have hcz7_1 : wr.cell? ⟨g1, 1, none⟩ = some (.int .i64 a0_1) := bc_ B1 1 rfl
      have hcz7_2 : wr.cell? ⟨g1, 2, none⟩ = some (.int .i64 a0_2) := bc_ B1 2 rfl
      have hcz7_3 : wr.cell? ⟨g1, 3, none⟩ = some (.int .i64 a0_3) := bc_ B1 3 rfl
      have hcz7_4 : wr.cell? ⟨g1, 4, none⟩ = some (.string a0_4) := bc_ B1 4 rfl
      have hcz7_5 : wr.cell? ⟨g1, 5, none⟩ = some (.int .i64 a0_5) := bc_ B1 5 rfl
      have hcz7_6 : wr.cell? ⟨g1, 6, none⟩ = some (.int .i64 a0_6) := bc_ B1 6 rfl
      have hcz7_7 : wr.cell? ⟨g1, 7, none⟩ = some (.bool a0_7) := bc_ B1 7 rfl
      have hcz7_8 : wr.cell? ⟨g1, 8, none⟩ = some (.bool a0_8) := bc_ B1 8 rfl
      have hcz7_9 : wr.cell? ⟨g1, 9, none⟩ = some (.int .i64 a0_9) := bc_ B1 9 rfl
      have hcz7_10 : wr.cell? ⟨g1, 10, none⟩ = some (.int .i64 a0_10) := bc_ B1 10 rfl
      have hcz7_11 : wr.cell? ⟨g1, 11, none⟩ = some (.bool a0_11) := bc_ B1 11 rfl
      have hcz7_12 : wr.cell? ⟨g1, 12, none⟩ = some (.bool a0_12) := bc_ B1 12 rfl
      have hcz7_13 : wr.cell? ⟨g1, 13, none⟩ = some (.slice A0_13 l0_13.length c0_13) := bc_ B1 13 rfl
      have p102 : 0 ≤ (x4_1 : Int) := of_decide_eq_true as_
      have q102 : x4_1 < (l0_13.length : Int) := of_decide_eq_true as_
      obtain ⟨ad102, A102_13, c102_13, e102, hx102_0, hx102_1, hx102_2, hx102_3, hx102_4, hx102_5, hx102_6, hx102_7, hx102_8, hx102_9, hx102_10, hx102_11, hx102_12, hx102_13, hl102_13, hi102_13⟩ := at_T28 HR0_13.out x4_1 p102 q102
      cases e102
      replace hx102_0 := (HB.out.cell (World.block_lt_of_cell? w _ hx102_0)).trans hx102_0; replace hx102_1 := (HB.out.cell (World.block_lt_of_cell? w _ hx102_1)).trans hx102_1; replace hx102_2 := (HB.out.cell (World.block_lt_of_cell? w _ hx102_2)).trans hx102_2; replace hx102_3 := (HB.out.cell (World.block_lt_of_cell? w _ hx102_3)).trans hx102_3; replace hx102_4 := (HB.out.cell (World.block_lt_of_cell? w _ hx102_4)).trans hx102_4; replace hx102_5 := (HB.out.cell (World.block_lt_of_cell? w _ hx102_5)).trans hx102_5; replace hx102_6 := (HB.out.cell (World.block_lt_of_cell? w _ hx102_6)).trans hx102_6; replace hx102_7 := (HB.out.cell (World.block_lt_of_cell? w _ hx102_7)).trans hx102_7; replace hx102_8 := (HB.out.cell (World.block_lt_of_cell? w _ hx102_8)).trans hx102_8; replace hx102_9 := (HB.out.cell (World.block_lt_of_cell? w _ hx102_9)).trans hx102_9; replace hx102_10 := (HB.out.cell (World.block_lt_of_cell? w _ hx102_10)).trans hx102_10
      replace hx102_11 := (HB.out.cell (World.block_lt_of_cell? w _ hx102_11)).trans hx102_11; replace hx102_12 := (HB.out.cell (World.block_lt_of_cell? w _ hx102_12)).trans hx102_12; replace hx102_13 := (HB.out.cell (World.block_lt_of_cell? w _ hx102_13)).trans hx102_13; have HR102_13 := A_ hi102_13; have HC102_13 := A_ hl102_13; clear hi102_13 hl102_13; replace p102 := eq_true p102; replace q102 := eq_true q102
      go_wp2_with (first | ((with_reducible refine gate_callee (f:=12) rfl ?_); refine gL_ (some 18) rfl rfl Tryd.func12 rfl #[.agg #[.int .i64 ((rd_T28 l0_13 x4_1).f0), .int .i64 ((rd_T28 l0_13 x4_1).f1), .int .i64 ((rd_T28 l0_13 x4_1).f2.f0), .int .i64 ((rd_T28 l0_13 x4_1).f2.f1), .string ((rd_T28 l0_13 x4_1).f2.f2), .int .i64 ((rd_T28 l0_13 x4_1).f3.f0), .int .i64 ((rd_T28 l0_13 x4_1).f3.f1), .bool ((rd_T28 l0_13 x4_1).f3.f2), .bool ((rd_T28 l0_13 x4_1).f3.f3), .int .i64 ((rd_T28 l0_13 x4_1).f4.f0), .int .i64 ((rd_T28 l0_13 x4_1).f4.f1), .bool ((rd_T28 l0_13 x4_1).f4.f2), .bool ((rd_T28 l0_13 x4_1).f4.f3), .slice A102_13 ((rd_T28 l0_13 x4_1).f5).length c102_13]] rfl ?_; (with_reducible refine (ih k1 (by have := HK1.out; omega) ((rd_T28 l0_13 x4_1).f0) ((rd_T28 l0_13 x4_1).f1) ((rd_T28 l0_13 x4_1).f2.f0) ((rd_T28 l0_13 x4_1).f2.f1) ((rd_T28 l0_13 x4_1).f2.f2) ((rd_T28 l0_13 x4_1).f3.f0) ((rd_T28 l0_13 x4_1).f3.f1) ((rd_T28 l0_13 x4_1).f3.f2) ((rd_T28 l0_13 x4_1).f3.f3) ((rd_T28 l0_13 x4_1).f4.f0) ((rd_T28 l0_13 x4_1).f4.f1) ((rd_T28 l0_13 x4_1).f4.f2) ((rd_T28 l0_13 x4_1).f4.f3) _ _ ((rd_T28 l0_13 x4_1).f5) t103 _ ?side1 ?side2 A5.out).mono ?_); (case side1 => exact ca_ (Kd.C_below HR102_13.out HB.out)); (case side2 => exact HC102_13.out); rintro e w8 ⟨rfl, hb⟩; refine ⟨_, rfl, ?_⟩; replace B1 := bb_ B1 hb; replace HB := bs_ HB hb; (try clear hb); ))
      go_roundg k1
      case measure => have := HK1.out; omega
      case rel => exact ⟨(wrap64 (t103 + 1)), (wrap64 (x4_1 + 1)), (by first | rfl | (simp; done) | (simp [*]; done) | (cases t103 <;> simp; done)), sq_, H', ⟨by have := HK1.out; omega⟩, ⟨pkx B1⟩, ⟨pbx HB⟩⟩
     ·rw [if_neg c6] at H; have c6b0 := decide_eq_false c6; clear c6
      have H' := A_ H
      clear H
      have hcz9_0 : wr.cell? ⟨g1, 0, none⟩ = some (.int .i64 a0_0) := bc_ B1 0 rfl
      have hcz9_1 : wr.cell? ⟨g1, 1, none⟩ = some (.int .i64 a0_1) := bc_ B1 1 rfl
      have hcz9_2 : wr.cell? ⟨g1, 2, none⟩ = some (.int .i64 a0_2) := bc_ B1 2 rfl
      have hcz9_3 : wr.cell? ⟨g1, 3, none⟩ = some (.int .i64 a0_3) := bc_ B1 3 rfl
      have hcz9_4 : wr.cell? ⟨g1, 4, none⟩ = some (.string a0_4) := bc_ B1 4 rfl
      have hcz9_5 : wr.cell? ⟨g1, 5, none⟩ = some (.int .i64 a0_5) := bc_ B1 5 rfl
      have hcz9_6 : wr.cell? ⟨g1, 6, none⟩ = some (.int .i64 a0_6) := bc_ B1 6 rfl
      have hcz9_7 : wr.cell? ⟨g1, 7, none⟩ = some (.bool a0_7) := bc_ B1 7 rfl
      have hcz9_8 : wr.cell? ⟨g1, 8, none⟩ = some (.bool a0_8) := bc_ B1 8 rfl
      have hcz9_9 : wr.cell? ⟨g1, 9, none⟩ = some (.int .i64 a0_9) := bc_ B1 9 rfl
      have hcz9_10 : wr.cell? ⟨g1, 10, none⟩ = some (.int .i64 a0_10) := bc_ B1 10 rfl
      have hcz9_11 : wr.cell? ⟨g1, 11, none⟩ = some (.bool a0_11) := bc_ B1 11 rfl
      have hcz9_12 : wr.cell? ⟨g1, 12, none⟩ = some (.bool a0_12) := bc_ B1 12 rfl
      have hcz9_13 : wr.cell? ⟨g1, 13, none⟩ = some (.slice A0_13 l0_13.length c0_13) := bc_ B1 13 rfl
      have p102 : 0 ≤ (x4_1 : Int) := of_decide_eq_true as_
      have q102 : x4_1 < (l0_13.length : Int) := of_decide_eq_true as_
      obtain ⟨ad102, A102_13, c102_13, e102, hx102_0, hx102_1, hx102_2, hx102_3, hx102_4, hx102_5, hx102_6, hx102_7, hx102_8, hx102_9, hx102_10, hx102_11, hx102_12, hx102_13, hl102_13, hi102_13⟩ := at_T28 HR0_13.out x4_1 p102 q102
      cases e102
      replace hx102_0 := (HB.out.cell (World.block_lt_of_cell? w _ hx102_0)).trans hx102_0; replace hx102_1 := (HB.out.cell (World.block_lt_of_cell? w _ hx102_1)).trans hx102_1; replace hx102_2 := (HB.out.cell (World.block_lt_of_cell? w _ hx102_2)).trans hx102_2; replace hx102_3 := (HB.out.cell (World.block_lt_of_cell? w _ hx102_3)).trans hx102_3; replace hx102_4 := (HB.out.cell (World.block_lt_of_cell? w _ hx102_4)).trans hx102_4; replace hx102_5 := (HB.out.cell (World.block_lt_of_cell? w _ hx102_5)).trans hx102_5; replace hx102_6 := (HB.out.cell (World.block_lt_of_cell? w _ hx102_6)).trans hx102_6; replace hx102_7 := (HB.out.cell (World.block_lt_of_cell? w _ hx102_7)).trans hx102_7; replace hx102_8 := (HB.out.cell (World.block_lt_of_cell? w _ hx102_8)).trans hx102_8; replace hx102_9 := (HB.out.cell (World.block_lt_of_cell? w _ hx102_9)).trans hx102_9; replace hx102_10 := (HB.out.cell (World.block_lt_of_cell? w _ hx102_10)).trans hx102_10
      replace hx102_11 := (HB.out.cell (World.block_lt_of_cell? w _ hx102_11)).trans hx102_11; replace hx102_12 := (HB.out.cell (World.block_lt_of_cell? w _ hx102_12)).trans hx102_12; replace hx102_13 := (HB.out.cell (World.block_lt_of_cell? w _ hx102_13)).trans hx102_13; have HR102_13 := A_ hi102_13; have HC102_13 := A_ hl102_13; clear hi102_13 hl102_13; replace p102 := eq_true p102; replace q102 := eq_true q102
      go_wp2_with (first | ((with_reducible refine gate_callee (f:=12) rfl ?_); refine gL_ (some 18) rfl rfl Tryd.func12 rfl #[.agg #[.int .i64 ((rd_T28 l0_13 x4_1).f0), .int .i64 ((rd_T28 l0_13 x4_1).f1), .int .i64 ((rd_T28 l0_13 x4_1).f2.f0), .int .i64 ((rd_T28 l0_13 x4_1).f2.f1), .string ((rd_T28 l0_13 x4_1).f2.f2), .int .i64 ((rd_T28 l0_13 x4_1).f3.f0), .int .i64 ((rd_T28 l0_13 x4_1).f3.f1), .bool ((rd_T28 l0_13 x4_1).f3.f2), .bool ((rd_T28 l0_13 x4_1).f3.f3), .int .i64 ((rd_T28 l0_13 x4_1).f4.f0), .int .i64 ((rd_T28 l0_13 x4_1).f4.f1), .bool ((rd_T28 l0_13 x4_1).f4.f2), .bool ((rd_T28 l0_13 x4_1).f4.f3), .slice A102_13 ((rd_T28 l0_13 x4_1).f5).length c102_13]] rfl ?_; (with_reducible refine (ih k1 (by have := HK1.out; omega) ((rd_T28 l0_13 x4_1).f0) ((rd_T28 l0_13 x4_1).f1) ((rd_T28 l0_13 x4_1).f2.f0) ((rd_T28 l0_13 x4_1).f2.f1) ((rd_T28 l0_13 x4_1).f2.f2) ((rd_T28 l0_13 x4_1).f3.f0) ((rd_T28 l0_13 x4_1).f3.f1) ((rd_T28 l0_13 x4_1).f3.f2) ((rd_T28 l0_13 x4_1).f3.f3) ((rd_T28 l0_13 x4_1).f4.f0) ((rd_T28 l0_13 x4_1).f4.f1) ((rd_T28 l0_13 x4_1).f4.f2) ((rd_T28 l0_13 x4_1).f4.f3) _ _ ((rd_T28 l0_13 x4_1).f5) t103 _ ?side1 ?side2 A5.out).mono ?_); (case side1 => exact ca_ (Kd.C_below HR102_13.out HB.out)); (case side2 => exact HC102_13.out); rintro e w10 ⟨rfl, hb⟩; refine ⟨_, rfl, ?_⟩; replace B1 := bb_ B1 hb; replace HB := bs_ HB hb; (try clear hb); ))
      go_roundg k1
      case measure => have := HK1.out; omega
      case rel => exact ⟨(x3_1), (wrap64 (x4_1 + 1)), sq_, sq_, H', ⟨by have := HK1.out; omega⟩, ⟨pkx B1⟩, ⟨pbx HB⟩⟩
    ·rw [if_neg c4] at H
     exact absurd H (by simp)
   ·rw [if_neg c3] at H; have c3b0 := decide_eq_false c3; clear c3; obtain rfl := Option.some.inj H
    have hcz11_0 : wr.cell? ⟨g1, 0, none⟩ = some (.int .i64 a0_0) := bc_ B1 0 rfl
    have hcz11_1 : wr.cell? ⟨g1, 1, none⟩ = some (.int .i64 a0_1) := bc_ B1 1 rfl
    have hcz11_2 : wr.cell? ⟨g1, 2, none⟩ = some (.int .i64 a0_2) := bc_ B1 2 rfl
    have hcz11_3 : wr.cell? ⟨g1, 3, none⟩ = some (.int .i64 a0_3) := bc_ B1 3 rfl
    have hcz11_4 : wr.cell? ⟨g1, 4, none⟩ = some (.string a0_4) := bc_ B1 4 rfl
    have hcz11_5 : wr.cell? ⟨g1, 5, none⟩ = some (.int .i64 a0_5) := bc_ B1 5 rfl
    have hcz11_6 : wr.cell? ⟨g1, 6, none⟩ = some (.int .i64 a0_6) := bc_ B1 6 rfl
    have hcz11_7 : wr.cell? ⟨g1, 7, none⟩ = some (.bool a0_7) := bc_ B1 7 rfl
    have hcz11_8 : wr.cell? ⟨g1, 8, none⟩ = some (.bool a0_8) := bc_ B1 8 rfl
    have hcz11_9 : wr.cell? ⟨g1, 9, none⟩ = some (.int .i64 a0_9) := bc_ B1 9 rfl
    have hcz11_10 : wr.cell? ⟨g1, 10, none⟩ = some (.int .i64 a0_10) := bc_ B1 10 rfl
    have hcz11_11 : wr.cell? ⟨g1, 11, none⟩ = some (.bool a0_11) := bc_ B1 11 rfl
    have hcz11_12 : wr.cell? ⟨g1, 12, none⟩ = some (.bool a0_12) := bc_ B1 12 rfl
    have hcz11_13 : wr.cell? ⟨g1, 13, none⟩ = some (.slice A0_13 l0_13.length c0_13) := bc_ B1 13 rfl
    go_wp2
    go_ret
    exact fi_ (pbx HB)

end Go.Proofs.YtdddhabemdbooaaDoor.X
/- The cells of a block, and that none is frozen. -/
set_option linter.unusedVariables false
namespace Go.Proofs.YtdddhabemdbooaaDoor.X
theorem bk2_ {W : World} {g : Nat} {t : TypeId} {x0 x1 : Value} (h : W.heap[g]? = some (.cells #[x0, x1] t (0, 0))) :
  (W.cell? ⟨g, 0, none⟩ = some x0 ∧ W.cell? ⟨g, 1, none⟩ = some x1) ∧ W.frozen? ⟨g, 0, none⟩ = false ∧ W.frozen? ⟨g, 1, none⟩ = false := by
 refine ⟨⟨?_, ?_⟩, ?_, ?_⟩ <;> first | (unfold World.cell?; rw [h]; rfl) | (unfold World.frozen?; rw [h]; rfl)
theorem bk3_ {W : World} {g : Nat} {t : TypeId} {x0 x1 x2 : Value} (h : W.heap[g]? = some (.cells #[x0, x1, x2] t (0, 0))) :
  (W.cell? ⟨g, 0, none⟩ = some x0 ∧ W.cell? ⟨g, 1, none⟩ = some x1 ∧ W.cell? ⟨g, 2, none⟩ = some x2) ∧ W.frozen? ⟨g, 0, none⟩ = false ∧ W.frozen? ⟨g, 1, none⟩ = false ∧ W.frozen? ⟨g, 2, none⟩ = false := by
 refine ⟨⟨?_, ?_, ?_⟩, ?_, ?_, ?_⟩ <;> first | (unfold World.cell?; rw [h]; rfl) | (unfold World.frozen?; rw [h]; rfl)
theorem bk4_ {W : World} {g : Nat} {t : TypeId} {x0 x1 x2 x3 : Value} (h : W.heap[g]? = some (.cells #[x0, x1, x2, x3] t (0, 0))) :
  (W.cell? ⟨g, 0, none⟩ = some x0 ∧ W.cell? ⟨g, 1, none⟩ = some x1 ∧ W.cell? ⟨g, 2, none⟩ = some x2 ∧ W.cell? ⟨g, 3, none⟩ = some x3) ∧ W.frozen? ⟨g, 0, none⟩ = false ∧ W.frozen? ⟨g, 1, none⟩ = false ∧ W.frozen? ⟨g, 2, none⟩ = false ∧ W.frozen? ⟨g, 3, none⟩ = false := by
 refine ⟨⟨?_, ?_, ?_, ?_⟩, ?_, ?_, ?_, ?_⟩ <;> first | (unfold World.cell?; rw [h]; rfl) | (unfold World.frozen?; rw [h]; rfl)
theorem bk14_ {W : World} {g : Nat} {t : TypeId} {x0 x1 x2 x3 x4 x5 x6 x7 x8 x9 x10 x11 x12 x13 : Value} (h : W.heap[g]? = some (.cells #[x0, x1, x2, x3, x4, x5, x6, x7, x8, x9, x10, x11, x12, x13] t (0, 0))) :
  (W.cell? ⟨g, 0, none⟩ = some x0 ∧ W.cell? ⟨g, 1, none⟩ = some x1 ∧ W.cell? ⟨g, 2, none⟩ = some x2 ∧ W.cell? ⟨g, 3, none⟩ = some x3 ∧ W.cell? ⟨g, 4, none⟩ = some x4 ∧ W.cell? ⟨g, 5, none⟩ = some x5 ∧ W.cell? ⟨g, 6, none⟩ = some x6 ∧ W.cell? ⟨g, 7, none⟩ = some x7 ∧ W.cell? ⟨g, 8, none⟩ = some x8 ∧ W.cell? ⟨g, 9, none⟩ = some x9 ∧ W.cell? ⟨g, 10, none⟩ = some x10 ∧ W.cell? ⟨g, 11, none⟩ = some x11 ∧ W.cell? ⟨g, 12, none⟩ = some x12 ∧ W.cell? ⟨g, 13, none⟩ = some x13) ∧ W.frozen? ⟨g, 0, none⟩ = false ∧ W.frozen? ⟨g, 1, none⟩ = false ∧ W.frozen? ⟨g, 2, none⟩ = false ∧ W.frozen? ⟨g, 3, none⟩ = false ∧ W.frozen? ⟨g, 4, none⟩ = false ∧ W.frozen? ⟨g, 5, none⟩ = false ∧ W.frozen? ⟨g, 6, none⟩ = false ∧ W.frozen? ⟨g, 7, none⟩ = false ∧ W.frozen? ⟨g, 8, none⟩ = false ∧ W.frozen? ⟨g, 9, none⟩ = false ∧ W.frozen? ⟨g, 10, none⟩ = false ∧ W.frozen? ⟨g, 11, none⟩ = false ∧ W.frozen? ⟨g, 12, none⟩ = false ∧ W.frozen? ⟨g, 13, none⟩ = false := by
 refine ⟨⟨?_, ?_, ?_, ?_, ?_, ?_, ?_, ?_, ?_, ?_, ?_, ?_, ?_, ?_⟩, ?_, ?_, ?_, ?_, ?_, ?_, ?_, ?_, ?_, ?_, ?_, ?_, ?_, ?_⟩ <;> first | (unfold World.cell?; rw [h]; rfl) | (unfold World.frozen?; rw [h]; rfl)
end Go.Proofs.YtdddhabemdbooaaDoor.X
namespace Go.Proofs.YtdddhabemdbooaaDoor.X
open Go.RowKit Go.Proofs.YtdddhabemdbooaaDoorW.PrintWords Go.Proofs.YtdddhabemdbooaaDoorW.PrintLast Go.Proofs.YtdddhabemdbooaaDoorW.PrintMore
attribute [local go_sem] max2_int min2_int max_two min_two max_three min_three max_four min_four
set_option linter.unusedVariables false
set_option linter.unusedSimpArgs false
def oculusref21_Plain.f (a0 : Int) : Option (Bool) := if a0 ≥ 32 then (some (a0 != 127)) else (some false)
theorem oculusref21_Plain.calls (a0 : Int) (r : Bool) (w : World) (h : oculusref21_Plain.f a0 = some r) :
  Calls Tryd.prog 33 #[.int .u8 a0] w fun e w' => e = .returned (.bool r) ∧ Drawn0 w w' := by
 have H : (if a0 ≥ 32 then (some (a0 != 127)) else (some false)) = some r := h
 clear h
 by_cases c2 : a0 ≥ 32
 ·rw [if_pos c2] at H; have c2b0 := decide_eq_true c2; clear c2; obtain rfl := Option.some.inj H
  go_enter Tryd.func33, Tryd.ntmps33
  go_wp2
  go_ret
  exact ⟨by first | rfl | (simp; done) | (simp [*]; done), dr_⟩
 ·rw [if_neg c2] at H; have c2b0 := decide_eq_false c2; clear c2; obtain rfl := Option.some.inj H
  go_enter Tryd.func33, Tryd.ntmps33
  go_wp2
  go_ret
  exact ⟨by first | rfl | (simp; done) | (simp [*]; done), dr_⟩

def oculusref08_May.f (a0 : Int) : Option (Bool) := some (decide (a0 ≥ (-9223372036854775807)))
theorem oculusref08_May.calls (a0 : Int) (r : Bool) (w : World) (h : oculusref08_May.f a0 = some r) :
  Calls Tryd.prog 46 #[.int .i64 a0] w fun e w' => e = .returned (.bool r) ∧ Drawn0 w w' := by
 have H : (some (decide (a0 ≥ (-9223372036854775807)))) = some r := h
 clear h; obtain rfl := Option.some.inj H
 go_enter Tryd.func46, Tryd.ntmps46
 go_wp2
 go_ret
 exact ⟨by first | rfl | (simp; done) | (simp [*]; done), dr_⟩

end Go.Proofs.YtdddhabemdbooaaDoor.X
/- The contract of the reference's test whether a value may be. By kinds: the printed text of all ways together is too great for the kernel. -/
set_option linter.unusedVariables false
set_option linter.unusedSimpArgs false
namespace Go.Proofs.YtdddhabemdbooaaDoor.X
open Go.RowKit Go.Proofs.YtdddhabemdbooaaDoorW.PrintWords Go.Proofs.YtdddhabemdbooaaDoorW.PrintLast Go.Proofs.YtdddhabemdbooaaDoorW.PrintMore
def mayV (k n : Int) (t : ByteArray) : Bool := decide ((k = 0 ∧ t.toList = [] ∧ n = 0) ∨ (k = 1 ∧ t.toList = [] ∧ n ≥ -9223372036854775807) ∨ (k = 2 ∧ n = 0 ∧ (t.size : Int) ≤ 256) ∨ (k = 3 ∧ t.toList = [] ∧ (n = 0 ∨ n = 1)) ∨ (k = 4 ∧ t.toList = [] ∧ n ≥ 1 ∧ n ≤ 7))
def oculusref12_May.f (a0_0 : Int) (a0_1 : Int) (a0_2 : ByteArray) : Option (Bool) := some (mayV a0_0 a0_1 a0_2)
theorem may12_p0 (a0_1 : Int) (a0_2 : ByteArray) (w : World) (ht : a0_2.toList = []) (hn : a0_1 = 0) :
  Calls Tryd.prog 34 #[.agg #[.int .i64 0, .int .i64 a0_1, .string a0_2]] w fun e w' => e = .returned (.bool true) ∧ Below w.heap.size w w' := by
 have hu := Tryd.underlying23; have HB := A_ (Below.refl w.heap.size w); have c1 : (a0_2.toList == ([] : List UInt8)) = true := beq_iff_eq.mpr ht; have c2 : (a0_2.toList != ([] : List UInt8)) = false := bne_eq_false_iff_eq.mpr ht; subst hn
 go_enter Tryd.func34, Tryd.ntmps34
 dsimp only [List.append]
 go_wp2_with (first | ((with_reducible refine gd_ 1 ?_); (try (refine gate_guard (by rfl) ?_; dsimp only)); refine be_ (N:=1) (cs := #[.int .i64 (0), .int .i64 (0), .string a0_2]) (t:=23) ?_; intro g1 hg w5 hbox hb; have B1 := A_ (hbox); replace HB := bs_ HB hb; clear hb hbox hg; have hcz6_0 : w5.cell? ⟨g1, 0, none⟩ = some (.int .i64 (0)) := bc_ B1 0 rfl; have hcz6_1 : w5.cell? ⟨g1, 1, none⟩ = some (.int .i64 (0)) := bc_ B1 1 rfl; have hcz6_2 : w5.cell? ⟨g1, 2, none⟩ = some (.string a0_2) := bc_ B1 2 rfl))
 go_ret
 exact fi_ (pbx HB)
theorem may12_p1 (a0_1 : Int) (a0_2 : ByteArray) (w : World) (ht : a0_2.toList = []) (hn : ¬ a0_1 = 0) :
  Calls Tryd.prog 34 #[.agg #[.int .i64 0, .int .i64 a0_1, .string a0_2]] w fun e w' => e = .returned (.bool false) ∧ Below w.heap.size w w' := by
 have hu := Tryd.underlying23; have HB := A_ (Below.refl w.heap.size w); have c1 : (a0_2.toList == ([] : List UInt8)) = true := beq_iff_eq.mpr ht; have c2 : (a0_2.toList != ([] : List UInt8)) = false := bne_eq_false_iff_eq.mpr ht; have hn1 : (a0_1 == 0) = false := beq_eq_false_iff_ne.mpr hn; have hn2 : (a0_1 != 0) = true := bne_iff_ne.mpr hn; clear hn
 go_enter Tryd.func34, Tryd.ntmps34
 dsimp only [List.append]
 go_wp2_with (first | ((with_reducible refine gd_ 1 ?_); (try (refine gate_guard (by rfl) ?_; dsimp only)); refine be_ (N:=1) (cs := #[.int .i64 (0), .int .i64 (a0_1), .string a0_2]) (t:=23) ?_; intro g1 hg w5 hbox hb; have B1 := A_ (hbox); replace HB := bs_ HB hb; clear hb hbox hg; have hcz6_0 : w5.cell? ⟨g1, 0, none⟩ = some (.int .i64 (0)) := bc_ B1 0 rfl; have hcz6_1 : w5.cell? ⟨g1, 1, none⟩ = some (.int .i64 (a0_1)) := bc_ B1 1 rfl; have hcz6_2 : w5.cell? ⟨g1, 2, none⟩ = some (.string a0_2) := bc_ B1 2 rfl))
 go_ret
 exact fi_ (pbx HB)
theorem may12_p2 (a0_1 : Int) (a0_2 : ByteArray) (w : World) (ht : ¬ a0_2.toList = []) :
  Calls Tryd.prog 34 #[.agg #[.int .i64 0, .int .i64 a0_1, .string a0_2]] w fun e w' => e = .returned (.bool false) ∧ Below w.heap.size w w' := by
 have hu := Tryd.underlying23; have HB := A_ (Below.refl w.heap.size w); have c1 : (a0_2.toList == ([] : List UInt8)) = false := beq_eq_false_iff_ne.mpr ht; have c2 : (a0_2.toList != ([] : List UInt8)) = true := bne_iff_ne.mpr ht
 go_enter Tryd.func34, Tryd.ntmps34
 dsimp only [List.append]
 go_wp2_with (first | ((with_reducible refine gd_ 1 ?_); (try (refine gate_guard (by rfl) ?_; dsimp only)); refine be_ (N:=1) (cs := #[.int .i64 (0), .int .i64 (a0_1), .string a0_2]) (t:=23) ?_; intro g1 hg w5 hbox hb; have B1 := A_ (hbox); replace HB := bs_ HB hb; clear hb hbox hg; have hcz6_0 : w5.cell? ⟨g1, 0, none⟩ = some (.int .i64 (0)) := bc_ B1 0 rfl; have hcz6_1 : w5.cell? ⟨g1, 1, none⟩ = some (.int .i64 (a0_1)) := bc_ B1 1 rfl; have hcz6_2 : w5.cell? ⟨g1, 2, none⟩ = some (.string a0_2) := bc_ B1 2 rfl))
 go_ret
 exact fi_ (pbx HB)
theorem may12_p3 (a0_1 : Int) (a0_2 : ByteArray) (w : World) (ht : a0_2.toList = []) (hn : a0_1 ≥ -9223372036854775807) :
  Calls Tryd.prog 34 #[.agg #[.int .i64 1, .int .i64 a0_1, .string a0_2]] w fun e w' => e = .returned (.bool true) ∧ Below w.heap.size w w' := by
 have hu := Tryd.underlying23; have HB := A_ (Below.refl w.heap.size w); have c1 : (a0_2.toList == ([] : List UInt8)) = true := beq_iff_eq.mpr ht; have c2 : (a0_2.toList != ([] : List UInt8)) = false := bne_eq_false_iff_eq.mpr ht
 have A8 : oculusref08_May.f a0_1 = some true := by unfold oculusref08_May.f; rw [decide_eq_true hn]
 clear hn
 go_enter Tryd.func34, Tryd.ntmps34
 dsimp only [List.append]
 go_wp2_with (first | ((with_reducible refine gd_ 1 ?_); (try (refine gate_guard (by rfl) ?_; dsimp only)); refine be_ (N:=1) (cs := #[.int .i64 (1), .int .i64 (a0_1), .string a0_2]) (t:=23) ?_; intro g1 hg w5 hbox hb; have B1 := A_ (hbox); replace HB := bs_ HB hb; clear hb hbox hg; have hcz6_0 : w5.cell? ⟨g1, 0, none⟩ = some (.int .i64 (1)) := bc_ B1 0 rfl; have hcz6_1 : w5.cell? ⟨g1, 1, none⟩ = some (.int .i64 (a0_1)) := bc_ B1 1 rfl; have hcz6_2 : w5.cell? ⟨g1, 2, none⟩ = some (.string a0_2) := bc_ B1 2 rfl) | (go_at_call 46; (with_reducible refine (oculusref08_May.calls a0_1 true _ A8).mono ?_); rintro e w' ⟨rfl, ⟨nd, rfl⟩⟩))
 go_ret
 exact fi_ (pbx HB)
theorem may12_p4 (a0_1 : Int) (a0_2 : ByteArray) (w : World) (ht : a0_2.toList = []) (hn : ¬ a0_1 ≥ -9223372036854775807) :
  Calls Tryd.prog 34 #[.agg #[.int .i64 1, .int .i64 a0_1, .string a0_2]] w fun e w' => e = .returned (.bool false) ∧ Below w.heap.size w w' := by
 have hu := Tryd.underlying23; have HB := A_ (Below.refl w.heap.size w); have c1 : (a0_2.toList == ([] : List UInt8)) = true := beq_iff_eq.mpr ht; have c2 : (a0_2.toList != ([] : List UInt8)) = false := bne_eq_false_iff_eq.mpr ht
 have A8 : oculusref08_May.f a0_1 = some false := by unfold oculusref08_May.f; rw [decide_eq_false hn]
 clear hn
 go_enter Tryd.func34, Tryd.ntmps34
 dsimp only [List.append]
 go_wp2_with (first | ((with_reducible refine gd_ 1 ?_); (try (refine gate_guard (by rfl) ?_; dsimp only)); refine be_ (N:=1) (cs := #[.int .i64 (1), .int .i64 (a0_1), .string a0_2]) (t:=23) ?_; intro g1 hg w5 hbox hb; have B1 := A_ (hbox); replace HB := bs_ HB hb; clear hb hbox hg; have hcz6_0 : w5.cell? ⟨g1, 0, none⟩ = some (.int .i64 (1)) := bc_ B1 0 rfl; have hcz6_1 : w5.cell? ⟨g1, 1, none⟩ = some (.int .i64 (a0_1)) := bc_ B1 1 rfl; have hcz6_2 : w5.cell? ⟨g1, 2, none⟩ = some (.string a0_2) := bc_ B1 2 rfl) | (go_at_call 46; (with_reducible refine (oculusref08_May.calls a0_1 false _ A8).mono ?_); rintro e w' ⟨rfl, ⟨nd, rfl⟩⟩))
 go_ret
 exact fi_ (pbx HB)
theorem may12_p5 (a0_1 : Int) (a0_2 : ByteArray) (w : World) (ht : ¬ a0_2.toList = []) :
  Calls Tryd.prog 34 #[.agg #[.int .i64 1, .int .i64 a0_1, .string a0_2]] w fun e w' => e = .returned (.bool false) ∧ Below w.heap.size w w' := by
 have hu := Tryd.underlying23; have HB := A_ (Below.refl w.heap.size w); have c1 : (a0_2.toList == ([] : List UInt8)) = false := beq_eq_false_iff_ne.mpr ht; have c2 : (a0_2.toList != ([] : List UInt8)) = true := bne_iff_ne.mpr ht
 go_enter Tryd.func34, Tryd.ntmps34
 dsimp only [List.append]
 go_wp2_with (first | ((with_reducible refine gd_ 1 ?_); (try (refine gate_guard (by rfl) ?_; dsimp only)); refine be_ (N:=1) (cs := #[.int .i64 (1), .int .i64 (a0_1), .string a0_2]) (t:=23) ?_; intro g1 hg w5 hbox hb; have B1 := A_ (hbox); replace HB := bs_ HB hb; clear hb hbox hg; have hcz6_0 : w5.cell? ⟨g1, 0, none⟩ = some (.int .i64 (1)) := bc_ B1 0 rfl; have hcz6_1 : w5.cell? ⟨g1, 1, none⟩ = some (.int .i64 (a0_1)) := bc_ B1 1 rfl; have hcz6_2 : w5.cell? ⟨g1, 2, none⟩ = some (.string a0_2) := bc_ B1 2 rfl))
 go_ret
 exact fi_ (pbx HB)
theorem may12_p6 (a0_1 : Int) (a0_2 : ByteArray) (w : World) (hn : a0_1 = 0) (hs : (a0_2.size : Int) ≤ 256) :
  Calls Tryd.prog 34 #[.agg #[.int .i64 2, .int .i64 a0_1, .string a0_2]] w fun e w' => e = .returned (.bool true) ∧ Below w.heap.size w w' := by
 have hu := Tryd.underlying23; have HB := A_ (Below.refl w.heap.size w); subst hn; have hs1 : decide ((a0_2.size : Int) ≤ 256) = true := decide_eq_true hs; have hs2 : decide (a0_2.size ≤ 256) = true := decide_eq_true (by omega); clear hs
 go_enter Tryd.func34, Tryd.ntmps34
 dsimp only [List.append]
 go_wp2_with (first | ((with_reducible refine gd_ 1 ?_); (try (refine gate_guard (by rfl) ?_; dsimp only)); refine be_ (N:=1) (cs := #[.int .i64 (2), .int .i64 (0), .string a0_2]) (t:=23) ?_; intro g1 hg w5 hbox hb; have B1 := A_ (hbox); replace HB := bs_ HB hb; clear hb hbox hg; have hcz6_0 : w5.cell? ⟨g1, 0, none⟩ = some (.int .i64 (2)) := bc_ B1 0 rfl; have hcz6_1 : w5.cell? ⟨g1, 1, none⟩ = some (.int .i64 (0)) := bc_ B1 1 rfl; have hcz6_2 : w5.cell? ⟨g1, 2, none⟩ = some (.string a0_2) := bc_ B1 2 rfl))
 go_ret
 exact fi_ (pbx HB)
theorem may12_p7 (a0_1 : Int) (a0_2 : ByteArray) (w : World) (hn : a0_1 = 0) (hs : ¬ (a0_2.size : Int) ≤ 256) :
  Calls Tryd.prog 34 #[.agg #[.int .i64 2, .int .i64 a0_1, .string a0_2]] w fun e w' => e = .returned (.bool false) ∧ Below w.heap.size w w' := by
 have hu := Tryd.underlying23; have HB := A_ (Below.refl w.heap.size w); subst hn; have hs1 : decide ((a0_2.size : Int) ≤ 256) = false := decide_eq_false hs; have hs2 : decide (a0_2.size ≤ 256) = false := decide_eq_false (by omega); clear hs
 go_enter Tryd.func34, Tryd.ntmps34
 dsimp only [List.append]
 go_wp2_with (first | ((with_reducible refine gd_ 1 ?_); (try (refine gate_guard (by rfl) ?_; dsimp only)); refine be_ (N:=1) (cs := #[.int .i64 (2), .int .i64 (0), .string a0_2]) (t:=23) ?_; intro g1 hg w5 hbox hb; have B1 := A_ (hbox); replace HB := bs_ HB hb; clear hb hbox hg; have hcz6_0 : w5.cell? ⟨g1, 0, none⟩ = some (.int .i64 (2)) := bc_ B1 0 rfl; have hcz6_1 : w5.cell? ⟨g1, 1, none⟩ = some (.int .i64 (0)) := bc_ B1 1 rfl; have hcz6_2 : w5.cell? ⟨g1, 2, none⟩ = some (.string a0_2) := bc_ B1 2 rfl))
 go_ret
 exact fi_ (pbx HB)
theorem may12_p8 (a0_1 : Int) (a0_2 : ByteArray) (w : World) (hn : ¬ a0_1 = 0) :
  Calls Tryd.prog 34 #[.agg #[.int .i64 2, .int .i64 a0_1, .string a0_2]] w fun e w' => e = .returned (.bool false) ∧ Below w.heap.size w w' := by
 have hu := Tryd.underlying23; have HB := A_ (Below.refl w.heap.size w); have hn1 : (a0_1 == 0) = false := beq_eq_false_iff_ne.mpr hn; have hn2 : (a0_1 != 0) = true := bne_iff_ne.mpr hn; clear hn
 go_enter Tryd.func34, Tryd.ntmps34
 dsimp only [List.append]
 go_wp2_with (first | ((with_reducible refine gd_ 1 ?_); (try (refine gate_guard (by rfl) ?_; dsimp only)); refine be_ (N:=1) (cs := #[.int .i64 (2), .int .i64 (a0_1), .string a0_2]) (t:=23) ?_; intro g1 hg w5 hbox hb; have B1 := A_ (hbox); replace HB := bs_ HB hb; clear hb hbox hg; have hcz6_0 : w5.cell? ⟨g1, 0, none⟩ = some (.int .i64 (2)) := bc_ B1 0 rfl; have hcz6_1 : w5.cell? ⟨g1, 1, none⟩ = some (.int .i64 (a0_1)) := bc_ B1 1 rfl; have hcz6_2 : w5.cell? ⟨g1, 2, none⟩ = some (.string a0_2) := bc_ B1 2 rfl))
 go_ret
 exact fi_ (pbx HB)
theorem may12_p9 (a0_1 : Int) (a0_2 : ByteArray) (w : World) (ht : a0_2.toList = []) (hn : a0_1 = 0) :
  Calls Tryd.prog 34 #[.agg #[.int .i64 3, .int .i64 a0_1, .string a0_2]] w fun e w' => e = .returned (.bool true) ∧ Below w.heap.size w w' := by
 have hu := Tryd.underlying23; have HB := A_ (Below.refl w.heap.size w); have c1 : (a0_2.toList == ([] : List UInt8)) = true := beq_iff_eq.mpr ht; have c2 : (a0_2.toList != ([] : List UInt8)) = false := bne_eq_false_iff_eq.mpr ht; subst hn
 go_enter Tryd.func34, Tryd.ntmps34
 dsimp only [List.append]
 go_wp2_with (first | ((with_reducible refine gd_ 1 ?_); (try (refine gate_guard (by rfl) ?_; dsimp only)); refine be_ (N:=1) (cs := #[.int .i64 (3), .int .i64 (0), .string a0_2]) (t:=23) ?_; intro g1 hg w5 hbox hb; have B1 := A_ (hbox); replace HB := bs_ HB hb; clear hb hbox hg; have hcz6_0 : w5.cell? ⟨g1, 0, none⟩ = some (.int .i64 (3)) := bc_ B1 0 rfl; have hcz6_1 : w5.cell? ⟨g1, 1, none⟩ = some (.int .i64 (0)) := bc_ B1 1 rfl; have hcz6_2 : w5.cell? ⟨g1, 2, none⟩ = some (.string a0_2) := bc_ B1 2 rfl))
 go_ret
 exact fi_ (pbx HB)
theorem may12_p10 (a0_1 : Int) (a0_2 : ByteArray) (w : World) (ht : a0_2.toList = []) (hn : a0_1 = 1) :
  Calls Tryd.prog 34 #[.agg #[.int .i64 3, .int .i64 a0_1, .string a0_2]] w fun e w' => e = .returned (.bool true) ∧ Below w.heap.size w w' := by
 have hu := Tryd.underlying23; have HB := A_ (Below.refl w.heap.size w); have c1 : (a0_2.toList == ([] : List UInt8)) = true := beq_iff_eq.mpr ht; have c2 : (a0_2.toList != ([] : List UInt8)) = false := bne_eq_false_iff_eq.mpr ht; subst hn
 go_enter Tryd.func34, Tryd.ntmps34
 dsimp only [List.append]
 go_wp2_with (first | ((with_reducible refine gd_ 1 ?_); (try (refine gate_guard (by rfl) ?_; dsimp only)); refine be_ (N:=1) (cs := #[.int .i64 (3), .int .i64 (1), .string a0_2]) (t:=23) ?_; intro g1 hg w5 hbox hb; have B1 := A_ (hbox); replace HB := bs_ HB hb; clear hb hbox hg; have hcz6_0 : w5.cell? ⟨g1, 0, none⟩ = some (.int .i64 (3)) := bc_ B1 0 rfl; have hcz6_1 : w5.cell? ⟨g1, 1, none⟩ = some (.int .i64 (1)) := bc_ B1 1 rfl; have hcz6_2 : w5.cell? ⟨g1, 2, none⟩ = some (.string a0_2) := bc_ B1 2 rfl))
 go_ret
 exact fi_ (pbx HB)
theorem may12_p11 (a0_1 : Int) (a0_2 : ByteArray) (w : World) (ht : a0_2.toList = []) (hn : ¬ a0_1 = 0) (hm : ¬ a0_1 = 1) :
  Calls Tryd.prog 34 #[.agg #[.int .i64 3, .int .i64 a0_1, .string a0_2]] w fun e w' => e = .returned (.bool false) ∧ Below w.heap.size w w' := by
 have hu := Tryd.underlying23; have HB := A_ (Below.refl w.heap.size w); have c1 : (a0_2.toList == ([] : List UInt8)) = true := beq_iff_eq.mpr ht; have c2 : (a0_2.toList != ([] : List UInt8)) = false := bne_eq_false_iff_eq.mpr ht; have hn1 : (a0_1 == 0) = false := beq_eq_false_iff_ne.mpr hn; have hn2 : (a0_1 != 0) = true := bne_iff_ne.mpr hn; clear hn; have hm1 : (a0_1 == 1) = false := beq_eq_false_iff_ne.mpr hm; have hm2 : (a0_1 != 1) = true := bne_iff_ne.mpr hm; clear hm
 go_enter Tryd.func34, Tryd.ntmps34
 dsimp only [List.append]
 go_wp2_with (first | ((with_reducible refine gd_ 1 ?_); (try (refine gate_guard (by rfl) ?_; dsimp only)); refine be_ (N:=1) (cs := #[.int .i64 (3), .int .i64 (a0_1), .string a0_2]) (t:=23) ?_; intro g1 hg w5 hbox hb; have B1 := A_ (hbox); replace HB := bs_ HB hb; clear hb hbox hg; have hcz6_0 : w5.cell? ⟨g1, 0, none⟩ = some (.int .i64 (3)) := bc_ B1 0 rfl; have hcz6_1 : w5.cell? ⟨g1, 1, none⟩ = some (.int .i64 (a0_1)) := bc_ B1 1 rfl; have hcz6_2 : w5.cell? ⟨g1, 2, none⟩ = some (.string a0_2) := bc_ B1 2 rfl))
 go_ret
 exact fi_ (pbx HB)
theorem may12_p12 (a0_1 : Int) (a0_2 : ByteArray) (w : World) (ht : ¬ a0_2.toList = []) :
  Calls Tryd.prog 34 #[.agg #[.int .i64 3, .int .i64 a0_1, .string a0_2]] w fun e w' => e = .returned (.bool false) ∧ Below w.heap.size w w' := by
 have hu := Tryd.underlying23; have HB := A_ (Below.refl w.heap.size w); have c1 : (a0_2.toList == ([] : List UInt8)) = false := beq_eq_false_iff_ne.mpr ht; have c2 : (a0_2.toList != ([] : List UInt8)) = true := bne_iff_ne.mpr ht
 go_enter Tryd.func34, Tryd.ntmps34
 dsimp only [List.append]
 go_wp2_with (first | ((with_reducible refine gd_ 1 ?_); (try (refine gate_guard (by rfl) ?_; dsimp only)); refine be_ (N:=1) (cs := #[.int .i64 (3), .int .i64 (a0_1), .string a0_2]) (t:=23) ?_; intro g1 hg w5 hbox hb; have B1 := A_ (hbox); replace HB := bs_ HB hb; clear hb hbox hg; have hcz6_0 : w5.cell? ⟨g1, 0, none⟩ = some (.int .i64 (3)) := bc_ B1 0 rfl; have hcz6_1 : w5.cell? ⟨g1, 1, none⟩ = some (.int .i64 (a0_1)) := bc_ B1 1 rfl; have hcz6_2 : w5.cell? ⟨g1, 2, none⟩ = some (.string a0_2) := bc_ B1 2 rfl))
 go_ret
 exact fi_ (pbx HB)
theorem may12_p13 (a0_1 : Int) (a0_2 : ByteArray) (w : World) (ht : a0_2.toList = []) (hn : a0_1 ≥ 1) (hm : a0_1 ≤ 7) :
  Calls Tryd.prog 34 #[.agg #[.int .i64 4, .int .i64 a0_1, .string a0_2]] w fun e w' => e = .returned (.bool true) ∧ Below w.heap.size w w' := by
 have hu := Tryd.underlying23; have HB := A_ (Below.refl w.heap.size w); have c1 : (a0_2.toList == ([] : List UInt8)) = true := beq_iff_eq.mpr ht; have c2 : (a0_2.toList != ([] : List UInt8)) = false := bne_eq_false_iff_eq.mpr ht; have hn1 : decide (1 ≤ a0_1) = true := decide_eq_true hn; clear hn; have hm1 : decide (a0_1 ≤ 7) = true := decide_eq_true hm; clear hm
 go_enter Tryd.func34, Tryd.ntmps34
 dsimp only [List.append]
 go_wp2_with (first | ((with_reducible refine gd_ 1 ?_); (try (refine gate_guard (by rfl) ?_; dsimp only)); refine be_ (N:=1) (cs := #[.int .i64 (4), .int .i64 (a0_1), .string a0_2]) (t:=23) ?_; intro g1 hg w5 hbox hb; have B1 := A_ (hbox); replace HB := bs_ HB hb; clear hb hbox hg; have hcz6_0 : w5.cell? ⟨g1, 0, none⟩ = some (.int .i64 (4)) := bc_ B1 0 rfl; have hcz6_1 : w5.cell? ⟨g1, 1, none⟩ = some (.int .i64 (a0_1)) := bc_ B1 1 rfl; have hcz6_2 : w5.cell? ⟨g1, 2, none⟩ = some (.string a0_2) := bc_ B1 2 rfl))
 go_ret
 exact fi_ (pbx HB)
theorem may12_p14 (a0_1 : Int) (a0_2 : ByteArray) (w : World) (ht : a0_2.toList = []) (hn : a0_1 ≥ 1) (hm : ¬ a0_1 ≤ 7) :
  Calls Tryd.prog 34 #[.agg #[.int .i64 4, .int .i64 a0_1, .string a0_2]] w fun e w' => e = .returned (.bool false) ∧ Below w.heap.size w w' := by
 have hu := Tryd.underlying23; have HB := A_ (Below.refl w.heap.size w); have c1 : (a0_2.toList == ([] : List UInt8)) = true := beq_iff_eq.mpr ht; have c2 : (a0_2.toList != ([] : List UInt8)) = false := bne_eq_false_iff_eq.mpr ht; have hn1 : decide (1 ≤ a0_1) = true := decide_eq_true hn; clear hn; have hm1 : decide (a0_1 ≤ 7) = false := decide_eq_false hm; clear hm
 go_enter Tryd.func34, Tryd.ntmps34
 dsimp only [List.append]
 go_wp2_with (first | ((with_reducible refine gd_ 1 ?_); (try (refine gate_guard (by rfl) ?_; dsimp only)); refine be_ (N:=1) (cs := #[.int .i64 (4), .int .i64 (a0_1), .string a0_2]) (t:=23) ?_; intro g1 hg w5 hbox hb; have B1 := A_ (hbox); replace HB := bs_ HB hb; clear hb hbox hg; have hcz6_0 : w5.cell? ⟨g1, 0, none⟩ = some (.int .i64 (4)) := bc_ B1 0 rfl; have hcz6_1 : w5.cell? ⟨g1, 1, none⟩ = some (.int .i64 (a0_1)) := bc_ B1 1 rfl; have hcz6_2 : w5.cell? ⟨g1, 2, none⟩ = some (.string a0_2) := bc_ B1 2 rfl))
 go_ret
 exact fi_ (pbx HB)
theorem may12_p15 (a0_1 : Int) (a0_2 : ByteArray) (w : World) (ht : a0_2.toList = []) (hn : ¬ a0_1 ≥ 1) :
  Calls Tryd.prog 34 #[.agg #[.int .i64 4, .int .i64 a0_1, .string a0_2]] w fun e w' => e = .returned (.bool false) ∧ Below w.heap.size w w' := by
 have hu := Tryd.underlying23; have HB := A_ (Below.refl w.heap.size w); have c1 : (a0_2.toList == ([] : List UInt8)) = true := beq_iff_eq.mpr ht; have c2 : (a0_2.toList != ([] : List UInt8)) = false := bne_eq_false_iff_eq.mpr ht; have hn1 : decide (1 ≤ a0_1) = false := decide_eq_false hn; clear hn
 go_enter Tryd.func34, Tryd.ntmps34
 dsimp only [List.append]
 go_wp2_with (first | ((with_reducible refine gd_ 1 ?_); (try (refine gate_guard (by rfl) ?_; dsimp only)); refine be_ (N:=1) (cs := #[.int .i64 (4), .int .i64 (a0_1), .string a0_2]) (t:=23) ?_; intro g1 hg w5 hbox hb; have B1 := A_ (hbox); replace HB := bs_ HB hb; clear hb hbox hg; have hcz6_0 : w5.cell? ⟨g1, 0, none⟩ = some (.int .i64 (4)) := bc_ B1 0 rfl; have hcz6_1 : w5.cell? ⟨g1, 1, none⟩ = some (.int .i64 (a0_1)) := bc_ B1 1 rfl; have hcz6_2 : w5.cell? ⟨g1, 2, none⟩ = some (.string a0_2) := bc_ B1 2 rfl))
 go_ret
 exact fi_ (pbx HB)
theorem may12_p16 (a0_1 : Int) (a0_2 : ByteArray) (w : World) (ht : ¬ a0_2.toList = []) :
  Calls Tryd.prog 34 #[.agg #[.int .i64 4, .int .i64 a0_1, .string a0_2]] w fun e w' => e = .returned (.bool false) ∧ Below w.heap.size w w' := by
 have hu := Tryd.underlying23; have HB := A_ (Below.refl w.heap.size w); have c1 : (a0_2.toList == ([] : List UInt8)) = false := beq_eq_false_iff_ne.mpr ht; have c2 : (a0_2.toList != ([] : List UInt8)) = true := bne_iff_ne.mpr ht
 go_enter Tryd.func34, Tryd.ntmps34
 dsimp only [List.append]
 go_wp2_with (first | ((with_reducible refine gd_ 1 ?_); (try (refine gate_guard (by rfl) ?_; dsimp only)); refine be_ (N:=1) (cs := #[.int .i64 (4), .int .i64 (a0_1), .string a0_2]) (t:=23) ?_; intro g1 hg w5 hbox hb; have B1 := A_ (hbox); replace HB := bs_ HB hb; clear hb hbox hg; have hcz6_0 : w5.cell? ⟨g1, 0, none⟩ = some (.int .i64 (4)) := bc_ B1 0 rfl; have hcz6_1 : w5.cell? ⟨g1, 1, none⟩ = some (.int .i64 (a0_1)) := bc_ B1 1 rfl; have hcz6_2 : w5.cell? ⟨g1, 2, none⟩ = some (.string a0_2) := bc_ B1 2 rfl))
 go_ret
 exact fi_ (pbx HB)
theorem may12_p17 (a0_0 : Int) (a0_1 : Int) (a0_2 : ByteArray) (w : World) (h0 : ¬ a0_0 = 0) (h1 : ¬ a0_0 = 1) (h2 : ¬ a0_0 = 2) (h3 : ¬ a0_0 = 3) (h4 : ¬ a0_0 = 4) :
  Calls Tryd.prog 34 #[.agg #[.int .i64 a0_0, .int .i64 a0_1, .string a0_2]] w fun e w' => e = .returned (.bool false) ∧ Below w.heap.size w w' := by
 have hu := Tryd.underlying23; have HB := A_ (Below.refl w.heap.size w); have h01 : (a0_0 == 0) = false := beq_eq_false_iff_ne.mpr h0; have h02 : (a0_0 != 0) = true := bne_iff_ne.mpr h0; clear h0; have h11 : (a0_0 == 1) = false := beq_eq_false_iff_ne.mpr h1; have h12 : (a0_0 != 1) = true := bne_iff_ne.mpr h1; clear h1; have h21 : (a0_0 == 2) = false := beq_eq_false_iff_ne.mpr h2; have h22 : (a0_0 != 2) = true := bne_iff_ne.mpr h2; clear h2; have h31 : (a0_0 == 3) = false := beq_eq_false_iff_ne.mpr h3; have h32 : (a0_0 != 3) = true := bne_iff_ne.mpr h3; clear h3; have h41 : (a0_0 == 4) = false := beq_eq_false_iff_ne.mpr h4; have h42 : (a0_0 != 4) = true := bne_iff_ne.mpr h4; clear h4
 go_enter Tryd.func34, Tryd.ntmps34
 dsimp only [List.append]
 go_wp2_with (first | ((with_reducible refine gd_ 1 ?_); (try (refine gate_guard (by rfl) ?_; dsimp only)); refine be_ (N:=1) (cs := #[.int .i64 (a0_0), .int .i64 (a0_1), .string a0_2]) (t:=23) ?_; intro g1 hg w5 hbox hb; have B1 := A_ (hbox); replace HB := bs_ HB hb; clear hb hbox hg; have hcz6_0 : w5.cell? ⟨g1, 0, none⟩ = some (.int .i64 (a0_0)) := bc_ B1 0 rfl; have hcz6_1 : w5.cell? ⟨g1, 1, none⟩ = some (.int .i64 (a0_1)) := bc_ B1 1 rfl; have hcz6_2 : w5.cell? ⟨g1, 2, none⟩ = some (.string a0_2) := bc_ B1 2 rfl))
 go_ret
 exact fi_ (pbx HB)
theorem oculusref12_May.calls (a0_0 : Int) (a0_1 : Int) (a0_2 : ByteArray) (r : Bool) (w : World) (h : oculusref12_May.f a0_0 a0_1 a0_2 = some r) :
  Calls Tryd.prog 34 #[.agg #[.int .i64 a0_0, .int .i64 a0_1, .string a0_2]] w fun e w' => e = .returned (.bool r) ∧ Below w.heap.size w w' := by
 obtain rfl := Option.some.inj h
 by_cases h0 : a0_0 = 0
 ·subst h0
  by_cases ht : a0_2.toList = []
  ·by_cases hn : a0_1 = 0
   ·rw [show mayV 0 a0_1 a0_2 = true by simp [mayV, ht, hn]]; exact may12_p0 a0_1 a0_2 w ht hn
   ·rw [show mayV 0 a0_1 a0_2 = false by simp [mayV, ht, hn]]; exact may12_p1 a0_1 a0_2 w ht hn
  ·rw [show mayV 0 a0_1 a0_2 = false by simp [mayV, ht]]; exact may12_p2 a0_1 a0_2 w ht
 by_cases h1 : a0_0 = 1
 ·subst h1
  by_cases ht : a0_2.toList = []
  ·by_cases hn : a0_1 ≥ -9223372036854775807
   ·rw [show mayV 1 a0_1 a0_2 = true by simp [mayV, ht, hn]]; exact may12_p3 a0_1 a0_2 w ht hn
   ·rw [show mayV 1 a0_1 a0_2 = false by simp [mayV, ht]; omega]; exact may12_p4 a0_1 a0_2 w ht hn
  ·rw [show mayV 1 a0_1 a0_2 = false by simp [mayV, ht]]; exact may12_p5 a0_1 a0_2 w ht
 by_cases h2 : a0_0 = 2
 ·subst h2
  by_cases hn : a0_1 = 0
  ·by_cases hs : (a0_2.size : Int) ≤ 256
   ·rw [show mayV 2 a0_1 a0_2 = true by simp [mayV, hn]; omega]; exact may12_p6 a0_1 a0_2 w hn hs
   ·rw [show mayV 2 a0_1 a0_2 = false by simp [mayV, hn]; omega]; exact may12_p7 a0_1 a0_2 w hn hs
  ·rw [show mayV 2 a0_1 a0_2 = false by simp [mayV, hn]]; exact may12_p8 a0_1 a0_2 w hn
 by_cases h3 : a0_0 = 3
 ·subst h3
  by_cases ht : a0_2.toList = []
  ·by_cases hn : a0_1 = 0
   ·rw [show mayV 3 a0_1 a0_2 = true by simp [mayV, ht, hn]]; exact may12_p9 a0_1 a0_2 w ht hn
   ·by_cases hn1 : a0_1 = 1
    ·rw [show mayV 3 a0_1 a0_2 = true by simp [mayV, ht, hn1]]; exact may12_p10 a0_1 a0_2 w ht hn1
    ·rw [show mayV 3 a0_1 a0_2 = false by simp [mayV, ht, hn, hn1]]; exact may12_p11 a0_1 a0_2 w ht hn hn1
  ·rw [show mayV 3 a0_1 a0_2 = false by simp [mayV, ht]]; exact may12_p12 a0_1 a0_2 w ht
 by_cases h4 : a0_0 = 4
 ·subst h4
  by_cases ht : a0_2.toList = []
  ·by_cases hn : a0_1 ≥ 1
   ·by_cases hm : a0_1 ≤ 7
    ·rw [show mayV 4 a0_1 a0_2 = true by simp [mayV, ht, hm]; omega]; exact may12_p13 a0_1 a0_2 w ht hn hm
    ·rw [show mayV 4 a0_1 a0_2 = false by simp [mayV, ht, hm]]; exact may12_p14 a0_1 a0_2 w ht hn hm
   ·rw [show mayV 4 a0_1 a0_2 = false by simp [mayV, ht]; omega]; exact may12_p15 a0_1 a0_2 w ht hn
  ·rw [show mayV 4 a0_1 a0_2 = false by simp [mayV, ht]]; exact may12_p16 a0_1 a0_2 w ht
 ·rw [show mayV a0_0 a0_1 a0_2 = false by simp [mayV, h0, h1, h2, h3, h4]]; exact may12_p17 a0_0 a0_1 a0_2 w h0 h1 h2 h3 h4
end Go.Proofs.YtdddhabemdbooaaDoor.X
namespace Go.Proofs.YtdddhabemdbooaaDoor.X
open Go.RowKit Go.Proofs.YtdddhabemdbooaaDoorW.PrintWords Go.Proofs.YtdddhabemdbooaaDoorW.PrintLast Go.Proofs.YtdddhabemdbooaaDoorW.PrintMore
attribute [local go_sem] max2_int min2_int max_two min_two max_three min_three max_four min_four
set_option linter.unusedVariables false
set_option linter.unusedSimpArgs false
def oculusref03_May.f (a0_0 : Int) (a0_1 : Int) : Option (Bool) := if a0_0 ≥ 0 then (if a0_0 ≤ 998 then (if a0_1 ≥ 0 then (some (decide (a0_1 ≤ 701))) else (some false)) else (some false)) else (some false)
theorem oculusref03_May.calls (a0_0 : Int) (a0_1 : Int) (r : Bool) (w : World) (h : oculusref03_May.f a0_0 a0_1 = some r) :
  Calls Tryd.prog 47 #[.agg #[.int .i64 a0_0, .int .i64 a0_1]] w fun e w' => e = .returned (.bool r) ∧ Below w.heap.size w w' := by
 have hu46 := Tryd.underlying46; have HB := A_ (Below.refl w.heap.size w)
 have H : (if a0_0 ≥ 0 then (if a0_0 ≤ 998 then (if a0_1 ≥ 0 then (some (decide (a0_1 ≤ 701))) else (some false)) else (some false)) else (some false)) = some r := h
 clear h
 by_cases c2 : a0_0 ≥ 0
 ·rw [if_pos c2] at H; have c2b0 := decide_eq_true c2; clear c2
  by_cases c3 : a0_0 ≤ 998
  ·rw [if_pos c3] at H; have c3b0 := decide_eq_true c3; clear c3
   by_cases c4 : a0_1 ≥ 0
   ·rw [if_pos c4] at H; have c4b0 := decide_eq_true c4; clear c4; obtain rfl := Option.some.inj H
    go_enter Tryd.func47, Tryd.ntmps47
    go_wp2_with (first | ((with_reducible refine gd_ 1 ?_); refine be_ (N:=1) (cs := #[.int .i64 a0_0, .int .i64 a0_1]) (t:=46) ?_; intro g1 hg w5 hbox hb; have B1 := A_ (hbox); replace HB := bs_ HB hb; clear hb hbox hg; have hcz6_0 : w5.cell? ⟨g1, 0, none⟩ = some (.int .i64 a0_0) := bc_ B1 0 rfl; have hcz6_1 : w5.cell? ⟨g1, 1, none⟩ = some (.int .i64 a0_1) := bc_ B1 1 rfl))
    go_ret
    exact fi_ (pbx HB)
   ·rw [if_neg c4] at H; have c4b0 := decide_eq_false c4; clear c4; obtain rfl := Option.some.inj H
    go_enter Tryd.func47, Tryd.ntmps47
    go_wp2_with (first | ((with_reducible refine gd_ 1 ?_); refine be_ (N:=1) (cs := #[.int .i64 a0_0, .int .i64 a0_1]) (t:=46) ?_; intro g1 hg w7 hbox hb; have B1 := A_ (hbox); replace HB := bs_ HB hb; clear hb hbox hg; have hcz8_0 : w7.cell? ⟨g1, 0, none⟩ = some (.int .i64 a0_0) := bc_ B1 0 rfl; have hcz8_1 : w7.cell? ⟨g1, 1, none⟩ = some (.int .i64 a0_1) := bc_ B1 1 rfl))
    go_ret
    exact fi_ (pbx HB)
  ·rw [if_neg c3] at H; have c3b0 := decide_eq_false c3; clear c3; obtain rfl := Option.some.inj H
   go_enter Tryd.func47, Tryd.ntmps47
   go_wp2_with (first | ((with_reducible refine gd_ 1 ?_); refine be_ (N:=1) (cs := #[.int .i64 a0_0, .int .i64 a0_1]) (t:=46) ?_; intro g1 hg w9 hbox hb; have B1 := A_ (hbox); replace HB := bs_ HB hb; clear hb hbox hg; have hcz10_0 : w9.cell? ⟨g1, 0, none⟩ = some (.int .i64 a0_0) := bc_ B1 0 rfl; have hcz10_1 : w9.cell? ⟨g1, 1, none⟩ = some (.int .i64 a0_1) := bc_ B1 1 rfl))
   go_ret
   exact fi_ (pbx HB)
 ·rw [if_neg c2] at H; have c2b0 := decide_eq_false c2; clear c2; obtain rfl := Option.some.inj H
  go_enter Tryd.func47, Tryd.ntmps47
  go_wp2_with (first | ((with_reducible refine gd_ 1 ?_); refine be_ (N:=1) (cs := #[.int .i64 a0_0, .int .i64 a0_1]) (t:=46) ?_; intro g1 hg w11 hbox hb; have B1 := A_ (hbox); replace HB := bs_ HB hb; clear hb hbox hg; have hcz12_0 : w11.cell? ⟨g1, 0, none⟩ = some (.int .i64 a0_0) := bc_ B1 0 rfl; have hcz12_1 : w11.cell? ⟨g1, 1, none⟩ = some (.int .i64 a0_1) := bc_ B1 1 rfl))
  go_ret
  exact fi_ (pbx HB)

def oculusref22_ref.f (a0_0 : Int) (a0_1 : Int) (a0_2 : Bool) (a0_3 : Bool) : Option (Bool) := (oculusref03_May.f a0_0 a0_1).bind fun t102 => (some t102)
theorem oculusref22_ref.calls (a0_0 : Int) (a0_1 : Int) (a0_2 : Bool) (a0_3 : Bool) (r : Bool) (w : World) (h : oculusref22_ref.f a0_0 a0_1 a0_2 a0_3 = some r) :
  Calls Tryd.prog 35 #[.agg #[.int .i64 a0_0, .int .i64 a0_1, .bool a0_2, .bool a0_3]] w fun e w' => e = .returned (.bool r) ∧ Below w.heap.size w w' := by
 have hu25 := Tryd.underlying25; have hu46 := Tryd.underlying46; have HB := A_ (Below.refl w.heap.size w)
 have H : ((oculusref03_May.f a0_0 a0_1).bind fun t102 => (some t102)) = some r := h
 clear h; obtain ⟨t102, A2, H⟩ := bo_ H; obtain rfl := Option.some.inj H
 go_enter Tryd.func35, Tryd.ntmps35
 go_wp2_with (first | ((with_reducible refine gd_ 1 ?_); refine be_ (N:=1) (cs := #[.int .i64 a0_0, .int .i64 a0_1, .bool a0_2, .bool a0_3]) (t:=25) ?_; intro g1 hg w3 hbox hb; have B1 := A_ (hbox); replace HB := bs_ HB hb; clear hb hbox hg; have hcz4_0 : w3.cell? ⟨g1, 0, none⟩ = some (.int .i64 a0_0) := bc_ B1 0 rfl; have hcz4_1 : w3.cell? ⟨g1, 1, none⟩ = some (.int .i64 a0_1) := bc_ B1 1 rfl; have hcz4_2 : w3.cell? ⟨g1, 2, none⟩ = some (.bool a0_2) := bc_ B1 2 rfl; have hcz4_3 : w3.cell? ⟨g1, 3, none⟩ = some (.bool a0_3) := bc_ B1 3 rfl) | ((with_reducible refine gate_callee (f:=47) rfl ?_); refine gL_ (some 8) rfl rfl Tryd.func47 rfl #[.agg #[.int .i64 a0_0, .int .i64 a0_1]] rfl ?_; (with_reducible refine (oculusref03_May.calls a0_0 a0_1 t102 _ A2.out).mono ?_); rintro e w5 ⟨rfl, hb⟩; refine ⟨_, rfl, ?_⟩; replace B1 := bb_ B1 hb; replace HB := bs_ HB hb; ))
 go_ret
 exact fi_ (pbx HB)

def oculusref02_Every.l0 : Nat → Int → Int → Option (Int)
 | 0, _, _ => none
 | k + 1, x1, x2 => if x2 < 64 then (oculusref02_Every.l0 k (IntKind.u64.wrap ((IntKind.u64.wrap (x1 * 2)) + 1)) (wrap64 (x2 + 1))) else (some x1)
def oculusref02_Every.f (k : Nat)  : Option (Int) := oculusref02_Every.l0 k 0 0
theorem oculusref02_Every.calls (k : Nat)  (r : Int) (w : World) (h : oculusref02_Every.f k  = some r) :
  Calls Tryd.prog 61 #[] w fun e w' => e = .returned (.int .u64 r) ∧ Drawn0 w w' := by
 have H : (oculusref02_Every.l0 k 0 0) = some r := h
 clear h
 have H' := A_ H
 clear H
 go_enter Tryd.func61, Tryd.ntmps61
 go_wp2
 go_loopg [1, 2] k (fun kq v1 v2 w' => ∃ (x1_1 : Int) (x2_1 : Int), v1 = .int .u64 x1_1 ∧ v2 = .int .i64 x2_1 ∧ Aside0 (oculusref02_Every.l0 kq x1_1 x2_1 = some r) ∧ Aside0 (kq ≤ k) ∧ Drawn0 w w')
 case atStart => exact ⟨(0), (0), sq_, sq_, H', ⟨Nat.le_refl _⟩, dr_⟩
 case round =>
  clear H'; obtain ⟨x1_1, x2_1, rfl, rfl, HA, HK1, ⟨m1, rfl⟩⟩ := hrel
  cases gk with
  | zero => exact absurd HA.out (by simp [oculusref02_Every.l0])
  | succ k1 =>
   have H := HA.out; clear HA
   simp only [oculusref02_Every.l0] at H
   by_cases c1 : x2_1 < 64
   ·rw [if_pos c1] at H; have c1b0 := decide_eq_true c1; clear c1
    have H' := A_ H
    clear H
    go_wp2
    go_roundg k1
    case measure => have := HK1.out; omega
    case rel => exact ⟨(IntKind.u64.wrap ((IntKind.u64.wrap (x1_1 * 2)) + 1)), (wrap64 (x2_1 + 1)), sq_, sq_, H', ⟨by have := HK1.out; omega⟩, dr_⟩
   ·rw [if_neg c1] at H; have c1b0 := decide_eq_false c1; clear c1; obtain rfl := Option.some.inj H
    go_wp2
    go_ret
    exact ⟨by first | rfl | (simp; done) | (simp [*]; done), dr_⟩

def oculusref02_Top.f (k : Nat)  : Option (Int × Int) := (oculusref02_Every.f k).bind fun t102 => (some (15, t102))
theorem oculusref02_Top.calls (k : Nat)  (r1 : Int) (r2 : Int) (w : World) (h : oculusref02_Top.f k  = some (r1, r2)) :
  Calls Tryd.prog 54 #[] w fun e w' => e = .returned (.agg #[.int .i64 r1, .int .u64 r2]) ∧ Below w.heap.size w w' := by
 have hu49 := Tryd.underlying49; have HB := A_ (Below.refl w.heap.size w)
 have H : ((oculusref02_Every.f k).bind fun t102 => (some (15, t102))) = some (r1, r2) := h
 clear h; obtain ⟨t102, A1, H⟩ := bo_ H
 simp only [Option.some.injEq, Prod.mk.injEq] at H
 obtain ⟨rfl, rfl⟩ := H
 go_enter Tryd.func54, Tryd.ntmps54
 go_wp2_with (first | ((with_reducible refine gd_ 0 ?_); refine be_ (N:=0) (cs := #[.int .i64 0, .int .u64 0]) (t:=49) ?_; intro g1 hg w2 hbox hb; have B1 := A_ (hbox); have GW101 := hs_ HB hg; have GE101 := hs_ HB hg; replace HB := bs_ HB hb; clear hb hbox hg) | ((with_reducible refine gate_callee (f:=61) rfl ?_); refine gL_ (some 1) rfl rfl Tryd.func61 rfl #[] rfl ?_; (with_reducible refine (oculusref02_Every.calls k  t102 _ A1.out).mono ?_); rintro e w' ⟨rfl, ⟨nd, rfl⟩⟩; refine ⟨_, rfl, ?_⟩; (try (rw [drewN_self w2]; generalize hq_ : World.drewN w2 _ = w2; have n0_ : Aside0 (w2.heap[g1]? = some (.cells #[.int .i64 0, .int .u64 0] 49 (0, 0))) := ⟨by rw [← hq_]; exact (pkx B1)⟩; have n1_ : Aside0 (Below w.heap.size w w2) := ⟨by rw [← hq_]; exact (pbx HB)⟩; clear B1 HB hq_; have B1 := n0_; have HB := n1_; clear n0_ n1_)); have ⟨hcz3_0,hcz3_1,hfz3_0,hfz3_1⟩ := z2_ B1))
 refine bodyPost_ret (results_cell_row rfl _ _ g1 49 #[.int .i64 15, .int .u64 t102] (0, 0) _ rfl (by refine pp_ (cs := #[.int .i64 15, .int .u64 0]) 1 ?_ rfl; refine blk_put (cs := #[.int .i64 0, .int .u64 0]) ?_ 0 _ rfl; exact pkx B1) Tryd.underlying49 rfl (by kernel_rfl)) rfl ?_
 exact fi_ bl_

def oculusref01_Digits.l0 : Nat → Int → ByteArray → Option (ByteArray)
 | 0, _, _ => none
 | k + 1, x0, x3 => if x0 > 0 then ((some (([(wrap64 (48 + (Int.tmod x0 10))) % 256] : List Int) : List Int)).bind fun y104 => (if (strOfNums y104).size + x3.size ≤ 9223372036854775807 then (oculusref01_Digits.l0 k (wrap64 (Int.tdiv x0 10)) ((strOfNums y104) ++ x3)) else (none))) else (some x3)
def oculusref01_Digits.f (k : Nat) (a0 : Int) : Option (ByteArray) := oculusref01_Digits.l0 k (wrap64 (Int.tdiv a0 10)) (strOfNums (([(wrap64 (48 + (Int.tmod a0 10))) % 256] : List Int)))
theorem oculusref01_Digits.calls (k : Nat) (a0 : Int) (r : ByteArray) (w : World) (h : oculusref01_Digits.f k a0 = some r) :
  Calls Tryd.prog 55 #[.int .i64 a0] w fun e w' => e = .returned (.string r) ∧ Below w.heap.size w w' := by
 have HB := A_ (Below.refl w.heap.size w)
 have H : (oculusref01_Digits.l0 k (wrap64 (Int.tdiv a0 10)) (strOfNums (([(wrap64 (48 + (Int.tmod a0 10))) % 256] : List Int)))) = some r := h
 clear h; obtain ⟨y101, hy101⟩ : ∃ y_ : List Int, y_ = (([(wrap64 (48 + (Int.tmod a0 10))) % 256] : List Int)) := ⟨_, rfl⟩
 replace H : (oculusref01_Digits.l0 k (wrap64 (Int.tdiv a0 10)) (strOfNums y101)) = some r := by first | (rw [hy101]; with_reducible exact H) | (have H2_ := (Option.bind_some _ _).symm.trans H; rw [hy101]; with_reducible exact H2_) | (have H2_ := (Option.bind_some _ _).symm.trans H; with_reducible exact H2_) | with_reducible exact H | (rw [hy101]; exact H) | exact H
 have Ny101 := A_ hy101; clear hy101
 have H' := A_ H
 clear H
 go_enter Tryd.func55, Tryd.ntmps55
 go_wp2_with (first | ((with_reducible refine gd_ 8 ?_); refine Kd.R_lit (Kd.int .u8) _ 5 ?hg (N:=8) ?hd (xs := ([(wrap64 (48 + (Int.tmod a0 10))) % 256] : List Int)) (inner := [.int .u8 ((wrap64 (48 + (Int.tmod a0 10))) % 256)]) (ok := fun _ => True) (okp := fun _ => True) ?hr ?hp (fun _ hk => hk) trivial (Below.refl _ _) (Nat.le_refl _) (by simp) ?_; (case hd => rfl); (case hg => rfl); (case hr => first | (go_simp; done) | (go_simp; rfl)); (case hp => exact (Reps.one (show Kd.M (Kd.int .u8) _ _ _ ((wrap64 (48 + (Int.tmod a0 10))) % 256) [.int .u8 ((wrap64 (48 + (Int.tmod a0 10))) % 256)] from rfl) (Reps.none _ _))); intro v102 w2 ho3 hb hg_ hnew_; clear hg_ hnew_; (first | rw [← Ny101.out] at ho3 | (simp only [Int.reduceToNat] at ho3; rw [← Ny101.out] at ho3)); have HO103 := A_ (Kd.R_lower ho3 (below_size (pbx HB))); replace HB := bs_ HB hb; clear hb ho3; have hcv4 := own_string (P := Tryd.prog) Tryd.underlying80 Tryd.underlying5 Tryd.underlying9 (Kd.own_of_R HO103.out)))
 go_loopg [0, 3] k (fun kq v0 v3 w' => ∃ (x0_1 : Int) (x3_1 : ByteArray), v0 = .int .i64 x0_1 ∧ v3 = .string x3_1 ∧ Aside0 (oculusref01_Digits.l0 kq x0_1 x3_1 = some r) ∧ Aside0 (kq ≤ k) ∧ Aside0 (Below w.heap.size w w'))
 case atStart => exact ⟨(wrap64 (Int.tdiv a0 10)), (strOfNums y101), sq_, sq_, H', ⟨Nat.le_refl _⟩, ⟨pbx HB⟩⟩
 case round =>
  clear H'; (try clear hcv4); obtain ⟨x0_1, x3_1, rfl, rfl, HA, HK1, HB⟩ := hrel
  cases gk with
  | zero => exact absurd HA.out (by simp [oculusref01_Digits.l0])
  | succ k1 =>
   have H := HA.out; clear HA
   simp only [oculusref01_Digits.l0] at H
   by_cases c5 : x0_1 > 0
   ·rw [if_pos c5] at H; have c5b0 := decide_eq_true c5; clear c5; obtain ⟨y104, hy104⟩ : ∃ y_ : List Int, y_ = (([(wrap64 (48 + (Int.tmod x0_1 10))) % 256] : List Int)) := ⟨_, rfl⟩
    replace H : (if (strOfNums y104).size + x3_1.size ≤ 9223372036854775807 then (oculusref01_Digits.l0 k1 (wrap64 (Int.tdiv x0_1 10)) ((strOfNums y104) ++ x3_1)) else (none)) = some r := by first | (rw [hy104]; with_reducible exact H) | (have H2_ := (Option.bind_some _ _).symm.trans H; rw [hy104]; with_reducible exact H2_) | (have H2_ := (Option.bind_some _ _).symm.trans H; with_reducible exact H2_) | with_reducible exact H | (rw [hy104]; exact H) | exact H
    have Ny104 := A_ hy104; clear hy104
    by_cases c6 : (strOfNums y104).size + x3_1.size ≤ 9223372036854775807
    ·rw [if_pos c6] at H; have c6b0 := eq_true c6; have c6b1 := decide_eq_true c6
     try have c6b2 : (9223372036854775807 < (strOfNums y104).size + x3_1.size) = False := eq_false (Nat.not_lt.2 c6)
     have H' := A_ H
     clear H
     go_wp2_with (first | ((with_reducible refine gd_ 20 ?_); refine Kd.R_lit (Kd.int .u8) _ 5 ?hg (N:=20) ?hd (xs := ([(wrap64 (48 + (Int.tmod x0_1 10))) % 256] : List Int)) (inner := [.int .u8 ((wrap64 (48 + (Int.tmod x0_1 10))) % 256)]) (ok := fun _ => True) (okp := fun _ => True) ?hr ?hp (fun _ hk => hk) trivial (Below.refl _ _) (Nat.le_refl _) (by simp) ?_; (case hd => rfl); (case hg => rfl); (case hr => first | (go_simp; done) | (go_simp; rfl)); (case hp => exact (Reps.one (show Kd.M (Kd.int .u8) _ _ _ ((wrap64 (48 + (Int.tmod x0_1 10))) % 256) [.int .u8 ((wrap64 (48 + (Int.tmod x0_1 10))) % 256)] from rfl) (Reps.none _ _))); intro v105 w7 ho8 hb hg_ hnew_; clear hg_ hnew_; (first | rw [← Ny104.out] at ho8 | (simp only [Int.reduceToNat] at ho8; rw [← Ny104.out] at ho8)); have HO106 := A_ (Kd.R_lower ho8 (below_size (pbx HB))); replace HB := bs_ HB hb; clear hb ho8; have hcv9 := own_string (P := Tryd.prog) Tryd.underlying80 Tryd.underlying5 Tryd.underlying9 (Kd.own_of_R HO106.out)))
     go_roundg k1
     case measure => have := HK1.out; omega
     case rel => exact ⟨(wrap64 (Int.tdiv x0_1 10)), ((strOfNums y104) ++ x3_1), sq_, sq_, H', ⟨by have := HK1.out; omega⟩, ⟨pbx HB⟩⟩
    ·rw [if_neg c6] at H
     exact absurd H (by simp)
   ·rw [if_neg c5] at H; have c5b0 := decide_eq_false c5; clear c5; obtain rfl := Option.some.inj H
    go_wp2
    go_ret
    exact fi_ (pbx HB)

def oculusref01_One.l0 : Nat → Int → Int → Int → Option (Int)
 | 0, _, _, _ => none
 | k + 1, x0, x3, x4 => if x4 < x0 then (oculusref01_One.l0 k x0 (IntKind.u64.wrap (x3 * 2)) (wrap64 (x4 + 1))) else (some x3)
def oculusref01_One.f (k : Nat) (a0 : Int) : Option (Int) := oculusref01_One.l0 k a0 1 0
theorem oculusref01_One.calls (k : Nat) (a0 : Int) (r : Int) (w : World) (h : oculusref01_One.f k a0 = some r) :
  Calls Tryd.prog 63 #[.int .i64 a0] w fun e w' => e = .returned (.int .u64 r) ∧ Drawn0 w w' := by
 have H : (oculusref01_One.l0 k a0 1 0) = some r := h
 clear h
 have H' := A_ H
 clear H
 go_enter Tryd.func63, Tryd.ntmps63
 go_wp2
 go_loopg [3, 4] k (fun kq v3 v4 w' => ∃ (x3_1 : Int) (x4_1 : Int), v3 = .int .u64 x3_1 ∧ v4 = .int .i64 x4_1 ∧ Aside0 (oculusref01_One.l0 kq a0 x3_1 x4_1 = some r) ∧ Aside0 (kq ≤ k) ∧ Drawn0 w w')
 case atStart => exact ⟨(1), (0), sq_, sq_, H', ⟨Nat.le_refl _⟩, dr_⟩
 case round =>
  clear H'; obtain ⟨x3_1, x4_1, rfl, rfl, HA, HK1, ⟨m1, rfl⟩⟩ := hrel
  cases gk with
  | zero => exact absurd HA.out (by simp [oculusref01_One.l0])
  | succ k1 =>
   have H := HA.out; clear HA
   simp only [oculusref01_One.l0] at H
   by_cases c2 : x4_1 < a0
   ·rw [if_pos c2] at H; have c2b0 := decide_eq_true c2; clear c2
    have H' := A_ H
    clear H
    go_wp2
    go_roundg k1
    case measure => have := HK1.out; omega
    case rel => exact ⟨(IntKind.u64.wrap (x3_1 * 2)), (wrap64 (x4_1 + 1)), sq_, sq_, H', ⟨by have := HK1.out; omega⟩, dr_⟩
   ·rw [if_neg c2] at H; have c2b0 := decide_eq_false c2; clear c2; obtain rfl := Option.some.inj H
    go_wp2
    go_ret
    exact ⟨by first | rfl | (simp; done) | (simp [*]; done), dr_⟩

mutual
def oculusref01_Bit.j0 : Nat → Int → Int → Bool → Option (Bool)
 | 0, _, _, _ => none
 | k + 1, x0, x1, x11 => if x11 = true then (some false) else (oculusref01_Bit.l0 k x0 x1 0)
def oculusref01_Bit.l0 : Nat → Int → Int → Int → Option (Bool)
 | 0, _, _, _ => none
 | k + 1, x0, x1, x5 => if x5 < x1 then (oculusref01_Bit.l0 k (IntKind.u64.wrap (Int.tdiv x0 2)) x1 (wrap64 (x5 + 1))) else (some ((Int.tmod x0 2) == 1))
end
def oculusref01_Bit.f (k : Nat) (a0 : Int) (a1 : Int) : Option (Bool) := if a1 < 0 then (oculusref01_Bit.j0 k a0 a1 true) else (oculusref01_Bit.j0 k a0 a1 (decide (a1 > 63)))
theorem oculusref01_Bit.calls (k : Nat) (a0 : Int) (a1 : Int) (r : Bool) (w : World) (h : oculusref01_Bit.f k a0 a1 = some r) :
  Calls Tryd.prog 76 #[.int .u64 a0, .int .i64 a1] w fun e w' => e = .returned (.bool r) ∧ Drawn0 w w' := by
 have H : (if a1 < 0 then (oculusref01_Bit.j0 k a0 a1 true) else (oculusref01_Bit.j0 k a0 a1 (decide (a1 > 63)))) = some r := h
 clear h; have HC3 := A_ H; clear H
 go_enter Tryd.func76, Tryd.ntmps76
 go_upto_region 1 with (fail)
 go_cut [11] (fun v11 wc => ∃ (kq : Nat) (x11_2 : Bool), v11 = .bool x11_2 ∧ Aside0 (oculusref01_Bit.j0 kq a0 a1 x11_2 = some r) ∧ Aside0 (kq ≤ k) ∧ Drawn0 w wc)
 case first =>
  have H := HC3.out; clear HC3
  by_cases c4 : a1 < 0
  ·rw [if_pos c4] at H; have c4b0 := decide_eq_true c4; clear c4; (first | rw [c4b0] | (simp only [i64_w, i32_w]; rw [c4b0]) | skip)
   have H' := A_ H
   clear H
   go_wp2
   go_meet
   case rel => exact ⟨_, (true), sq_, H', le_, dr_⟩
  ·rw [if_neg c4] at H; have c4b0 := decide_eq_false c4; clear c4; (first | rw [c4b0] | (simp only [i64_w, i32_w]; rw [c4b0]) | skip)
   have H' := A_ H
   clear H
   go_wp2
   go_meet
   case rel => exact ⟨_, (decide (a1 > 63)), sq_, H', le_, dr_⟩
 case rest =>
  clear HC3; obtain ⟨kq, x11_2, rfl, HA, HJ2, ⟨mc2, rfl⟩⟩ := hcut
  cases kq with
  | zero => exact absurd HA.out (by simp [oculusref01_Bit.j0])
  | succ kj2 =>
   have H := HA.out; clear HA
   simp only [oculusref01_Bit.j0] at H
   replace H := ib_ H; rcases H with ⟨rfl,H⟩|⟨rfl,H⟩
   ·obtain rfl := Option.some.inj H
    go_wp2
    go_ret
    exact ⟨by first | rfl | (simp; done) | (simp [*]; done), dr_⟩
   ·have H' := A_ H
    clear H
    go_wp2
    go_loopg [0, 5] kj2 (fun kq v0 v5 w' => ∃ (x0_2 : Int) (x5_2 : Int), v0 = .int .u64 x0_2 ∧ v5 = .int .i64 x5_2 ∧ Aside0 (oculusref01_Bit.l0 kq x0_2 a1 x5_2 = some r) ∧ Aside0 (kq ≤ kj2) ∧ Drawn0 w w')
    case atStart => exact ⟨(a0), (0), sq_, sq_, H', ⟨Nat.le_refl _⟩, dr_⟩
    case round =>
     clear H'; (try clear c5); obtain ⟨x0_2, x5_2, rfl, rfl, HA, HK2, ⟨m2, rfl⟩⟩ := hrel
     cases gk with
     | zero => exact absurd HA.out (by simp [oculusref01_Bit.l0])
     | succ k2 =>
      have H := HA.out; clear HA
      simp only [oculusref01_Bit.l0] at H
      by_cases c6 : x5_2 < a1
      ·rw [if_pos c6] at H; have c6b0 := decide_eq_true c6; clear c6
       have H' := A_ H
       clear H
       go_wp2
       go_roundg k2
       case measure => have := HJ2.out; have := HK2.out; omega
       case rel => exact ⟨(IntKind.u64.wrap (Int.tdiv x0_2 2)), (wrap64 (x5_2 + 1)), sq_, sq_, H', ⟨by have := HJ2.out; have := HK2.out; omega⟩, dr_⟩
      ·rw [if_neg c6] at H; have c6b0 := decide_eq_false c6; clear c6; obtain rfl := Option.some.inj H
       go_wp2
       go_ret
       exact ⟨by first | rfl | (simp; done) | (simp [*]; done), dr_⟩

def oculusref01_Join.l0 : Nat → Int → Int → Int → Int → Option (Int)
 | 0, _, _, _, _ => none
 | k + 1, x0, x1, x5, x6 => if x6 < 64 then ((oculusref01_Bit.f k x0 x6).bind fun t101 => (if t101 = true then ((oculusref01_One.f k x6).bind fun t102 => (oculusref01_Join.l0 k x0 x1 (IntKind.u64.wrap (x5 + t102)) (wrap64 (x6 + 1)))) else ((oculusref01_Bit.f k x1 x6).bind fun t103 => (if t103 = true then ((oculusref01_One.f k x6).bind fun t104 => (oculusref01_Join.l0 k x0 x1 (IntKind.u64.wrap (x5 + t104)) (wrap64 (x6 + 1)))) else (oculusref01_Join.l0 k x0 x1 x5 (wrap64 (x6 + 1))))))) else (some x5)
def oculusref01_Join.f (k : Nat) (a0 : Int) (a1 : Int) : Option (Int) := oculusref01_Join.l0 k a0 a1 0 0
theorem oculusref01_Join.calls (k : Nat) (a0 : Int) (a1 : Int) (r : Int) (w : World) (h : oculusref01_Join.f k a0 a1 = some r) :
  Calls Tryd.prog 62 #[.int .u64 a0, .int .u64 a1] w fun e w' => e = .returned (.int .u64 r) ∧ Drawn0 w w' := by
 have H : (oculusref01_Join.l0 k a0 a1 0 0) = some r := h
 clear h
 have H' := A_ H
 clear H
 go_enter Tryd.func62, Tryd.ntmps62
 go_wp2
 go_loopg [5, 6] k (fun kq v5 v6 w' => ∃ (x5_1 : Int) (x6_1 : Int), v5 = .int .u64 x5_1 ∧ v6 = .int .i64 x6_1 ∧ Aside0 (oculusref01_Join.l0 kq a0 a1 x5_1 x6_1 = some r) ∧ Aside0 (kq ≤ k) ∧ Drawn0 w w')
 case atStart => exact ⟨(0), (0), sq_, sq_, H', ⟨Nat.le_refl _⟩, dr_⟩
 case round =>
  clear H'; obtain ⟨x5_1, x6_1, rfl, rfl, HA, HK1, ⟨m1, rfl⟩⟩ := hrel
  cases gk with
  | zero => exact absurd HA.out (by simp [oculusref01_Join.l0])
  | succ k1 =>
   have H := HA.out; clear HA
   simp only [oculusref01_Join.l0] at H
   by_cases c3 : x6_1 < 64
   ·rw [if_pos c3] at H; have c3b0 := decide_eq_true c3; clear c3; obtain ⟨t101, A4, H⟩ := bo_ H
    replace H := ib_ H; rcases H with ⟨rfl,H⟩|⟨rfl,H⟩
    ·obtain ⟨t102, A6, H⟩ := bo_ H
     have H' := A_ H
     clear H
     go_wp2_with (first | ((with_reducible refine gate_callee (f:=76) rfl ?_); refine gL_ (some 13) rfl rfl Tryd.func76 rfl #[.int .u64 a0, .int .i64 x6_1] rfl ?_; (with_reducible refine (oculusref01_Bit.calls k1 a0 x6_1 true _ A4.out).mono ?_); rintro e w' ⟨rfl, ⟨nd, rfl⟩⟩; refine ⟨_, rfl, ?_⟩) | ((with_reducible refine gate_callee (f:=63) rfl ?_); refine gL_ (some 21) rfl rfl Tryd.func63 rfl #[.int .i64 x6_1] rfl ?_; (with_reducible refine (oculusref01_One.calls k1 x6_1 t102 _ A6.out).mono ?_); rintro e w' ⟨rfl, ⟨nd, rfl⟩⟩; refine ⟨_, rfl, ?_⟩))
     go_roundg k1
     case measure => have := HK1.out; omega
     case rel => exact ⟨(IntKind.u64.wrap (x5_1 + t102)), (wrap64 (x6_1 + 1)), (by first | rfl | (simp; done) | (simp [*]; done) | (cases t102 <;> simp; done)), sq_, H', ⟨by have := HK1.out; omega⟩, dr_⟩
    ·obtain ⟨t103, A7, H⟩ := bo_ H
     replace H := ib_ H; rcases H with ⟨rfl,H⟩|⟨rfl,H⟩
     ·obtain ⟨t104, A9, H⟩ := bo_ H
      have H' := A_ H
      clear H
      go_wp2_with (first | ((with_reducible refine gate_callee (f:=76) rfl ?_); refine gL_ (some 13) rfl rfl Tryd.func76 rfl #[.int .u64 a0, .int .i64 x6_1] rfl ?_; (with_reducible refine (oculusref01_Bit.calls k1 a0 x6_1 false _ A4.out).mono ?_); rintro e w' ⟨rfl, ⟨nd, rfl⟩⟩; refine ⟨_, rfl, ?_⟩) | (go_at_call 76; (with_reducible refine (oculusref01_Bit.calls k1 a1 x6_1 true _ A7.out).mono ?_); rintro e w' ⟨rfl, ⟨nd, rfl⟩⟩) | ((with_reducible refine gate_callee (f:=63) rfl ?_); refine gL_ (some 21) rfl rfl Tryd.func63 rfl #[.int .i64 x6_1] rfl ?_; (with_reducible refine (oculusref01_One.calls k1 x6_1 t104 _ A9.out).mono ?_); rintro e w' ⟨rfl, ⟨nd, rfl⟩⟩; refine ⟨_, rfl, ?_⟩))
      go_roundg k1
      case measure => have := HK1.out; omega
      case rel => exact ⟨(IntKind.u64.wrap (x5_1 + t104)), (wrap64 (x6_1 + 1)), (by first | rfl | (simp; done) | (simp [*]; done) | (cases t104 <;> simp; done)), sq_, H', ⟨by have := HK1.out; omega⟩, dr_⟩
     ·have H' := A_ H
      clear H
      go_wp2_with (first | ((with_reducible refine gate_callee (f:=76) rfl ?_); refine gL_ (some 13) rfl rfl Tryd.func76 rfl #[.int .u64 a0, .int .i64 x6_1] rfl ?_; (with_reducible refine (oculusref01_Bit.calls k1 a0 x6_1 false _ A4.out).mono ?_); rintro e w' ⟨rfl, ⟨nd, rfl⟩⟩; refine ⟨_, rfl, ?_⟩) | (go_at_call 76; (with_reducible refine (oculusref01_Bit.calls k1 a1 x6_1 false _ A7.out).mono ?_); rintro e w' ⟨rfl, ⟨nd, rfl⟩⟩))
      go_roundg k1
      case measure => have := HK1.out; omega
      case rel => exact ⟨(x5_1), (wrap64 (x6_1 + 1)), sq_, sq_, H', ⟨by have := HK1.out; omega⟩, dr_⟩
   ·rw [if_neg c3] at H; have c3b0 := decide_eq_false c3; clear c3; obtain rfl := Option.some.inj H
    go_wp2
    go_ret
    exact ⟨by first | rfl | (simp; done) | (simp [*]; done), dr_⟩

def oculusref01_List.l0 : Nat → Int → List Int → Int → Option (List Int)
 | 0, _, _, _ => none
 | k + 1, x0, x3, x4 => if x4 < 64 then ((oculusref01_Bit.f k x0 x4).bind fun t101 => (if t101 = true then (if x3.length < 17592186044416 then (oculusref01_List.l0 k x0 (x3 ++ [x4]) (wrap64 (x4 + 1))) else (none)) else (oculusref01_List.l0 k x0 x3 (wrap64 (x4 + 1))))) else (some x3)
def oculusref01_List.f (k : Nat) (a0 : Int) : Option (List Int) := oculusref01_List.l0 k a0 ([] : List Int) 0
theorem oculusref01_List.calls (k : Nat) (a0 : Int) (r : List Int) (w : World) (h : oculusref01_List.f k a0 = some r) :
  Calls Tryd.prog 77 #[.int .u64 a0] w fun e w' => ∃ v0_ : Value, e = .returned (v0_) ∧ Kd.R (Kd.int .i64) 3 w' w.heap.size (fun _ => True) v0_ r ∧ Below w.heap.size w w' := by
 have HB := A_ (Below.refl w.heap.size w)
 have H : (oculusref01_List.l0 k a0 ([] : List Int) 0) = some r := h
 clear h
 have H' := A_ H
 clear H
 go_enter Tryd.func77, Tryd.ntmps77
 go_wp2
 go_loopg [3, 4] k (fun kq v3 v4 w' => ∃ (x3_1 : List Int) (x4_1 : Int), v4 = .int .i64 x4_1 ∧ Aside0 (oculusref01_List.l0 kq a0 x3_1 x4_1 = some r) ∧ Aside0 (kq ≤ k) ∧ Aside0 (Kd.R (Kd.int .i64) 3 w' w.heap.size (fun _ => True) v3 x3_1) ∧ Aside0 (Below w.heap.size w w'))
 case atStart => exact ⟨(([] : List Int)), (0), sq_, H', ⟨Nat.le_refl _⟩, ⟨by first | exact Kd.R_nil _ _ _ _ _ | exact Kd.N_nil _ _ _ _ _ | exact Kd.V_nil _ _ _ _ _ | exact Kd.Q_nil _ _ _ _ _ | exact Kd.S_nil _ _ _ _ _⟩, ⟨pbx HB⟩⟩
 case round =>
  clear H'; obtain ⟨x3_1, x4_1, rfl, HA, HK1, HO_3, HB⟩ := hrel
  cases gk with
  | zero => exact absurd HA.out (by simp [oculusref01_List.l0])
  | succ k1 =>
   have H := HA.out; clear HA
   simp only [oculusref01_List.l0] at H
   by_cases c2 : x4_1 < 64
   ·rw [if_pos c2] at H; have c2b0 := decide_eq_true c2; clear c2; obtain ⟨t101, A3, H⟩ := bo_ H
    replace H := ib_ H; rcases H with ⟨rfl,H⟩|⟨rfl,H⟩
    ·by_cases c5 : x3_1.length < 17592186044416
     ·rw [if_pos c5] at H; have LMc5 := A_ c5; clear c5; obtain ⟨y102, hy102⟩ : ∃ y_ : List Int, y_ = (x3_1 ++ [x4_1]) := ⟨_, rfl⟩
      replace H : (oculusref01_List.l0 k1 a0 y102 (wrap64 (x4_1 + 1))) = some r := by first | (rw [hy102]; with_reducible exact H) | (have H2_ := (Option.bind_some _ _).symm.trans H; rw [hy102]; with_reducible exact H2_) | (have H2_ := (Option.bind_some _ _).symm.trans H; with_reducible exact H2_) | with_reducible exact H | (rw [hy102]; exact H) | exact H
      have Ny102 := A_ hy102; clear hy102
      have H' := A_ H
      clear H
      go_wp2_with (first | ((with_reducible refine gate_callee (f:=76) rfl ?_); refine gL_ (some 11) rfl rfl Tryd.func76 rfl #[.int .u64 a0, .int .i64 x4_1] rfl ?_; (with_reducible refine (oculusref01_Bit.calls k1 a0 x4_1 true _ A3.out).mono ?_); rintro e w' ⟨rfl, ⟨nd, rfl⟩⟩; refine ⟨_, rfl, ?_⟩) | ((with_reducible refine gate_builtin (b := .append) (xs := #[.tmp 12, .tmp 14]) rfl ?_); at_builtin; refine Kd.R_append (Kd.int .i64) (w0 := w) w.heap.size rfl (.tmp 12) (.tmp 14) 93 3 (.int .i64 0) 8 rfl Tryd.underlying93 info3 rfl (by decide) (by omega) u3 x3_1 x4_1 [.int .i64 x4_1] (fun _ => True) (fun _ => False) rfl rfl ?aP (fun _ hk => hk.elim) ?aF ?aO ?aB ?aS ?aL ?_; (case aP => exact rfl); (case aB => exact (pbx HB)); (case aF => exact (fun _ _ => trivial)); (case aO => exact (ra_ HO_3.out)); (case aS => exact (below_size (pbx HB))); (case aL => have := LMc5.out; omega); intro v103 w6 ho hb hg hat; rw [← Ny102.out] at ho; have HO104 := A_ (ho); replace HB := A_ (hb); clear HO_3; clear ho hb hg hat))
      go_roundg k1
      case measure => have := HK1.out; omega
      case rel => exact ⟨(y102), (wrap64 (x4_1 + 1)), sq_, H', ⟨by have := HK1.out; omega⟩, ⟨ra_ HO104.out⟩, ⟨pbx HB⟩⟩
     ·rw [if_neg c5] at H
      exact absurd H (by simp)
    ·have H' := A_ H
     clear H
     go_wp2_with (first | ((with_reducible refine gate_callee (f:=76) rfl ?_); refine gL_ (some 11) rfl rfl Tryd.func76 rfl #[.int .u64 a0, .int .i64 x4_1] rfl ?_; (with_reducible refine (oculusref01_Bit.calls k1 a0 x4_1 false _ A3.out).mono ?_); rintro e w' ⟨rfl, ⟨nd, rfl⟩⟩; refine ⟨_, rfl, ?_⟩))
     go_roundg k1
     case measure => have := HK1.out; omega
     case rel => exact ⟨(x3_1), (wrap64 (x4_1 + 1)), sq_, H', ⟨by have := HK1.out; omega⟩, ⟨ra_ HO_3.out⟩, ⟨pbx HB⟩⟩
   ·rw [if_neg c2] at H; have c2b0 := decide_eq_false c2; clear c2; obtain rfl := Option.some.inj H
    go_wp2
    go_ret
    exact ⟨_, by first | rfl | (simp [errW_none, errW_some] <;> rfl) | (simp [*, errW_none, errW_some] <;> rfl), ra_ HO_3.out, pbx HB⟩

end Go.Proofs.YtdddhabemdbooaaDoor.X
