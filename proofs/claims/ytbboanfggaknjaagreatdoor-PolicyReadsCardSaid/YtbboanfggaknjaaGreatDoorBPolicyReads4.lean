/- Contracts of the functions that the law PolicyReads reaches, and what they answer (a session's own texts, joined; part 4). -/
import Derived.Deep.RegionHeld3
import Derived.Test.YtbboanfggaknjaaGreatDoorBPolicyReads3
set_option maxHeartbeats 8000000
set_option maxRecDepth 100000
namespace Go.Proofs.YtbboanfggaknjaaGreatDoor.X
open Go.RowKit Go.Proofs.YtbboanfggaknjaaGreatDoorW.PrintWords Go.Proofs.YtbboanfggaknjaaGreatDoorW.PrintLast Go.Proofs.YtbboanfggaknjaaGreatDoorW.PrintMore
attribute [local go_sem] max2_int min2_int max_two min_two max_three min_three max_four min_four
set_option linter.unusedVariables false
set_option linter.unusedSimpArgs false
def oculusref03_Letters.j0 : Nat → Int → Bool → Option (ByteArray)
 | 0, _, _ => none
 | k + 1, x0, x8 => if x8 = true then (some (⟨#[]⟩ : ByteArray)) else (if x0 < 26 then (some (strOfNums (([(wrap64 (65 + x0)) % 256] : List Int)))) else (some (strOfNums (([(wrap64 (64 + (wrap64 (Int.tdiv x0 26)))) % 256, (wrap64 (65 + (Int.tmod x0 26))) % 256] : List Int)))))
def oculusref03_Letters.f (k : Nat) (a0 : Int) : Option (ByteArray) := if a0 < 0 then (oculusref03_Letters.j0 k a0 true) else (oculusref03_Letters.j0 k a0 (decide (a0 > 701)))
theorem oculusref03_Letters.calls (k : Nat) (a0 : Int) (r : ByteArray) (w : World) (h : oculusref03_Letters.f k a0 = some r) :
  Calls Tryz.prog 97 #[.int .i64 a0] w fun e w' => e = .returned (.string r) ∧ Below w.heap.size w w' := by
 have HB := A_ (Below.refl w.heap.size w)
 have H : (if a0 < 0 then (oculusref03_Letters.j0 k a0 true) else (oculusref03_Letters.j0 k a0 (decide (a0 > 701)))) = some r := h
 clear h; have HC2 := A_ H; clear H
 go_enter Tryz.func97, Tryz.ntmps97
 go_upto_region 1 with (fail)
 go_cut [8] (fun v8 wc => ∃ (kq : Nat) (x8_1 : Bool), v8 = .bool x8_1 ∧ Aside0 (oculusref03_Letters.j0 kq a0 x8_1 = some r) ∧ Aside0 (kq ≤ k) ∧ Aside0 (Below w.heap.size w wc))
 case first =>
  have H := HC2.out; clear HC2
  by_cases c3 : a0 < 0
  ·rw [if_pos c3] at H; have c3b0 := decide_eq_true c3; clear c3; (first | rw [c3b0] | (simp only [i64_w, i32_w]; rw [c3b0]) | skip)
   have H' := A_ H
   clear H
   go_wp2
   go_meet
   case rel => exact ⟨_, (true), sq_, H', le_, ⟨pbx HB⟩⟩
  ·rw [if_neg c3] at H; have c3b0 := decide_eq_false c3; clear c3; (first | rw [c3b0] | (simp only [i64_w, i32_w]; rw [c3b0]) | skip)
   have H' := A_ H
   clear H
   go_wp2
   go_meet
   case rel => exact ⟨_, (decide (a0 > 701)), sq_, H', le_, ⟨pbx HB⟩⟩
 case rest =>
  clear HC2; obtain ⟨kq, x8_1, rfl, HA, HJ1, HB⟩ := hcut
  cases kq with
  | zero => exact absurd HA.out (by simp [oculusref03_Letters.j0])
  | succ kj1 =>
   have H := HA.out; clear HA
   simp only [oculusref03_Letters.j0] at H
   by_cases c4 : x8_1 = true
   ·subst c4
    replace H := it_ H; obtain rfl := Option.some.inj H
    go_wp2
    go_ret
    exact fi_ (pbx HB)
   ·replace c4 := Bool.eq_false_iff.mpr c4; subst c4
    replace H := ie_ H
    by_cases c5 : a0 < 26
    ·rw [if_pos c5] at H; have c5b0 := decide_eq_true c5; clear c5; obtain ⟨y101, hy101⟩ : ∃ y_ : List Int, y_ = (([(wrap64 (65 + a0)) % 256] : List Int)) := ⟨_, rfl⟩
     replace H : (some (strOfNums y101)) = some r := by first | (rw [hy101]; with_reducible exact H) | (have H2_ := (Option.bind_some _ _).symm.trans H; rw [hy101]; with_reducible exact H2_) | (have H2_ := (Option.bind_some _ _).symm.trans H; with_reducible exact H2_) | with_reducible exact H | (rw [hy101]; exact H) | exact H
     have Ny101 := A_ hy101; clear hy101; obtain rfl := Option.some.inj H
     go_wp2_with (first | ((with_reducible refine gd_ 14 ?_); refine Kd.R_lit (Kd.int .u8) _ 5 ?hg (N:=14) ?hd (xs := ([(wrap64 (65 + a0)) % 256] : List Int)) (inner := [.int .u8 ((wrap64 (65 + a0)) % 256)]) (ok := fun _ => True) (okp := fun _ => True) ?hr ?hp (fun _ hk => hk) trivial (Below.refl _ _) (Nat.le_refl _) (by simp) ?_; (case hd => rfl); (case hg => rfl); (case hr => first | (go_simp; done) | (go_simp; rfl)); (case hp => exact (Reps.one (show Kd.M (Kd.int .u8) _ _ _ ((wrap64 (65 + a0)) % 256) [.int .u8 ((wrap64 (65 + a0)) % 256)] from rfl) (Reps.none _ _))); intro v102 w6 ho7 hb hg_ hnew_; clear hg_ hnew_; (first | rw [← Ny101.out] at ho7 | (simp only [Int.reduceToNat] at ho7; rw [← Ny101.out] at ho7)); have HO103 := A_ (Kd.R_lower ho7 (below_size (pbx HB))); replace HB := bs_ HB hb; clear hb ho7; have hcv8 := own_string (P := Tryz.prog) Tryz.underlying66 Tryz.underlying5 Tryz.underlying9 (Kd.own_of_R HO103.out)))
     go_ret
     exact fi_ (pbx HB)
    ·rw [if_neg c5] at H; have c5b0 := decide_eq_false c5; clear c5; obtain ⟨y104, hy104⟩ : ∃ y_ : List Int, y_ = (([(wrap64 (64 + (wrap64 (Int.tdiv a0 26)))) % 256, (wrap64 (65 + (Int.tmod a0 26))) % 256] : List Int)) := ⟨_, rfl⟩
     replace H : (some (strOfNums y104)) = some r := by first | (rw [hy104]; with_reducible exact H) | (have H2_ := (Option.bind_some _ _).symm.trans H; rw [hy104]; with_reducible exact H2_) | (have H2_ := (Option.bind_some _ _).symm.trans H; with_reducible exact H2_) | with_reducible exact H | (rw [hy104]; exact H) | exact H
     have Ny104 := A_ hy104; clear hy104; obtain rfl := Option.some.inj H
     go_wp2_with (first | ((with_reducible refine gd_ 24 ?_); refine Kd.R_lit (Kd.int .u8) _ 5 ?hg (N:=24) ?hd (xs := ([(wrap64 (64 + (wrap64 (Int.tdiv a0 26)))) % 256, (wrap64 (65 + (Int.tmod a0 26))) % 256] : List Int)) (inner := [.int .u8 ((wrap64 (64 + (wrap64 (Int.tdiv a0 26)))) % 256), .int .u8 ((wrap64 (65 + (Int.tmod a0 26))) % 256)]) (ok := fun _ => True) (okp := fun _ => True) ?hr ?hp (fun _ hk => hk) trivial (Below.refl _ _) (Nat.le_refl _) (by simp) ?_; (case hd => rfl); (case hg => rfl); (case hr => first | (go_simp; done) | (go_simp; rfl)); (case hp => exact (Reps.one (show Kd.M (Kd.int .u8) _ _ _ ((wrap64 (64 + (wrap64 (Int.tdiv a0 26)))) % 256) [.int .u8 ((wrap64 (64 + (wrap64 (Int.tdiv a0 26)))) % 256)] from rfl) (Reps.one (show Kd.M (Kd.int .u8) _ _ _ ((wrap64 (65 + (Int.tmod a0 26))) % 256) [.int .u8 ((wrap64 (65 + (Int.tmod a0 26))) % 256)] from rfl) (Reps.none _ _)))); intro v105 w9 ho10 hb hg_ hnew_; clear hg_ hnew_; (first | rw [← Ny104.out] at ho10 | (simp only [Int.reduceToNat] at ho10; rw [← Ny104.out] at ho10)); have HO106 := A_ (Kd.R_lower ho10 (below_size (pbx HB))); replace HB := bs_ HB hb; clear hb ho10; have hcv11 := own_string (P := Tryz.prog) Tryz.underlying66 Tryz.underlying5 Tryz.underlying9 (Kd.own_of_R HO106.out)))
     go_ret
     exact fi_ (pbx HB)

def oculusref03_Column.l0 : Nat → ByteArray → Int → Option (Int × Bool)
 | 0, _, _ => none
 | k + 1, x0, x3 => if x3 ≤ 701 then ((oculusref03_Letters.f k x3).bind fun t102 => (if t102.toList = x0.toList then (some (x3, true)) else (oculusref03_Column.l0 k x0 (wrap64 (x3 + 1))))) else (some (0, false))
def oculusref03_Column.f (k : Nat) (a0 : ByteArray) : Option (Int × Bool) := oculusref03_Column.l0 k a0 0
theorem oculusref03_Column.calls (k : Nat) (a0 : ByteArray) (r1 : Int) (r2 : Bool) (w : World) (h : oculusref03_Column.f k a0 = some (r1, r2)) :
  Calls Tryz.prog 81 #[.string a0] w fun e w' => e = .returned (.agg #[.int .i64 r1, .bool r2]) ∧ Below w.heap.size w w' := by
 have hu91 := Tryz.underlying91; have HB := A_ (Below.refl w.heap.size w)
 have H : (oculusref03_Column.l0 k a0 0) = some (r1, r2) := h
 clear h
 have H' := A_ H
 clear H
 go_enter Tryz.func81, Tryz.ntmps81
 go_wp2_with (first | ((with_reducible refine gd_ 2 ?_); refine be_ (N:=2) (cs := #[.int .i64 0, .bool false]) (t:=91) ?_; intro g1 hg w2 hbox hb; have B1 := A_ (hbox); have GW101 := hs_ HB hg; have GE101 := hs_ HB hg; replace HB := bs_ HB hb; clear hb hbox hg))
 go_loopg [3] k (fun kq v3 w' => ∃ (x3_1 : Int) (x102000_1 : Int) (x102001_1 : Bool), v3 = .int .i64 x3_1 ∧ Aside0 (oculusref03_Column.l0 kq a0 x3_1 = some (r1, r2)) ∧ Aside0 (kq ≤ k) ∧ Aside0 (w'.heap[g1]? = some (.cells #[.int .i64 x102000_1, .bool x102001_1] 91 (0, 0))) ∧ Aside0 (Below w.heap.size w w'))
 case atStart => exact ⟨(0), (0), (false), sq_, H', ⟨Nat.le_refl _⟩, ⟨pkx B1⟩, ⟨pbx HB⟩⟩
 case round =>
  clear H'; obtain ⟨x3_1, x102000_1, x102001_1, rfl, HA, HK1, B1, HB⟩ := hrel
  cases gk with
  | zero => exact absurd HA.out (by simp [oculusref03_Column.l0])
  | succ k1 =>
   have H := HA.out; clear HA
   simp only [oculusref03_Column.l0] at H
   by_cases c3 : x3_1 ≤ 701
   ·rw [if_pos c3] at H; have c3b0 := decide_eq_true c3; clear c3; obtain ⟨t102, A4, H⟩ := bo_ H
    by_cases c5 : t102.toList = a0.toList
    ·rw [if_pos c5] at H; have ⟨c5b0,c5b1⟩ := e1_ c5; clear c5
     simp only [Option.some.injEq, Prod.mk.injEq] at H
     obtain ⟨rfl, rfl⟩ := H
     go_wp2_with (first | ((with_reducible refine gate_callee (f:=97) rfl ?_); refine gL_ (some 9) rfl rfl Tryz.func97 rfl #[.int .i64 x3_1] rfl ?_; (with_reducible refine (oculusref03_Letters.calls k1 x3_1 t102 _ A4.out).mono ?_); rintro e w6 ⟨rfl, hb⟩; refine ⟨_, rfl, ?_⟩; replace B1 := bb_ B1 hb; replace HB := bs_ HB hb; (try clear hb); have ⟨hcz7_0,hcz7_1,hfz7_0,hfz7_1⟩ := z2_ B1))
     refine bodyPost_ret (results_cell_row rfl _ _ g1 91 #[.int .i64 x3_1, .bool true] (0, 0) _ rfl (by refine pp_ (cs := #[.int .i64 x3_1, .bool x102001_1]) 1 ?_ rfl; refine blk_put (cs := #[.int .i64 x102000_1, .bool x102001_1]) ?_ 0 _ rfl; exact pkx B1) Tryz.underlying91 rfl (by kernel_rfl)) rfl ?_
     exact fi_ bl_
    ·rw [if_neg c5] at H; have ⟨c5b0,c5b1⟩ := e0_ c5
     have H' := A_ H
     clear H
     go_wp2_with (first | ((with_reducible refine gate_callee (f:=97) rfl ?_); refine gL_ (some 9) rfl rfl Tryz.func97 rfl #[.int .i64 x3_1] rfl ?_; (with_reducible refine (oculusref03_Letters.calls k1 x3_1 t102 _ A4.out).mono ?_); rintro e w8 ⟨rfl, hb⟩; refine ⟨_, rfl, ?_⟩; replace B1 := bb_ B1 hb; replace HB := bs_ HB hb; (try clear hb); ))
     go_roundg k1
     case measure => have := HK1.out; omega
     case rel => exact ⟨(wrap64 (x3_1 + 1)), (x102000_1), (x102001_1), sq_, H', ⟨by have := HK1.out; omega⟩, ⟨pkx B1⟩, ⟨pbx HB⟩⟩
   ·rw [if_neg c3] at H; have c3b0 := decide_eq_false c3; clear c3
    simp only [Option.some.injEq, Prod.mk.injEq] at H
    obtain ⟨rfl, rfl⟩ := H
    have ⟨hcz9_0,hcz9_1,hfz9_0,hfz9_1⟩ := z2_ B1
    go_wp2
    refine bodyPost_ret (results_cell_row rfl _ _ g1 91 #[.int .i64 0, .bool false] (0, 0) _ rfl (by refine pp_ (cs := #[.int .i64 0, .bool x102001_1]) 1 ?_ rfl; refine blk_put (cs := #[.int .i64 x102000_1, .bool x102001_1]) ?_ 0 _ rfl; exact pkx B1) Tryz.underlying91 rfl (by kernel_rfl)) rfl ?_
    exact fi_ bl_

mutual
def oculusref03_Parse.l0 : Nat → ByteArray → Int → Option (Int × Int × Bool)
 | 0, _, _ => none
 | k + 1, x0, x3 => if x3 ≤ 2 then (oculusref03_Parse.j1 k x0 x3 (decide (x3 ≤ (x0.size : Int)))) else (oculusref03_Parse.j1 k x0 x3 false)
def oculusref03_Parse.j1 : Nat → ByteArray → Int → Bool → Option (Int × Int × Bool)
 | 0, _, _, _ => none
 | k + 1, x0, x3, x13 => if x13 = true then (if 0 ≤ x3 then (if x3 ≤ (x0.size : Int) then ((oculusref03_Column.f k (x0.extract 0 (x3 : Int).toNat)).bind fun bt102 => ((oculusref03_Number.f k (x0.extract (x3 : Int).toNat x0.size)).bind fun bt105 => (if bt102.2 = true then (if bt105.2 = true then (some (bt105.1, bt102.1, true)) else (oculusref03_Parse.l0 k x0 (wrap64 (x3 + 1)))) else (oculusref03_Parse.l0 k x0 (wrap64 (x3 + 1)))))) else (none)) else (none)) else (some (0, 0, false))
end
def oculusref03_Parse.f (k : Nat) (a0 : ByteArray) : Option (Int × Int × Bool) := oculusref03_Parse.l0 k a0 1
theorem oculusref03_Parse.calls (k : Nat) (a0 : ByteArray) (r1 : Int) (r2 : Int) (r3 : Bool) (w : World) (h : oculusref03_Parse.f k a0 = some (r1, r2, r3)) :
  Calls Tryz.prog 58 #[.string a0] w fun e w' => e = .returned (.agg #[.int .i64 r1, .int .i64 r2, .bool r3]) ∧ Below w.heap.size w w' := by
 have hu118 := Tryz.underlying118; have hu91 := Tryz.underlying91; have hu39 := Tryz.underlying39; have HB := A_ (Below.refl w.heap.size w)
 have H : (oculusref03_Parse.l0 k a0 1) = some (r1, r2, r3) := h
 clear h
 have H' := A_ H
 clear H
 go_enter Tryz.func58, Tryz.ntmps58
 go_wp2_with (first | ((with_reducible refine gd_ 2 ?_); (try (refine gate_guard (by rfl) ?_; dsimp only)); refine be_ (N:=2) (cs := #[.int .i64 0, .int .i64 0, .bool false]) (t:=118) ?_; intro g1 hg w2 hbox hb; have B1 := A_ (hbox); have GW101 := hs_ HB hg; have GE101 := hs_ HB hg; replace HB := bs_ HB hb; clear hb hbox hg))
 go_loopg [3] k (fun kq v3 w' => ∃ (x3_1 : Int) (x102000_1 : Int) (x102001_1 : Int) (x102002_1 : Bool), v3 = .int .i64 x3_1 ∧ Aside0 (oculusref03_Parse.l0 kq a0 x3_1 = some (r1, r2, r3)) ∧ Aside0 (kq ≤ k) ∧ Aside0 (w'.heap[g1]? = some (.cells #[.int .i64 x102000_1, .int .i64 x102001_1, .bool x102002_1] 118 (0, 0))) ∧ Aside0 (Below w.heap.size w w'))
 case atStart => exact ⟨(1), (0), (0), (false), sq_, H', ⟨Nat.le_refl _⟩, ⟨pkx B1⟩, ⟨pbx HB⟩⟩
 case round =>
  clear H'; obtain ⟨x3_1, x102000_1, x102001_1, x102002_1, rfl, HA, HK1, B1, HB⟩ := hrel
  cases gk with
  | zero => exact absurd HA.out (by simp [oculusref03_Parse.l0])
  | succ k1 =>
   have H := HA.out; clear HA
   simp only [oculusref03_Parse.l0] at H
   have HC3 := A_ H; clear H
   go_upto_region 2 with (fail)
   go_cut [13] (fun v13 wc => ∃ (kq : Nat) (x13_2 : Bool), v13 = .bool x13_2 ∧ Aside0 (oculusref03_Parse.j1 kq a0 x3_1 x13_2 = some (r1, r2, r3)) ∧ Aside0 (kq ≤ k1) ∧ Aside0 (wc.heap[g1]? = some (.cells #[.int .i64 x102000_1, .int .i64 x102001_1, .bool x102002_1] 118 (0, 0))) ∧ Aside0 (Below w.heap.size w wc))
   case first =>
    have H := HC3.out; clear HC3
    by_cases c4 : x3_1 ≤ 2
    ·rw [if_pos c4] at H; have c4b0 := decide_eq_true c4; clear c4; (first | rw [c4b0] | (simp only [i64_w, i32_w]; rw [c4b0]) | skip)
     have H' := A_ H
     clear H
     go_wp2
     go_meet
     case rel => exact ⟨_, (decide (x3_1 ≤ (a0.size : Int))), sq_, H', ⟨by have := HK1.out; first | omega | exact Nat.le_refl _⟩, ⟨pkx B1⟩, ⟨pbx HB⟩⟩
    ·rw [if_neg c4] at H; have c4b0 := decide_eq_false c4; clear c4; (first | rw [c4b0] | (simp only [i64_w, i32_w]; rw [c4b0]) | skip)
     have H' := A_ H
     clear H
     go_wp2
     go_meet
     case rel => exact ⟨_, (false), sq_, H', ⟨by have := HK1.out; first | omega | exact Nat.le_refl _⟩, ⟨pkx B1⟩, ⟨pbx HB⟩⟩
   case rest =>
    clear HC3; obtain ⟨kq, x13_2, rfl, HA, HJ2, B1, HB⟩ := hcut
    cases kq with
    | zero => exact absurd HA.out (by simp [oculusref03_Parse.j1])
    | succ kj2 =>
     have H := HA.out; clear HA
     simp only [oculusref03_Parse.j1] at H
     by_cases c5 : x13_2 = true
     ·subst c5
      replace H := it_ H
      by_cases c6 : 0 ≤ x3_1
      ·rw [if_pos c6] at H; have c6b0 := eq_true c6; have c6b1 := decide_eq_true c6; clear c6
       by_cases c7 : x3_1 ≤ (a0.size : Int)
       ·rw [if_pos c7] at H; have c7b0 := eq_true c7; have c7b1 := decide_eq_true c7; clear c7; obtain ⟨⟨t102, t103⟩, A8, H⟩ := bo_ H; dsimp only at H; have c9b0 := eq_true (of_decide_eq_true as_ : 0 ≤ x3_1); have c10b0 := eq_true (of_decide_eq_true as_ : x3_1 ≤ (a0.size : Int)); obtain ⟨⟨t105, t106⟩, A11, H⟩ := bo_ H; dsimp only at H
        by_cases c12 : t103 = true
        ·subst c12
         replace H := it_ H
         by_cases c13 : t106 = true
         ·subst c13
          replace H := it_ H
          simp only [Option.some.injEq, Prod.mk.injEq] at H
          obtain ⟨rfl, rfl, rfl⟩ := H
          go_wp2_with (first | ((with_reducible refine gate_callee (f:=81) rfl ?_); refine gL_ (some 19) rfl rfl Tryz.func81 rfl #[.string (a0.extract 0 (x3_1 : Int).toNat)] rfl ?_; (with_reducible refine (oculusref03_Column.calls kj2 (a0.extract 0 (x3_1 : Int).toNat) t102 true _ A8.out).mono ?_); rintro e w14 ⟨rfl, hb⟩; refine ⟨_, rfl, ?_⟩; replace B1 := bb_ B1 hb; replace HB := bs_ HB hb; (try clear hb); ) | ((with_reducible refine gd_ 4 ?_); (try (refine gate_guard (by rfl) ?_; dsimp only)); refine be_ (N:=4) (cs := #[.int .i64 0, .bool false]) (t:=91) ?_; intro g4 hg w15 hbox hb; have B4 := A_ (hbox); have GW104 := hs_ HB hg; have GE104 := hs_ HB hg; have N14 := hl_ B1 hg; have N41 := hr_ B1 hg; replace B1 := bb_ B1 hb; replace HB := bs_ HB hb; clear hb hbox hg; have hnb16 := N41.out; have hnc16 := N14.out; have ⟨hcz17_0,hcz17_1,hfz17_0,hfz17_1⟩ := z2_ B4) | ((with_reducible refine gate_callee (f:=34) rfl ?_); refine gL_ (some 23) rfl rfl Tryz.func34 rfl #[.string (a0.extract (x3_1 : Int).toNat a0.size)] rfl ?_; (with_reducible refine (oculusref03_Number.calls kj2 (a0.extract (x3_1 : Int).toNat a0.size) t105 true _ A11.out).mono ?_); rintro e w18 ⟨rfl, hb⟩; refine ⟨_, rfl, ?_⟩; replace B1 := A_ (blk_below (g:=g1) (o := .cells #[.int .i64 x102000_1, .int .i64 x102001_1, .bool x102002_1] 118 (0, 0)) (by (iterate 2 refine pf_ ?_ N14.out); exact pkx B1) hb); replace B4 := A_ (blk_below (g:=g4) (o := .cells #[.int .i64 t102, .bool true] 91 (0, 0)) (by refine pp_ (cs := #[.int .i64 t102, .bool false]) 1 ?_ rfl; refine blk_put (cs := #[.int .i64 0, .bool false]) ?_ 0 _ rfl; exact pkx B4) hb); replace HB := A_ (below_step (by repeat (first | (with_reducible first | exact HB.out | apply below_alloc | apply pw_below_drewN | apply below_drew1 | refine below_set ?_ GE101.out | refine below_set ?_ GE104.out) | exact HB.out)) hb); (try clear hb); ) | ((with_reducible refine gd_ 5 ?_); (try (refine gate_guard (by rfl) ?_; dsimp only)); refine be_ (N:=5) (cs := #[.int .i64 0, .bool false]) (t:=91) ?_; intro g7 hg w19 hbox hb; have B7 := A_ (hbox); have GW107 := hs_ HB hg; have GE107 := hs_ HB hg; have N17 := hl_ B1 hg; have N71 := hr_ B1 hg; have N47 := hl_ B4 hg; have N74 := hr_ B4 hg; replace B1 := bb_ B1 hb; replace B4 := bb_ B4 hb; replace HB := bs_ HB hb; clear hb hbox hg; have hnb20 := N71.out; have hnc20 := N17.out; have hnb21 := N74.out; have hnc21 := N47.out; have ⟨hcz22_0,hcz22_1,hfz22_0,hfz22_1⟩ := z2_ B7; have ⟨hcz23_0,hcz23_1,hfz23_0,hfz23_1⟩ := z2_ B4; have ⟨hcz24_0,hcz24_1,hcz24_2,hfz24_0,hfz24_1,hfz24_2⟩ := z3_ B1))
          refine bodyPost_ret (results_cell_row rfl _ _ g1 118 #[.int .i64 t105, .int .i64 t102, .bool true] (0, 0) _ rfl (by refine pp_ (cs := #[.int .i64 t105, .int .i64 t102, .bool x102002_1]) 2 ?_ rfl; refine blk_put (cs := #[.int .i64 t105, .int .i64 x102001_1, .bool x102002_1]) ?_ 1 _ rfl; refine blk_put (cs := #[.int .i64 x102000_1, .int .i64 x102001_1, .bool x102002_1]) ?_ 0 _ rfl; (iterate 2 refine pf_ ?_ N17.out); exact pkx B1) Tryz.underlying118 rfl (by kernel_rfl)) rfl ?_
          exact fi_ bl_
         ·replace c13 := Bool.eq_false_iff.mpr c13; subst c13
          replace H := ie_ H
          have H' := A_ H
          clear H
          go_wp2_with (first | ((with_reducible refine gate_callee (f:=81) rfl ?_); refine gL_ (some 19) rfl rfl Tryz.func81 rfl #[.string (a0.extract 0 (x3_1 : Int).toNat)] rfl ?_; (with_reducible refine (oculusref03_Column.calls kj2 (a0.extract 0 (x3_1 : Int).toNat) t102 true _ A8.out).mono ?_); rintro e w25 ⟨rfl, hb⟩; refine ⟨_, rfl, ?_⟩; replace B1 := bb_ B1 hb; replace HB := bs_ HB hb; (try clear hb); ) | ((with_reducible refine gd_ 4 ?_); (try (refine gate_guard (by rfl) ?_; dsimp only)); refine be_ (N:=4) (cs := #[.int .i64 0, .bool false]) (t:=91) ?_; intro g4 hg w26 hbox hb; have B4 := A_ (hbox); have GW104 := hs_ HB hg; have GE104 := hs_ HB hg; have N14 := hl_ B1 hg; have N41 := hr_ B1 hg; replace B1 := bb_ B1 hb; replace HB := bs_ HB hb; clear hb hbox hg; have hnb27 := N41.out; have hnc27 := N14.out; have ⟨hcz28_0,hcz28_1,hfz28_0,hfz28_1⟩ := z2_ B4) | ((with_reducible refine gate_callee (f:=34) rfl ?_); refine gL_ (some 23) rfl rfl Tryz.func34 rfl #[.string (a0.extract (x3_1 : Int).toNat a0.size)] rfl ?_; (with_reducible refine (oculusref03_Number.calls kj2 (a0.extract (x3_1 : Int).toNat a0.size) t105 false _ A11.out).mono ?_); rintro e w29 ⟨rfl, hb⟩; refine ⟨_, rfl, ?_⟩; replace B1 := A_ (blk_below (g:=g1) (o := .cells #[.int .i64 x102000_1, .int .i64 x102001_1, .bool x102002_1] 118 (0, 0)) (by (iterate 2 refine pf_ ?_ N14.out); exact pkx B1) hb); replace B4 := A_ (blk_below (g:=g4) (o := .cells #[.int .i64 t102, .bool true] 91 (0, 0)) (by refine pp_ (cs := #[.int .i64 t102, .bool false]) 1 ?_ rfl; refine blk_put (cs := #[.int .i64 0, .bool false]) ?_ 0 _ rfl; exact pkx B4) hb); replace HB := A_ (below_step (by repeat (first | (with_reducible first | exact HB.out | apply below_alloc | apply pw_below_drewN | apply below_drew1 | refine below_set ?_ GE101.out | refine below_set ?_ GE104.out) | exact HB.out)) hb); (try clear hb); ) | ((with_reducible refine gd_ 5 ?_); (try (refine gate_guard (by rfl) ?_; dsimp only)); refine be_ (N:=5) (cs := #[.int .i64 0, .bool false]) (t:=91) ?_; intro g7 hg w30 hbox hb; have B7 := A_ (hbox); have GW107 := hs_ HB hg; have GE107 := hs_ HB hg; have N17 := hl_ B1 hg; have N71 := hr_ B1 hg; have N47 := hl_ B4 hg; have N74 := hr_ B4 hg; replace B1 := bb_ B1 hb; replace B4 := bb_ B4 hb; replace HB := bs_ HB hb; clear hb hbox hg; have hnb31 := N71.out; have hnc31 := N17.out; have hnb32 := N74.out; have hnc32 := N47.out; have ⟨hcz33_0,hcz33_1,hfz33_0,hfz33_1⟩ := z2_ B7; have ⟨hcz34_0,hcz34_1,hfz34_0,hfz34_1⟩ := z2_ B4))
          go_roundg kj2
          case measure => have := HK1.out; have := HJ2.out; omega
          case rel => exact ⟨(wrap64 (x3_1 + 1)), (x102000_1), (x102001_1), (x102002_1), sq_, H', ⟨by have := HK1.out; have := HJ2.out; omega⟩, ⟨by (iterate 2 refine pf_ ?_ N17.out); exact pkx B1⟩, ⟨bl_⟩⟩
        ·replace c12 := Bool.eq_false_iff.mpr c12; subst c12
         replace H := ie_ H
         have H' := A_ H
         clear H
         go_wp2_with (first | ((with_reducible refine gate_callee (f:=81) rfl ?_); refine gL_ (some 19) rfl rfl Tryz.func81 rfl #[.string (a0.extract 0 (x3_1 : Int).toNat)] rfl ?_; (with_reducible refine (oculusref03_Column.calls kj2 (a0.extract 0 (x3_1 : Int).toNat) t102 false _ A8.out).mono ?_); rintro e w35 ⟨rfl, hb⟩; refine ⟨_, rfl, ?_⟩; replace B1 := bb_ B1 hb; replace HB := bs_ HB hb; (try clear hb); ) | ((with_reducible refine gd_ 4 ?_); (try (refine gate_guard (by rfl) ?_; dsimp only)); refine be_ (N:=4) (cs := #[.int .i64 0, .bool false]) (t:=91) ?_; intro g4 hg w36 hbox hb; have B4 := A_ (hbox); have GW104 := hs_ HB hg; have GE104 := hs_ HB hg; have N14 := hl_ B1 hg; have N41 := hr_ B1 hg; replace B1 := bb_ B1 hb; replace HB := bs_ HB hb; clear hb hbox hg; have hnb37 := N41.out; have hnc37 := N14.out; have ⟨hcz38_0,hcz38_1,hfz38_0,hfz38_1⟩ := z2_ B4) | ((with_reducible refine gate_callee (f:=34) rfl ?_); refine gL_ (some 23) rfl rfl Tryz.func34 rfl #[.string (a0.extract (x3_1 : Int).toNat a0.size)] rfl ?_; (with_reducible refine (oculusref03_Number.calls kj2 (a0.extract (x3_1 : Int).toNat a0.size) t105 t106 _ A11.out).mono ?_); rintro e w39 ⟨rfl, hb⟩; refine ⟨_, rfl, ?_⟩; replace B1 := A_ (blk_below (g:=g1) (o := .cells #[.int .i64 x102000_1, .int .i64 x102001_1, .bool x102002_1] 118 (0, 0)) (by (iterate 2 refine pf_ ?_ N14.out); exact pkx B1) hb); replace B4 := A_ (blk_below (g:=g4) (o := .cells #[.int .i64 t102, .bool false] 91 (0, 0)) (by refine pp_ (cs := #[.int .i64 t102, .bool false]) 1 ?_ rfl; refine blk_put (cs := #[.int .i64 0, .bool false]) ?_ 0 _ rfl; exact pkx B4) hb); replace HB := A_ (below_step (by repeat (first | (with_reducible first | exact HB.out | apply below_alloc | apply pw_below_drewN | apply below_drew1 | refine below_set ?_ GE101.out | refine below_set ?_ GE104.out) | exact HB.out)) hb); (try clear hb); ) | ((with_reducible refine gd_ 5 ?_); (try (refine gate_guard (by rfl) ?_; dsimp only)); refine be_ (N:=5) (cs := #[.int .i64 0, .bool false]) (t:=91) ?_; intro g7 hg w40 hbox hb; have B7 := A_ (hbox); have GW107 := hs_ HB hg; have GE107 := hs_ HB hg; have N17 := hl_ B1 hg; have N71 := hr_ B1 hg; have N47 := hl_ B4 hg; have N74 := hr_ B4 hg; replace B1 := bb_ B1 hb; replace B4 := bb_ B4 hb; replace HB := bs_ HB hb; clear hb hbox hg; have hnb41 := N71.out; have hnc41 := N17.out; have hnb42 := N74.out; have hnc42 := N47.out; have ⟨hcz43_0,hcz43_1,hfz43_0,hfz43_1⟩ := z2_ B7; have ⟨hcz44_0,hcz44_1,hfz44_0,hfz44_1⟩ := z2_ B4))
         go_roundg kj2
         case measure => have := HK1.out; have := HJ2.out; omega
         case rel => exact ⟨(wrap64 (x3_1 + 1)), (x102000_1), (x102001_1), (x102002_1), sq_, H', ⟨by have := HK1.out; have := HJ2.out; omega⟩, ⟨by (iterate 2 refine pf_ ?_ N17.out); exact pkx B1⟩, ⟨bl_⟩⟩
       ·rw [if_neg c7] at H
        exact absurd H (by simp)
      ·rw [if_neg c6] at H
       exact absurd H (by simp)
     ·replace c5 := Bool.eq_false_iff.mpr c5; subst c5
      replace H := ie_ H
      simp only [Option.some.injEq, Prod.mk.injEq] at H
      obtain ⟨rfl, rfl, rfl⟩ := H
      have ⟨hcz45_0,hcz45_1,hcz45_2,hfz45_0,hfz45_1,hfz45_2⟩ := z3_ B1
      go_wp2
      refine bodyPost_ret (results_cell_row rfl _ _ g1 118 #[.int .i64 0, .int .i64 0, .bool false] (0, 0) _ rfl (by refine pp_ (cs := #[.int .i64 0, .int .i64 0, .bool x102002_1]) 2 ?_ rfl; refine blk_put (cs := #[.int .i64 0, .int .i64 x102001_1, .bool x102002_1]) ?_ 1 _ rfl; refine blk_put (cs := #[.int .i64 x102000_1, .int .i64 x102001_1, .bool x102002_1]) ?_ 0 _ rfl; exact pkx B1) Tryz.underlying118 rfl (by kernel_rfl)) rfl ?_
      exact fi_ bl_

end Go.Proofs.YtbboanfggaknjaaGreatDoor.X
namespace Go.Proofs.YtbboanfggaknjaaGreatDoor.X
open Go.RowKit Go.Proofs.YtbboanfggaknjaaGreatDoorW.PrintWords Go.Proofs.YtbboanfggaknjaaGreatDoorW.PrintLast Go.Proofs.YtbboanfggaknjaaGreatDoorW.PrintMore
attribute [local go_sem] max2_int min2_int max_two min_two max_three min_three max_four min_four
set_option linter.unusedVariables false
set_option linter.unusedSimpArgs false
attribute [local go_sem high] eqA39
mutual
def oculusref04_Parse.l0 : Nat → ByteArray → Int → Option (Int × Int × Int × Int × Bool)
 | 0, _, _ => none
 | k + 1, x0, x4 => if x4 < (x0.size : Int) then (oculusref04_Parse.j1 k x0 x4 (decide (x4 < 10))) else (oculusref04_Parse.j1 k x0 x4 false)
def oculusref04_Parse.j1 : Nat → ByteArray → Int → Bool → Option (Int × Int × Int × Int × Bool)
 | 0, _, _, _ => none
 | k + 1, x0, x4, x25 => if x25 = true then (if 0 ≤ x4 then (if x4 < (x0.size : Int) then (if (bt x0 x4) = 58 then (if x4 ≤ (x0.size : Int) then ((oculusref03_Parse.f k (x0.extract 0 (x4 : Int).toNat)).bind fun bt106 => (if 0 ≤ (wrap64 (x4 + 1)) then (if (wrap64 (x4 + 1)) ≤ (x0.size : Int) then ((oculusref03_Parse.f k (x0.extract ((wrap64 (x4 + 1)) : Int).toNat x0.size)).bind fun bt109 => (if bt106.2.2 = true then (if bt109.2.2 = true then (if (!(bt106.1 == bt109.1) || (!(bt106.2.1 == bt109.2.1))) = true then (some (bt106.1, bt106.2.1, bt109.1, bt109.2.1, true)) else (oculusref04_Parse.l0 k x0 (wrap64 (x4 + 1)))) else (oculusref04_Parse.l0 k x0 (wrap64 (x4 + 1)))) else (oculusref04_Parse.l0 k x0 (wrap64 (x4 + 1))))) else (none)) else (none))) else (none)) else (oculusref04_Parse.l0 k x0 (wrap64 (x4 + 1)))) else (none)) else (none)) else (some (0, 0, 0, 0, false))
end
def oculusref04_Parse.f (k : Nat) (a0 : ByteArray) : Option (Int × Int × Int × Int × Bool) := (oculusref03_Parse.f k a0).bind fun bt102 => (if bt102.2.2 = true then (some (bt102.1, bt102.2.1, bt102.1, bt102.2.1, true)) else (oculusref04_Parse.l0 k a0 0))
theorem cells5 {W : World} {g : Nat} {t : TypeId} {a0 a1 a2 a3 a4 : Value} (h : W.heap[g]? = some (.cells #[a0, a1, a2, a3, a4] t (0, 0))) :
  (W.cell? ⟨g, 0, none⟩ = some a0 ∧ W.cell? ⟨g, 1, none⟩ = some a1 ∧ W.cell? ⟨g, 2, none⟩ = some a2 ∧ W.cell? ⟨g, 3, none⟩ = some a3 ∧ W.cell? ⟨g, 4, none⟩ = some a4) ∧
  (W.frozen? ⟨g, 0, none⟩ = false ∧ W.frozen? ⟨g, 1, none⟩ = false ∧ W.frozen? ⟨g, 2, none⟩ = false ∧ W.frozen? ⟨g, 3, none⟩ = false ∧ W.frozen? ⟨g, 4, none⟩ = false) :=
 ⟨⟨(blk_cell h 0).trans rfl, (blk_cell h 1).trans rfl, (blk_cell h 2).trans rfl, (blk_cell h 3).trans rfl, (blk_cell h 4).trans rfl⟩, blk_frozen h 0, blk_frozen h 1, blk_frozen h 2, blk_frozen h 3, blk_frozen h 4⟩
theorem cells3 {W : World} {g : Nat} {t : TypeId} {a0 a1 a2 : Value} (h : W.heap[g]? = some (.cells #[a0, a1, a2] t (0, 0))) : W.cell? ⟨g, 0, none⟩ = some a0 ∧ W.cell? ⟨g, 1, none⟩ = some a1 ∧ W.cell? ⟨g, 2, none⟩ = some a2 := ⟨(blk_cell h 0).trans rfl, (blk_cell h 1).trans rfl, (blk_cell h 2).trans rfl⟩
theorem put5 {W : World} {g : Nat} {t : TypeId} {a0 a1 a2 a3 a4 : Value} (h : W.heap[g]? = some (.cells #[a0, a1, a2, a3, a4] t (0, 0))) (x0 x1 x2 x3 x4 : Value) :
  (((((W.setCell ⟨g, 0, none⟩ x0).setCell ⟨g, 1, none⟩ x1).setCell ⟨g, 2, none⟩ x2).setCell ⟨g, 3, none⟩ x3).setCell ⟨g, 4, none⟩ x4).heap[g]? = some (.cells #[x0, x1, x2, x3, x4] t (0, 0)) := by
 simpa using blk_set (blk_set (blk_set (blk_set (blk_set h 0 x0) 1 x1) 2 x2) 3 x3) 4 x4
def AL (w w' : World) (g2 : Nat) (v : Value) : Prop := ∃ g, v = .pointer (some ⟨g, 0, none⟩) ∧ w.heap.size ≤ g ∧ w'.heap[g]? = some (.cells #[.int .i64 0, .int .i64 0, .bool false] 118 (0, 0)) ∧ g ≠ g2
theorem AL.below {w w' w1 : World} {g2 : Nat} {v : Value} (h : AL w w' g2 v) (hb : Below w'.heap.size w' w1) : AL w w1 g2 v := by
 obtain ⟨g, h1, h2, h3, h4⟩ := h
 exact ⟨g, h1, h2, blk_below h3 hb, h4⟩
theorem AL.new {w w' w1 : World} {g2 g : Nat} (hg : g = w'.heap.size) (hB : Below w.heap.size w w') (hz : g2 < w'.heap.size) (hx : w1.heap[g]? = some (.cells #[.int .i64 0, .int .i64 0, .bool false] 118 (0, 0))) : AL w w1 g2 (.pointer (some ⟨g, 0, none⟩)) :=
 ⟨g, rfl, by rw [hg]; exact hB.size, hx, by omega⟩
theorem AL.ne {w w' : World} {g2 g : Nat} {v : Value} (h : AL w w' g2 v) (hg : g = w'.heap.size) : v ≠ .pointer (some ⟨g, 0, none⟩) := by
 obtain ⟨g', rfl, _, h3, _⟩ := h
 have := blk_lt h3
 intro e
 injection e with e
 injection e with e
 injection e with e
 omega
theorem put3 {W : World} {g : Nat} {t : TypeId} {a0 a1 a2 : Value} (h : W.heap[g]? = some (.cells #[a0, a1, a2] t (0, 0))) (x0 x1 x2 : Value) :
  (((W.setCell ⟨g, 0, none⟩ x0).setCell ⟨g, 1, none⟩ x1).setCell ⟨g, 2, none⟩ x2).heap[g]? = some (.cells #[x0, x1, x2] t (0, 0)) := by simpa using blk_set (blk_set (blk_set h 0 x0) 1 x1) 2 x2
theorem far3 {W : World} {g g' : Nat} {t : TypeId} {cs : Array Value} (h : W.heap[g]? = some (.cells cs t (0, 0))) (hne : g ≠ g') (x0 x1 x2 : Value) :
  (((W.setCell ⟨g', 0, none⟩ x0).setCell ⟨g', 1, none⟩ x1).setCell ⟨g', 2, none⟩ x2).heap[g]? = some (.cells cs t (0, 0)) := blk_far (p := ⟨g', 2, none⟩) (blk_far (p := ⟨g', 1, none⟩) (blk_far (p := ⟨g', 0, none⟩) h hne _) hne _) hne _
theorem oculusref04_Parse.calls (k : Nat) (a0 : ByteArray) (r1 : Int) (r2 : Int) (r3 : Int) (r4 : Int) (r5 : Bool) (w : World) (h : oculusref04_Parse.f k a0 = some (r1, r2, r3, r4, r5)) :
  Calls Tryz.prog 35 #[.string a0] w fun e w' => e = .returned (.agg #[.int .i64 r1, .int .i64 r2, .int .i64 r3, .int .i64 r4, .bool r5]) ∧ Below w.heap.size w w' := by
 have hu94 := Tryz.underlying94; have hu118 := Tryz.underlying118; have hu39 := Tryz.underlying39; have hu55 := Tryz.underlying55; obtain ⟨⟨t1, t2, t3⟩, A1, H⟩ := Option.bind_eq_some_iff.mp h; have HH := Aside0.mk H; have HA := Aside0.mk A1; clear h A1 H
 go_enter Tryz.func35, Tryz.ntmps35
 go_upto_region 2 with (go_at_call 58; refine (oculusref03_Parse.calls k a0 t1 t2 t3 _ HA.out).mono ?_; rintro e w1 ⟨rfl, hb⟩)
 have hB1 : Below w.heap.size w (w1.alloc (.cells #[.int .i64 t1, .int .i64 t2, .bool t3] 118)) := below_alloc ((below_alloc (Below.refl _ _) _).trans (hb.mono (by simp))) _
 have HB := Aside0.mk hB1; have HZ := Aside0.mk (blk_alloc (blk_below (blk_new w (.cells #[.int .i64 0, .int .i64 0, .int .i64 0, .int .i64 0, .bool false] 94)) hb) (.cells #[.int .i64 t1, .int .i64 t2, .bool t3] 118)); have HO := blk_new w1 (.cells #[.int .i64 t1, .int .i64 t2, .bool t3] 118)
 have hne : w.heap.size ≠ w1.heap.size := by have := hb.size; simp at this; omega
 clear hB1 hb; generalize w1.alloc (.cells #[.int .i64 t1, .int .i64 t2, .bool t3] 118) = w2 at HB HZ HO ⊢; generalize w1.heap.size = g3 at HO hne ⊢; have HG : Aside0 (w.heap.size ≤ w.heap.size) := ⟨Nat.le_refl _⟩; generalize hg2 : w.heap.size = g2 at hne HZ ⊢; have HN := Aside0.mk hne; have HG2 := Aside0.mk hg2; clear hne hg2 w1
 cases t3 with
 | true =>
  have H := HH.out; rw [if_pos rfl] at H
  simp only [Option.some.injEq, Prod.mk.injEq] at H
  obtain ⟨rfl, rfl, rfl, rfl, rfl⟩ := H; obtain ⟨o0, o1, o2⟩ := cells3 HO; obtain ⟨⟨z0, z1, z2, z3, z4⟩, f0, f1, f2, f3, f4⟩ := cells5 HZ.out; clear HO
  go_wp2
  refine bodyPost_ret (results_cell_row rfl _ _ g2 94 #[.int .i64 t1, .int .i64 t2, .int .i64 t1, .int .i64 t2, .bool true] (0, 0) _ rfl (put5 HZ.out _ _ _ _ _) Tryz.underlying94 rfl (by kernel_rfl)) rfl ⟨rfl, ?_⟩
  have hg := Nat.le_of_eq HG2.out
  exact below_set (below_set (below_set (below_set (below_set HB.out hg) hg) hg) hg) hg
 | false =>
  have H := HH.out; rw [if_neg (by decide)] at H
  have H' := Aside0.mk H
  obtain ⟨o0, o1, o2⟩ := cells3 HO; clear H HH HO HA
  go_wp2
  go_loopg [4] k (fun kq v4 w' => ∃ x : Int, v4 = .int .i64 x ∧ Aside0 (oculusref04_Parse.l0 kq a0 x = some (r1, r2, r3, r4, r5)) ∧ Aside0 (kq ≤ k) ∧ Aside0 (w'.heap[g2]? = some (.cells #[.int .i64 0, .int .i64 0, .int .i64 0, .int .i64 0, .bool false] 94 (0, 0))) ∧ Aside0 (Below w.heap.size w w'))
  case atStart => exact ⟨0, rfl, H', ⟨Nat.le_refl _⟩, HZ, HB⟩
  case round =>
   clear H' HZ HB o0 o1 o2; obtain ⟨x, rfl, HA, HK, HZ, HB⟩ := hrel
   cases gk with
   | zero => exact absurd HA.out (by simp [oculusref04_Parse.l0])
   | succ k1 =>
    have H := HA.out; clear HA
    simp only [oculusref04_Parse.l0] at H
    go_upto_region 5 with fail
    go_cut [25] (fun v wx => ∃ bb : Bool, v = .bool bb ∧ Aside0 (oculusref04_Parse.j1 k1 a0 x bb = some (r1, r2, r3, r4, r5)) ∧ wx = wr)
    case first =>
     by_cases c1 : x < (a0.size : Int)
     ·rw [if_pos c1] at H; have HH := Aside0.mk H; have d1 : decide (x < (a0.size : Int)) = true := decide_eq_true c1; clear H c1
      go_wp2
      go_meet
      exact ⟨_, rfl, HH, rfl⟩
     ·rw [if_neg c1] at H; have HH := Aside0.mk H; have d1 : decide (x < (a0.size : Int)) = false := decide_eq_false c1; clear H c1
      go_wp2
      go_meet
      exact ⟨_, rfl, HH, rfl⟩
    case rest =>
     clear H; obtain ⟨bb, rfl, HJ, rfl⟩ := hcut; have H := HJ.out
     cases k1 with
     | zero => exact absurd H (by simp [oculusref04_Parse.j1])
     | succ k2 =>
      simp only [oculusref04_Parse.j1] at H
      clear HJ
      cases bb with
      | false =>
       rw [if_neg (by decide)] at H
       simp only [Option.some.injEq, Prod.mk.injEq] at H
       obtain ⟨rfl, rfl, rfl, rfl, rfl⟩ := H; obtain ⟨⟨z0, z1, z2, z3, z4⟩, f0, f1, f2, f3, f4⟩ := cells5 HZ.out
       go_wp2
       refine bodyPost_ret (results_cell_row rfl _ _ g2 94 #[.int .i64 0, .int .i64 0, .int .i64 0, .int .i64 0, .bool false] (0, 0) _ rfl (put5 HZ.out _ _ _ _ _) Tryz.underlying94 rfl (by kernel_rfl)) rfl ⟨rfl, ?_⟩
       have hg := Nat.le_of_eq HG2.out
       exact below_set (below_set (below_set (below_set (below_set HB.out hg) hg) hg) hg) hg
      | true =>
       rw [if_pos rfl] at H
       by_cases c2 : 0 ≤ x
       ·rw [if_pos c2] at H
        by_cases c3 : x < (a0.size : Int)
        ·rw [if_pos c3] at H
         by_cases c4 : bt a0 x = 58
         ·rw [if_pos c4] at H
          by_cases c5 : x ≤ (a0.size : Int)
          ·rw [if_pos c5] at H; obtain ⟨⟨u1, u2, u3⟩, A1, H⟩ := Option.bind_eq_some_iff.mp H
           by_cases c6 : 0 ≤ wrap64 (x + 1)
           ·rw [if_pos c6] at H
            by_cases c7 : wrap64 (x + 1) ≤ (a0.size : Int)
            ·rw [if_pos c7] at H; obtain ⟨⟨v1, v2, v3⟩, A2, H⟩ := Option.bind_eq_some_iff.mp H; have hbt := bt_at a0 x (by omega); have HH := Aside0.mk H; have HA1 := Aside0.mk A1; have HA2 := Aside0.mk A2; clear H A1 A2; have d4 : (bt a0 x != 58) = false := bne_eq_false_iff_eq.mpr c4; clear c4
             go_upto_region 8 with fail
             go_cut [5, 6] (fun v5 v6 wx => ∃ g5 g6, v5 = .pointer (some ⟨g5, 0, none⟩) ∧ v6 = .pointer (some ⟨g6, 0, none⟩) ∧ Aside0 (wx.heap[g5]? = some (.cells #[.int .i64 u1, .int .i64 u2, .bool u3] 118 (0, 0))) ∧ Aside0 (wx.heap[g6]? = some (.cells #[.int .i64 v1, .int .i64 v2, .bool v3] 118 (0, 0))) ∧ Aside0 (wx.heap[g2]? = some (.cells #[.int .i64 0, .int .i64 0, .int .i64 0, .int .i64 0, .bool false] 94 (0, 0))) ∧ Aside0 (Below w.heap.size w wx))
             case first =>
              obtain ⟨y, hy⟩ : ∃ y, wrap64 (x + 1) = y := ⟨_, rfl⟩
              have hwr : IntKind.i64.wrap (x + 1) = y := (i64_w _).trans hy
              rw [hy] at c6 c7 HA2
              clear hy
              have e0 := eq_true c2; have e1 := eq_true c5; have e2 := eq_true c6; have e3 := eq_true c7
              have HZ2 := Aside0.mk (blk_drew HZ.out); have HB2 := Aside0.mk (below_drew1 HB.out); clear c2 c3 c5 c6 c7 HZ HB d4 hbt HH HK
              refine start_ (n:=13) (S := fun w' => True) (ds := []) #[F,F,F,F,F,F,F,F,F,F,F,F,F] (by kernel_rfl) rfl rfl trivial (fun _ => ?_)
              generalize wc.drew = w4 at HZ2 HB2 ⊢; refine pure_ (i:=0) (N:=some 32) (v:=?_) (a':=?_) ⟨m_ 13 1⟩ rfl rfl (by kernel_rfl) (fun _ _ _ h=>h) (Or.inl ⟨rfl, ?_⟩) ?_ ?_; rotate_left
              ·intro w'; go_simp; with_reducible rfl
              rotate_left
              ·simp only [q_, i64_w, i32_w]; rfl
              refine pure_ (i:=1) (N:=some 33) (v:=?_) (a':=?_) ⟨m_ 13 3⟩ rfl rfl (by kernel_rfl) (fun _ _ _ h=>h) (Or.inl ⟨rfl, ?_⟩) ?_ ?_; rotate_left
              ·intro w'; go_simp; with_reducible rfl
              rotate_left
              ·simp only [q_, i64_w, i32_w]; rfl
              refine pure_ (i:=2) (N:=some 34) (v:=?_) (a':=?_) ⟨m_ 13 7⟩ rfl rfl (by kernel_rfl) (fun _ _ _ h=>h) (Or.inl ⟨rfl, ?_⟩) ?_ ?_; rotate_left
              ·intro w'; go_simp; with_reducible rfl
              rotate_left
              ·simp only [q_, i64_w, i32_w]; rfl
              refine pure_ (i:=4) (N:=some 36) (v:=?_) (a':=?_) ⟨m_ 13 23⟩ rfl rfl (by kernel_rfl) (fun _ _ _ h=>h) (Or.inl ⟨rfl, ?_⟩) ?_ ?_; rotate_left
              ·intro w'; go_simp; with_reducible rfl
              rotate_left
              ·simp only [q_, i64_w, i32_w]; rfl
              refine pure_ (i:=5) (N:=some 37) (v:=?_) (a':=?_) ⟨m_ 13 55⟩ rfl rfl (by kernel_rfl) (fun _ _ _ h=>h) (Or.inl ⟨rfl, ?_⟩) ?_ ?_; rotate_left
              ·intro w'; go_simp; with_reducible rfl
              rotate_left
              ·simp only [q_, i64_w, i32_w]; rfl
              refine pure_ (i:=6) (N:=some 38) (v:=?_) (a':=?_) ⟨m_ 13 119⟩ rfl rfl (by kernel_rfl) (fun _ _ _ h=>h) (Or.inl ⟨rfl, ?_⟩) ?_ ?_; rotate_left
              ·intro w'; go_simp; with_reducible rfl
              rotate_left
              ·simp only [q_, i64_w, i32_w]; rfl
              refine pure_ (i:=7) (N:=some 39) (v:=?_) (a':=?_) ⟨m_ 13 247⟩ rfl rfl (by kernel_rfl) (fun _ _ _ h=>h) (Or.inl ⟨rfl, ?_⟩) ?_ ?_; rotate_left
              ·intro w'; go_simp; with_reducible rfl
              rotate_left
              ·simp only [q_, i64_w, i32_w]; rfl
              generalize haf : Act.mk _ _ = af
              refine free_ (base := [true, true, true, false, true, true, true, true, false, false, false, false, false]) (M := [3, 8, 9, 10]) 2 (by decide) (by kernel_rfl) (fun b a' w' => ∃ v35 v40 v5 v6, a' = (((af.put (some 35) v35).put (some 40) v40).put (some 5) v5).put (some 6) v6 ∧ (b 3 = true → v35 = .agg #[.int .i64 u1, .int .i64 u2, .bool u3]) ∧ (b 8 = true → v40 = .agg #[.int .i64 v1, .int .i64 v2, .bool v3]) ∧ (b 9 = true → AL w w' g2 v5) ∧ (b 10 = true → AL w w' g2 v6) ∧ (b 9 = true → b 10 = true → v5 ≠ v6) ∧ w'.heap[g2]? = some (.cells #[.int .i64 0, .int .i64 0, .int .i64 0, .int .i64 0, .bool false] 94 (0, 0)) ∧ Below w.heap.size w w') (fun _ _ _ _ => trivial) ?_ ?_ 4 (fun _ => false) _ _ rfl ?_
              ·intro i hi b a' w' hb hI o ho K hK; obtain ⟨v35, v40, v5, v6, ha, h3, h8, h9, h10, h11, hz, hB⟩ := hI
               simp only [List.mem_cons, List.not_mem_nil, or_false] at hi
               subst haf
               simp only [q_] at ha
               subst ha
               rcases hi with rfl | rfl | rfl | rfl
               ·cases ho
                refine goes_ Tryz.func58 (by kernel_rfl) rfl #[.string (a0.extract 0 x.toNat)] (by rfl) rfl rfl (by (try simp only [List.map_toArray, List.map_cons, List.map_nil]); first | done | rfl) ?_; with_reducible refine (oculusref03_Parse.calls k2 (a0.extract 0 x.toNat) u1 u2 u3 _ HA1.out).mono ?_; rintro e w5 ⟨rfl, hb5⟩
                exact ⟨_, rfl, hK _ _ ⟨_, v40, v5, v6, by simp only [q_]; rfl, fun _ => rfl, fun h => h8 (by simpa using h), fun h => (h9 (by simpa using h)).below hb5, fun h => (h10 (by simpa using h)).below hb5, h11, blk_below hz hb5, below_then hB hB.size hb5⟩⟩
               ·cases ho
                refine goes_ Tryz.func58 (by kernel_rfl) rfl #[.string (a0.extract y.toNat a0.size)] (by rfl) rfl rfl (by (try simp only [List.map_toArray, List.map_cons, List.map_nil]); first | done | rfl) ?_; with_reducible refine (oculusref03_Parse.calls k2 (a0.extract y.toNat a0.size) v1 v2 v3 _ HA2.out).mono ?_; rintro e w5 ⟨rfl, hb5⟩
                exact ⟨_, rfl, hK _ _ ⟨v35, _, v5, v6, by simp only [q_]; rfl, fun h => h3 (by simpa using h), fun _ => rfl, fun h => (h9 (by simpa using h)).below hb5, fun h => (h10 (by simpa using h)).below hb5, h11, blk_below hz hb5, below_then hB hB.size hb5⟩⟩
               ·cases ho
                refine box_step ?hg (N:=5) ?hd (cs := #[.int .i64 0, .int .i64 0, .bool false]) (t:=118) ?hr ?_
                (case hd => rfl); (case hg => rfl); (case hr => first | (go_simp; done) | (go_simp; rfl)); intro g hg wb hbox hb5
                refine hK _ _ ⟨v35, v40, _, v6, by simp only [q_]; rfl, fun h => h3 (by simpa using h), fun h => h8 (by simpa using h), fun _ => AL.new hg hB (blk_lt hz) hbox, fun h => (h10 (by simpa using h)).below hb5, fun _ h => ((h10 (by simpa using h)).ne hg).symm, blk_below hz hb5, below_then hB hB.size hb5⟩
               ·cases ho
                refine box_step ?hg (N:=6) ?hd (cs := #[.int .i64 0, .int .i64 0, .bool false]) (t:=118) ?hr ?_
                (case hd => rfl); (case hg => rfl); (case hr => first | (go_simp; done) | (go_simp; rfl)); intro g hg wb hbox hb5
                refine hK _ _ ⟨v35, v40, v5, _, by simp only [q_]; rfl, fun h => h3 (by simpa using h), fun h => h8 (by simpa using h), fun h => (h9 (by simpa using h)).below hb5, fun _ => AL.new hg hB (blk_lt hz) hbox, fun h _ => (h9 (by simpa using h)).ne hg, blk_below hz hb5, below_then hB hB.size hb5⟩
              ·intro b a' w' hall hI
               obtain ⟨v35, v40, v5, v6, ha, h3, h8, h9, h10, h11, hz, hB⟩ := hI; obtain rfl := h3 (hall 3 (by simp)); obtain rfl := h8 (hall 8 (by simp)); have hne := h11 (hall 9 (by simp)) (hall 10 (by simp)); obtain ⟨g5, rfl, k5, n5, m5⟩ := h9 (hall 9 (by simp)); obtain ⟨g6, rfl, k6, n6, m6⟩ := h10 (hall 10 (by simp)); subst haf
               simp only [q_] at ha
               subst ha; clear h3 h8 h9 h10 h11 hall
               have hg : g5 ≠ g6 := fun e => hne (by rw [e])
               have hg' := Ne.symm hg
               obtain ⟨a0_, a1_, a2_⟩ := cells3 n5; obtain ⟨b0_, b1_, b2_⟩ := cells3 n6
               have fa0 := blk_frozen n5 0; have fa1 := blk_frozen n5 1; have fa2 := blk_frozen n5 2
               have fb0 := blk_frozen n6 0; have fb1 := blk_frozen n6 1; have fb2 := blk_frozen n6 2
               have HX5 := Aside0.mk n5; have HX6 := Aside0.mk n6; have HX2 := Aside0.mk hz; have HXB := Aside0.mk hB; have HXG := Aside0.mk (show (g5 ≠ g2 ∧ g6 ≠ g2 ∧ w.heap.size ≤ g5 ∧ w.heap.size ≤ g6) ∧ g5 ≠ g6 from ⟨⟨m5, m6, k5, k6⟩, hg⟩); clear n5 n6 hz hB m5 m6 k5 k6 hne; refine one_ (i:=11) (N:=none) ⟨m_ 13 4095⟩ rfl rfl (by kernel_rfl) (by decide) (fun K hK => ?_)
               refine skip_ (w1 := ?_) (by rfl) rfl ?_ ?_
               rotate_left
               ·go_simp; rfl
               refine hK.out _ _ trivial (fun _ => ?_); clear hK K; refine one_ (i:=12) (N:=none) ⟨m_ 13 8191⟩ rfl rfl (by kernel_rfl) (by decide) (fun K hK => ?_)
               refine skip_ (w1 := ?_) (by rfl) rfl ?_ ?_
               rotate_left
               ·go_simp; rfl
               refine hK.out _ _ trivial (fun _ => ?_); clear hK K
               refine done_ (by kernel_rfl) ?_
               go_wp2_with fail
               go_meet
               have hh := HXG.out
               exact ⟨g5, g6, rfl, rfl, ⟨far3 (put3 HX5.out _ _ _) hg _ _ _⟩, ⟨put3 (far3 HX6.out hg' _ _ _) _ _ _⟩, ⟨far3 (far3 HX2.out (Ne.symm hh.1.1) _ _ _) (Ne.symm hh.1.2.1) _ _ _⟩, ⟨below_set (below_set (below_set (below_set (below_set (below_set HXB.out hh.1.2.2.1) hh.1.2.2.1) hh.1.2.2.1) hh.1.2.2.2) hh.1.2.2.2) hh.1.2.2.2⟩⟩
              ·exact ⟨_, _, _, _, by subst haf; simp only [q_]; rfl, by simp, by simp, by simp, by simp, by simp, HZ2.out, HB2.out⟩
             case rest =>
              clear HZ HB d4 hbt; obtain ⟨g5, g6, rfl, rfl, H5, H6, HZ, HB⟩ := hcut; obtain ⟨a0_, a1_, a2_⟩ := cells3 H5.out; obtain ⟨b0_, b1_, b2_⟩ := cells3 H6.out
              go_upto_region 10 with fail
              clear a0_ a1_ a2_ b0_ b1_ b2_; replace H5 := blk_alloc H5.out (.cells #[.int .i64 u1, .int .i64 u2, .int .i64 v1, .int .i64 v2] 55); replace H6 := blk_alloc H6.out (.cells #[.int .i64 u1, .int .i64 u2, .int .i64 v1, .int .i64 v2] 55); replace HZ := Aside0.mk (blk_alloc HZ.out (.cells #[.int .i64 u1, .int .i64 u2, .int .i64 v1, .int .i64 v2] 55)); replace HB := Aside0.mk (below_alloc HB.out (.cells #[.int .i64 u1, .int .i64 u2, .int .i64 v1, .int .i64 v2] 55)); have H7 := blk_new wc (.cells #[.int .i64 u1, .int .i64 u2, .int .i64 v1, .int .i64 v2] 55); generalize wc.alloc (.cells #[.int .i64 u1, .int .i64 u2, .int .i64 v1, .int .i64 v2] 55) = w9 at H5 H6 HZ HB H7 ⊢; generalize wc.heap.size = g7 at H7 ⊢; obtain ⟨a0_, a1_, a2_⟩ := cells3 H5; obtain ⟨b0_, b1_, b2_⟩ := cells3 H6
              have s0 : w9.cell? ⟨g7, 0, none⟩ = some (.int .i64 u1) := (blk_cell H7 0).trans rfl
              have s1 : w9.cell? ⟨g7, 1, none⟩ = some (.int .i64 u2) := (blk_cell H7 1).trans rfl
              have s2 : w9.cell? ⟨g7, 2, none⟩ = some (.int .i64 v1) := (blk_cell H7 2).trans rfl
              have s3 : w9.cell? ⟨g7, 3, none⟩ = some (.int .i64 v2) := (blk_cell H7 3).trans rfl
              have H := HH.out
              dsimp only at H
              clear H5 H6 H7
              cases u3 with
              | false =>
               rw [if_neg (show ¬ (false = true) by decide)] at H; have HL := Aside0.mk H; clear H HH
               go_wp2
               go_roundg k2
               case measure => omega
               case rel => exact ⟨_, rfl, HL, ⟨by have := HK.out; omega⟩, HZ, HB⟩
              | true =>
               rw [if_pos rfl] at H
               cases v3 with
               | false =>
                rw [if_neg (show ¬ (false = true) by decide)] at H; have HL := Aside0.mk H; clear H HH
                go_wp2
                go_roundg k2
                case measure => omega
                case rel => exact ⟨_, rfl, HL, ⟨by have := HK.out; omega⟩, HZ, HB⟩
               | true =>
                rw [if_pos rfl] at H
                by_cases c8 : (!(u1 == v1) || (!(u2 == v2))) = true
                ·rw [if_pos c8] at H
                 simp only [Option.some.injEq, Prod.mk.injEq] at H
                 obtain ⟨rfl, rfl, rfl, rfl, rfl⟩ := H; obtain ⟨⟨z0, z1, z2, z3, z4⟩, f0, f1, f2, f3, f4⟩ := cells5 HZ.out; clear HH
                 go_wp2
                 refine bodyPost_ret (results_cell_row rfl _ _ g2 94 #[.int .i64 u1, .int .i64 u2, .int .i64 v1, .int .i64 v2, .bool true] (0, 0) _ rfl (put5 HZ.out _ _ _ _ _) Tryz.underlying94 rfl (by kernel_rfl)) rfl ⟨rfl, ?_⟩
                 have hg := Nat.le_of_eq HG2.out
                 exact below_set (below_set (below_set (below_set (below_set HB.out hg) hg) hg) hg) hg
                ·rw [if_neg c8] at H
                 replace c8 : (!(u1 == v1) || (!(u2 == v2))) = false := by simpa using c8
                 have HL := Aside0.mk H; clear H HH
                 go_wp2
                 go_roundg k2
                 case measure => omega
                 case rel => exact ⟨_, rfl, HL, ⟨by have := HK.out; omega⟩, HZ, HB⟩
            ·rw [if_neg c7] at H
             cases H
           ·rw [if_neg c6] at H
            cases H
          ·rw [if_neg c5] at H
           cases H
         ·rw [if_neg c4] at H; have hbt := bt_at a0 x (by omega); have HH := Aside0.mk H; clear H; have d4 : (bt a0 x != 58) = true := bne_iff_ne.mpr c4; clear c4
          go_wp2
          go_roundg k2
          case measure => omega
          case rel => exact ⟨_, rfl, HH, ⟨by have := HK.out; omega⟩, HZ, HB⟩
        ·rw [if_neg c3] at H
         cases H
       ·rw [if_neg c2] at H
        cases H
end Go.Proofs.YtbboanfggaknjaaGreatDoor.X
namespace Go.Proofs.YtbboanfggaknjaaGreatDoor.X
open Go.RowKit Go.Proofs.YtbboanfggaknjaaGreatDoorW.PrintWords Go.Proofs.YtbboanfggaknjaaGreatDoorW.PrintLast Go.Proofs.YtbboanfggaknjaaGreatDoorW.PrintMore
attribute [local go_sem] max2_int min2_int max_two min_two max_three min_three max_four min_four
set_option linter.unusedVariables false
set_option linter.unusedSimpArgs false
def oculusref02_Every.l0 : Nat → Int → Int → Option (Int)
 | 0, _, _ => none
 | k + 1, x1, x2 => if x2 < 64 then (oculusref02_Every.l0 k (IntKind.u64.wrap ((IntKind.u64.wrap (x1 * 2)) + 1)) (wrap64 (x2 + 1))) else (some x1)
def oculusref02_Every.f (k : Nat)  : Option (Int) := oculusref02_Every.l0 k 0 0
theorem oculusref02_Every.calls (k : Nat)  (r : Int) (w : World) (h : oculusref02_Every.f k  = some r) :
  Calls Tryz.prog 82 #[] w fun e w' => e = .returned (.int .u64 r) ∧ Drawn0 w w' := by
 have H : (oculusref02_Every.l0 k 0 0) = some r := h
 clear h
 have H' := A_ H
 clear H
 go_enter Tryz.func82, Tryz.ntmps82
 go_wp2
 go_loopg [1, 2] k (fun kq v1 v2 w' => ∃ (x1_1 : Int) (x2_1 : Int), v1 = .int .u64 x1_1 ∧ v2 = .int .i64 x2_1 ∧ Aside0 (oculusref02_Every.l0 kq x1_1 x2_1 = some r) ∧ Aside0 (kq ≤ k) ∧ Drawn0 w w')
 case atStart => exact ⟨(0), (0), sq_, sq_, H', ⟨Nat.le_refl _⟩, dr_⟩
 case round =>
  clear H'; obtain ⟨x1_1, x2_1, rfl, rfl, HA, HK1, ⟨m1, rfl⟩⟩ := hrel
  cases gk with
  | zero => exact absurd HA.out (by simp [oculusref02_Every.l0])
  | succ k1 =>
   have H := HA.out; clear HA
   simp only [oculusref02_Every.l0] at H
   by_cases c1 : x2_1 < 64
   ·rw [if_pos c1] at H; have c1b0 := decide_eq_true c1; clear c1
    have H' := A_ H
    clear H
    go_wp2
    go_roundg k1
    case measure => have := HK1.out; omega
    case rel => exact ⟨(IntKind.u64.wrap ((IntKind.u64.wrap (x1_1 * 2)) + 1)), (wrap64 (x2_1 + 1)), sq_, sq_, H', ⟨by have := HK1.out; omega⟩, dr_⟩
   ·rw [if_neg c1] at H; have c1b0 := decide_eq_false c1; clear c1; obtain rfl := Option.some.inj H
    go_wp2
    go_ret
    exact ⟨by first | rfl | (simp; done) | (simp [*]; done), dr_⟩

def oculusref02_Top.f (k : Nat)  : Option (Int × Int) := (oculusref02_Every.f k).bind fun t102 => (some (15, t102))
theorem oculusref02_Top.calls (k : Nat)  (r1 : Int) (r2 : Int) (w : World) (h : oculusref02_Top.f k  = some (r1, r2)) :
  Calls Tryz.prog 59 #[] w fun e w' => e = .returned (.agg #[.int .i64 r1, .int .u64 r2]) ∧ Below w.heap.size w w' := by
 have hu58 := Tryz.underlying58; have HB := A_ (Below.refl w.heap.size w)
 have H : ((oculusref02_Every.f k).bind fun t102 => (some (15, t102))) = some (r1, r2) := h
 clear h; obtain ⟨t102, A1, H⟩ := bo_ H
 simp only [Option.some.injEq, Prod.mk.injEq] at H
 obtain ⟨rfl, rfl⟩ := H
 go_enter Tryz.func59, Tryz.ntmps59
 go_wp2_with (first | ((with_reducible refine gd_ 0 ?_); refine be_ (N:=0) (cs := #[.int .i64 0, .int .u64 0]) (t:=58) ?_; intro g1 hg w2 hbox hb; have B1 := A_ (hbox); have GW101 := hs_ HB hg; have GE101 := hs_ HB hg; replace HB := bs_ HB hb; clear hb hbox hg) | ((with_reducible refine gate_callee (f:=82) rfl ?_); refine gL_ (some 1) rfl rfl Tryz.func82 rfl #[] rfl ?_; (with_reducible refine (oculusref02_Every.calls k  t102 _ A1.out).mono ?_); rintro e w' ⟨rfl, ⟨nd, rfl⟩⟩; refine ⟨_, rfl, ?_⟩; (try (rw [drewN_self w2]; generalize hq_ : World.drewN w2 _ = w2; have n0_ : Aside0 (w2.heap[g1]? = some (.cells #[.int .i64 0, .int .u64 0] 58 (0, 0))) := ⟨by rw [← hq_]; exact (pkx B1)⟩; have n1_ : Aside0 (Below w.heap.size w w2) := ⟨by rw [← hq_]; exact (pbx HB)⟩; clear B1 HB hq_; have B1 := n0_; have HB := n1_; clear n0_ n1_)); have ⟨hcz3_0,hcz3_1,hfz3_0,hfz3_1⟩ := z2_ B1))
 refine bodyPost_ret (results_cell_row rfl _ _ g1 58 #[.int .i64 15, .int .u64 t102] (0, 0) _ rfl (by refine pp_ (cs := #[.int .i64 15, .int .u64 0]) 1 ?_ rfl; refine blk_put (cs := #[.int .i64 0, .int .u64 0]) ?_ 0 _ rfl; exact pkx B1) Tryz.underlying58 rfl (by kernel_rfl)) rfl ?_
 exact fi_ bl_

def oculusref01_One.l0 : Nat → Int → Int → Int → Option (Int)
 | 0, _, _, _ => none
 | k + 1, x0, x3, x4 => if x4 < x0 then (oculusref01_One.l0 k x0 (IntKind.u64.wrap (x3 * 2)) (wrap64 (x4 + 1))) else (some x3)
def oculusref01_One.f (k : Nat) (a0 : Int) : Option (Int) := oculusref01_One.l0 k a0 1 0
theorem oculusref01_One.calls (k : Nat) (a0 : Int) (r : Int) (w : World) (h : oculusref01_One.f k a0 = some r) :
  Calls Tryz.prog 84 #[.int .i64 a0] w fun e w' => e = .returned (.int .u64 r) ∧ Drawn0 w w' := by
 have H : (oculusref01_One.l0 k a0 1 0) = some r := h
 clear h
 have H' := A_ H
 clear H
 go_enter Tryz.func84, Tryz.ntmps84
 go_wp2
 go_loopg [3, 4] k (fun kq v3 v4 w' => ∃ (x3_1 : Int) (x4_1 : Int), v3 = .int .u64 x3_1 ∧ v4 = .int .i64 x4_1 ∧ Aside0 (oculusref01_One.l0 kq a0 x3_1 x4_1 = some r) ∧ Aside0 (kq ≤ k) ∧ Drawn0 w w')
 case atStart => exact ⟨(1), (0), sq_, sq_, H', ⟨Nat.le_refl _⟩, dr_⟩
 case round =>
  clear H'; obtain ⟨x3_1, x4_1, rfl, rfl, HA, HK1, ⟨m1, rfl⟩⟩ := hrel
  cases gk with
  | zero => exact absurd HA.out (by simp [oculusref01_One.l0])
  | succ k1 =>
   have H := HA.out; clear HA
   simp only [oculusref01_One.l0] at H
   by_cases c2 : x4_1 < a0
   ·rw [if_pos c2] at H; have c2b0 := decide_eq_true c2; clear c2
    have H' := A_ H
    clear H
    go_wp2
    go_roundg k1
    case measure => have := HK1.out; omega
    case rel => exact ⟨(IntKind.u64.wrap (x3_1 * 2)), (wrap64 (x4_1 + 1)), sq_, sq_, H', ⟨by have := HK1.out; omega⟩, dr_⟩
   ·rw [if_neg c2] at H; have c2b0 := decide_eq_false c2; clear c2; obtain rfl := Option.some.inj H
    go_wp2
    go_ret
    exact ⟨by first | rfl | (simp; done) | (simp [*]; done), dr_⟩

mutual
def oculusref01_Bit.j0 : Nat → Int → Int → Bool → Option (Bool)
 | 0, _, _, _ => none
 | k + 1, x0, x1, x11 => if x11 = true then (some false) else (oculusref01_Bit.l0 k x0 x1 0)
def oculusref01_Bit.l0 : Nat → Int → Int → Int → Option (Bool)
 | 0, _, _, _ => none
 | k + 1, x0, x1, x5 => if x5 < x1 then (oculusref01_Bit.l0 k (IntKind.u64.wrap (Int.tdiv x0 2)) x1 (wrap64 (x5 + 1))) else (some ((Int.tmod x0 2) == 1))
end
def oculusref01_Bit.f (k : Nat) (a0 : Int) (a1 : Int) : Option (Bool) := if a1 < 0 then (oculusref01_Bit.j0 k a0 a1 true) else (oculusref01_Bit.j0 k a0 a1 (decide (a1 > 63)))
theorem oculusref01_Bit.calls (k : Nat) (a0 : Int) (a1 : Int) (r : Bool) (w : World) (h : oculusref01_Bit.f k a0 a1 = some r) :
  Calls Tryz.prog 98 #[.int .u64 a0, .int .i64 a1] w fun e w' => e = .returned (.bool r) ∧ Drawn0 w w' := by
 have H : (if a1 < 0 then (oculusref01_Bit.j0 k a0 a1 true) else (oculusref01_Bit.j0 k a0 a1 (decide (a1 > 63)))) = some r := h
 clear h; have HC3 := A_ H; clear H
 go_enter Tryz.func98, Tryz.ntmps98
 go_upto_region 1 with (fail)
 go_cut [11] (fun v11 wc => ∃ (kq : Nat) (x11_2 : Bool), v11 = .bool x11_2 ∧ Aside0 (oculusref01_Bit.j0 kq a0 a1 x11_2 = some r) ∧ Aside0 (kq ≤ k) ∧ Drawn0 w wc)
 case first =>
  have H := HC3.out; clear HC3
  by_cases c4 : a1 < 0
  ·rw [if_pos c4] at H; have c4b0 := decide_eq_true c4; clear c4; (first | rw [c4b0] | (simp only [i64_w, i32_w]; rw [c4b0]) | skip)
   have H' := A_ H
   clear H
   go_wp2
   go_meet
   case rel => exact ⟨_, (true), sq_, H', le_, dr_⟩
  ·rw [if_neg c4] at H; have c4b0 := decide_eq_false c4; clear c4; (first | rw [c4b0] | (simp only [i64_w, i32_w]; rw [c4b0]) | skip)
   have H' := A_ H
   clear H
   go_wp2
   go_meet
   case rel => exact ⟨_, (decide (a1 > 63)), sq_, H', le_, dr_⟩
 case rest =>
  clear HC3; obtain ⟨kq, x11_2, rfl, HA, HJ2, ⟨mc2, rfl⟩⟩ := hcut
  cases kq with
  | zero => exact absurd HA.out (by simp [oculusref01_Bit.j0])
  | succ kj2 =>
   have H := HA.out; clear HA
   simp only [oculusref01_Bit.j0] at H
   by_cases c5 : x11_2 = true
   ·subst c5
    replace H := it_ H; obtain rfl := Option.some.inj H
    go_wp2
    go_ret
    exact ⟨by first | rfl | (simp; done) | (simp [*]; done), dr_⟩
   ·replace c5 := Bool.eq_false_iff.mpr c5; subst c5
    replace H := ie_ H
    have H' := A_ H
    clear H
    go_wp2
    go_loopg [0, 5] kj2 (fun kq v0 v5 w' => ∃ (x0_2 : Int) (x5_2 : Int), v0 = .int .u64 x0_2 ∧ v5 = .int .i64 x5_2 ∧ Aside0 (oculusref01_Bit.l0 kq x0_2 a1 x5_2 = some r) ∧ Aside0 (kq ≤ kj2) ∧ Drawn0 w w')
    case atStart => exact ⟨(a0), (0), sq_, sq_, H', ⟨Nat.le_refl _⟩, dr_⟩
    case round =>
     clear H'; (try clear c5); obtain ⟨x0_2, x5_2, rfl, rfl, HA, HK2, ⟨m2, rfl⟩⟩ := hrel
     cases gk with
     | zero => exact absurd HA.out (by simp [oculusref01_Bit.l0])
     | succ k2 =>
      have H := HA.out; clear HA
      simp only [oculusref01_Bit.l0] at H
      by_cases c6 : x5_2 < a1
      ·rw [if_pos c6] at H; have c6b0 := decide_eq_true c6; clear c6
       have H' := A_ H
       clear H
       go_wp2
       go_roundg k2
       case measure => have := HJ2.out; have := HK2.out; omega
       case rel => exact ⟨(IntKind.u64.wrap (Int.tdiv x0_2 2)), (wrap64 (x5_2 + 1)), sq_, sq_, H', ⟨by have := HJ2.out; have := HK2.out; omega⟩, dr_⟩
      ·rw [if_neg c6] at H; have c6b0 := decide_eq_false c6; clear c6; obtain rfl := Option.some.inj H
       go_wp2
       go_ret
       exact ⟨by first | rfl | (simp; done) | (simp [*]; done), dr_⟩

def oculusref01_Join.l0 : Nat → Int → Int → Int → Int → Option (Int)
 | 0, _, _, _, _ => none
 | k + 1, x0, x1, x5, x6 => if x6 < 64 then ((oculusref01_Bit.f k x0 x6).bind fun t101 => (if t101 = true then ((oculusref01_One.f k x6).bind fun t102 => (oculusref01_Join.l0 k x0 x1 (IntKind.u64.wrap (x5 + t102)) (wrap64 (x6 + 1)))) else ((oculusref01_Bit.f k x1 x6).bind fun t103 => (if t103 = true then ((oculusref01_One.f k x6).bind fun t104 => (oculusref01_Join.l0 k x0 x1 (IntKind.u64.wrap (x5 + t104)) (wrap64 (x6 + 1)))) else (oculusref01_Join.l0 k x0 x1 x5 (wrap64 (x6 + 1))))))) else (some x5)
def oculusref01_Join.f (k : Nat) (a0 : Int) (a1 : Int) : Option (Int) := oculusref01_Join.l0 k a0 a1 0 0
theorem oculusref01_Join.calls (k : Nat) (a0 : Int) (a1 : Int) (r : Int) (w : World) (h : oculusref01_Join.f k a0 a1 = some r) :
  Calls Tryz.prog 83 #[.int .u64 a0, .int .u64 a1] w fun e w' => e = .returned (.int .u64 r) ∧ Drawn0 w w' := by
 have H : (oculusref01_Join.l0 k a0 a1 0 0) = some r := h
 clear h
 have H' := A_ H
 clear H
 go_enter Tryz.func83, Tryz.ntmps83
 go_wp2
 go_loopg [5, 6] k (fun kq v5 v6 w' => ∃ (x5_1 : Int) (x6_1 : Int), v5 = .int .u64 x5_1 ∧ v6 = .int .i64 x6_1 ∧ Aside0 (oculusref01_Join.l0 kq a0 a1 x5_1 x6_1 = some r) ∧ Aside0 (kq ≤ k) ∧ Drawn0 w w')
 case atStart => exact ⟨(0), (0), sq_, sq_, H', ⟨Nat.le_refl _⟩, dr_⟩
 case round =>
  clear H'; obtain ⟨x5_1, x6_1, rfl, rfl, HA, HK1, ⟨m1, rfl⟩⟩ := hrel
  cases gk with
  | zero => exact absurd HA.out (by simp [oculusref01_Join.l0])
  | succ k1 =>
   have H := HA.out; clear HA
   simp only [oculusref01_Join.l0] at H
   by_cases c3 : x6_1 < 64
   ·rw [if_pos c3] at H; have c3b0 := decide_eq_true c3; clear c3; obtain ⟨t101, A4, H⟩ := bo_ H
    by_cases c5 : t101 = true
    ·subst c5
     obtain ⟨t102, A6, H⟩ := bo_ (it_ H)
     have H' := A_ H
     clear H
     go_wp2_with (first | ((with_reducible refine gate_callee (f:=98) rfl ?_); refine gL_ (some 13) rfl rfl Tryz.func98 rfl #[.int .u64 a0, .int .i64 x6_1] rfl ?_; (with_reducible refine (oculusref01_Bit.calls k1 a0 x6_1 true _ A4.out).mono ?_); rintro e w' ⟨rfl, ⟨nd, rfl⟩⟩; refine ⟨_, rfl, ?_⟩) | ((with_reducible refine gate_callee (f:=84) rfl ?_); refine gL_ (some 21) rfl rfl Tryz.func84 rfl #[.int .i64 x6_1] rfl ?_; (with_reducible refine (oculusref01_One.calls k1 x6_1 t102 _ A6.out).mono ?_); rintro e w' ⟨rfl, ⟨nd, rfl⟩⟩; refine ⟨_, rfl, ?_⟩))
     go_roundg k1
     case measure => have := HK1.out; omega
     case rel => exact ⟨(IntKind.u64.wrap (x5_1 + t102)), (wrap64 (x6_1 + 1)), (by first | rfl | (simp; done) | (simp [*]; done) | (cases t102 <;> simp; done)), sq_, H', ⟨by have := HK1.out; omega⟩, dr_⟩
    ·replace c5 := Bool.eq_false_iff.mpr c5; subst c5
     obtain ⟨t103, A7, H⟩ := bo_ (ie_ H)
     by_cases c8 : t103 = true
     ·subst c8
      obtain ⟨t104, A9, H⟩ := bo_ (it_ H)
      have H' := A_ H
      clear H
      go_wp2_with (first | ((with_reducible refine gate_callee (f:=98) rfl ?_); refine gL_ (some 13) rfl rfl Tryz.func98 rfl #[.int .u64 a0, .int .i64 x6_1] rfl ?_; (with_reducible refine (oculusref01_Bit.calls k1 a0 x6_1 false _ A4.out).mono ?_); rintro e w' ⟨rfl, ⟨nd, rfl⟩⟩; refine ⟨_, rfl, ?_⟩) | (go_at_call 98; (with_reducible refine (oculusref01_Bit.calls k1 a1 x6_1 true _ A7.out).mono ?_); rintro e w' ⟨rfl, ⟨nd, rfl⟩⟩) | ((with_reducible refine gate_callee (f:=84) rfl ?_); refine gL_ (some 21) rfl rfl Tryz.func84 rfl #[.int .i64 x6_1] rfl ?_; (with_reducible refine (oculusref01_One.calls k1 x6_1 t104 _ A9.out).mono ?_); rintro e w' ⟨rfl, ⟨nd, rfl⟩⟩; refine ⟨_, rfl, ?_⟩))
      go_roundg k1
      case measure => have := HK1.out; omega
      case rel => exact ⟨(IntKind.u64.wrap (x5_1 + t104)), (wrap64 (x6_1 + 1)), (by first | rfl | (simp; done) | (simp [*]; done) | (cases t104 <;> simp; done)), sq_, H', ⟨by have := HK1.out; omega⟩, dr_⟩
     ·replace c8 := Bool.eq_false_iff.mpr c8; subst c8
      replace H := ie_ H
      have H' := A_ H
      clear H
      go_wp2_with (first | ((with_reducible refine gate_callee (f:=98) rfl ?_); refine gL_ (some 13) rfl rfl Tryz.func98 rfl #[.int .u64 a0, .int .i64 x6_1] rfl ?_; (with_reducible refine (oculusref01_Bit.calls k1 a0 x6_1 false _ A4.out).mono ?_); rintro e w' ⟨rfl, ⟨nd, rfl⟩⟩; refine ⟨_, rfl, ?_⟩) | (go_at_call 98; (with_reducible refine (oculusref01_Bit.calls k1 a1 x6_1 false _ A7.out).mono ?_); rintro e w' ⟨rfl, ⟨nd, rfl⟩⟩))
      go_roundg k1
      case measure => have := HK1.out; omega
      case rel => exact ⟨(x5_1), (wrap64 (x6_1 + 1)), sq_, sq_, H', ⟨by have := HK1.out; omega⟩, dr_⟩
   ·rw [if_neg c3] at H; have c3b0 := decide_eq_false c3; clear c3; obtain rfl := Option.some.inj H
    go_wp2
    go_ret
    exact ⟨by first | rfl | (simp; done) | (simp [*]; done), dr_⟩

def oculusref01_List.l0 : Nat → Int → List Int → Int → Option (List Int)
 | 0, _, _, _ => none
 | k + 1, x0, x3, x4 => if x4 < 64 then ((oculusref01_Bit.f k x0 x4).bind fun t101 => (if t101 = true then (if x3.length < 17592186044416 then (oculusref01_List.l0 k x0 (x3 ++ [x4]) (wrap64 (x4 + 1))) else (none)) else (oculusref01_List.l0 k x0 x3 (wrap64 (x4 + 1))))) else (some x3)
def oculusref01_List.f (k : Nat) (a0 : Int) : Option (List Int) := oculusref01_List.l0 k a0 ([] : List Int) 0
theorem oculusref01_List.calls (k : Nat) (a0 : Int) (r : List Int) (w : World) (h : oculusref01_List.f k a0 = some r) :
  Calls Tryz.prog 99 #[.int .u64 a0] w fun e w' => ∃ v0_ : Value, e = .returned (v0_) ∧ Kd.R (Kd.int .i64) 3 w' w.heap.size (fun _ => True) v0_ r ∧ Below w.heap.size w w' := by
 have HB := A_ (Below.refl w.heap.size w)
 have H : (oculusref01_List.l0 k a0 ([] : List Int) 0) = some r := h
 clear h
 have H' := A_ H
 clear H
 go_enter Tryz.func99, Tryz.ntmps99
 go_wp2
 go_loopg [3, 4] k (fun kq v3 v4 w' => ∃ (x3_1 : List Int) (x4_1 : Int), v4 = .int .i64 x4_1 ∧ Aside0 (oculusref01_List.l0 kq a0 x3_1 x4_1 = some r) ∧ Aside0 (kq ≤ k) ∧ Aside0 (Kd.R (Kd.int .i64) 3 w' w.heap.size (fun _ => True) v3 x3_1) ∧ Aside0 (Below w.heap.size w w'))
 case atStart => exact ⟨(([] : List Int)), (0), sq_, H', ⟨Nat.le_refl _⟩, ⟨by first | exact Kd.R_nil _ _ _ _ _ | exact Kd.N_nil _ _ _ _ _ | exact Kd.V_nil _ _ _ _ _ | exact Kd.Q_nil _ _ _ _ _ | exact Kd.S_nil _ _ _ _ _⟩, ⟨pbx HB⟩⟩
 case round =>
  clear H'; obtain ⟨x3_1, x4_1, rfl, HA, HK1, HO_3, HB⟩ := hrel
  cases gk with
  | zero => exact absurd HA.out (by simp [oculusref01_List.l0])
  | succ k1 =>
   have H := HA.out; clear HA
   simp only [oculusref01_List.l0] at H
   by_cases c2 : x4_1 < 64
   ·rw [if_pos c2] at H; have c2b0 := decide_eq_true c2; clear c2; obtain ⟨t101, A3, H⟩ := bo_ H
    by_cases c4 : t101 = true
    ·subst c4
     replace H := it_ H
     by_cases c5 : x3_1.length < 17592186044416
     ·rw [if_pos c5] at H; have LMc5 := A_ c5; clear c5; obtain ⟨y102, hy102⟩ : ∃ y_ : List Int, y_ = (x3_1 ++ [x4_1]) := ⟨_, rfl⟩
      replace H : (oculusref01_List.l0 k1 a0 y102 (wrap64 (x4_1 + 1))) = some r := by first | (rw [hy102]; with_reducible exact H) | (have H2_ := (Option.bind_some _ _).symm.trans H; rw [hy102]; with_reducible exact H2_) | (have H2_ := (Option.bind_some _ _).symm.trans H; with_reducible exact H2_) | with_reducible exact H | (rw [hy102]; exact H) | exact H
      have Ny102 := A_ hy102; clear hy102
      have H' := A_ H
      clear H
      go_wp2_with (first | ((with_reducible refine gate_callee (f:=98) rfl ?_); refine gL_ (some 11) rfl rfl Tryz.func98 rfl #[.int .u64 a0, .int .i64 x4_1] rfl ?_; (with_reducible refine (oculusref01_Bit.calls k1 a0 x4_1 true _ A3.out).mono ?_); rintro e w' ⟨rfl, ⟨nd, rfl⟩⟩; refine ⟨_, rfl, ?_⟩) | ((with_reducible refine gate_builtin (b := .append) (xs := #[.tmp 12, .tmp 14]) rfl ?_); at_builtin; refine Kd.R_append (Kd.int .i64) (w0 := w) w.heap.size rfl (.tmp 12) (.tmp 14) 128 3 (.int .i64 0) 8 rfl Tryz.underlying128 info3 rfl (by decide) (by omega) u3 x3_1 x4_1 [.int .i64 x4_1] (fun _ => True) (fun _ => False) rfl rfl ?aP (fun _ hk => hk.elim) ?aF ?aO ?aB ?aS ?aL ?_; (case aP => exact rfl); (case aB => exact (pbx HB)); (case aF => exact (fun _ _ => trivial)); (case aO => exact (ra_ HO_3.out)); (case aS => exact (below_size (pbx HB))); (case aL => have := LMc5.out; omega); intro v103 w6 ho hb hg hat; rw [← Ny102.out] at ho; have HO104 := A_ (ho); replace HB := A_ (hb); clear HO_3; clear ho hb hg hat))
      go_roundg k1
      case measure => have := HK1.out; omega
      case rel => exact ⟨(y102), (wrap64 (x4_1 + 1)), sq_, H', ⟨by have := HK1.out; omega⟩, ⟨ra_ HO104.out⟩, ⟨pbx HB⟩⟩
     ·rw [if_neg c5] at H
      exact absurd H (by simp)
    ·replace c4 := Bool.eq_false_iff.mpr c4; subst c4
     replace H := ie_ H
     have H' := A_ H
     clear H
     go_wp2_with (first | ((with_reducible refine gate_callee (f:=98) rfl ?_); refine gL_ (some 11) rfl rfl Tryz.func98 rfl #[.int .u64 a0, .int .i64 x4_1] rfl ?_; (with_reducible refine (oculusref01_Bit.calls k1 a0 x4_1 false _ A3.out).mono ?_); rintro e w' ⟨rfl, ⟨nd, rfl⟩⟩; refine ⟨_, rfl, ?_⟩))
     go_roundg k1
     case measure => have := HK1.out; omega
     case rel => exact ⟨(x3_1), (wrap64 (x4_1 + 1)), sq_, H', ⟨by have := HK1.out; omega⟩, ⟨ra_ HO_3.out⟩, ⟨pbx HB⟩⟩
   ·rw [if_neg c2] at H; have c2b0 := decide_eq_false c2; clear c2; obtain rfl := Option.some.inj H
    go_wp2
    go_ret
    exact ⟨_, by first | rfl | (simp [errW_none, errW_some] <;> rfl) | (simp [*, errW_none, errW_some] <;> rfl), ra_ HO_3.out, pbx HB⟩

def oculusref01_Text.l0 : Nat → ByteArray → List Int → Int → Option (ByteArray)
 | 0, _, _, _ => none
 | k + 1, x3, x4, x5 => if x5 < (x4.length : Int) then (if x5 > 0 then (if x3.size + 1 ≤ 9223372036854775807 then (if 0 ≤ x5 then ((oculusref01_Digits.f k (rd x4 x5)).bind fun t105 => (if (x3 ++ (⟨#[44]⟩ : ByteArray)).size + t105.size ≤ 9223372036854775807 then (oculusref01_Text.l0 k ((x3 ++ (⟨#[44]⟩ : ByteArray)) ++ t105) x4 (wrap64 (x5 + 1))) else (none))) else (none)) else (none)) else (if 0 ≤ x5 then ((oculusref01_Digits.f k (rd x4 x5)).bind fun t107 => (if x3.size + t107.size ≤ 9223372036854775807 then (oculusref01_Text.l0 k (x3 ++ t107) x4 (wrap64 (x5 + 1))) else (none))) else (none))) else (some x3)
def oculusref01_Text.f (k : Nat) (a0 : Int) : Option (ByteArray) := (oculusref01_List.f k a0).bind fun t101 => (oculusref01_Text.l0 k (⟨#[]⟩ : ByteArray) t101 0)
theorem oculusref01_Text.calls (k : Nat) (a0 : Int) (r : ByteArray) (w : World) (h : oculusref01_Text.f k a0 = some r) :
  Calls Tryz.prog 85 #[.int .u64 a0] w fun e w' => e = .returned (.string r) ∧ Below w.heap.size w w' := by
 have HB := A_ (Below.refl w.heap.size w)
 have H : ((oculusref01_List.f k a0).bind fun t101 => (oculusref01_Text.l0 k (⟨#[]⟩ : ByteArray) t101 0)) = some r := h
 clear h; obtain ⟨t101, A2, H⟩ := bo_ H
 have H' := A_ H
 clear H
 go_enter Tryz.func85, Tryz.ntmps85
 go_wp2_with (first | ((with_reducible refine gate_callee (f:=99) rfl ?_); refine gL_ (some 7) rfl rfl Tryz.func99 rfl #[.int .u64 a0] rfl ?_; (with_reducible refine (oculusref01_List.calls k a0 t101 _ A2.out).mono ?_); rintro e w3 ⟨v102, rfl, ho0, hb⟩; refine ⟨_, rfl, ?_⟩; have HO103 := A_ (Kd.R_lower ho0 (below_size (pbx HB))); replace HB := bs_ HB hb; ))
 go_loopg [3, 5] k (fun kq v3 v5 w' => ∃ (x3_1 : ByteArray) (x5_1 : Int), v3 = .string x3_1 ∧ v5 = .int .i64 x5_1 ∧ Aside0 (oculusref01_Text.l0 kq x3_1 t101 x5_1 = some r) ∧ Aside0 (kq ≤ k) ∧ Aside0 (Kd.R (Kd.int .i64) 3 w' w.heap.size (fun _ => True) v102 t101) ∧ Aside0 (Below w.heap.size w w'))
 case atStart => exact ⟨((⟨#[]⟩ : ByteArray)), (0), sq_, sq_, H', ⟨Nat.le_refl _⟩, ⟨ra_ HO103.out⟩, ⟨pbx HB⟩⟩
 case round =>
  clear H'; obtain ⟨x3_1, x5_1, rfl, rfl, HA, HK1, HO_4, HB⟩ := hrel
  cases gk with
  | zero => exact absurd HA.out (by simp [oculusref01_Text.l0])
  | succ k1 =>
   have H := HA.out; clear HA
   simp only [oculusref01_Text.l0] at H
   by_cases c4 : x5_1 < (t101.length : Int)
   ·rw [if_pos c4] at H; have c4b0 := decide_eq_true c4; clear c4
    by_cases c5 : x5_1 > 0
    ·rw [if_pos c5] at H; have c5b0 := decide_eq_true c5; clear c5
     by_cases c6 : x3_1.size + 1 ≤ 9223372036854775807
     ·rw [if_pos c6] at H; have c6b0 := eq_true c6; have c6b1 := decide_eq_true c6
      try have c6b2 : (9223372036854775807 < x3_1.size + 1) = False := eq_false (Nat.not_lt.2 c6)
      by_cases c7 : 0 ≤ x5_1
      ·rw [if_pos c7] at H; have c7b0 := decide_eq_true c7; clear c7; obtain ⟨t105, A8, H⟩ := bo_ H
       by_cases c9 : (x3_1 ++ (⟨#[44]⟩ : ByteArray)).size + t105.size ≤ 9223372036854775807
       ·rw [if_pos c9] at H; have c9b0 := eq_true c9; have c9b1 := decide_eq_true c9
        try have c9b2 : (9223372036854775807 < (x3_1 ++ (⟨#[44]⟩ : ByteArray)).size + t105.size) = False := eq_false (Nat.not_lt.2 c9)
        try have c9b2z : (9223372036854775807 < x3_1.size + 1 + t105.size) = False := by have h9_ := c9b2; rw [ByteArray.size_append] at h9_; exact h9_
        have H' := A_ H
        clear H; obtain ⟨Ao10, co10, eo10⟩ := Kd.R_slice HO_4.out; subst eo10
        have p104 : 0 ≤ (x5_1 : Int) := of_decide_eq_true as_
        have q104 : x5_1 < (t101.length : Int) := of_decide_eq_true as_
        obtain ⟨ad104, e104, hx104_0⟩ := Kd.at_int (Kd.R_reads' HO_4.out).2.2 x5_1 p104 q104
        cases e104
        replace p104 := eq_true p104; replace q104 := eq_true q104
        go_wp2_with (first | ((with_reducible refine gate_callee (f:=57) rfl ?_); refine gL_ (some 23) rfl rfl Tryz.func57 rfl #[.int .i64 (rd t101 x5_1)] rfl ?_; (with_reducible refine (oculusref01_Digits.calls k1 (rd t101 x5_1) t105 _ A8.out).mono ?_); rintro e w11 ⟨rfl, hb⟩; refine ⟨_, rfl, ?_⟩; replace HO_4 := A_ (Kd.R_below (ra_ HO_4.out) hb); replace HB := bs_ HB hb; (try clear hb); ))
        go_roundg k1
        case measure => have := HK1.out; omega
        case rel => exact ⟨((x3_1 ++ (⟨#[44]⟩ : ByteArray)) ++ t105), (wrap64 (x5_1 + 1)), (by first | rfl | (simp; done) | (simp [*]; done) | (cases t105 <;> simp; done)), sq_, H', ⟨by have := HK1.out; omega⟩, ⟨ra_ HO_4.out⟩, ⟨pbx HB⟩⟩
       ·rw [if_neg c9] at H
        exact absurd H (by simp)
      ·rw [if_neg c7] at H
       exact absurd H (by simp)
     ·rw [if_neg c6] at H
      exact absurd H (by simp)
    ·rw [if_neg c5] at H; have c5b0 := decide_eq_false c5; clear c5
     by_cases c12 : 0 ≤ x5_1
     ·rw [if_pos c12] at H; have c12b0 := decide_eq_true c12; clear c12; obtain ⟨t107, A13, H⟩ := bo_ H
      by_cases c14 : x3_1.size + t107.size ≤ 9223372036854775807
      ·rw [if_pos c14] at H; have c14b0 := eq_true c14; have c14b1 := decide_eq_true c14
       try have c14b2 : (9223372036854775807 < x3_1.size + t107.size) = False := eq_false (Nat.not_lt.2 c14)
       have H' := A_ H
       clear H; obtain ⟨Ao15, co15, eo15⟩ := Kd.R_slice HO_4.out; subst eo15
       have p106 : 0 ≤ (x5_1 : Int) := of_decide_eq_true as_
       have q106 : x5_1 < (t101.length : Int) := of_decide_eq_true as_
       obtain ⟨ad106, e106, hx106_0⟩ := Kd.at_int (Kd.R_reads' HO_4.out).2.2 x5_1 p106 q106
       cases e106
       replace p106 := eq_true p106; replace q106 := eq_true q106
       go_wp2_with (first | ((with_reducible refine gate_callee (f:=57) rfl ?_); refine gL_ (some 23) rfl rfl Tryz.func57 rfl #[.int .i64 (rd t101 x5_1)] rfl ?_; (with_reducible refine (oculusref01_Digits.calls k1 (rd t101 x5_1) t107 _ A13.out).mono ?_); rintro e w16 ⟨rfl, hb⟩; refine ⟨_, rfl, ?_⟩; replace HO_4 := A_ (Kd.R_below (ra_ HO_4.out) hb); replace HB := bs_ HB hb; (try clear hb); ))
       go_roundg k1
       case measure => have := HK1.out; omega
       case rel => exact ⟨(x3_1 ++ t107), (wrap64 (x5_1 + 1)), (by first | rfl | (simp; done) | (simp [*]; done) | (cases t107 <;> simp; done)), sq_, H', ⟨by have := HK1.out; omega⟩, ⟨ra_ HO_4.out⟩, ⟨pbx HB⟩⟩
      ·rw [if_neg c14] at H
       exact absurd H (by simp)
     ·rw [if_neg c12] at H
      exact absurd H (by simp)
   ·rw [if_neg c4] at H; have c4b0 := decide_eq_false c4; clear c4; obtain rfl := Option.some.inj H; obtain ⟨Ao17, co17, eo17⟩ := Kd.R_slice HO_4.out; subst eo17
    go_wp2
    go_ret
    exact fi_ (pbx HB)

mutual
def oculusref01_Parse.l0 : Nat → ByteArray → Int → Int → Int → Option (Int × Bool)
 | 0, _, _, _, _ => none
 | k + 1, x0, x3, x4, x5 => if x5 ≤ (x0.size : Int) then (if x5 < (x0.size : Int) then (if 0 ≤ x5 then (if (bt x0 x5) ≥ 48 then (if (bt x0 x5) ≤ 57 then (oculusref01_Parse.j1 k x0 x3 x4 x5 (decide (x4 < 100))) else (oculusref01_Parse.j1 k x0 x3 x4 x5 false)) else (oculusref01_Parse.j1 k x0 x3 x4 x5 false)) else (none)) else (oculusref01_Parse.j1 k x0 x3 x4 x5 false)) else ((oculusref01_Text.f k x3).bind fun t102 => (if t102.toList = x0.toList then (some (x3, true)) else (some (0, false))))
def oculusref01_Parse.j1 : Nat → ByteArray → Int → Int → Int → Bool → Option (Int × Bool)
 | 0, _, _, _, _, _ => none
 | k + 1, x0, x3, x4, x5, x31 => if x31 = true then (if 0 ≤ x5 then (if x5 < (x0.size : Int) then (oculusref01_Parse.l0 k x0 x3 (wrap64 ((wrap64 ((wrap64 ((mx x4 0) * 10)) + (wrap64 (bt x0 x5)))) - 48)) (wrap64 (x5 + 1))) else (none)) else (none)) else (if x4 ≥ 0 then (oculusref01_Parse.j2 k x0 x3 x4 x5 (decide (x4 < 64))) else (oculusref01_Parse.j2 k x0 x3 x4 x5 false))
def oculusref01_Parse.j2 : Nat → ByteArray → Int → Int → Int → Bool → Option (Int × Bool)
 | 0, _, _, _, _, _ => none
 | k + 1, x0, x3, x4, x5, x46 => if x46 = true then ((oculusref01_One.f k x4).bind fun t103 => ((oculusref01_Join.f k x3 t103).bind fun t104 => (oculusref01_Parse.l0 k x0 t104 (-1) (wrap64 (x5 + 1))))) else (oculusref01_Parse.l0 k x0 x3 (-1) (wrap64 (x5 + 1)))
end
def oculusref01_Parse.f (k : Nat) (a0 : ByteArray) : Option (Int × Bool) := oculusref01_Parse.l0 k a0 0 (-1) 0
theorem oculusref01_Parse.calls (k : Nat) (a0 : ByteArray) (r1 : Int) (r2 : Bool) (w : World) (h : oculusref01_Parse.f k a0 = some (r1, r2)) :
  Calls Tryz.prog 60 #[.string a0] w fun e w' => e = .returned (.agg #[.int .u64 r1, .bool r2]) ∧ Below w.heap.size w w' := by
 have hu121 := Tryz.underlying121; have HB := A_ (Below.refl w.heap.size w)
 have H : (oculusref01_Parse.l0 k a0 0 (-1) 0) = some (r1, r2) := h
 clear h
 have H' := A_ H
 clear H
 go_enter Tryz.func60, Tryz.ntmps60
 go_wp2_with (first | ((with_reducible refine gd_ 2 ?_); refine be_ (N:=2) (cs := #[.int .u64 0, .bool false]) (t:=121) ?_; intro g1 hg w2 hbox hb; have B1 := A_ (hbox); have GW101 := hs_ HB hg; have GE101 := hs_ HB hg; replace HB := bs_ HB hb; clear hb hbox hg))
 go_loopg [3, 4, 5] k (fun kq v3 v4 v5 w' => ∃ (x3_1 : Int) (x4_1 : Int) (x5_1 : Int), v3 = .int .u64 x3_1 ∧ v4 = .int .i64 x4_1 ∧ v5 = .int .i64 x5_1 ∧ Aside0 (oculusref01_Parse.l0 kq a0 x3_1 x4_1 x5_1 = some (r1, r2)) ∧ Aside0 (kq ≤ k) ∧ Aside0 (w'.heap[g1]? = some (.cells #[.int .u64 0, .bool false] 121 (0, 0))) ∧ Aside0 (Below w.heap.size w w'))
 case atStart => exact ⟨(0), ((-1)), (0), sq_, sq_, sq_, H', ⟨Nat.le_refl _⟩, ⟨pkx B1⟩, ⟨pbx HB⟩⟩
 case round =>
  clear H'; obtain ⟨x3_1, x4_1, x5_1, rfl, rfl, rfl, HA, HK1, B1, HB⟩ := hrel
  cases gk with
  | zero => exact absurd HA.out (by simp [oculusref01_Parse.l0])
  | succ k1 =>
   have H := HA.out; clear HA
   simp only [oculusref01_Parse.l0] at H
   by_cases c3 : x5_1 ≤ (a0.size : Int)
   ·rw [if_pos c3] at H; have c3b0 := decide_eq_true c3; clear c3; have HC4 := A_ H; clear H
    go_upto_region 6 with (fail)
    go_cut [31] (fun v31 wc => ∃ (kq : Nat) (x31_3 : Bool), v31 = .bool x31_3 ∧ Aside0 (oculusref01_Parse.j1 kq a0 x3_1 x4_1 x5_1 x31_3 = some (r1, r2)) ∧ Aside0 (kq ≤ k1) ∧ Aside0 (wc.heap[g1]? = some (.cells #[.int .u64 0, .bool false] 121 (0, 0))) ∧ Aside0 (Below w.heap.size w wc))
    case first =>
     have H := HC4.out; clear HC4
     by_cases c5 : x5_1 < (a0.size : Int)
     ·rw [if_pos c5] at H; have c5b0 := decide_eq_true c5; clear c5; (first | rw [c5b0] | (simp only [i64_w, i32_w]; rw [c5b0]) | skip)
      by_cases c6 : 0 ≤ x5_1
      ·rw [if_pos c6] at H; have c6b0 := decide_eq_true c6; clear c6
       by_cases c8 : (bt a0 x5_1) ≥ 48
       ·rw [if_pos c8] at H; have c8b0 := decide_eq_true c8; clear c8
        by_cases c10 : (bt a0 x5_1) ≤ 57
        ·rw [if_pos c10] at H; have c10b0 := decide_eq_true c10; clear c10
         have H' := A_ H
         clear H
         have p7 : 0 ≤ (x5_1 : Int) := of_decide_eq_true as_
         have q7 : x5_1 < (a0.size : Int) := of_decide_eq_true as_
         have hx7 := bt_at a0 x5_1; replace p7 := eq_true p7; replace q7 := eq_true q7
         have p9 : 0 ≤ (x5_1 : Int) := of_decide_eq_true as_
         have q9 : x5_1 < (a0.size : Int) := of_decide_eq_true as_
         have hx9 := bt_at a0 x5_1; replace p9 := eq_true p9; replace q9 := eq_true q9
         go_wp2
         go_meet
         case rel => exact ⟨_, (decide (x4_1 < 100)), sq_, H', ⟨by have := HK1.out; first | omega | exact Nat.le_refl _⟩, ⟨pkx B1⟩, ⟨pbx HB⟩⟩
        ·rw [if_neg c10] at H; have c10b0 := decide_eq_false c10; clear c10
         have H' := A_ H
         clear H
         have p7 : 0 ≤ (x5_1 : Int) := of_decide_eq_true as_
         have q7 : x5_1 < (a0.size : Int) := of_decide_eq_true as_
         have hx7 := bt_at a0 x5_1; replace p7 := eq_true p7; replace q7 := eq_true q7
         have p9 : 0 ≤ (x5_1 : Int) := of_decide_eq_true as_
         have q9 : x5_1 < (a0.size : Int) := of_decide_eq_true as_
         have hx9 := bt_at a0 x5_1; replace p9 := eq_true p9; replace q9 := eq_true q9
         go_wp2
         go_meet
         case rel => exact ⟨_, (false), sq_, H', ⟨by have := HK1.out; first | omega | exact Nat.le_refl _⟩, ⟨pkx B1⟩, ⟨pbx HB⟩⟩
       ·rw [if_neg c8] at H; have c8b0 := decide_eq_false c8; clear c8
        have H' := A_ H
        clear H
        have p7 : 0 ≤ (x5_1 : Int) := of_decide_eq_true as_
        have q7 : x5_1 < (a0.size : Int) := of_decide_eq_true as_
        have hx7 := bt_at a0 x5_1; replace p7 := eq_true p7; replace q7 := eq_true q7
        go_wp2
        go_meet
        case rel => exact ⟨_, (false), sq_, H', ⟨by have := HK1.out; first | omega | exact Nat.le_refl _⟩, ⟨pkx B1⟩, ⟨pbx HB⟩⟩
      ·rw [if_neg c6] at H
       exact absurd H (by simp)
     ·rw [if_neg c5] at H; have c5b0 := decide_eq_false c5; clear c5; (first | rw [c5b0] | (simp only [i64_w, i32_w]; rw [c5b0]) | skip)
      have H' := A_ H
      clear H
      go_wp2
      go_meet
      case rel => exact ⟨_, (false), sq_, H', ⟨by have := HK1.out; first | omega | exact Nat.le_refl _⟩, ⟨pkx B1⟩, ⟨pbx HB⟩⟩
    case rest =>
     clear HC4; (try clear c3); (try clear c3b0); obtain ⟨kq, x31_3, rfl, HA, HJ3, B1, HB⟩ := hcut
     cases kq with
     | zero => exact absurd HA.out (by simp [oculusref01_Parse.j1])
     | succ kj3 =>
      have H := HA.out; clear HA
      simp only [oculusref01_Parse.j1] at H
      by_cases c11 : x31_3 = true
      ·subst c11
       replace H := it_ H; obtain ⟨ji12, hji12⟩ : ∃ j_ : Int, (mx x4_1 0) = j_ := ⟨_, rfl⟩
       replace H : (if 0 ≤ x5_1 then (if x5_1 < (a0.size : Int) then (oculusref01_Parse.l0 kj3 a0 x3_1 (wrap64 ((wrap64 ((wrap64 ((ji12) * 10)) + (wrap64 (bt a0 x5_1)))) - 48)) (wrap64 (x5_1 + 1))) else (none)) else (none)) = some (r1, r2) := by first | (rw [hji12] at H; exact H) | (simp only [hji12] at H ⊢; exact H)
       have hji12_ : (if x4_1 < 0 then 0 else x4_1) = ji12 := hji12
       by_cases c13 : 0 ≤ x5_1
       ·rw [if_pos c13] at H; have c13b0 := decide_eq_true c13; clear c13
        by_cases c14 : x5_1 < (a0.size : Int)
        ·rw [if_pos c14] at H; have c14b0 := decide_eq_true c14; clear c14
         have H' := A_ H
         clear H
         have p15 : 0 ≤ (x5_1 : Int) := of_decide_eq_true as_
         have q15 : x5_1 < (a0.size : Int) := of_decide_eq_true as_
         have hx15 := bt_at a0 x5_1; replace p15 := eq_true p15; replace q15 := eq_true q15
         go_wp2
         go_roundg kj3
         case measure => have := HK1.out; have := HJ3.out; omega
         case rel => exact ⟨(x3_1), (wrap64 ((wrap64 ((wrap64 ((ji12) * 10)) + (wrap64 (bt a0 x5_1)))) - 48)), (wrap64 (x5_1 + 1)), sq_, (by first | rfl | (simp; done) | (simp only [← hji12] <;> (first | rfl | simp)) | (simp [*]; done)), sq_, H', ⟨by have := HK1.out; have := HJ3.out; omega⟩, ⟨pkx B1⟩, ⟨pbx HB⟩⟩
        ·rw [if_neg c14] at H
         exact absurd H (by simp)
       ·rw [if_neg c13] at H
        exact absurd H (by simp)
      ·replace c11 := Bool.eq_false_iff.mpr c11; subst c11
       replace H := ie_ H; have HC16 := A_ H; clear H
       go_upto_region 8 with (fail)
       go_cut [46] (fun v46 wc => ∃ (kq : Nat) (x46_15 : Bool), v46 = .bool x46_15 ∧ Aside0 (oculusref01_Parse.j2 kq a0 x3_1 x4_1 x5_1 x46_15 = some (r1, r2)) ∧ Aside0 (kq ≤ kj3) ∧ Aside0 (wc.heap[g1]? = some (.cells #[.int .u64 0, .bool false] 121 (0, 0))) ∧ Aside0 (Below w.heap.size w wc))
       case first =>
        have H := HC16.out; clear HC16
        by_cases c17 : x4_1 ≥ 0
        ·rw [if_pos c17] at H; have c17b0 := decide_eq_true c17; clear c17; (first | rw [c17b0] | (simp only [i64_w, i32_w]; rw [c17b0]) | skip)
         have H' := A_ H
         clear H
         go_wp2
         go_meet
         case rel => exact ⟨_, (decide (x4_1 < 64)), sq_, H', ⟨by have := HK1.out; have := HJ3.out; first | omega | exact Nat.le_refl _⟩, ⟨pkx B1⟩, ⟨pbx HB⟩⟩
        ·rw [if_neg c17] at H; have c17b0 := decide_eq_false c17; clear c17; (first | rw [c17b0] | (simp only [i64_w, i32_w]; rw [c17b0]) | skip)
         have H' := A_ H
         clear H
         go_wp2
         go_meet
         case rel => exact ⟨_, (false), sq_, H', ⟨by have := HK1.out; have := HJ3.out; first | omega | exact Nat.le_refl _⟩, ⟨pkx B1⟩, ⟨pbx HB⟩⟩
       case rest =>
        clear HC16; (try clear c3); (try clear c3b0); (try clear c11); obtain ⟨kq, x46_15, rfl, HA, HJ15, B1, HB⟩ := hcut
        cases kq with
        | zero => exact absurd HA.out (by simp [oculusref01_Parse.j2])
        | succ kj15 =>
         have H := HA.out; clear HA
         simp only [oculusref01_Parse.j2] at H
         by_cases c18 : x46_15 = true
         ·subst c18
          obtain ⟨t103, A19, H⟩ := bo_ (it_ H); obtain ⟨t104, A20, H⟩ := bo_ H
          have H' := A_ H
          clear H
          go_wp2_with (first | ((with_reducible refine gate_callee (f:=84) rfl ?_); refine gL_ (some 49) rfl rfl Tryz.func84 rfl #[.int .i64 x4_1] rfl ?_; (with_reducible refine (oculusref01_One.calls kj15 x4_1 t103 _ A19.out).mono ?_); rintro e w' ⟨rfl, ⟨nd, rfl⟩⟩; refine ⟨_, rfl, ?_⟩) | ((with_reducible refine gate_callee (f:=83) rfl ?_); refine gL_ (some 50) rfl rfl Tryz.func83 rfl #[.int .u64 x3_1, .int .u64 t103] rfl ?_; (with_reducible refine (oculusref01_Join.calls kj15 x3_1 t103 t104 _ A20.out).mono ?_); rintro e w' ⟨rfl, ⟨nd, rfl⟩⟩; refine ⟨_, rfl, ?_⟩))
          go_roundg kj15
          case measure => have := HK1.out; have := HJ3.out; have := HJ15.out; omega
          case rel => exact ⟨(t104), ((-1)), (wrap64 (x5_1 + 1)), (by first | rfl | (simp; done) | (simp [*]; done) | (cases t104 <;> simp; done)), sq_, sq_, H', ⟨by have := HK1.out; have := HJ3.out; have := HJ15.out; omega⟩, ⟨pkx B1⟩, ⟨pbx HB⟩⟩
         ·replace c18 := Bool.eq_false_iff.mpr c18; subst c18
          replace H := ie_ H
          have H' := A_ H
          clear H
          go_wp2
          go_roundg kj15
          case measure => have := HK1.out; have := HJ3.out; have := HJ15.out; omega
          case rel => exact ⟨(x3_1), ((-1)), (wrap64 (x5_1 + 1)), sq_, sq_, sq_, H', ⟨by have := HK1.out; have := HJ3.out; have := HJ15.out; omega⟩, ⟨pkx B1⟩, ⟨pbx HB⟩⟩
   ·rw [if_neg c3] at H; have c3b0 := decide_eq_false c3; clear c3; obtain ⟨t102, A21, H⟩ := bo_ H
    by_cases c22 : t102.toList = a0.toList
    ·rw [if_pos c22] at H; have ⟨c22b0,c22b1⟩ := e1_ c22; clear c22
     simp only [Option.some.injEq, Prod.mk.injEq] at H
     obtain ⟨rfl, rfl⟩ := H
     go_wp2_with (first | ((with_reducible refine gate_callee (f:=85) rfl ?_); refine gL_ (some 52) rfl rfl Tryz.func85 rfl #[.int .u64 x3_1] rfl ?_; (with_reducible refine (oculusref01_Text.calls k1 x3_1 t102 _ A21.out).mono ?_); rintro e w23 ⟨rfl, hb⟩; refine ⟨_, rfl, ?_⟩; replace B1 := bb_ B1 hb; replace HB := bs_ HB hb; (try clear hb); have ⟨hcz24_0,hcz24_1,hfz24_0,hfz24_1⟩ := z2_ B1))
     refine bodyPost_ret (results_cell_row rfl _ _ g1 121 #[.int .u64 x3_1, .bool true] (0, 0) _ rfl (by refine pp_ (cs := #[.int .u64 x3_1, .bool false]) 1 ?_ rfl; refine blk_put (cs := #[.int .u64 0, .bool false]) ?_ 0 _ rfl; exact pkx B1) Tryz.underlying121 rfl (by kernel_rfl)) rfl ?_
     exact fi_ bl_
    ·rw [if_neg c22] at H; have ⟨c22b0,c22b1⟩ := e0_ c22
     simp only [Option.some.injEq, Prod.mk.injEq] at H
     obtain ⟨rfl, rfl⟩ := H
     go_wp2_with (first | ((with_reducible refine gate_callee (f:=85) rfl ?_); refine gL_ (some 52) rfl rfl Tryz.func85 rfl #[.int .u64 x3_1] rfl ?_; (with_reducible refine (oculusref01_Text.calls k1 x3_1 t102 _ A21.out).mono ?_); rintro e w25 ⟨rfl, hb⟩; refine ⟨_, rfl, ?_⟩; replace B1 := bb_ B1 hb; replace HB := bs_ HB hb; (try clear hb); have ⟨hcz26_0,hcz26_1,hfz26_0,hfz26_1⟩ := z2_ B1))
     refine bodyPost_ret (results_cell_row rfl _ _ g1 121 #[.int .u64 0, .bool false] (0, 0) _ rfl (by refine pp_ (cs := #[.int .u64 0, .bool false]) 1 ?_ rfl; refine blk_put (cs := #[.int .u64 0, .bool false]) ?_ 0 _ rfl; exact pkx B1) Tryz.underlying121 rfl (by kernel_rfl)) rfl ?_
     exact fi_ bl_

end Go.Proofs.YtbboanfggaknjaaGreatDoor.X
namespace Go.Proofs.YtbboanfggaknjaaGreatDoor.X
open Go.RowKit Go.Proofs.YtbboanfggaknjaaGreatDoorW.PrintWords Go.Proofs.YtbboanfggaknjaaGreatDoorW.PrintLast Go.Proofs.YtbboanfggaknjaaGreatDoorW.PrintMore
attribute [local go_sem] max2_int min2_int max_two min_two max_three min_three max_four min_four
set_option linter.unusedVariables false
set_option linter.unusedSimpArgs false
attribute [local go_sem high] eqA58
mutual
def oculusref02_Text.j0 : Nat → Bool → Int → Int → Option (ByteArray)
 | 0, _, _, _ => none
 | k + 1, x11, x102000, x102001 => if x11 = true then (some (⟨#[]⟩ : ByteArray)) else ((oculusref02_Top.f k).bind fun bt102 => (oculusref02_Text.j1 k (x102000 == bt102.1 && (x102001 == bt102.2)) x102000 x102001))
def oculusref02_Text.j1 : Nat → Bool → Int → Int → Option (ByteArray)
 | 0, _, _, _ => none
 | k + 1, x14, x102000, x102001 => if x14 = true then (some (⟨#[116, 111, 112]⟩ : ByteArray)) else ((oculusref01_Digits.f k x102000).bind fun t104 => (if x102001 = 0 then (some t104) else (if t104.size + 1 ≤ 9223372036854775807 then ((oculusref01_Text.f k x102001).bind fun t105 => (if (t104 ++ (⟨#[58]⟩ : ByteArray)).size + t105.size ≤ 9223372036854775807 then (some ((t104 ++ (⟨#[58]⟩ : ByteArray)) ++ t105)) else (none))) else (none))))
end
def oculusref02_Text.f (k : Nat) (a0_0 : Int) (a0_1 : Int) : Option (ByteArray) := if a0_0 < 0 then (oculusref02_Text.j0 k true a0_0 a0_1) else (oculusref02_Text.j0 k (decide (a0_0 > 15)) a0_0 a0_1)
theorem oculusref02_Text.calls (k : Nat) (a0_0 : Int) (a0_1 : Int) (r : ByteArray) (w : World) (h : oculusref02_Text.f k a0_0 a0_1 = some r) :
  Calls Tryz.prog 61 #[.agg #[.int .i64 a0_0, .int .u64 a0_1]] w fun e w' => e = .returned (.string r) ∧ Below w.heap.size w w' := by
 have hu58 := Tryz.underlying58; have HB := A_ (Below.refl w.heap.size w)
 have H : (if a0_0 < 0 then (oculusref02_Text.j0 k true a0_0 a0_1) else (oculusref02_Text.j0 k (decide (a0_0 > 15)) a0_0 a0_1)) = some r := h
 clear h; have HC2 := A_ H; clear H
 go_enter Tryz.func61, Tryz.ntmps61
 go_upto_region 1 with (first | ((with_reducible refine gd_ 1 ?_); refine be_ (N:=1) (cs := #[.int .i64 a0_0, .int .u64 a0_1]) (t:=58) ?_; intro g1 hg w3 hbox hb; have B1 := A_ (hbox); have GW101 := hs_ HB hg; have GE101 := hs_ HB hg; replace HB := bs_ HB hb; clear hb hbox hg))
 (try simp only [q_])
 go_cut [11] (fun v11 wc => ∃ (kq : Nat) (x11_1 : Bool), v11 = .bool x11_1 ∧ Aside0 (oculusref02_Text.j0 kq x11_1 a0_0 a0_1 = some r) ∧ Aside0 (kq ≤ k) ∧ Aside0 (wc.heap[g1]? = some (.cells #[.int .i64 a0_0, .int .u64 a0_1] 58 (0, 0))) ∧ Aside0 (Below w.heap.size w wc))
 case first =>
  have H := HC2.out; clear HC2
  by_cases c4 : a0_0 < 0
  ·rw [if_pos c4] at H; have c4b0 := decide_eq_true c4; clear c4; (first | rw [c4b0] | (simp only [i64_w, i32_w]; rw [c4b0]) | skip)
   have H' := A_ H
   clear H
   have ⟨hcz5_0,hcz5_1,hfz5_0,hfz5_1⟩ := z2_ B1
   go_wp2
   go_meet
   case rel => exact ⟨_, (true), sq_, H', le_, ⟨pkx B1⟩, ⟨pbx HB⟩⟩
  ·rw [if_neg c4] at H; have c4b0 := decide_eq_false c4; clear c4; (first | rw [c4b0] | (simp only [i64_w, i32_w]; rw [c4b0]) | skip)
   have H' := A_ H
   clear H
   have ⟨hcz6_0,hcz6_1,hfz6_0,hfz6_1⟩ := z2_ B1
   go_wp2
   go_meet
   case rel => exact ⟨_, (decide (a0_0 > 15)), sq_, H', le_, ⟨pkx B1⟩, ⟨pbx HB⟩⟩
 case rest =>
  clear HC2; obtain ⟨kq, x11_1, rfl, HA, HJ1, B1, HB⟩ := hcut
  cases kq with
  | zero => exact absurd HA.out (by simp [oculusref02_Text.j0])
  | succ kj1 =>
   have H := HA.out; clear HA
   simp only [oculusref02_Text.j0] at H
   by_cases c7 : x11_1 = true
   ·subst c7
    replace H := it_ H; obtain rfl := Option.some.inj H
    go_wp2
    go_ret
    exact fi_ (pbx HB)
   ·replace c7 := Bool.eq_false_iff.mpr c7; subst c7
    replace H := ie_ H; have HC8 := A_ H; clear H
    go_upto_region 3 with (fail)
    go_cut [14] (fun v14 wc => ∃ (kq : Nat) (x14_7 : Bool), v14 = .bool x14_7 ∧ Aside0 (oculusref02_Text.j1 kq x14_7 a0_0 a0_1 = some r) ∧ Aside0 (kq ≤ kj1) ∧ Aside0 (wc.heap[g1]? = some (.cells #[.int .i64 a0_0, .int .u64 a0_1] 58 (0, 0))) ∧ Aside0 (Below w.heap.size w wc))
    case first =>
     have H := HC8.out; clear HC8; obtain ⟨⟨t102, t103⟩, A9, H⟩ := bo_ H; dsimp only at H
     have H' := A_ H
     clear H
     try go_wp2
     (try (rw [drewN_self wc]; generalize hq_ : World.drewN wc _ = wc; have n0_ : Aside0 (wc.heap[g1]? = some (.cells #[.int .i64 a0_0, .int .u64 a0_1] 58 (0, 0))) := ⟨by rw [← hq_]; exact (pkx B1)⟩; have n1_ : Aside0 (Below w.heap.size w wc) := ⟨by rw [← hq_]; exact (pbx HB)⟩; clear B1 HB hq_; have B1 := n0_; have HB := n1_; clear n0_ n1_))
     replace B1 := A_ (blk_drew B1.out); replace HB := A_ (below_drew1 HB.out)
     refine start_ (n:=3) (S := fun w' => w'.cell? ⟨g1, 0, none⟩ = some (.int .i64 a0_0) ∧ w'.cell? ⟨g1, 1, none⟩ = some (.int .u64 a0_1)) (ds := []) #[F,F,F] (by kernel_rfl) rfl rfl ⟨bc_ B1 0 rfl, bc_ B1 1 rfl⟩ (fun hHeld => ?_)
     generalize wc.drew = w10 at B1 HB hHeld ⊢; refine take_ (i:=0) (N:=some 12) (v:=?_) (a':=?_) #[T,F,F] rfl rfl (by kernel_rfl) (fun _ _ _ h=>h) (Or.inl ⟨rfl, ?_⟩) hHeld ?_ ?_; rotate_left
     ·rintro w' ⟨s0, s1⟩; go_simp; with_reducible rfl
     rotate_left
     ·simp only [q_, i64_w, i32_w]; rfl
     refine one_ (i:=1) (N:=some 13) #[T,T,F] rfl rfl (by kernel_rfl) (by decide) (fun K hK => ?_); refine goes_ Tryz.func59 (by kernel_rfl) rfl #[] (by rfl) rfl rfl ha_ ?_; with_reducible refine (oculusref02_Top.calls kj1  t102 t103 _ A9.out).mono ?_; rintro e w11 ⟨rfl, hb⟩; refine ⟨_, rfl, ?_⟩
     replace B1 := bb_ B1 hb; replace HB := bs_ HB hb; (try clear hb); refine hK.out _ _ ⟨bc_ B1 0 rfl, bc_ B1 1 rfl⟩ (fun hHeld => ?_); clear hK K; refine norm_ (a':=?_) ?_ ?_; rotate_left
     ·show Act.put _ (some 13) _ = _; simp only [q_, i64_w, i32_w]; rfl
     refine pure_ (i:=2) (N:=some 14) (v:=?_) (a':=?_) #[T,T,T] rfl rfl (by kernel_rfl) (fun _ _ _ h=>h) (Or.inl ⟨rfl, ?_⟩) ?_ ?_; rotate_left
     ·intro w'; go_simp; with_reducible rfl
     rotate_left
     ·simp only [q_, i64_w, i32_w]; rfl
     refine done_ (by kernel_rfl) ?_
     try go_wp2
     go_meet
     case rel => exact ⟨_, ((a0_0 == t102 && (a0_1 == t103))), (by first | rfl | (simp; done) | (simp [*]; done) | (cases t102 <;> simp; done) | (cases t103 <;> simp; done)), H', ⟨by have := HJ1.out; first | omega | exact Nat.le_refl _⟩, ⟨pkx B1⟩, ⟨pbx HB⟩⟩
    case rest =>
     clear HC8; (try clear c7); obtain ⟨kq, x14_7, rfl, HA, HJ7, B1, HB⟩ := hcut
     cases kq with
     | zero => exact absurd HA.out (by simp [oculusref02_Text.j1])
     | succ kj7 =>
      have H := HA.out; clear HA
      simp only [oculusref02_Text.j1] at H
      by_cases c12 : x14_7 = true
      ·subst c12
       replace H := it_ H; obtain rfl := Option.some.inj H
       go_wp2
       go_ret
       exact fi_ (pbx HB)
      ·replace c12 := Bool.eq_false_iff.mpr c12; subst c12
       obtain ⟨t104, A13, H⟩ := bo_ (ie_ H)
       by_cases c14 : a0_1 = 0
       ·rw [if_pos c14] at H; have ⟨c14b0,c14b1⟩ := e1_ c14; clear c14; obtain rfl := Option.some.inj H
        have ⟨hcz15_0,hcz15_1,hfz15_0,hfz15_1⟩ := z2_ B1
        go_wp2_with (first | ((with_reducible refine gate_callee (f:=57) rfl ?_); refine gL_ (some 17) rfl rfl Tryz.func57 rfl #[.int .i64 a0_0] rfl ?_; (with_reducible refine (oculusref01_Digits.calls kj7 a0_0 t104 _ A13.out).mono ?_); rintro e w16 ⟨rfl, hb⟩; refine ⟨_, rfl, ?_⟩; replace B1 := bb_ B1 hb; replace HB := bs_ HB hb; (try clear hb); have ⟨hcz17_0,hcz17_1,hfz17_0,hfz17_1⟩ := z2_ B1))
        go_ret
        exact fi_ (pbx HB)
       ·rw [if_neg c14] at H; have ⟨c14b0,c14b1⟩ := e0_ c14
        by_cases c18 : t104.size + 1 ≤ 9223372036854775807
        ·rw [if_pos c18] at H; have c18b0 := eq_true c18; have c18b1 := decide_eq_true c18
         try have c18b2 : (9223372036854775807 < t104.size + 1) = False := eq_false (Nat.not_lt.2 c18)
         obtain ⟨t105, A19, H⟩ := bo_ H
         by_cases c20 : (t104 ++ (⟨#[58]⟩ : ByteArray)).size + t105.size ≤ 9223372036854775807
         ·rw [if_pos c20] at H; have c20b0 := eq_true c20; have c20b1 := decide_eq_true c20
          try have c20b2 : (9223372036854775807 < (t104 ++ (⟨#[58]⟩ : ByteArray)).size + t105.size) = False := eq_false (Nat.not_lt.2 c20)
          try have c20b2z : (9223372036854775807 < t104.size + 1 + t105.size) = False := by have h9_ := c20b2; rw [ByteArray.size_append] at h9_; exact h9_
          obtain rfl := Option.some.inj H
          have ⟨hcz21_0,hcz21_1,hfz21_0,hfz21_1⟩ := z2_ B1
          go_wp2_with (first | ((with_reducible refine gate_callee (f:=57) rfl ?_); refine gL_ (some 17) rfl rfl Tryz.func57 rfl #[.int .i64 a0_0] rfl ?_; (with_reducible refine (oculusref01_Digits.calls kj7 a0_0 t104 _ A13.out).mono ?_); rintro e w22 ⟨rfl, hb⟩; refine ⟨_, rfl, ?_⟩; replace B1 := bb_ B1 hb; replace HB := bs_ HB hb; (try clear hb); have ⟨hcz23_0,hcz23_1,hfz23_0,hfz23_1⟩ := z2_ B1) | ((with_reducible refine gate_callee (f:=85) rfl ?_); refine gL_ (some 25) rfl rfl Tryz.func85 rfl #[.int .u64 a0_1] rfl ?_; (with_reducible refine (oculusref01_Text.calls kj7 a0_1 t105 _ A19.out).mono ?_); rintro e w24 ⟨rfl, hb⟩; refine ⟨_, rfl, ?_⟩; replace B1 := bb_ B1 hb; replace HB := bs_ HB hb; (try clear hb); ))
          go_ret
          exact fi_ (pbx HB)
         ·rw [if_neg c20] at H
          exact absurd H (by simp)
        ·rw [if_neg c18] at H
         exact absurd H (by simp)

end Go.Proofs.YtbboanfggaknjaaGreatDoor.X
namespace Go.Proofs.YtbboanfggaknjaaGreatDoor.X
open Go.RowKit Go.Proofs.YtbboanfggaknjaaGreatDoorW.PrintWords Go.Proofs.YtbboanfggaknjaaGreatDoorW.PrintLast Go.Proofs.YtbboanfggaknjaaGreatDoorW.PrintMore
attribute [local go_sem] max2_int min2_int max_two min_two max_three min_three max_four min_four
set_option linter.unusedVariables false
set_option linter.unusedSimpArgs false
mutual
def oculusref02_Parse.l0 : Nat → ByteArray → Int → Option (Int × Int × Bool)
 | 0, _, _ => none
 | k + 1, x0, x3 => if x3 ≤ 15 then ((oculusref01_Digits.f k x3).bind fun t104 => (if x0.toList = t104.toList then (some (x3, 0, true)) else (if (x0.size : Int) ≤ (t104.size : Int) then (oculusref02_Parse.j1 k x0 x3 t104 true) else (if 0 ≤ (wrap64 ((t104.size : Int) + 1)) then (if (wrap64 ((t104.size : Int) + 1)) ≤ (x0.size : Int) then (if t104.size + 1 ≤ 9223372036854775807 then (oculusref02_Parse.j1 k x0 x3 t104 ((x0.extract 0 ((wrap64 ((t104.size : Int) + 1)) : Int).toNat).toList != (t104 ++ (⟨#[58]⟩ : ByteArray)).toList)) else (none)) else (none)) else (none))))) else (some (0, 0, false))
def oculusref02_Parse.j1 : Nat → ByteArray → Int → ByteArray → Bool → Option (Int × Int × Bool)
 | 0, _, _, _, _ => none
 | k + 1, x0, x3, x4, x37 => if x37 = true then (oculusref02_Parse.l0 k x0 (wrap64 (x3 + 1))) else (if 0 ≤ (wrap64 ((x4.size : Int) + 1)) then (if (wrap64 ((x4.size : Int) + 1)) ≤ (x0.size : Int) then ((oculusref01_Parse.f k (x0.extract ((wrap64 ((x4.size : Int) + 1)) : Int).toNat x0.size)).bind fun bt105 => (if bt105.2 = true then ((oculusref02_Text.f k x3 bt105.1).bind fun t109 => (if t109.toList = x0.toList then (some (x3, bt105.1, true)) else (oculusref02_Parse.l0 k x0 (wrap64 (x3 + 1))))) else (oculusref02_Parse.l0 k x0 (wrap64 (x3 + 1))))) else (none)) else (none))
end
def oculusref02_Parse.f (k : Nat) (a0 : ByteArray) : Option (Int × Int × Bool) := if a0.toList = ([116, 111, 112] : List UInt8) then ((oculusref02_Top.f k).bind fun bt102 => (some (bt102.1, bt102.2, true))) else (oculusref02_Parse.l0 k a0 0)
theorem oculusref02_Parse.calls (k : Nat) (a0 : ByteArray) (r1 : Int) (r2 : Int) (r3 : Bool) (w : World) (h : oculusref02_Parse.f k a0 = some (r1, r2, r3)) :
  Calls Tryz.prog 36 #[.string a0] w fun e w' => e = .returned (.agg #[.int .i64 r1, .int .u64 r2, .bool r3]) ∧ Below w.heap.size w w' := by
 have hu97 := Tryz.underlying97; have hu58 := Tryz.underlying58; have hu121 := Tryz.underlying121; have HB := A_ (Below.refl w.heap.size w)
 have H : (if a0.toList = ([116, 111, 112] : List UInt8) then ((oculusref02_Top.f k).bind fun bt102 => (some (bt102.1, bt102.2, true))) else (oculusref02_Parse.l0 k a0 0)) = some (r1, r2, r3) := h
 clear h
 by_cases c2 : a0.toList = ([116, 111, 112] : List UInt8)
 ·rw [if_pos c2] at H; have ⟨c2b0,c2b1⟩ := e1_ c2; clear c2; obtain ⟨⟨t102, t103⟩, A3, H⟩ := bo_ H; dsimp only at H
  simp only [Option.some.injEq, Prod.mk.injEq] at H
  obtain ⟨rfl, rfl, rfl⟩ := H
  go_enter Tryz.func36, Tryz.ntmps36
  go_wp2_with (first | ((with_reducible refine gd_ 2 ?_); (try (refine gate_guard (by rfl) ?_; dsimp only)); refine be_ (N:=2) (cs := #[.int .i64 0, .int .u64 0, .bool false]) (t:=97) ?_; intro g1 hg w4 hbox hb; have B1 := A_ (hbox); have GW101 := hs_ HB hg; have GE101 := hs_ HB hg; replace HB := bs_ HB hb; clear hb hbox hg) | ((with_reducible refine gate_callee (f:=59) rfl ?_); refine gL_ (some 9) rfl rfl Tryz.func59 rfl #[] rfl ?_; (with_reducible refine (oculusref02_Top.calls k  t102 t103 _ A3.out).mono ?_); rintro e w5 ⟨rfl, hb⟩; refine ⟨_, rfl, ?_⟩; replace B1 := bb_ B1 hb; replace HB := bs_ HB hb; have ⟨hcz6_0,hcz6_1,hcz6_2,hfz6_0,hfz6_1,hfz6_2⟩ := z3_ B1))
  refine bodyPost_ret (results_cell_row rfl _ _ g1 97 #[.int .i64 t102, .int .u64 t103, .bool true] (0, 0) _ rfl (by refine pp_ (cs := #[.int .i64 t102, .int .u64 t103, .bool false]) 2 ?_ rfl; refine blk_put (cs := #[.int .i64 t102, .int .u64 0, .bool false]) ?_ 1 _ rfl; refine blk_put (cs := #[.int .i64 0, .int .u64 0, .bool false]) ?_ 0 _ rfl; exact pkx B1) Tryz.underlying97 rfl (by kernel_rfl)) rfl ?_
  exact fi_ bl_
 ·rw [if_neg c2] at H; have ⟨c2b0,c2b1⟩ := e0_ c2
  have H' := A_ H
  clear H
  go_enter Tryz.func36, Tryz.ntmps36
  go_wp2_with (first | ((with_reducible refine gd_ 2 ?_); (try (refine gate_guard (by rfl) ?_; dsimp only)); refine be_ (N:=2) (cs := #[.int .i64 0, .int .u64 0, .bool false]) (t:=97) ?_; intro g1 hg w7 hbox hb; have B1 := A_ (hbox); have GW101 := hs_ HB hg; have GE101 := hs_ HB hg; replace HB := bs_ HB hb; clear hb hbox hg))
  go_loopg [3] k (fun kq v3 w' => ∃ (x3_1 : Int) (x102000_1 : Int) (x102001_1 : Int) (x102002_1 : Bool), v3 = .int .i64 x3_1 ∧ Aside0 (oculusref02_Parse.l0 kq a0 x3_1 = some (r1, r2, r3)) ∧ Aside0 (kq ≤ k) ∧ Aside0 (w'.heap[g1]? = some (.cells #[.int .i64 x102000_1, .int .u64 x102001_1, .bool x102002_1] 97 (0, 0))) ∧ Aside0 (Below w.heap.size w w'))
  case atStart => exact ⟨(0), (0), (0), (false), sq_, H', ⟨Nat.le_refl _⟩, ⟨pkx B1⟩, ⟨pbx HB⟩⟩
  case round =>
   clear H'; (try clear c2); (try clear c2b0); (try clear c2b1); obtain ⟨x3_1, x102000_1, x102001_1, x102002_1, rfl, HA, HK1, B1, HB⟩ := hrel
   cases gk with
   | zero => exact absurd HA.out (by simp [oculusref02_Parse.l0])
   | succ k1 =>
    have H := HA.out; clear HA
    simp only [oculusref02_Parse.l0] at H
    by_cases c8 : x3_1 ≤ 15
    ·rw [if_pos c8] at H; have c8b0 := decide_eq_true c8; clear c8; obtain ⟨t104, A9, H⟩ := bo_ H
     by_cases c10 : a0.toList = t104.toList
     ·rw [if_pos c10] at H; have ⟨c10b0,c10b1⟩ := e1_ c10; clear c10
      simp only [Option.some.injEq, Prod.mk.injEq] at H
      obtain ⟨rfl, rfl, rfl⟩ := H
      go_wp2_with (first | ((with_reducible refine gate_callee (f:=57) rfl ?_); refine gL_ (some 16) rfl rfl Tryz.func57 rfl #[.int .i64 x3_1] rfl ?_; (with_reducible refine (oculusref01_Digits.calls k1 x3_1 t104 _ A9.out).mono ?_); rintro e w11 ⟨rfl, hb⟩; refine ⟨_, rfl, ?_⟩; replace B1 := bb_ B1 hb; replace HB := bs_ HB hb; (try clear hb); have ⟨hcz12_0,hcz12_1,hcz12_2,hfz12_0,hfz12_1,hfz12_2⟩ := z3_ B1))
      refine bodyPost_ret (results_cell_row rfl _ _ g1 97 #[.int .i64 x3_1, .int .u64 0, .bool true] (0, 0) _ rfl (by refine pp_ (cs := #[.int .i64 x3_1, .int .u64 0, .bool x102002_1]) 2 ?_ rfl; refine blk_put (cs := #[.int .i64 x3_1, .int .u64 x102001_1, .bool x102002_1]) ?_ 1 _ rfl; refine blk_put (cs := #[.int .i64 x102000_1, .int .u64 x102001_1, .bool x102002_1]) ?_ 0 _ rfl; exact pkx B1) Tryz.underlying97 rfl (by kernel_rfl)) rfl ?_
      exact fi_ bl_
     ·rw [if_neg c10] at H; have ⟨c10b0,c10b1⟩ := e0_ c10; have HC13 := A_ H; clear H
      go_upto_region 9 with (first | ((with_reducible refine gate_callee (f:=57) rfl ?_); refine gL_ (some 16) rfl rfl Tryz.func57 rfl #[.int .i64 x3_1] rfl ?_; (with_reducible refine (oculusref01_Digits.calls k1 x3_1 t104 _ A9.out).mono ?_); rintro e w14 ⟨rfl, hb⟩; refine ⟨_, rfl, ?_⟩; replace B1 := bb_ B1 hb; replace HB := bs_ HB hb; (try clear hb); ))
      (try simp only [q_])
      go_cut [37] (fun v37 wc => ∃ (kq : Nat) (x37_12 : Bool), v37 = .bool x37_12 ∧ Aside0 (oculusref02_Parse.j1 kq a0 x3_1 t104 x37_12 = some (r1, r2, r3)) ∧ Aside0 (kq ≤ k1) ∧ Aside0 (wc.heap[g1]? = some (.cells #[.int .i64 x102000_1, .int .u64 x102001_1, .bool x102002_1] 97 (0, 0))) ∧ Aside0 (Below w.heap.size w wc))
      case first =>
       have H := HC13.out; clear HC13
       by_cases c15 : (a0.size : Int) ≤ (t104.size : Int)
       ·rw [if_pos c15] at H; have c15b0 := decide_eq_true c15; have c15b1 : decide (a0.size ≤ t104.size) = true := decide_eq_true (Int.ofNat_le.mp c15); clear c15; (first | rw [c15b0] | (simp only [i64_w, i32_w]; rw [c15b0]) | skip)
        have H' := A_ H
        clear H
        go_wp2
        go_meet
        case rel => exact ⟨_, (true), sq_, H', ⟨by have := HK1.out; first | omega | exact Nat.le_refl _⟩, ⟨pkx B1⟩, ⟨pbx HB⟩⟩
       ·rw [if_neg c15] at H; have c15b0 := decide_eq_false c15; have c15b1 : decide (a0.size ≤ t104.size) = false := decide_eq_false (fun h => c15 (Int.ofNat_le.mpr h)); clear c15; (first | rw [c15b0] | (simp only [i64_w, i32_w]; rw [c15b0]) | skip); obtain ⟨ji16, hji16⟩ : ∃ j_ : Int, (wrap64 ((t104.size : Int) + 1)) = j_ := ⟨_, rfl⟩
        replace H : (if 0 ≤ (ji16) then (if (ji16) ≤ (a0.size : Int) then (if t104.size + 1 ≤ 9223372036854775807 then (oculusref02_Parse.j1 k1 a0 x3_1 t104 ((a0.extract 0 ((ji16) : Int).toNat).toList != (t104 ++ (⟨#[58]⟩ : ByteArray)).toList)) else (none)) else (none)) else (none)) = some (r1, r2, r3) := by first | (rw [hji16] at H; exact H) | (simp only [hji16] at H ⊢; exact H)
        have hji16w : (IntKind.i64.wrap ((t104.size : Int) + 1)) = ji16 := (i64_w _).trans hji16
        by_cases c17 : 0 ≤ (ji16)
        ·rw [if_pos c17] at H; have c17b0 := eq_true c17; have c17b1 := decide_eq_true c17; clear c17
         by_cases c18 : (ji16) ≤ (a0.size : Int)
         ·rw [if_pos c18] at H; have c18b0 := eq_true c18; have c18b1 := decide_eq_true c18; clear c18
          by_cases c19 : t104.size + 1 ≤ 9223372036854775807
          ·rw [if_pos c19] at H; have c19b0 := eq_true c19; have c19b1 := decide_eq_true c19
           try have c19b2 : (9223372036854775807 < t104.size + 1) = False := eq_false (Nat.not_lt.2 c19)
           have H' := A_ H
           clear H
           go_wp2
           go_meet
           case rel => exact ⟨_, (((a0.extract 0 ((ji16) : Int).toNat).toList != (t104 ++ (⟨#[58]⟩ : ByteArray)).toList)), (by first | rfl | (simp; done) | (simp only [← hji16] <;> (first | rfl | simp)) | (simp [*]; done)), H', ⟨by have := HK1.out; first | omega | exact Nat.le_refl _⟩, ⟨pkx B1⟩, ⟨pbx HB⟩⟩
          ·rw [if_neg c19] at H
           exact absurd H (by simp)
         ·rw [if_neg c18] at H
          exact absurd H (by simp)
        ·rw [if_neg c17] at H
         exact absurd H (by simp)
      case rest =>
       clear HC13; (try clear c2); (try clear c2b0); (try clear c2b1); (try clear c8); (try clear c8b0); (try clear c10); (try clear c10b0); (try clear c10b1); obtain ⟨kq, x37_12, rfl, HA, HJ12, B1, HB⟩ := hcut
       cases kq with
       | zero => exact absurd HA.out (by simp [oculusref02_Parse.j1])
       | succ kj12 =>
        have H := HA.out; clear HA
        simp only [oculusref02_Parse.j1] at H
        by_cases c20 : x37_12 = true
        ·subst c20
         replace H := it_ H
         have H' := A_ H
         clear H
         go_wp2
         go_roundg kj12
         case measure => have := HK1.out; have := HJ12.out; omega
         case rel => exact ⟨(wrap64 (x3_1 + 1)), (x102000_1), (x102001_1), (x102002_1), sq_, H', ⟨by have := HK1.out; have := HJ12.out; omega⟩, ⟨pkx B1⟩, ⟨pbx HB⟩⟩
        ·replace c20 := Bool.eq_false_iff.mpr c20; subst c20
         replace H := ie_ H; obtain ⟨ji21, hji21⟩ : ∃ j_ : Int, (wrap64 ((t104.size : Int) + 1)) = j_ := ⟨_, rfl⟩
         replace H : (if 0 ≤ (ji21) then (if (ji21) ≤ (a0.size : Int) then ((oculusref01_Parse.f kj12 (a0.extract ((ji21) : Int).toNat a0.size)).bind fun bt105 => (if bt105.2 = true then ((oculusref02_Text.f kj12 x3_1 bt105.1).bind fun t109 => (if t109.toList = a0.toList then (some (x3_1, bt105.1, true)) else (oculusref02_Parse.l0 kj12 a0 (wrap64 (x3_1 + 1))))) else (oculusref02_Parse.l0 kj12 a0 (wrap64 (x3_1 + 1))))) else (none)) else (none)) = some (r1, r2, r3) := by first | (rw [hji21] at H; exact H) | (simp only [hji21] at H ⊢; exact H)
         have hji21w : (IntKind.i64.wrap ((t104.size : Int) + 1)) = ji21 := (i64_w _).trans hji21
         by_cases c22 : 0 ≤ (ji21)
         ·rw [if_pos c22] at H; have c22b0 := eq_true c22; have c22b1 := decide_eq_true c22; clear c22
          by_cases c23 : (ji21) ≤ (a0.size : Int)
          ·rw [if_pos c23] at H; have c23b0 := eq_true c23; have c23b1 := decide_eq_true c23; clear c23; obtain ⟨⟨t105, t106⟩, A24, H⟩ := bo_ H; dsimp only at H
           by_cases c25 : t106 = true
           ·subst c25
            obtain ⟨t109, A26, H⟩ := bo_ (it_ H)
            by_cases c27 : t109.toList = a0.toList
            ·rw [if_pos c27] at H; have ⟨c27b0,c27b1⟩ := e1_ c27; clear c27
             simp only [Option.some.injEq, Prod.mk.injEq] at H
             obtain ⟨rfl, rfl, rfl⟩ := H
             go_wp2_with (first | ((with_reducible refine gate_callee (f:=60) rfl ?_); refine goesL_ (some 43) rfl rfl Tryz.func60 (by kernel_rfl) rfl #[.string (a0.extract ((ji21) : Int).toNat a0.size)] rfl (by (try simp only [List.map_toArray, List.map_cons, List.map_nil]); first | done | (simp only [hji21]; rfl) | rfl | (simp only [List.length_drop, List.length_take]; rfl)) ?_; (with_reducible refine (oculusref01_Parse.calls kj12 (a0.extract ((ji21) : Int).toNat a0.size) t105 true _ A24.out).mono ?_); rintro e w28 ⟨rfl, hb⟩; refine ⟨_, rfl, ?_⟩; replace B1 := bb_ B1 hb; replace HB := bs_ HB hb; (try clear hb); ) | ((with_reducible refine gd_ 5 ?_); (try (refine gate_guard (by rfl) ?_; dsimp only)); refine be_ (N:=5) (cs := #[.int .u64 0, .bool false]) (t:=121) ?_; intro g7 hg w29 hbox hb; have B7 := A_ (hbox); have GW107 := hs_ HB hg; have GE107 := hs_ HB hg; have N17 := hl_ B1 hg; have N71 := hr_ B1 hg; replace B1 := bb_ B1 hb; replace HB := bs_ HB hb; clear hb hbox hg; have hnb30 := N71.out; have hnc30 := N17.out; have ⟨hcz31_0,hcz31_1,hfz31_0,hfz31_1⟩ := z2_ B7) | ((with_reducible refine gd_ 6 ?_); (try (refine gate_guard (by rfl) ?_; dsimp only)); refine be_ (N:=6) (cs := #[.int .i64 0, .int .u64 0]) (t:=58) ?_; intro g8 hg w32 hbox hb; have B8 := A_ (hbox); have GW108 := A_ ((by rw [hg]; exact (below_size bl_) : w.heap.size ≤ g8)); have GE108 := A_ ((by rw [hg]; exact (below_size bl_) : w.heap.size ≤ g8)); have N18 := A_ ((by rw [hg]; exact Nat.ne_of_lt (blk_lt (g:=g1) (o := .cells #[.int .i64 x102000_1, .int .u64 x102001_1, .bool x102002_1] 97 (0, 0)) (by (iterate 2 refine pf_ ?_ N17.out); exact pkx B1)) : g1 ≠ g8)); have N81 := A_ ((by rw [hg]; exact Nat.ne_of_gt (blk_lt (g:=g1) (o := .cells #[.int .i64 x102000_1, .int .u64 x102001_1, .bool x102002_1] 97 (0, 0)) (by (iterate 2 refine pf_ ?_ N17.out); exact pkx B1)) : g8 ≠ g1)); have N78 := A_ ((by rw [hg]; exact Nat.ne_of_lt (blk_lt (g:=g7) (o := .cells #[.int .u64 t105, .bool true] 121 (0, 0)) (by refine pp_ (cs := #[.int .u64 t105, .bool false]) 1 ?_ rfl; refine blk_put (cs := #[.int .u64 0, .bool false]) ?_ 0 _ rfl; exact pkx B7)) : g7 ≠ g8)); have N87 := A_ ((by rw [hg]; exact Nat.ne_of_gt (blk_lt (g:=g7) (o := .cells #[.int .u64 t105, .bool true] 121 (0, 0)) (by refine pp_ (cs := #[.int .u64 t105, .bool false]) 1 ?_ rfl; refine blk_put (cs := #[.int .u64 0, .bool false]) ?_ 0 _ rfl; exact pkx B7)) : g8 ≠ g7)); replace B1 := A_ (blk_below (g:=g1) (o := .cells #[.int .i64 x102000_1, .int .u64 x102001_1, .bool x102002_1] 97 (0, 0)) (by (iterate 2 refine pf_ ?_ N17.out); exact pkx B1) hb); replace B7 := A_ (blk_below (g:=g7) (o := .cells #[.int .u64 t105, .bool true] 121 (0, 0)) (by refine pp_ (cs := #[.int .u64 t105, .bool false]) 1 ?_ rfl; refine blk_put (cs := #[.int .u64 0, .bool false]) ?_ 0 _ rfl; exact pkx B7) hb); replace HB := A_ (below_step (by repeat (first | (with_reducible first | exact HB.out | apply below_alloc | apply pw_below_drewN | apply below_drew1 | refine below_set ?_ GE101.out | refine below_set ?_ GE107.out) | exact HB.out)) hb); clear hb hbox hg; have hnb33 := N81.out; have hnc33 := N18.out; have hnb34 := N87.out; have hnc34 := N78.out; have ⟨hcz35_0,hcz35_1,hfz35_0,hfz35_1⟩ := z2_ B8; have ⟨hcz36_0,hcz36_1,hfz36_0,hfz36_1⟩ := z2_ B7) | (go_at_call 61; (with_reducible refine (oculusref02_Text.calls kj12 x3_1 t105 t109 _ A26.out).mono ?_); rintro e w37 ⟨rfl, hb⟩; replace B1 := A_ (blk_below (g:=g1) (o := .cells #[.int .i64 x102000_1, .int .u64 x102001_1, .bool x102002_1] 97 (0, 0)) (by (iterate 2 refine pf_ ?_ N18.out); exact pkx B1) hb); replace B7 := A_ (blk_below (g:=g7) (o := .cells #[.int .u64 t105, .bool true] 121 (0, 0)) (by (iterate 2 refine pf_ ?_ N78.out); exact pkx B7) hb); replace B8 := A_ (blk_below (g:=g8) (o := .cells #[.int .i64 x3_1, .int .u64 t105] 58 (0, 0)) (by refine pp_ (cs := #[.int .i64 x3_1, .int .u64 0]) 1 ?_ rfl; refine blk_put (cs := #[.int .i64 0, .int .u64 0]) ?_ 0 _ rfl; exact pkx B8) hb); replace HB := A_ (below_step (by repeat (first | (with_reducible first | exact HB.out | apply below_alloc | apply pw_below_drewN | apply below_drew1 | refine below_set ?_ GE101.out | refine below_set ?_ GE107.out | refine below_set ?_ GE108.out) | exact HB.out)) hb); (try clear hb); have ⟨hcz38_0,hcz38_1,hfz38_0,hfz38_1⟩ := z2_ B8; have ⟨hcz39_0,hcz39_1,hcz39_2,hfz39_0,hfz39_1,hfz39_2⟩ := z3_ B1))
             refine bodyPost_ret (results_cell_row rfl _ _ g1 97 #[.int .i64 x3_1, .int .u64 t105, .bool true] (0, 0) _ rfl (by refine pp_ (cs := #[.int .i64 x3_1, .int .u64 t105, .bool x102002_1]) 2 ?_ rfl; refine blk_put (cs := #[.int .i64 x3_1, .int .u64 x102001_1, .bool x102002_1]) ?_ 1 _ rfl; refine blk_put (cs := #[.int .i64 x102000_1, .int .u64 x102001_1, .bool x102002_1]) ?_ 0 _ rfl; exact pkx B1) Tryz.underlying97 rfl (by kernel_rfl)) rfl ?_
             exact ⟨by first | rfl | (simp [errW_none, errW_some] <;> rfl) | (simp only [← hji21]; first | rfl | (simp [errW_none, errW_some] <;> rfl)) | (simp [*, errW_none, errW_some] <;> rfl), by repeat (first | (with_reducible first | exact HB.out | apply below_alloc | apply pw_below_drewN | apply below_drew1 | refine below_set ?_ GE101.out | refine below_set ?_ GE107.out | refine below_set ?_ GE108.out) | exact HB.out)⟩
            ·rw [if_neg c27] at H; have ⟨c27b0,c27b1⟩ := e0_ c27
             have H' := A_ H
             clear H
             go_wp2_with (first | ((with_reducible refine gate_callee (f:=60) rfl ?_); refine goesL_ (some 43) rfl rfl Tryz.func60 (by kernel_rfl) rfl #[.string (a0.extract ((ji21) : Int).toNat a0.size)] rfl (by (try simp only [List.map_toArray, List.map_cons, List.map_nil]); first | done | (simp only [hji21]; rfl) | rfl | (simp only [List.length_drop, List.length_take]; rfl)) ?_; (with_reducible refine (oculusref01_Parse.calls kj12 (a0.extract ((ji21) : Int).toNat a0.size) t105 true _ A24.out).mono ?_); rintro e w40 ⟨rfl, hb⟩; refine ⟨_, rfl, ?_⟩; replace B1 := bb_ B1 hb; replace HB := bs_ HB hb; (try clear hb); ) | ((with_reducible refine gd_ 5 ?_); (try (refine gate_guard (by rfl) ?_; dsimp only)); refine be_ (N:=5) (cs := #[.int .u64 0, .bool false]) (t:=121) ?_; intro g7 hg w41 hbox hb; have B7 := A_ (hbox); have GW107 := hs_ HB hg; have GE107 := hs_ HB hg; have N17 := hl_ B1 hg; have N71 := hr_ B1 hg; replace B1 := bb_ B1 hb; replace HB := bs_ HB hb; clear hb hbox hg; have hnb42 := N71.out; have hnc42 := N17.out; have ⟨hcz43_0,hcz43_1,hfz43_0,hfz43_1⟩ := z2_ B7) | ((with_reducible refine gd_ 6 ?_); (try (refine gate_guard (by rfl) ?_; dsimp only)); refine be_ (N:=6) (cs := #[.int .i64 0, .int .u64 0]) (t:=58) ?_; intro g8 hg w44 hbox hb; have B8 := A_ (hbox); have GW108 := A_ ((by rw [hg]; exact (below_size bl_) : w.heap.size ≤ g8)); have GE108 := A_ ((by rw [hg]; exact (below_size bl_) : w.heap.size ≤ g8)); have N18 := A_ ((by rw [hg]; exact Nat.ne_of_lt (blk_lt (g:=g1) (o := .cells #[.int .i64 x102000_1, .int .u64 x102001_1, .bool x102002_1] 97 (0, 0)) (by (iterate 2 refine pf_ ?_ N17.out); exact pkx B1)) : g1 ≠ g8)); have N81 := A_ ((by rw [hg]; exact Nat.ne_of_gt (blk_lt (g:=g1) (o := .cells #[.int .i64 x102000_1, .int .u64 x102001_1, .bool x102002_1] 97 (0, 0)) (by (iterate 2 refine pf_ ?_ N17.out); exact pkx B1)) : g8 ≠ g1)); have N78 := A_ ((by rw [hg]; exact Nat.ne_of_lt (blk_lt (g:=g7) (o := .cells #[.int .u64 t105, .bool true] 121 (0, 0)) (by refine pp_ (cs := #[.int .u64 t105, .bool false]) 1 ?_ rfl; refine blk_put (cs := #[.int .u64 0, .bool false]) ?_ 0 _ rfl; exact pkx B7)) : g7 ≠ g8)); have N87 := A_ ((by rw [hg]; exact Nat.ne_of_gt (blk_lt (g:=g7) (o := .cells #[.int .u64 t105, .bool true] 121 (0, 0)) (by refine pp_ (cs := #[.int .u64 t105, .bool false]) 1 ?_ rfl; refine blk_put (cs := #[.int .u64 0, .bool false]) ?_ 0 _ rfl; exact pkx B7)) : g8 ≠ g7)); replace B1 := A_ (blk_below (g:=g1) (o := .cells #[.int .i64 x102000_1, .int .u64 x102001_1, .bool x102002_1] 97 (0, 0)) (by (iterate 2 refine pf_ ?_ N17.out); exact pkx B1) hb); replace B7 := A_ (blk_below (g:=g7) (o := .cells #[.int .u64 t105, .bool true] 121 (0, 0)) (by refine pp_ (cs := #[.int .u64 t105, .bool false]) 1 ?_ rfl; refine blk_put (cs := #[.int .u64 0, .bool false]) ?_ 0 _ rfl; exact pkx B7) hb); replace HB := A_ (below_step (by repeat (first | (with_reducible first | exact HB.out | apply below_alloc | apply pw_below_drewN | apply below_drew1 | refine below_set ?_ GE101.out | refine below_set ?_ GE107.out) | exact HB.out)) hb); clear hb hbox hg; have hnb45 := N81.out; have hnc45 := N18.out; have hnb46 := N87.out; have hnc46 := N78.out; have ⟨hcz47_0,hcz47_1,hfz47_0,hfz47_1⟩ := z2_ B8; have ⟨hcz48_0,hcz48_1,hfz48_0,hfz48_1⟩ := z2_ B7) | (go_at_call 61; (with_reducible refine (oculusref02_Text.calls kj12 x3_1 t105 t109 _ A26.out).mono ?_); rintro e w49 ⟨rfl, hb⟩; replace B1 := A_ (blk_below (g:=g1) (o := .cells #[.int .i64 x102000_1, .int .u64 x102001_1, .bool x102002_1] 97 (0, 0)) (by (iterate 2 refine pf_ ?_ N18.out); exact pkx B1) hb); replace B7 := A_ (blk_below (g:=g7) (o := .cells #[.int .u64 t105, .bool true] 121 (0, 0)) (by (iterate 2 refine pf_ ?_ N78.out); exact pkx B7) hb); replace B8 := A_ (blk_below (g:=g8) (o := .cells #[.int .i64 x3_1, .int .u64 t105] 58 (0, 0)) (by refine pp_ (cs := #[.int .i64 x3_1, .int .u64 0]) 1 ?_ rfl; refine blk_put (cs := #[.int .i64 0, .int .u64 0]) ?_ 0 _ rfl; exact pkx B8) hb); replace HB := A_ (below_step (by repeat (first | (with_reducible first | exact HB.out | apply below_alloc | apply pw_below_drewN | apply below_drew1 | refine below_set ?_ GE101.out | refine below_set ?_ GE107.out | refine below_set ?_ GE108.out) | exact HB.out)) hb); (try clear hb); ))
             go_roundg kj12
             case measure => have := HK1.out; have := HJ12.out; omega
             case rel => exact ⟨(wrap64 (x3_1 + 1)), (x102000_1), (x102001_1), (x102002_1), sq_, H', ⟨by have := HK1.out; have := HJ12.out; omega⟩, ⟨pkx B1⟩, ⟨pbx HB⟩⟩
           ·replace c25 := Bool.eq_false_iff.mpr c25; subst c25
            replace H := ie_ H
            have H' := A_ H
            clear H
            go_wp2_with (first | ((with_reducible refine gate_callee (f:=60) rfl ?_); refine goesL_ (some 43) rfl rfl Tryz.func60 (by kernel_rfl) rfl #[.string (a0.extract ((ji21) : Int).toNat a0.size)] rfl (by (try simp only [List.map_toArray, List.map_cons, List.map_nil]); first | done | (simp only [hji21]; rfl) | rfl | (simp only [List.length_drop, List.length_take]; rfl)) ?_; (with_reducible refine (oculusref01_Parse.calls kj12 (a0.extract ((ji21) : Int).toNat a0.size) t105 false _ A24.out).mono ?_); rintro e w50 ⟨rfl, hb⟩; refine ⟨_, rfl, ?_⟩; replace B1 := bb_ B1 hb; replace HB := bs_ HB hb; (try clear hb); ) | ((with_reducible refine gd_ 5 ?_); (try (refine gate_guard (by rfl) ?_; dsimp only)); refine be_ (N:=5) (cs := #[.int .u64 0, .bool false]) (t:=121) ?_; intro g7 hg w51 hbox hb; have B7 := A_ (hbox); have GW107 := hs_ HB hg; have GE107 := hs_ HB hg; have N17 := hl_ B1 hg; have N71 := hr_ B1 hg; replace B1 := bb_ B1 hb; replace HB := bs_ HB hb; clear hb hbox hg; have hnb52 := N71.out; have hnc52 := N17.out; have ⟨hcz53_0,hcz53_1,hfz53_0,hfz53_1⟩ := z2_ B7) | ((with_reducible refine gd_ 6 ?_); (try (refine gate_guard (by rfl) ?_; dsimp only)); refine be_ (N:=6) (cs := #[.int .i64 0, .int .u64 0]) (t:=58) ?_; intro g8 hg w54 hbox hb; have B8 := A_ (hbox); have GW108 := A_ ((by rw [hg]; exact (below_size bl_) : w.heap.size ≤ g8)); have GE108 := A_ ((by rw [hg]; exact (below_size bl_) : w.heap.size ≤ g8)); have N18 := A_ ((by rw [hg]; exact Nat.ne_of_lt (blk_lt (g:=g1) (o := .cells #[.int .i64 x102000_1, .int .u64 x102001_1, .bool x102002_1] 97 (0, 0)) (by (iterate 2 refine pf_ ?_ N17.out); exact pkx B1)) : g1 ≠ g8)); have N81 := A_ ((by rw [hg]; exact Nat.ne_of_gt (blk_lt (g:=g1) (o := .cells #[.int .i64 x102000_1, .int .u64 x102001_1, .bool x102002_1] 97 (0, 0)) (by (iterate 2 refine pf_ ?_ N17.out); exact pkx B1)) : g8 ≠ g1)); have N78 := A_ ((by rw [hg]; exact Nat.ne_of_lt (blk_lt (g:=g7) (o := .cells #[.int .u64 t105, .bool false] 121 (0, 0)) (by refine pp_ (cs := #[.int .u64 t105, .bool false]) 1 ?_ rfl; refine blk_put (cs := #[.int .u64 0, .bool false]) ?_ 0 _ rfl; exact pkx B7)) : g7 ≠ g8)); have N87 := A_ ((by rw [hg]; exact Nat.ne_of_gt (blk_lt (g:=g7) (o := .cells #[.int .u64 t105, .bool false] 121 (0, 0)) (by refine pp_ (cs := #[.int .u64 t105, .bool false]) 1 ?_ rfl; refine blk_put (cs := #[.int .u64 0, .bool false]) ?_ 0 _ rfl; exact pkx B7)) : g8 ≠ g7)); replace B1 := A_ (blk_below (g:=g1) (o := .cells #[.int .i64 x102000_1, .int .u64 x102001_1, .bool x102002_1] 97 (0, 0)) (by (iterate 2 refine pf_ ?_ N17.out); exact pkx B1) hb); replace B7 := A_ (blk_below (g:=g7) (o := .cells #[.int .u64 t105, .bool false] 121 (0, 0)) (by refine pp_ (cs := #[.int .u64 t105, .bool false]) 1 ?_ rfl; refine blk_put (cs := #[.int .u64 0, .bool false]) ?_ 0 _ rfl; exact pkx B7) hb); replace HB := A_ (below_step (by repeat (first | (with_reducible first | exact HB.out | apply below_alloc | apply pw_below_drewN | apply below_drew1 | refine below_set ?_ GE101.out | refine below_set ?_ GE107.out) | exact HB.out)) hb); clear hb hbox hg; have hnb55 := N81.out; have hnc55 := N18.out; have hnb56 := N87.out; have hnc56 := N78.out; have ⟨hcz57_0,hcz57_1,hfz57_0,hfz57_1⟩ := z2_ B8; have ⟨hcz58_0,hcz58_1,hfz58_0,hfz58_1⟩ := z2_ B7))
            go_roundg kj12
            case measure => have := HK1.out; have := HJ12.out; omega
            case rel => exact ⟨(wrap64 (x3_1 + 1)), (x102000_1), (x102001_1), (x102002_1), sq_, H', ⟨by have := HK1.out; have := HJ12.out; omega⟩, ⟨by (iterate 2 refine pf_ ?_ N18.out); exact pkx B1⟩, ⟨bl_⟩⟩
          ·rw [if_neg c23] at H
           exact absurd H (by simp)
         ·rw [if_neg c22] at H
          exact absurd H (by simp)
    ·rw [if_neg c8] at H; have c8b0 := decide_eq_false c8; clear c8
     simp only [Option.some.injEq, Prod.mk.injEq] at H
     obtain ⟨rfl, rfl, rfl⟩ := H
     have ⟨hcz59_0,hcz59_1,hcz59_2,hfz59_0,hfz59_1,hfz59_2⟩ := z3_ B1
     go_wp2
     refine bodyPost_ret (results_cell_row rfl _ _ g1 97 #[.int .i64 0, .int .u64 0, .bool false] (0, 0) _ rfl (by refine pp_ (cs := #[.int .i64 0, .int .u64 0, .bool x102002_1]) 2 ?_ rfl; refine blk_put (cs := #[.int .i64 0, .int .u64 x102001_1, .bool x102002_1]) ?_ 1 _ rfl; refine blk_put (cs := #[.int .i64 x102000_1, .int .u64 x102001_1, .bool x102002_1]) ?_ 0 _ rfl; exact pkx B1) Tryz.underlying97 rfl (by kernel_rfl)) rfl ?_
     exact fi_ bl_

end Go.Proofs.YtbboanfggaknjaaGreatDoor.X
/- The reference's reading of one line: what it computes, walked by hand. -/
set_option linter.unusedVariables false
set_option linter.unusedSimpArgs false
namespace Go.Proofs.YtbboanfggaknjaaGreatDoor.X
open Go.RowKit Go.Proofs.YtbboanfggaknjaaGreatDoorW.PrintWords Go.Proofs.YtbboanfggaknjaaGreatDoorW.PrintLast Go.Proofs.YtbboanfggaknjaaGreatDoorW.PrintMore
abbrev cutLF (s : ByteArray) : ByteArray := s.extract 0 (s.size - 1)
def noLF (s : ByteArray) : Prop := s.size = 0 ∨ bt s ((s.size : Int) - 1) ≠ 10
instance (s : ByteArray) : Decidable (noLF s) := by unfold noLF; exact inferInstance
def oculusref07_line.f (k : Nat) (r c : Int) (zs : List S60) (us : List S62) (gs : List S64) (s : ByteArray) : Option T6 :=
 if noLF s then some (0, r, c, zs, us, gs) else
 (oculusref07_Words.f k (cutLF s)).bind fun ws =>
 if ws.length = 3 ∧ (wrd ws 0).toList = [103, 114, 105, 100] then
  (oculusref03_Number.f k (wrd ws 1)).bind fun a => (oculusref03_Number.f k (wrd ws 2)).bind fun b =>
  some (if a.2 = true ∧ b.2 = true then 1 else 0, wrap64 (a.1 + 1), wrap64 (b.1 + 1), zs, us, gs)
 else if ws.length = 3 ∧ (wrd ws 0).toList = [122, 111, 110, 101] then
  (oculusref04_Parse.f k (wrd ws 1)).bind fun a => (oculusref02_Parse.f k (wrd ws 2)).bind fun b =>
  if zs.length ≤ 100000 then some (if a.2.2.2.2 = true ∧ b.2.2 = true then 2 else 0, r, c, zs ++ [⟨⟨⟨a.1, a.2.1⟩, ⟨a.2.2.1, a.2.2.2.1⟩⟩, ⟨b.1, b.2.1⟩⟩], us, gs) else none
 else if ws.length = 3 ∧ (wrd ws 0).toList = [117, 115, 101, 114] then
  (oculusref02_Parse.f k (wrd ws 2)).bind fun b =>
  if us.length ≤ 100000 then some (if b.2.2 = true then 3 else 0, r, c, zs, us ++ [⟨wrd ws 1, ⟨b.1, b.2.1⟩⟩], gs) else none
 else if ws.length = 4 ∧ (wrd ws 0).toList = [103, 114, 97, 110, 116] then
  (oculusref02_Parse.f k (wrd ws 2)).bind fun a => (oculusref02_Parse.f k (wrd ws 3)).bind fun b =>
  if gs.length ≤ 100000 then some (if a.2.2 = true ∧ b.2.2 = true then 4 else 0, r, c, zs, us, gs ++ [⟨wrd ws 1, ⟨a.1, a.2.1⟩, ⟨b.1, b.2.1⟩⟩]) else none
 else some (0, r, c, zs, us, gs)
structure IsV (gx : Nat) (cx : Array Value) (w0 w : World) (vz vu vg : Value) (zs : List S60) (us : List S62) (gs : List S64) : Prop where
 hz : k60.R 60 w w0.heap.size (fun _ => True) vz zs
 hu : k62.R 62 w w0.heap.size (fun _ => True) vu us
 hr : k64.R 64 w w0.heap.size (fun _ => True) vg gs
 hB : Below w0.heap.size w0 w
 hx : w.heap[gx]? = some (.cells cx 27 (0, 0))
theorem IsV.below {gx : Nat} {cx : Array Value} {w0 w w1 : World} {vz vu vg : Value} {zs : List S60} {us : List S62} {gs : List S64} (h : IsV gx cx w0 w vz vu vg zs us gs) (hb : Below w.heap.size w w1) : IsV gx cx w0 w1 vz vu vg zs us gs := ⟨Kd.R_below h.hz hb, Kd.R_below h.hu hb, Kd.R_below h.hr hb, below_step h.hB hb, blk_below h.hx hb⟩
def Lin7 (gx : Nat) (cx : Array Value) (w0 w' : World) (en : Ending) (kind r c : Int) (zs : List S60) (us : List S62) (gs : List S64) : Prop :=
 ∃ vz vu vg, en = .returned (.tuple #[.agg #[.int .i64 r, .int .i64 c, vz, vu, vg], .int .i64 kind]) ∧ IsV gx cx w0 w' vz vu vg zs us gs
theorem lin_end {gx : Nat} {cx : Array Value} {w0 w : World} {g g4 : Nat} {r c : Int} {vz vu vg : Value} {zs : List S60} {us : List S62} {gs : List S64} {cs : Array Value} (h : IsP w0 w g r c vz vu vg zs us gs) (hz : w.heap[g4]? = some (.cells cs 27 (0, 0))) (hg : w0.heap.size ≤ g4) (hx : w.heap[gx]? = some (.cells cx 27 (0, 0))) (hn : gx ≠ g4) (b0 b1 b2 b3 b4 : Value) :
  IsV gx cx w0 (((((w.setCell ⟨g4, 0, none⟩ b0).setCell ⟨g4, 1, none⟩ b1).setCell ⟨g4, 2, none⟩ b2).setCell ⟨g4, 3, none⟩ b3).setCell ⟨g4, 4, none⟩ b4) vz vu vg zs us gs :=
 ⟨R_set5 h.hz hz ne26_61 _ _ _ _ _, R_set5 h.hu hz ne26_65 _ _ _ _ _, R_set5 h.hr hz ne26_67 _ _ _ _ _, below5_ h.hB hg _ _ _ _ _, blk_far (p := ⟨g4, 4, none⟩) (blk_far (p := ⟨g4, 3, none⟩) (blk_far (p := ⟨g4, 2, none⟩) (blk_far (p := ⟨g4, 1, none⟩) (blk_far (p := ⟨g4, 0, none⟩) hx hn _) hn _) hn _) hn _) hn _⟩
theorem last_b (s : ByteArray) (hp : 1 ≤ s.size) {b : Bool} (h : (bt s ((s.size : Int) - 1) != 10) = b) : (((s[s.size - 1]'(by omega)).toNat : Int) != 10) = b := by
 rw [← h]
 have e : ((s.size : Int) - 1).toNat = s.size - 1 := by omega
 have e2 : bt s ((s.size : Int) - 1) = ((s[s.size - 1]'(by omega)).toNat : Int) := by
  unfold bt
  simp only [e]
  rw [dif_pos (by omega)]
 rw [e2]
theorem blk_other {w : World} {g g' t t' : Nat} {cs cs' : Array Value} (h : w.heap[g]? = some (.cells cs t (0, 0))) (h' : w.heap[g']? = some (.cells cs' t' (0, 0))) (ht : t ≠ t') : g ≠ g' := by
 intro e
 subst e
 rw [h] at h'
 injection h' with h'
 injection h' with _ h'
 exact ht h'
theorem line_no0 (k : Nat) (r c : Int) (vz vu vg : Value) (zs : List S60) (us : List S62) (gs : List S64) (s : ByteArray) (h : s.size = 0) (gx : Nat) (cx : Array Value) (w0 w : World) (hV : Aside0 (IsV gx cx w0 w vz vu vg zs us gs)) :
  Calls Tryz.prog 15 #[.agg #[.int .i64 r, .int .i64 c, vz, vu, vg], .string s] w fun en w' => Lin7 gx cx w0 w' en 0 r c zs us gs := by
 have hu := Tryz.underlying27
 obtain ⟨Az, cz, hh⟩ := Kd.R_slice hV.out.hz
 subst hh
 obtain ⟨Au, cu, hh⟩ := Kd.R_slice hV.out.hu
 subst hh
 obtain ⟨Ag, cg, hh⟩ := Kd.R_slice hV.out.hr
 subst hh
 go_enter Tryz.func15, Tryz.ntmps15
 go_upto_region 1 with fail
 have hsz : (w.alloc (.cells #[.int .i64 r, .int .i64 c, .slice Az zs.length cz, .slice Au us.length cu, .slice Ag gs.length cg] 27)).heap.size = w.heap.size + 1 := Array.size_push ..
 have hb := below_step (new_below w (.cells #[.int .i64 r, .int .i64 c, .slice Az zs.length cz, .slice Au us.length cu, .slice Ag gs.length cg] 27)) (new_below (w.alloc (.cells #[.int .i64 r, .int .i64 c, .slice Az zs.length cz, .slice Au us.length cu, .slice Ag gs.length cg] 27)) (.cells #[.int .i64 0, .int .i64 0, .slice none 0 0, .slice none 0 0, .slice none 0 0] 27))
 have hw0 : w0.heap.size ≤ w.heap.size := below_size hV.out.hB
 have HI : Aside0 (IsP w0 ((w.alloc (.cells #[.int .i64 r, .int .i64 c, .slice Az zs.length cz, .slice Au us.length cu, .slice Ag gs.length cg] 27)).alloc (.cells #[.int .i64 0, .int .i64 0, .slice none 0 0, .slice none 0 0, .slice none 0 0] 27)) w.heap.size r c (.slice Az zs.length cz) (.slice Au us.length cu) (.slice Ag gs.length cg) zs us gs) := ⟨blk_alloc (blk_new w (.cells #[.int .i64 r, .int .i64 c, .slice Az zs.length cz, .slice Au us.length cu, .slice Ag gs.length cg] 27)) (.cells #[.int .i64 0, .int .i64 0, .slice none 0 0, .slice none 0 0, .slice none 0 0] 27), hw0, Kd.R_below hV.out.hz hb, Kd.R_below hV.out.hu hb, Kd.R_below hV.out.hr hb, below_step hV.out.hB hb⟩
 have HZ := Aside0.mk (blk_new (w.alloc (.cells #[.int .i64 r, .int .i64 c, .slice Az zs.length cz, .slice Au us.length cu, .slice Ag gs.length cg] 27)) (.cells #[.int .i64 0, .int .i64 0, .slice none 0 0, .slice none 0 0, .slice none 0 0] 27))
 rw [hsz] at HZ
 obtain ⟨g, hg⟩ : ∃ g, w.heap.size = g := ⟨_, rfl⟩
 obtain ⟨g4, hg4⟩ : ∃ g4, w.heap.size + 1 = g4 := ⟨_, rfl⟩
 have HG4 : Aside0 (w0.heap.size ≤ g4) := ⟨by omega⟩
 have HN4 : Aside0 (g4 ≠ g) := ⟨by omega⟩
 rw [hg4] at HZ
 rw [hg] at HI
 rw [hg4, hg]
 have HY := Aside0.mk (blk_below hV.out.hx hb)
 have hlx := blk_lt hV.out.hx
 have HNY : Aside0 (gx ≠ g) := ⟨by omega⟩
 have HNY4 : Aside0 (gx ≠ g4) := ⟨by omega⟩
 clear hlx hsz hb hw0 hg hg4 hV
 generalize (w.alloc (.cells #[.int .i64 r, .int .i64 c, .slice Az zs.length cz, .slice Au us.length cu, .slice Ag gs.length cg] 27)).alloc (.cells #[.int .i64 0, .int .i64 0, .slice none 0 0, .slice none 0 0, .slice none 0 0] 27) = w1 at HI HZ HY ⊢
 have d0 : ((s.size : Int) == 0) = true := beq_iff_eq.mpr (by omega)
 clear h
 obtain ⟨y0, y1, y2, y3, y4⟩ := cells5_ HI.out.hP
 obtain ⟨z0, z1, z2, z3, z4⟩ := cells5_ HZ.out
 have f0 := blk_frozen HZ.out 0
 have f1 := blk_frozen HZ.out 1
 have f2 := blk_frozen HZ.out 2
 have f3 := blk_frozen HZ.out 3
 have f4 := blk_frozen HZ.out 4
 go_wp2
 refine bodyPost_ret (results_ct rfl _ _ g4 27 _ (0, 0) _ rfl (put5_ HZ.out _ _ _ _ _) hu rfl (by kernel_rfl)) rfl ?_
 exact ⟨_, _, _, rfl, lin_end HI.out HZ.out HG4.out HY.out HNY4.out _ _ _ _ _⟩
theorem line_no1 (k : Nat) (r c : Int) (vz vu vg : Value) (zs : List S60) (us : List S62) (gs : List S64) (s : ByteArray) (h : s.size ≠ 0) (h1 : bt s ((s.size : Int) - 1) ≠ 10) (hl : s.size ≤ 100000) (gx : Nat) (cx : Array Value) (w0 w : World) (hV : Aside0 (IsV gx cx w0 w vz vu vg zs us gs)) :
  Calls Tryz.prog 15 #[.agg #[.int .i64 r, .int .i64 c, vz, vu, vg], .string s] w fun en w' => Lin7 gx cx w0 w' en 0 r c zs us gs := by
 have hu := Tryz.underlying27
 obtain ⟨Az, cz, hh⟩ := Kd.R_slice hV.out.hz
 subst hh
 obtain ⟨Au, cu, hh⟩ := Kd.R_slice hV.out.hu
 subst hh
 obtain ⟨Ag, cg, hh⟩ := Kd.R_slice hV.out.hr
 subst hh
 go_enter Tryz.func15, Tryz.ntmps15
 go_upto_region 1 with fail
 have hsz : (w.alloc (.cells #[.int .i64 r, .int .i64 c, .slice Az zs.length cz, .slice Au us.length cu, .slice Ag gs.length cg] 27)).heap.size = w.heap.size + 1 := Array.size_push ..
 have hb := below_step (new_below w (.cells #[.int .i64 r, .int .i64 c, .slice Az zs.length cz, .slice Au us.length cu, .slice Ag gs.length cg] 27)) (new_below (w.alloc (.cells #[.int .i64 r, .int .i64 c, .slice Az zs.length cz, .slice Au us.length cu, .slice Ag gs.length cg] 27)) (.cells #[.int .i64 0, .int .i64 0, .slice none 0 0, .slice none 0 0, .slice none 0 0] 27))
 have hw0 : w0.heap.size ≤ w.heap.size := below_size hV.out.hB
 have HI : Aside0 (IsP w0 ((w.alloc (.cells #[.int .i64 r, .int .i64 c, .slice Az zs.length cz, .slice Au us.length cu, .slice Ag gs.length cg] 27)).alloc (.cells #[.int .i64 0, .int .i64 0, .slice none 0 0, .slice none 0 0, .slice none 0 0] 27)) w.heap.size r c (.slice Az zs.length cz) (.slice Au us.length cu) (.slice Ag gs.length cg) zs us gs) := ⟨blk_alloc (blk_new w (.cells #[.int .i64 r, .int .i64 c, .slice Az zs.length cz, .slice Au us.length cu, .slice Ag gs.length cg] 27)) (.cells #[.int .i64 0, .int .i64 0, .slice none 0 0, .slice none 0 0, .slice none 0 0] 27), hw0, Kd.R_below hV.out.hz hb, Kd.R_below hV.out.hu hb, Kd.R_below hV.out.hr hb, below_step hV.out.hB hb⟩
 have HZ := Aside0.mk (blk_new (w.alloc (.cells #[.int .i64 r, .int .i64 c, .slice Az zs.length cz, .slice Au us.length cu, .slice Ag gs.length cg] 27)) (.cells #[.int .i64 0, .int .i64 0, .slice none 0 0, .slice none 0 0, .slice none 0 0] 27))
 rw [hsz] at HZ
 obtain ⟨g, hg⟩ : ∃ g, w.heap.size = g := ⟨_, rfl⟩
 obtain ⟨g4, hg4⟩ : ∃ g4, w.heap.size + 1 = g4 := ⟨_, rfl⟩
 have HG4 : Aside0 (w0.heap.size ≤ g4) := ⟨by omega⟩
 have HN4 : Aside0 (g4 ≠ g) := ⟨by omega⟩
 rw [hg4] at HZ
 rw [hg] at HI
 rw [hg4, hg]
 have HY := Aside0.mk (blk_below hV.out.hx hb)
 have hlx := blk_lt hV.out.hx
 have HNY : Aside0 (gx ≠ g) := ⟨by omega⟩
 have HNY4 : Aside0 (gx ≠ g4) := ⟨by omega⟩
 clear hlx hsz hb hw0 hg hg4 hV
 generalize (w.alloc (.cells #[.int .i64 r, .int .i64 c, .slice Az zs.length cz, .slice Au us.length cu, .slice Ag gs.length cg] 27)).alloc (.cells #[.int .i64 0, .int .i64 0, .slice none 0 0, .slice none 0 0, .slice none 0 0] 27) = w1 at HI HZ HY ⊢
 have d0 : ((s.size : Int) == 0) = false := beq_eq_false_iff_ne.mpr (by omega)
 have hp : 1 ≤ s.size := by omega
 have hq : (1 ≤ (s.size : Int) ∧ (s.size : Int) - 1 < (s.size : Int)) = True := eq_true (by omega)
 have d1 := last_b s hp (bne_iff_ne.mpr h1)
 clear h h1
 obtain ⟨y0, y1, y2, y3, y4⟩ := cells5_ HI.out.hP
 obtain ⟨z0, z1, z2, z3, z4⟩ := cells5_ HZ.out
 have f0 := blk_frozen HZ.out 0
 have f1 := blk_frozen HZ.out 1
 have f2 := blk_frozen HZ.out 2
 have f3 := blk_frozen HZ.out 3
 have f4 := blk_frozen HZ.out 4
 go_wp2
 refine bodyPost_ret (results_ct rfl _ _ g4 27 _ (0, 0) _ rfl (put5_ HZ.out _ _ _ _ _) hu rfl (by kernel_rfl)) rfl ?_
 exact ⟨_, _, _, rfl, lin_end HI.out HZ.out HG4.out HY.out HNY4.out _ _ _ _ _⟩
theorem line_none (k : Nat) (r c : Int) (vz vu vg : Value) (zs : List S60) (us : List S62) (gs : List S64) (s : ByteArray) (h : s.size ≠ 0) (h1 : bt s ((s.size : Int) - 1) = 10) (hl : s.size ≤ 100000) (ws : List ByteArray) (hw : oculusref07_Words.f k (cutLF s) = some ws) (k1 : ¬ (ws.length = 3 ∧ (wrd ws 0).toList = [103, 114, 105, 100])) (k2 : ¬ (ws.length = 3 ∧ (wrd ws 0).toList = [122, 111, 110, 101])) (k3 : ¬ (ws.length = 3 ∧ (wrd ws 0).toList = [117, 115, 101, 114])) (k4 : ¬ (ws.length = 4 ∧ (wrd ws 0).toList = [103, 114, 97, 110, 116])) (gx : Nat) (cx : Array Value) (w0 w : World) (hV : Aside0 (IsV gx cx w0 w vz vu vg zs us gs)) :
  Calls Tryz.prog 15 #[.agg #[.int .i64 r, .int .i64 c, vz, vu, vg], .string s] w fun en w' => Lin7 gx cx w0 w' en 0 r c zs us gs := by
 have HK1 := Aside0.mk k1
 have HK2 := Aside0.mk k2
 have HK3 := Aside0.mk k3
 have HK4 := Aside0.mk k4
 clear k1 k2 k3 k4
 have hu := Tryz.underlying27
 obtain ⟨Az, cz, hh⟩ := Kd.R_slice hV.out.hz
 subst hh
 obtain ⟨Au, cu, hh⟩ := Kd.R_slice hV.out.hu
 subst hh
 obtain ⟨Ag, cg, hh⟩ := Kd.R_slice hV.out.hr
 subst hh
 go_enter Tryz.func15, Tryz.ntmps15
 go_upto_region 1 with fail
 have hsz : (w.alloc (.cells #[.int .i64 r, .int .i64 c, .slice Az zs.length cz, .slice Au us.length cu, .slice Ag gs.length cg] 27)).heap.size = w.heap.size + 1 := Array.size_push ..
 have hb := below_step (new_below w (.cells #[.int .i64 r, .int .i64 c, .slice Az zs.length cz, .slice Au us.length cu, .slice Ag gs.length cg] 27)) (new_below (w.alloc (.cells #[.int .i64 r, .int .i64 c, .slice Az zs.length cz, .slice Au us.length cu, .slice Ag gs.length cg] 27)) (.cells #[.int .i64 0, .int .i64 0, .slice none 0 0, .slice none 0 0, .slice none 0 0] 27))
 have hw0 : w0.heap.size ≤ w.heap.size := below_size hV.out.hB
 have HI : Aside0 (IsP w0 ((w.alloc (.cells #[.int .i64 r, .int .i64 c, .slice Az zs.length cz, .slice Au us.length cu, .slice Ag gs.length cg] 27)).alloc (.cells #[.int .i64 0, .int .i64 0, .slice none 0 0, .slice none 0 0, .slice none 0 0] 27)) w.heap.size r c (.slice Az zs.length cz) (.slice Au us.length cu) (.slice Ag gs.length cg) zs us gs) := ⟨blk_alloc (blk_new w (.cells #[.int .i64 r, .int .i64 c, .slice Az zs.length cz, .slice Au us.length cu, .slice Ag gs.length cg] 27)) (.cells #[.int .i64 0, .int .i64 0, .slice none 0 0, .slice none 0 0, .slice none 0 0] 27), hw0, Kd.R_below hV.out.hz hb, Kd.R_below hV.out.hu hb, Kd.R_below hV.out.hr hb, below_step hV.out.hB hb⟩
 have HZ := Aside0.mk (blk_new (w.alloc (.cells #[.int .i64 r, .int .i64 c, .slice Az zs.length cz, .slice Au us.length cu, .slice Ag gs.length cg] 27)) (.cells #[.int .i64 0, .int .i64 0, .slice none 0 0, .slice none 0 0, .slice none 0 0] 27))
 rw [hsz] at HZ
 obtain ⟨g, hg⟩ : ∃ g, w.heap.size = g := ⟨_, rfl⟩
 obtain ⟨g4, hg4⟩ : ∃ g4, w.heap.size + 1 = g4 := ⟨_, rfl⟩
 have HG4 : Aside0 (w0.heap.size ≤ g4) := ⟨by omega⟩
 have HN4 : Aside0 (g4 ≠ g) := ⟨by omega⟩
 rw [hg4] at HZ
 rw [hg] at HI
 rw [hg4, hg]
 have HY := Aside0.mk (blk_below hV.out.hx hb)
 have hlx := blk_lt hV.out.hx
 have HNY : Aside0 (gx ≠ g) := ⟨by omega⟩
 have HNY4 : Aside0 (gx ≠ g4) := ⟨by omega⟩
 clear hlx hsz hb hw0 hg hg4 hV
 generalize (w.alloc (.cells #[.int .i64 r, .int .i64 c, .slice Az zs.length cz, .slice Au us.length cu, .slice Ag gs.length cg] 27)).alloc (.cells #[.int .i64 0, .int .i64 0, .slice none 0 0, .slice none 0 0, .slice none 0 0] 27) = w1 at HI HZ HY ⊢
 have d0 : ((s.size : Int) == 0) = false := beq_eq_false_iff_ne.mpr (by omega)
 have hp : 1 ≤ s.size := by omega
 have hq : (1 ≤ (s.size : Int) ∧ (s.size : Int) - 1 < (s.size : Int)) = True := eq_true (by omega)
 have d1 := last_b s hp (bne_eq_false_iff_eq.mpr h1)
 have HWF := Aside0.mk hw
 clear h h1 hw
 go_upto_region 3 with fail
 clear d0 d1
 go_upto_region 4 with (go_at_call 33; (with_reducible refine (oculusref07_Words.calls k (s.extract 0 (s.size - 1)) ws _ HWF.out).mono ?_); rintro e w5 ⟨v6, rfl, hR, hb⟩; obtain ⟨A6, cap6, rfl⟩ := Kd.R_slice hR; replace HI := Aside0.mk (HI.out.below hb); replace HZ := Aside0.mk (blk_below HZ.out hb); replace HY := Aside0.mk (blk_below HY.out hb); have HW := Aside0.mk hR; clear hR hb)
 clear HWF hp hl
 by_cases n3 : ws.length = 3
 ·obtain ⟨ad, rfl, hat⟩ := words_at (words_of HW.out) (by omega)
  have e0 : w5.cell? ad = some (.string (wrd ws 0)) := hat 0 (by omega)
  have dt0 : ((wrd ws 0).toList == [103, 114, 105, 100]) = false := beq_eq_false_iff_ne.mpr fun e => HK1.out ⟨n3, e⟩
  have dt1 : ((wrd ws 0).toList == [122, 111, 110, 101]) = false := beq_eq_false_iff_ne.mpr fun e => HK2.out ⟨n3, e⟩
  have dt2 : ((wrd ws 0).toList == [117, 115, 101, 114]) = false := beq_eq_false_iff_ne.mpr fun e => HK3.out ⟨n3, e⟩
  rw [n3]
  have d3 : (((3 : Nat) : Int) == 3) = true := rfl
  have d4 : (((3 : Nat) : Int) == 4) = false := rfl
  clear n3 hat HW
  obtain ⟨y0, y1, y2, y3, y4⟩ := cells5_ HI.out.hP
  obtain ⟨z0, z1, z2, z3, z4⟩ := cells5_ HZ.out
  have f0 := blk_frozen HZ.out 0
  have f1 := blk_frozen HZ.out 1
  have f2 := blk_frozen HZ.out 2
  have f3 := blk_frozen HZ.out 3
  have f4 := blk_frozen HZ.out 4
  go_wp2
  refine bodyPost_ret (results_ct rfl _ _ g4 27 _ (0, 0) _ rfl (put5_ HZ.out _ _ _ _ _) hu rfl (by kernel_rfl)) rfl ?_
  exact ⟨_, _, _, rfl, lin_end HI.out HZ.out HG4.out HY.out HNY4.out _ _ _ _ _⟩
 ·by_cases n4 : ws.length = 4
  ·obtain ⟨ad, rfl, hat⟩ := words_at (words_of HW.out) (by omega)
   have e0 : w5.cell? ad = some (.string (wrd ws 0)) := hat 0 (by omega)
   have dt3 : ((wrd ws 0).toList == [103, 114, 97, 110, 116]) = false := beq_eq_false_iff_ne.mpr fun e => HK4.out ⟨n4, e⟩
   rw [n4]
   have d3 : (((4 : Nat) : Int) == 3) = false := rfl
   have d4 : (((4 : Nat) : Int) == 4) = true := rfl
   clear n3 n4 hat HW
   obtain ⟨y0, y1, y2, y3, y4⟩ := cells5_ HI.out.hP
   obtain ⟨z0, z1, z2, z3, z4⟩ := cells5_ HZ.out
   have f0 := blk_frozen HZ.out 0
   have f1 := blk_frozen HZ.out 1
   have f2 := blk_frozen HZ.out 2
   have f3 := blk_frozen HZ.out 3
   have f4 := blk_frozen HZ.out 4
   go_wp2
   refine bodyPost_ret (results_ct rfl _ _ g4 27 _ (0, 0) _ rfl (put5_ HZ.out _ _ _ _ _) hu rfl (by kernel_rfl)) rfl ?_
   exact ⟨_, _, _, rfl, lin_end HI.out HZ.out HG4.out HY.out HNY4.out _ _ _ _ _⟩
  ·have d3 : ((ws.length : Int) == 3) = false := beq_eq_false_iff_ne.mpr (by omega)
   have d4 : ((ws.length : Int) == 4) = false := beq_eq_false_iff_ne.mpr (by omega)
   clear n3 n4 HW
   obtain ⟨y0, y1, y2, y3, y4⟩ := cells5_ HI.out.hP
   obtain ⟨z0, z1, z2, z3, z4⟩ := cells5_ HZ.out
   have f0 := blk_frozen HZ.out 0
   have f1 := blk_frozen HZ.out 1
   have f2 := blk_frozen HZ.out 2
   have f3 := blk_frozen HZ.out 3
   have f4 := blk_frozen HZ.out 4
   go_wp2
   refine bodyPost_ret (results_ct rfl _ _ g4 27 _ (0, 0) _ rfl (put5_ HZ.out _ _ _ _ _) hu rfl (by kernel_rfl)) rfl ?_
   exact ⟨_, _, _, rfl, lin_end HI.out HZ.out HG4.out HY.out HNY4.out _ _ _ _ _⟩
end Go.Proofs.YtbboanfggaknjaaGreatDoor.X
/- The reference's reading of one line: the four kinds, walked by hand. -/
set_option linter.unusedVariables false
set_option linter.unusedSimpArgs false
namespace Go.Proofs.YtbboanfggaknjaaGreatDoor.X
open Go.RowKit Go.Proofs.YtbboanfggaknjaaGreatDoorW.PrintWords Go.Proofs.YtbboanfggaknjaaGreatDoorW.PrintLast Go.Proofs.YtbboanfggaknjaaGreatDoorW.PrintMore
theorem putg2 {W : World} {g : Nat} {t : TypeId} {a0 a1 : Value} (h : W.heap[g]? = some (.cells #[a0, a1] t (0, 0))) (b0 b1 : Value) : ((W.setCell ⟨g, 0, none⟩ b0).setCell ⟨g, 1, none⟩ b1).heap[g]? = some (.cells #[b0, b1] t (0, 0)) := by simpa using (blk_set (blk_set h 0 b0) 1 b1)
theorem farg2 {W : World} {g g9 : Nat} {cs : Array Value} {t : TypeId} (h : W.heap[g9]? = some (.cells cs t (0, 0))) (hn : g9 ≠ g) (b0 b1 : Value) : ((W.setCell ⟨g, 0, none⟩ b0).setCell ⟨g, 1, none⟩ b1).heap[g9]? = some (.cells cs t (0, 0)) := (blk_far (blk_far h hn b0) hn b1)
theorem belg2 {w W : World} {g : Nat} (h : Below w.heap.size w W) (hg : w.heap.size ≤ g) (b0 b1 : Value) : Below w.heap.size w ((W.setCell ⟨g, 0, none⟩ b0).setCell ⟨g, 1, none⟩ b1) := (below_set (below_set h hg) hg)
theorem celg2 {W : World} {g : Nat} {t : TypeId} {a0 a1 : Value} (h : W.heap[g]? = some (.cells #[a0, a1] t (0, 0))) : (W.cell? ⟨g, 0, none⟩ = some a0 ∧ W.cell? ⟨g, 1, none⟩ = some a1) ∧ W.frozen? ⟨g, 0, none⟩ = false ∧ W.frozen? ⟨g, 1, none⟩ = false := ⟨⟨(blk_cell h 0).trans rfl, (blk_cell h 1).trans rfl⟩, blk_frozen h 0, blk_frozen h 1⟩
theorem putg3 {W : World} {g : Nat} {t : TypeId} {a0 a1 a2 : Value} (h : W.heap[g]? = some (.cells #[a0, a1, a2] t (0, 0))) (b0 b1 b2 : Value) : (((W.setCell ⟨g, 0, none⟩ b0).setCell ⟨g, 1, none⟩ b1).setCell ⟨g, 2, none⟩ b2).heap[g]? = some (.cells #[b0, b1, b2] t (0, 0)) := by simpa using (blk_set (blk_set (blk_set h 0 b0) 1 b1) 2 b2)
theorem farg3 {W : World} {g g9 : Nat} {cs : Array Value} {t : TypeId} (h : W.heap[g9]? = some (.cells cs t (0, 0))) (hn : g9 ≠ g) (b0 b1 b2 : Value) : (((W.setCell ⟨g, 0, none⟩ b0).setCell ⟨g, 1, none⟩ b1).setCell ⟨g, 2, none⟩ b2).heap[g9]? = some (.cells cs t (0, 0)) := (blk_far (blk_far (blk_far h hn b0) hn b1) hn b2)
theorem belg3 {w W : World} {g : Nat} (h : Below w.heap.size w W) (hg : w.heap.size ≤ g) (b0 b1 b2 : Value) : Below w.heap.size w (((W.setCell ⟨g, 0, none⟩ b0).setCell ⟨g, 1, none⟩ b1).setCell ⟨g, 2, none⟩ b2) := (below_set (below_set (below_set h hg) hg) hg)
theorem celg3 {W : World} {g : Nat} {t : TypeId} {a0 a1 a2 : Value} (h : W.heap[g]? = some (.cells #[a0, a1, a2] t (0, 0))) : (W.cell? ⟨g, 0, none⟩ = some a0 ∧ W.cell? ⟨g, 1, none⟩ = some a1 ∧ W.cell? ⟨g, 2, none⟩ = some a2) ∧ W.frozen? ⟨g, 0, none⟩ = false ∧ W.frozen? ⟨g, 1, none⟩ = false ∧ W.frozen? ⟨g, 2, none⟩ = false := ⟨⟨(blk_cell h 0).trans rfl, (blk_cell h 1).trans rfl, (blk_cell h 2).trans rfl⟩, blk_frozen h 0, blk_frozen h 1, blk_frozen h 2⟩
theorem putg5 {W : World} {g : Nat} {t : TypeId} {a0 a1 a2 a3 a4 : Value} (h : W.heap[g]? = some (.cells #[a0, a1, a2, a3, a4] t (0, 0))) (b0 b1 b2 b3 b4 : Value) : (((((W.setCell ⟨g, 0, none⟩ b0).setCell ⟨g, 1, none⟩ b1).setCell ⟨g, 2, none⟩ b2).setCell ⟨g, 3, none⟩ b3).setCell ⟨g, 4, none⟩ b4).heap[g]? = some (.cells #[b0, b1, b2, b3, b4] t (0, 0)) := by simpa using (blk_set (blk_set (blk_set (blk_set (blk_set h 0 b0) 1 b1) 2 b2) 3 b3) 4 b4)
theorem farg5 {W : World} {g g9 : Nat} {cs : Array Value} {t : TypeId} (h : W.heap[g9]? = some (.cells cs t (0, 0))) (hn : g9 ≠ g) (b0 b1 b2 b3 b4 : Value) : (((((W.setCell ⟨g, 0, none⟩ b0).setCell ⟨g, 1, none⟩ b1).setCell ⟨g, 2, none⟩ b2).setCell ⟨g, 3, none⟩ b3).setCell ⟨g, 4, none⟩ b4).heap[g9]? = some (.cells cs t (0, 0)) := (blk_far (blk_far (blk_far (blk_far (blk_far h hn b0) hn b1) hn b2) hn b3) hn b4)
theorem belg5 {w W : World} {g : Nat} (h : Below w.heap.size w W) (hg : w.heap.size ≤ g) (b0 b1 b2 b3 b4 : Value) : Below w.heap.size w (((((W.setCell ⟨g, 0, none⟩ b0).setCell ⟨g, 1, none⟩ b1).setCell ⟨g, 2, none⟩ b2).setCell ⟨g, 3, none⟩ b3).setCell ⟨g, 4, none⟩ b4) := (below_set (below_set (below_set (below_set (below_set h hg) hg) hg) hg) hg)
theorem celg5 {W : World} {g : Nat} {t : TypeId} {a0 a1 a2 a3 a4 : Value} (h : W.heap[g]? = some (.cells #[a0, a1, a2, a3, a4] t (0, 0))) : (W.cell? ⟨g, 0, none⟩ = some a0 ∧ W.cell? ⟨g, 1, none⟩ = some a1 ∧ W.cell? ⟨g, 2, none⟩ = some a2 ∧ W.cell? ⟨g, 3, none⟩ = some a3 ∧ W.cell? ⟨g, 4, none⟩ = some a4) ∧ W.frozen? ⟨g, 0, none⟩ = false ∧ W.frozen? ⟨g, 1, none⟩ = false ∧ W.frozen? ⟨g, 2, none⟩ = false ∧ W.frozen? ⟨g, 3, none⟩ = false ∧ W.frozen? ⟨g, 4, none⟩ = false := ⟨⟨(blk_cell h 0).trans rfl, (blk_cell h 1).trans rfl, (blk_cell h 2).trans rfl, (blk_cell h 3).trans rfl, (blk_cell h 4).trans rfl⟩, blk_frozen h 0, blk_frozen h 1, blk_frozen h 2, blk_frozen h 3, blk_frozen h 4⟩
def ALg (w w' : World) (cs : Array Value) (t : TypeId) (v : Value) : Prop := ∃ g, v = .pointer (some ⟨g, 0, none⟩) ∧ w.heap.size ≤ g ∧ w'.heap[g]? = some (.cells cs t (0, 0))
theorem ALg.below {w w' w1 : World} {cs : Array Value} {t : TypeId} {v : Value} (h : ALg w w' cs t v) (hb : Below w'.heap.size w' w1) : ALg w w1 cs t v := by
 obtain ⟨g, h1, h2, h3⟩ := h
 exact ⟨g, h1, h2, blk_below h3 hb⟩
theorem ALg.new {w w' w1 : World} {cs : Array Value} {t : TypeId} {g : Nat} (hg : g = w'.heap.size) (hB : Below w.heap.size w w') (hx : w1.heap[g]? = some (.cells cs t (0, 0))) : ALg w w1 cs t (.pointer (some ⟨g, 0, none⟩)) := ⟨g, rfl, by rw [hg]; exact hB.size, hx⟩
theorem ALg.ne {w w' : World} {cs : Array Value} {t : TypeId} {g : Nat} {v : Value} (h : ALg w w' cs t v) (hg : g = w'.heap.size) : v ≠ .pointer (some ⟨g, 0, none⟩) := by
 obtain ⟨g', rfl, _, h3⟩ := h
 have := blk_lt h3
 intro e
 injection e with e
 injection e with e
 injection e with e
 omega
theorem word_R {w : World} {b : Nat} {ok : Nat → Prop} {ad : Addr} {cap n : Nat} {ws : List ByteArray} (h : Kd.R Kd.string 9 w b ok (.slice (some ad) n cap) ws) (hn : n = ws.length) (i : Nat) (hi : i < ws.length) : w.cell? (ad.add i) = some (.string (wrd ws (i : Int))) := word_cell hn h i hi
theorem ne27_9 : ∀ q, q ∈ 9 :: (Kd.string).E → q ≠ 27 := by decide
theorem line_grid (k : Nat) (r c : Int) (vz vu vg : Value) (zs : List S60) (us : List S62) (gs : List S64) (s : ByteArray) (h : s.size ≠ 0) (h1 : bt s ((s.size : Int) - 1) = 10) (hl : s.size ≤ 100000) (ws : List ByteArray) (hw : oculusref07_Words.f k (cutLF s) = some ws) (n3 : ws.length = 3) (hg : (wrd ws 0).toList = [103, 114, 105, 100]) (m1 m2 : Int) (b1 b2 : Bool) (A1 : oculusref03_Number.f k (wrd ws 1) = some (m1, b1)) (A2 : oculusref03_Number.f k (wrd ws 2) = some (m2, b2)) (kd : Int) (hkd : Aside0 (kd = if b1 = true ∧ b2 = true then 1 else 0)) (gx : Nat) (cx : Array Value) (w0 w : World) (hV : Aside0 (IsV gx cx w0 w vz vu vg zs us gs)) :
  Calls Tryz.prog 15 #[.agg #[.int .i64 r, .int .i64 c, vz, vu, vg], .string s] w fun en w' => Lin7 gx cx w0 w' en kd (wrap64 (m1 + 1)) (wrap64 (m2 + 1)) zs us gs := by
 have HN := Aside0.mk n3
 have HG0 := Aside0.mk hg
 have HA1 := Aside0.mk A1
 have HA2 := Aside0.mk A2
 clear A1 A2 n3 hg
 have hu := Tryz.underlying27
 obtain ⟨Az, cz, hh⟩ := Kd.R_slice hV.out.hz
 subst hh
 obtain ⟨Au, cu, hh⟩ := Kd.R_slice hV.out.hu
 subst hh
 obtain ⟨Ag, cg, hh⟩ := Kd.R_slice hV.out.hr
 subst hh
 go_enter Tryz.func15, Tryz.ntmps15
 go_upto_region 1 with fail
 have hsz : (w.alloc (.cells #[.int .i64 r, .int .i64 c, .slice Az zs.length cz, .slice Au us.length cu, .slice Ag gs.length cg] 27)).heap.size = w.heap.size + 1 := Array.size_push ..
 have hb := below_step (new_below w (.cells #[.int .i64 r, .int .i64 c, .slice Az zs.length cz, .slice Au us.length cu, .slice Ag gs.length cg] 27)) (new_below (w.alloc (.cells #[.int .i64 r, .int .i64 c, .slice Az zs.length cz, .slice Au us.length cu, .slice Ag gs.length cg] 27)) (.cells #[.int .i64 0, .int .i64 0, .slice none 0 0, .slice none 0 0, .slice none 0 0] 27))
 have hw0 : w0.heap.size ≤ w.heap.size := below_size hV.out.hB
 have HI : Aside0 (IsP w0 ((w.alloc (.cells #[.int .i64 r, .int .i64 c, .slice Az zs.length cz, .slice Au us.length cu, .slice Ag gs.length cg] 27)).alloc (.cells #[.int .i64 0, .int .i64 0, .slice none 0 0, .slice none 0 0, .slice none 0 0] 27)) w.heap.size r c (.slice Az zs.length cz) (.slice Au us.length cu) (.slice Ag gs.length cg) zs us gs) := ⟨blk_alloc (blk_new w (.cells #[.int .i64 r, .int .i64 c, .slice Az zs.length cz, .slice Au us.length cu, .slice Ag gs.length cg] 27)) (.cells #[.int .i64 0, .int .i64 0, .slice none 0 0, .slice none 0 0, .slice none 0 0] 27), hw0, Kd.R_below hV.out.hz hb, Kd.R_below hV.out.hu hb, Kd.R_below hV.out.hr hb, below_step hV.out.hB hb⟩
 have HZ := Aside0.mk (blk_new (w.alloc (.cells #[.int .i64 r, .int .i64 c, .slice Az zs.length cz, .slice Au us.length cu, .slice Ag gs.length cg] 27)) (.cells #[.int .i64 0, .int .i64 0, .slice none 0 0, .slice none 0 0, .slice none 0 0] 27))
 rw [hsz] at HZ
 obtain ⟨g, hg⟩ : ∃ g, w.heap.size = g := ⟨_, rfl⟩
 obtain ⟨g4, hg4⟩ : ∃ g4, w.heap.size + 1 = g4 := ⟨_, rfl⟩
 have HG4 : Aside0 (w0.heap.size ≤ g4) := ⟨by omega⟩
 have HN4 : Aside0 (g4 ≠ g) := ⟨by omega⟩
 rw [hg4] at HZ
 rw [hg] at HI
 rw [hg4, hg]
 have HY := Aside0.mk (blk_below hV.out.hx hb)
 have hlx := blk_lt hV.out.hx
 have HNY : Aside0 (gx ≠ g) := ⟨by omega⟩
 have HNY4 : Aside0 (gx ≠ g4) := ⟨by omega⟩
 clear hlx hsz hb hw0 hg hg4 hV
 generalize (w.alloc (.cells #[.int .i64 r, .int .i64 c, .slice Az zs.length cz, .slice Au us.length cu, .slice Ag gs.length cg] 27)).alloc (.cells #[.int .i64 0, .int .i64 0, .slice none 0 0, .slice none 0 0, .slice none 0 0] 27) = w1 at HI HZ HY ⊢
 have d0 : ((s.size : Int) == 0) = false := beq_eq_false_iff_ne.mpr (by omega)
 have hp : 1 ≤ s.size := by omega
 have hq : (1 ≤ (s.size : Int) ∧ (s.size : Int) - 1 < (s.size : Int)) = True := eq_true (by omega)
 have d1 := last_b s hp (bne_eq_false_iff_eq.mpr h1)
 have HWF := Aside0.mk hw
 clear h h1 hw
 go_upto_region 3 with fail
 clear d0 d1
 go_upto_region 4 with (go_at_call 33; (with_reducible refine (oculusref07_Words.calls k (s.extract 0 (s.size - 1)) ws _ HWF.out).mono ?_); rintro e w5 ⟨v6, rfl, hR, hb⟩; obtain ⟨A6, cap6, rfl⟩ := Kd.R_slice hR; replace HI := Aside0.mk (HI.out.below hb); replace HZ := Aside0.mk (blk_below HZ.out hb); replace HY := Aside0.mk (blk_below HY.out hb); have HW := Aside0.mk hR; clear hR hb)
 clear HWF hp hl
 have n3 := HN.out
 have hg := HG0.out
 obtain ⟨ad, rfl, hat⟩ := words_at (words_of HW.out) (by omega)
 have e0 : w5.cell? ad = some (.string (wrd ws 0)) := hat 0 (by omega)
 have e1 : w5.cell? ⟨ad.block, ad.off + 1, none⟩ = some (.string (wrd ws 1)) := hat 1 (by omega)
 have e2 : w5.cell? ⟨ad.block, ad.off + 2, none⟩ = some (.string (wrd ws 2)) := hat 2 (by omega)
 rw [n3] at HW ⊢
 have d3 : (((3 : Nat) : Int) == 3) = true := rfl
 have d4 : (((3 : Nat) : Int) == 4) = false := rfl
 have dt0 : ((wrd ws 0).toList == [103, 114, 105, 100]) = true := beq_iff_eq.mpr hg
 have dt1 : ((wrd ws 0).toList == [122, 111, 110, 101]) = false := by rw [hg]; rfl
 have dt2 : ((wrd ws 0).toList == [117, 115, 101, 114]) = false := by rw [hg]; rfl
 have dt3 : ((wrd ws 0).toList == [103, 114, 97, 110, 116]) = false := by rw [hg]; rfl
 clear hat n3 hg
 go_upto_region 5 with fail
 have eA := e1
 have eB := e2
 clear e0 e1 e2
 go_cut [7, 8] (fun v7 v8 wx => ∃ g7 g8, v7 = .pointer (some ⟨g7, 0, none⟩) ∧ v8 = .pointer (some ⟨g8, 0, none⟩) ∧ Aside0 (wx.heap[g7]? = some (.cells #[.int .i64 m1, .bool b1] 91 (0, 0))) ∧ Aside0 (wx.heap[g8]? = some (.cells #[.int .i64 m2, .bool b2] 91 (0, 0))) ∧ Aside0 (Below w5.heap.size w5 wx))
 case first =>
  have hbd : Below w5.heap.size w5 w5.drew := pw_below_drewN (Below.refl _ w5) 1
  have hQ : w5.drew.cell? ⟨ad.block, ad.off + 1, none⟩ = some (.string (wrd ws 1)) ∧ w5.drew.cell? ⟨ad.block, ad.off + 2, none⟩ = some (.string (wrd ws 2)) := ⟨cell_below eA hbd, cell_below eB hbd⟩
  refine start_ (n := 12) (S := fun w' => w'.cell? ⟨ad.block, ad.off + 1, none⟩ = some (.string (wrd ws 1)) ∧ w'.cell? ⟨ad.block, ad.off + 2, none⟩ = some (.string (wrd ws 2))) (ds := [10, 11]) #[false, false, false, false, false, false, false, false, false, false, false, false] (by kernel_rfl) rfl rfl hQ (fun hHeld => ?_)
  clear hQ
  have HBD := Aside0.mk hbd
  clear hbd eA eB
  generalize w5.drew = w9 at HBD hHeld ⊢
  refine pure_ (i := 0) (N := some 41) (v := ?_) (a' := ?_) #[true, false, false, false, false, false, false, false, false, false, false, false] rfl rfl (by kernel_rfl) (fun _ _ _ h => h) (Or.inl ⟨by rfl, ?_⟩) ?_ ?_
  rotate_left
  ·intro w'; go_simp; with_reducible rfl
  rotate_left
  ·simp only [Act.put, List.setIfInBounds_toArray, List.set_cons_zero, List.set_cons_succ, i64_w, i32_w]; rfl
  refine pure_ (i := 1) (N := some 42) (v := ?_) (a' := ?_) #[true, true, false, false, false, false, false, false, false, false, false, false] rfl rfl (by kernel_rfl) (fun _ _ _ h => h) (Or.inl ⟨by rfl, ?_⟩) ?_ ?_
  rotate_left
  ·intro w'; go_simp; with_reducible rfl
  rotate_left
  ·simp only [Act.put, List.setIfInBounds_toArray, List.set_cons_zero, List.set_cons_succ, i64_w, i32_w]; rfl
  refine take_ (i := 2) (N := some 43) (v := ?_) (a' := ?_) #[true, true, true, false, false, false, false, false, false, false, false, false] rfl rfl (by kernel_rfl) (fun _ _ _ h => h) (Or.inl ⟨by rfl, ?_⟩) hHeld ?_ ?_
  rotate_left
  ·rintro w' ⟨s0_, s1_⟩; go_simp; with_reducible rfl
  rotate_left
  ·simp only [Act.put, List.setIfInBounds_toArray, List.set_cons_zero, List.set_cons_succ, i64_w, i32_w]; rfl
  refine pure_ (i := 4) (N := some 45) (v := ?_) (a' := ?_) #[true, true, true, false, true, false, false, false, false, false, false, false] rfl rfl (by kernel_rfl) (fun _ _ _ h => h) (Or.inl ⟨by rfl, ?_⟩) ?_ ?_
  rotate_left
  ·intro w'; go_simp; with_reducible rfl
  rotate_left
  ·simp only [Act.put, List.setIfInBounds_toArray, List.set_cons_zero, List.set_cons_succ, i64_w, i32_w]; rfl
  refine pure_ (i := 5) (N := some 46) (v := ?_) (a' := ?_) #[true, true, true, false, true, true, false, false, false, false, false, false] rfl rfl (by kernel_rfl) (fun _ _ _ h => h) (Or.inl ⟨by rfl, ?_⟩) ?_ ?_
  rotate_left
  ·intro w'; go_simp; with_reducible rfl
  rotate_left
  ·simp only [Act.put, List.setIfInBounds_toArray, List.set_cons_zero, List.set_cons_succ, i64_w, i32_w]; rfl
  refine take_ (i := 6) (N := some 47) (v := ?_) (a' := ?_) #[true, true, true, false, true, true, true, false, false, false, false, false] rfl rfl (by kernel_rfl) (fun _ _ _ h => h) (Or.inl ⟨by rfl, ?_⟩) hHeld ?_ ?_
  rotate_left
  ·rintro w' ⟨s0_, s1_⟩; go_simp; with_reducible rfl
  rotate_left
  ·simp only [Act.put, List.setIfInBounds_toArray, List.set_cons_zero, List.set_cons_succ, i64_w, i32_w]; rfl
  generalize haf : Act.mk _ _ = af
  refine free_ (base := [true, true, true, false, true, true, true, false, false, false, false, false]) (M := [3, 7, 8, 9]) 2 (by decide) (by kernel_rfl) (fun b a' w' => ∃ vA vB v7 v8, a' = (((af.put (some 44) vA).put (some 48) vB).put (some 7) v7).put (some 8) v8 ∧ (b 3 = true → vA = .agg #[.int .i64 m1, .bool b1]) ∧ (b 7 = true → vB = .agg #[.int .i64 m2, .bool b2]) ∧ (b 8 = true → ALg w9 w' #[.int .i64 0, .bool false] 91 v7) ∧ (b 9 = true → ALg w9 w' #[.int .i64 0, .bool false] 91 v8) ∧ (b 8 = true → b 9 = true → v7 ≠ v8) ∧ Below w9.heap.size w9 w') (fun _ _ _ hI => by obtain ⟨_, _, _, _, _, _, _, _, _, _, hB⟩ := hI; exact ⟨cell_below hHeld.1 hB, cell_below hHeld.2 hB⟩) ?_ ?_ 4 (fun _ => false) _ _ rfl ?_
  ·intro i hi b a' w' hb hI o ho K hK
   obtain ⟨vA, vB, v7, v8, ha, h3, h7, h8, h9, hne, hB⟩ := hI
   simp only [List.mem_cons, List.not_mem_nil, or_false] at hi
   subst haf
   simp only [Act.put, List.setIfInBounds_toArray, List.set_cons_zero, List.set_cons_succ] at ha
   subst ha
   rcases hi with rfl | rfl | rfl | rfl
   ·cases ho
    refine goes_ Tryz.func34 (by kernel_rfl) rfl #[.string (wrd ws 1)] (by rfl) rfl rfl (by (try simp only [List.map_toArray, List.map_cons, List.map_nil]); first | done | rfl) ?_
    with_reducible refine (oculusref03_Number.calls k (wrd ws 1) m1 b1 _ HA1.out).mono ?_
    rintro e w5 ⟨rfl, hb5⟩
    exact ⟨_, rfl, hK _ _ ⟨_, vB, v7, v8, by simp only [Act.put, List.setIfInBounds_toArray, List.set_cons_zero, List.set_cons_succ]; rfl, fun _ => rfl, fun h => h7 (by simpa using h), fun h => (h8 (by simpa using h)).below hb5, fun h => (h9 (by simpa using h)).below hb5, hne, below_then hB hB.size hb5⟩⟩
   ·cases ho
    refine goes_ Tryz.func34 (by kernel_rfl) rfl #[.string (wrd ws 2)] (by rfl) rfl rfl (by (try simp only [List.map_toArray, List.map_cons, List.map_nil]); first | done | rfl) ?_
    with_reducible refine (oculusref03_Number.calls k (wrd ws 2) m2 b2 _ HA2.out).mono ?_
    rintro e w5 ⟨rfl, hb5⟩
    exact ⟨_, rfl, hK _ _ ⟨vA, _, v7, v8, by simp only [Act.put, List.setIfInBounds_toArray, List.set_cons_zero, List.set_cons_succ]; rfl, fun h => h3 (by simpa using h), fun _ => rfl, fun h => (h8 (by simpa using h)).below hb5, fun h => (h9 (by simpa using h)).below hb5, hne, below_then hB hB.size hb5⟩⟩
   ·cases ho
    refine box_step ?hg (N := 7) ?hd (cs := #[.int .i64 0, .bool false]) (t := 91) ?hr ?_
    (case hd => rfl)
    (case hg => rfl)
    (case hr => first | (go_simp; done) | (go_simp; rfl))
    intro g hg wb hbox hb5
    refine hK _ _ ⟨vA, vB, _, v8, by simp only [Act.put, List.setIfInBounds_toArray, List.set_cons_zero, List.set_cons_succ]; rfl, fun h => h3 (by simpa using h), fun h => h7 (by simpa using h), fun _ => ALg.new hg hB hbox, fun h => (h9 (by simpa using h)).below hb5, fun _ h => ((h9 (by simpa using h)).ne hg).symm, below_then hB hB.size hb5⟩
   ·cases ho
    refine box_step ?hg (N := 8) ?hd (cs := #[.int .i64 0, .bool false]) (t := 91) ?hr ?_
    (case hd => rfl)
    (case hg => rfl)
    (case hr => first | (go_simp; done) | (go_simp; rfl))
    intro g hg wb hbox hb5
    refine hK _ _ ⟨vA, vB, v7, _, by simp only [Act.put, List.setIfInBounds_toArray, List.set_cons_zero, List.set_cons_succ]; rfl, fun h => h3 (by simpa using h), fun h => h7 (by simpa using h), fun h => (h8 (by simpa using h)).below hb5, fun _ => ALg.new hg hB hbox, fun h _ => (h8 (by simpa using h)).ne hg, below_then hB hB.size hb5⟩
  ·intro b a' w' hall hI
   obtain ⟨vA, vB, v7, v8, ha, h3, h7, h8, h9, hne, hB⟩ := hI
   obtain rfl := h3 (hall 3 (by simp))
   obtain rfl := h7 (hall 7 (by simp))
   have hn := hne (hall 8 (by simp)) (hall 9 (by simp))
   obtain ⟨g7, rfl, k7, m7⟩ := h8 (hall 8 (by simp))
   obtain ⟨g8, rfl, k8, m8⟩ := h9 (hall 9 (by simp))
   subst haf
   simp only [Act.put, List.setIfInBounds_toArray, List.set_cons_zero, List.set_cons_succ] at ha
   subst ha
   clear h3 h7 h8 h9 hne hall
   have hg : g7 ≠ g8 := fun e => hn (by rw [e])
   have hg' := Ne.symm hg
   obtain ⟨⟨a0_, a1_⟩, fa0_, fa1_⟩ := celg2 m7
   obtain ⟨⟨b0_, b1_⟩, fb0_, fb1_⟩ := celg2 m8
   have M7 := Aside0.mk m7
   have M8 := Aside0.mk m8
   have MB := Aside0.mk (below_step HBD.out hB)
   have MG := Aside0.mk (And.intro (Nat.le_trans (below_size HBD.out) k7) (Nat.le_trans (below_size HBD.out) k8))
   clear m7 m8 hB k7 k8 hn
   refine last_ (i := 10) (N := none) #[true, true, true, true, true, true, true, true, true, true, true, false] rfl rfl (by kernel_rfl) (by decide) (fun K hK => ?_)
   refine skip_ (w1 := ?_) (by rfl) rfl ?_ ?_
   rotate_left
   ·go_simp; rfl
   refine hK.out _ _ ?_
   clear hK K
   refine last_ (i := 11) (N := none) #[true, true, true, true, true, true, true, true, true, true, true, true] rfl rfl (by kernel_rfl) (by decide) (fun K hK => ?_)
   refine skip_ (w1 := ?_) (by rfl) rfl ?_ ?_
   rotate_left
   ·go_simp; rfl
   refine hK.out _ _ ?_
   clear hK K
   refine done_ (by kernel_rfl) ?_
   go_wp2_with fail
   go_meet
   exact ⟨g7, g8, rfl, rfl, ⟨farg2 (putg2 M7.out _ _) hg _ _⟩, ⟨putg2 (farg2 M8.out hg' _ _) _ _⟩, ⟨belg2 (belg2 MB.out MG.out.1 _ _) MG.out.2 _ _⟩⟩
  ·exact ⟨_, _, _, _, by subst haf; simp only [Act.put, List.setIfInBounds_toArray, List.set_cons_zero, List.set_cons_succ]; rfl, by simp, by simp, by simp, by simp, by simp, Below.refl _ _⟩
 case rest =>
  obtain ⟨g7, g8, rfl, rfl, H7, H8, HX⟩ := hcut
  replace HI := Aside0.mk (HI.out.below HX.out)
  replace HZ := Aside0.mk (blk_below HZ.out HX.out); replace HY := Aside0.mk (blk_below HY.out HX.out)
  replace HW := Aside0.mk (Kd.R_below HW.out HX.out)
  have n7 : g7 ≠ g := blk_other H7.out HI.out.hP (by decide)
  have n8 : g8 ≠ g := blk_other H8.out HI.out.hP (by decide)
  clear eA eB HX
  obtain ⟨⟨x0, x1⟩, _⟩ := celg2 H7.out
  obtain ⟨y0, y1, y2, y3, y4⟩ := cells5_ HI.out.hP
  have f0 := blk_frozen HI.out.hP 0
  go_upto_region 7 with fail
  clear x0 x1 y0 y1 y2 y3 y4 f0
  replace H7 := Aside0.mk (blk_far (p := ⟨g, 0, none⟩) H7.out n7 (.int .i64 (wrap64 (m1 + 1))))
  replace H8 := Aside0.mk (blk_far (p := ⟨g, 0, none⟩) H8.out n8 (.int .i64 (wrap64 (m1 + 1))))
  replace HZ := Aside0.mk (blk_far (p := ⟨g, 0, none⟩) HZ.out HN4.out (.int .i64 (wrap64 (m1 + 1)))); replace HY := Aside0.mk (blk_far (p := ⟨g, 0, none⟩) HY.out HNY.out (.int .i64 (wrap64 (m1 + 1))))
  have HP7 := Aside0.mk (blk_set HI.out.hP 0 (.int .i64 (wrap64 (m1 + 1))))
  replace HW := Aside0.mk (Kd.R_set HW.out HI.out.hP ne27_9 0 (.int .i64 (wrap64 (m1 + 1))))
  obtain ⟨w7, e7⟩ : ∃ w7, w7 = wc.setCell ⟨g, 0, none⟩ (.int .i64 (wrap64 (m1 + 1))) := ⟨_, rfl⟩
  rw [← e7] at H7 H8 HZ HY HP7 HW ⊢
  have E7 := Aside0.mk e7
  clear e7
  obtain ⟨⟨x0, x1⟩, _⟩ := celg2 H8.out
  have y1 : w7.cell? ⟨g, 1, none⟩ = some (.int .i64 c) := (blk_cell HP7.out 1).trans rfl
  have f1 := blk_frozen HP7.out 1
  go_upto_region 8 with fail
  clear x0 x1 y1 f1
  replace H7 := Aside0.mk (blk_far (p := ⟨g, 1, none⟩) H7.out n7 (.int .i64 (wrap64 (m2 + 1))))
  replace H8 := Aside0.mk (blk_far (p := ⟨g, 1, none⟩) H8.out n8 (.int .i64 (wrap64 (m2 + 1))))
  replace HZ := Aside0.mk (blk_far (p := ⟨g, 1, none⟩) HZ.out HN4.out (.int .i64 (wrap64 (m2 + 1)))); replace HY := Aside0.mk (blk_far (p := ⟨g, 1, none⟩) HY.out HNY.out (.int .i64 (wrap64 (m2 + 1))))
  replace HW := Aside0.mk (Kd.R_set HW.out HP7.out ne27_9 1 (.int .i64 (wrap64 (m2 + 1))))
  have hi := HI.out.grid (wrap64 (m1 + 1)) (wrap64 (m2 + 1))
  rw [← E7.out] at hi
  replace HI := Aside0.mk hi
  clear hi E7 HP7 n7 n8
  generalize w7.setCell ⟨g, 1, none⟩ (.int .i64 (wrap64 (m2 + 1))) = w8 at H7 H8 HZ HY HW HI ⊢
  obtain ⟨⟨x0, x1⟩, _⟩ := celg2 H7.out
  obtain ⟨⟨v0, v1⟩, _⟩ := celg2 H8.out
  have e0 : w8.cell? ad = some (.string (wrd ws 0)) := word_R HW.out HN.out.symm 0 (by have := HN.out; omega)
  clear HW HN H7 H8
  by_cases hb : b1 = true ∧ b2 = true
  ·have h9 := hkd.out
   rw [if_pos hb] at h9
   subst h9
   obtain ⟨rfl, rfl⟩ := hb
   obtain ⟨y0, y1, y2, y3, y4⟩ := cells5_ HI.out.hP
   obtain ⟨z0, z1, z2, z3, z4⟩ := cells5_ HZ.out
   have f0 := blk_frozen HZ.out 0
   have f1 := blk_frozen HZ.out 1
   have f2 := blk_frozen HZ.out 2
   have f3 := blk_frozen HZ.out 3
   have f4 := blk_frozen HZ.out 4
   go_wp2
   refine bodyPost_ret (results_ct rfl _ _ g4 27 _ (0, 0) _ rfl (put5_ HZ.out _ _ _ _ _) hu rfl (by kernel_rfl)) rfl ?_
   exact ⟨_, _, _, rfl, lin_end HI.out HZ.out HG4.out HY.out HNY4.out _ _ _ _ _⟩
  ·have h9 := hkd.out
   rw [if_neg hb] at h9
   subst h9
   have d9 : (b1 && b2) = false := by revert hb; cases b1 <;> cases b2 <;> simp
   clear hb
   cases b1
   all_goals (try (cases b2))
   all_goals (try (simp at d9; done))
   all_goals
    obtain ⟨y0, y1, y2, y3, y4⟩ := cells5_ HI.out.hP
    obtain ⟨z0, z1, z2, z3, z4⟩ := cells5_ HZ.out
    have f0 := blk_frozen HZ.out 0
    have f1 := blk_frozen HZ.out 1
    have f2 := blk_frozen HZ.out 2
    have f3 := blk_frozen HZ.out 3
    have f4 := blk_frozen HZ.out 4
    go_wp2
    refine bodyPost_ret (results_ct rfl _ _ g4 27 _ (0, 0) _ rfl (put5_ HZ.out _ _ _ _ _) hu rfl (by kernel_rfl)) rfl ?_
    exact ⟨_, _, _, rfl, lin_end HI.out HZ.out HG4.out HY.out HNY4.out _ _ _ _ _⟩
end Go.Proofs.YtbboanfggaknjaaGreatDoor.X
/- The reference's reading of one line: the a zone, walked by hand. -/
set_option linter.unusedVariables false
set_option linter.unusedSimpArgs false
namespace Go.Proofs.YtbboanfggaknjaaGreatDoor.X
open Go.RowKit Go.Proofs.YtbboanfggaknjaaGreatDoorW.PrintWords Go.Proofs.YtbboanfggaknjaaGreatDoorW.PrintLast Go.Proofs.YtbboanfggaknjaaGreatDoorW.PrintMore
theorem line_zone (k : Nat) (r c : Int) (vz vu vg : Value) (zs : List S60) (us : List S62) (gs : List S64) (s : ByteArray) (h : s.size ≠ 0) (h1 : bt s ((s.size : Int) - 1) = 10) (hl : s.size ≤ 100000) (ws : List ByteArray) (hw : oculusref07_Words.f k (cutLF s) = some ws) (n3 : ws.length = 3) (hg : (wrd ws 0).toList = [122, 111, 110, 101]) (s1 s2 s3 s4 l1 l2 : Int) (b1 b2 : Bool) (A1 : oculusref04_Parse.f k (wrd ws 1) = some (s1, s2, s3, s4, b1)) (A2 : oculusref02_Parse.f k (wrd ws 2) = some (l1, l2, b2)) (hlen : zs.length ≤ 100000) (kd : Int) (hkd : Aside0 (kd = if b1 = true ∧ b2 = true then 2 else 0)) (gx : Nat) (cx : Array Value) (w0 w : World) (hV : Aside0 (IsV gx cx w0 w vz vu vg zs us gs)) :
  Calls Tryz.prog 15 #[.agg #[.int .i64 r, .int .i64 c, vz, vu, vg], .string s] w fun en w' => Lin7 gx cx w0 w' en kd r c (zs ++ [⟨⟨⟨s1, s2⟩, ⟨s3, s4⟩⟩, ⟨l1, l2⟩⟩]) us gs := by
 have HN := Aside0.mk n3
 have HG0 := Aside0.mk hg
 have HA1 := Aside0.mk A1
 have HA2 := Aside0.mk A2
 have HLEN := Aside0.mk hlen
 clear A1 A2 n3 hg hlen
 have hu55 := Tryz.underlying55
 have hu58 := Tryz.underlying58
 have hu60 := Tryz.underlying60
 have hu := Tryz.underlying27
 obtain ⟨Az, cz, hh⟩ := Kd.R_slice hV.out.hz
 subst hh
 obtain ⟨Au, cu, hh⟩ := Kd.R_slice hV.out.hu
 subst hh
 obtain ⟨Ag, cg, hh⟩ := Kd.R_slice hV.out.hr
 subst hh
 go_enter Tryz.func15, Tryz.ntmps15
 go_upto_region 1 with fail
 have hsz : (w.alloc (.cells #[.int .i64 r, .int .i64 c, .slice Az zs.length cz, .slice Au us.length cu, .slice Ag gs.length cg] 27)).heap.size = w.heap.size + 1 := Array.size_push ..
 have hb := below_step (new_below w (.cells #[.int .i64 r, .int .i64 c, .slice Az zs.length cz, .slice Au us.length cu, .slice Ag gs.length cg] 27)) (new_below (w.alloc (.cells #[.int .i64 r, .int .i64 c, .slice Az zs.length cz, .slice Au us.length cu, .slice Ag gs.length cg] 27)) (.cells #[.int .i64 0, .int .i64 0, .slice none 0 0, .slice none 0 0, .slice none 0 0] 27))
 have hw0 : w0.heap.size ≤ w.heap.size := below_size hV.out.hB
 have HI : Aside0 (IsP w0 ((w.alloc (.cells #[.int .i64 r, .int .i64 c, .slice Az zs.length cz, .slice Au us.length cu, .slice Ag gs.length cg] 27)).alloc (.cells #[.int .i64 0, .int .i64 0, .slice none 0 0, .slice none 0 0, .slice none 0 0] 27)) w.heap.size r c (.slice Az zs.length cz) (.slice Au us.length cu) (.slice Ag gs.length cg) zs us gs) := ⟨blk_alloc (blk_new w (.cells #[.int .i64 r, .int .i64 c, .slice Az zs.length cz, .slice Au us.length cu, .slice Ag gs.length cg] 27)) (.cells #[.int .i64 0, .int .i64 0, .slice none 0 0, .slice none 0 0, .slice none 0 0] 27), hw0, Kd.R_below hV.out.hz hb, Kd.R_below hV.out.hu hb, Kd.R_below hV.out.hr hb, below_step hV.out.hB hb⟩
 have HZ := Aside0.mk (blk_new (w.alloc (.cells #[.int .i64 r, .int .i64 c, .slice Az zs.length cz, .slice Au us.length cu, .slice Ag gs.length cg] 27)) (.cells #[.int .i64 0, .int .i64 0, .slice none 0 0, .slice none 0 0, .slice none 0 0] 27))
 rw [hsz] at HZ
 obtain ⟨g, hg⟩ : ∃ g, w.heap.size = g := ⟨_, rfl⟩
 obtain ⟨g4, hg4⟩ : ∃ g4, w.heap.size + 1 = g4 := ⟨_, rfl⟩
 have HG4 : Aside0 (w0.heap.size ≤ g4) := ⟨by omega⟩
 have HN4 : Aside0 (g4 ≠ g) := ⟨by omega⟩
 rw [hg4] at HZ
 rw [hg] at HI
 rw [hg4, hg]
 have HY := Aside0.mk (blk_below hV.out.hx hb)
 have hlx := blk_lt hV.out.hx
 have HNY : Aside0 (gx ≠ g) := ⟨by omega⟩
 have HNY4 : Aside0 (gx ≠ g4) := ⟨by omega⟩
 clear hlx hsz hb hw0 hg hg4 hV
 generalize (w.alloc (.cells #[.int .i64 r, .int .i64 c, .slice Az zs.length cz, .slice Au us.length cu, .slice Ag gs.length cg] 27)).alloc (.cells #[.int .i64 0, .int .i64 0, .slice none 0 0, .slice none 0 0, .slice none 0 0] 27) = w1 at HI HZ HY ⊢
 have d0 : ((s.size : Int) == 0) = false := beq_eq_false_iff_ne.mpr (by omega)
 have hp : 1 ≤ s.size := by omega
 have hq : (1 ≤ (s.size : Int) ∧ (s.size : Int) - 1 < (s.size : Int)) = True := eq_true (by omega)
 have d1 := last_b s hp (bne_eq_false_iff_eq.mpr h1)
 have HWF := Aside0.mk hw
 clear h h1 hw
 go_upto_region 3 with fail
 clear d0 d1
 go_upto_region 4 with (go_at_call 33; (with_reducible refine (oculusref07_Words.calls k (s.extract 0 (s.size - 1)) ws _ HWF.out).mono ?_); rintro e w5 ⟨v6, rfl, hR, hb⟩; obtain ⟨A6, cap6, rfl⟩ := Kd.R_slice hR; replace HI := Aside0.mk (HI.out.below hb); replace HZ := Aside0.mk (blk_below HZ.out hb); replace HY := Aside0.mk (blk_below HY.out hb); have HW := Aside0.mk hR; clear hR hb)
 clear HWF hp hl
 have n3 := HN.out
 have hg := HG0.out
 obtain ⟨ad, rfl, hat⟩ := words_at (words_of HW.out) (by omega)
 have e0 : w5.cell? ad = some (.string (wrd ws 0)) := hat 0 (by omega)
 have e1 : w5.cell? ⟨ad.block, ad.off + 1, none⟩ = some (.string (wrd ws 1)) := hat 1 (by omega)
 have e2 : w5.cell? ⟨ad.block, ad.off + 2, none⟩ = some (.string (wrd ws 2)) := hat 2 (by omega)
 rw [n3] at HW ⊢
 have d3 : (((3 : Nat) : Int) == 3) = true := rfl
 have d4 : (((3 : Nat) : Int) == 4) = false := rfl
 have dt0 : ((wrd ws 0).toList == [103, 114, 105, 100]) = false := by rw [hg]; rfl
 have dt1 : ((wrd ws 0).toList == [122, 111, 110, 101]) = true := beq_iff_eq.mpr hg
 have dt2 : ((wrd ws 0).toList == [117, 115, 101, 114]) = false := by rw [hg]; rfl
 have dt3 : ((wrd ws 0).toList == [103, 114, 97, 110, 116]) = false := by rw [hg]; rfl
 clear hat n3 hg
 go_upto_region 11 with fail
 have eA := e1
 have eB := e2
 clear e0 e1 e2
 go_cut [9, 10] (fun v7 v8 wx => ∃ g7 g8, v7 = .pointer (some ⟨g7, 0, none⟩) ∧ v8 = .pointer (some ⟨g8, 0, none⟩) ∧ Aside0 (wx.heap[g7]? = some (.cells #[.int .i64 s1, .int .i64 s2, .int .i64 s3, .int .i64 s4, .bool b1] 94 (0, 0))) ∧ Aside0 (wx.heap[g8]? = some (.cells #[.int .i64 l1, .int .u64 l2, .bool b2] 97 (0, 0))) ∧ Aside0 (Below w5.heap.size w5 wx))
 case first =>
  have hbd : Below w5.heap.size w5 w5.drew := pw_below_drewN (Below.refl _ w5) 1
  have hQ : w5.drew.cell? ⟨ad.block, ad.off + 1, none⟩ = some (.string (wrd ws 1)) ∧ w5.drew.cell? ⟨ad.block, ad.off + 2, none⟩ = some (.string (wrd ws 2)) := ⟨cell_below eA hbd, cell_below eB hbd⟩
  refine start_ (n := 12) (S := fun w' => w'.cell? ⟨ad.block, ad.off + 1, none⟩ = some (.string (wrd ws 1)) ∧ w'.cell? ⟨ad.block, ad.off + 2, none⟩ = some (.string (wrd ws 2))) (ds := [10, 11]) #[false, false, false, false, false, false, false, false, false, false, false, false] (by kernel_rfl) rfl rfl hQ (fun hHeld => ?_)
  clear hQ
  have HBD := Aside0.mk hbd
  clear hbd eA eB
  generalize w5.drew = w9 at HBD hHeld ⊢
  refine pure_ (i := 0) (N := some 73) (v := ?_) (a' := ?_) #[true, false, false, false, false, false, false, false, false, false, false, false] rfl rfl (by kernel_rfl) (fun _ _ _ h => h) (Or.inl ⟨by rfl, ?_⟩) ?_ ?_
  rotate_left
  ·intro w'; go_simp; with_reducible rfl
  rotate_left
  ·simp only [Act.put, List.setIfInBounds_toArray, List.set_cons_zero, List.set_cons_succ, i64_w, i32_w]; rfl
  refine pure_ (i := 1) (N := some 74) (v := ?_) (a' := ?_) #[true, true, false, false, false, false, false, false, false, false, false, false] rfl rfl (by kernel_rfl) (fun _ _ _ h => h) (Or.inl ⟨by rfl, ?_⟩) ?_ ?_
  rotate_left
  ·intro w'; go_simp; with_reducible rfl
  rotate_left
  ·simp only [Act.put, List.setIfInBounds_toArray, List.set_cons_zero, List.set_cons_succ, i64_w, i32_w]; rfl
  refine take_ (i := 2) (N := some 75) (v := ?_) (a' := ?_) #[true, true, true, false, false, false, false, false, false, false, false, false] rfl rfl (by kernel_rfl) (fun _ _ _ h => h) (Or.inl ⟨by rfl, ?_⟩) hHeld ?_ ?_
  rotate_left
  ·rintro w' ⟨s0_, s1_⟩; go_simp; with_reducible rfl
  rotate_left
  ·simp only [Act.put, List.setIfInBounds_toArray, List.set_cons_zero, List.set_cons_succ, i64_w, i32_w]; rfl
  refine pure_ (i := 4) (N := some 77) (v := ?_) (a' := ?_) #[true, true, true, false, true, false, false, false, false, false, false, false] rfl rfl (by kernel_rfl) (fun _ _ _ h => h) (Or.inl ⟨by rfl, ?_⟩) ?_ ?_
  rotate_left
  ·intro w'; go_simp; with_reducible rfl
  rotate_left
  ·simp only [Act.put, List.setIfInBounds_toArray, List.set_cons_zero, List.set_cons_succ, i64_w, i32_w]; rfl
  refine pure_ (i := 5) (N := some 78) (v := ?_) (a' := ?_) #[true, true, true, false, true, true, false, false, false, false, false, false] rfl rfl (by kernel_rfl) (fun _ _ _ h => h) (Or.inl ⟨by rfl, ?_⟩) ?_ ?_
  rotate_left
  ·intro w'; go_simp; with_reducible rfl
  rotate_left
  ·simp only [Act.put, List.setIfInBounds_toArray, List.set_cons_zero, List.set_cons_succ, i64_w, i32_w]; rfl
  refine take_ (i := 6) (N := some 79) (v := ?_) (a' := ?_) #[true, true, true, false, true, true, true, false, false, false, false, false] rfl rfl (by kernel_rfl) (fun _ _ _ h => h) (Or.inl ⟨by rfl, ?_⟩) hHeld ?_ ?_
  rotate_left
  ·rintro w' ⟨s0_, s1_⟩; go_simp; with_reducible rfl
  rotate_left
  ·simp only [Act.put, List.setIfInBounds_toArray, List.set_cons_zero, List.set_cons_succ, i64_w, i32_w]; rfl
  generalize haf : Act.mk _ _ = af
  refine free_ (base := [true, true, true, false, true, true, true, false, false, false, false, false]) (M := [3, 7, 8, 9]) 2 (by decide) (by kernel_rfl) (fun b a' w' => ∃ vA vB v7 v8, a' = (((af.put (some 76) vA).put (some 80) vB).put (some 9) v7).put (some 10) v8 ∧ (b 3 = true → vA = .agg #[.int .i64 s1, .int .i64 s2, .int .i64 s3, .int .i64 s4, .bool b1]) ∧ (b 7 = true → vB = .agg #[.int .i64 l1, .int .u64 l2, .bool b2]) ∧ (b 8 = true → ALg w9 w' #[.int .i64 0, .int .i64 0, .int .i64 0, .int .i64 0, .bool false] 94 v7) ∧ (b 9 = true → ALg w9 w' #[.int .i64 0, .int .u64 0, .bool false] 97 v8) ∧ (b 8 = true → b 9 = true → v7 ≠ v8) ∧ Below w9.heap.size w9 w') (fun _ _ _ hI => by obtain ⟨_, _, _, _, _, _, _, _, _, _, hB⟩ := hI; exact ⟨cell_below hHeld.1 hB, cell_below hHeld.2 hB⟩) ?_ ?_ 4 (fun _ => false) _ _ rfl ?_
  ·intro i hi b a' w' hb hI o ho K hK
   obtain ⟨vA, vB, v7, v8, ha, h3, h7, h8, h9, hne, hB⟩ := hI
   simp only [List.mem_cons, List.not_mem_nil, or_false] at hi
   subst haf
   simp only [Act.put, List.setIfInBounds_toArray, List.set_cons_zero, List.set_cons_succ] at ha
   subst ha
   rcases hi with rfl | rfl | rfl | rfl
   ·cases ho
    refine goes_ Tryz.func35 (by kernel_rfl) rfl #[.string (wrd ws 1)] (by rfl) rfl rfl (by (try simp only [List.map_toArray, List.map_cons, List.map_nil]); first | done | rfl) ?_
    with_reducible refine (oculusref04_Parse.calls k (wrd ws 1) s1 s2 s3 s4 b1 _ HA1.out).mono ?_
    rintro e w5 ⟨rfl, hb5⟩
    exact ⟨_, rfl, hK _ _ ⟨_, vB, v7, v8, by simp only [Act.put, List.setIfInBounds_toArray, List.set_cons_zero, List.set_cons_succ]; rfl, fun _ => rfl, fun h => h7 (by simpa using h), fun h => (h8 (by simpa using h)).below hb5, fun h => (h9 (by simpa using h)).below hb5, hne, below_then hB hB.size hb5⟩⟩
   ·cases ho
    refine goes_ Tryz.func36 (by kernel_rfl) rfl #[.string (wrd ws 2)] (by rfl) rfl rfl (by (try simp only [List.map_toArray, List.map_cons, List.map_nil]); first | done | rfl) ?_
    with_reducible refine (oculusref02_Parse.calls k (wrd ws 2) l1 l2 b2 _ HA2.out).mono ?_
    rintro e w5 ⟨rfl, hb5⟩
    exact ⟨_, rfl, hK _ _ ⟨vA, _, v7, v8, by simp only [Act.put, List.setIfInBounds_toArray, List.set_cons_zero, List.set_cons_succ]; rfl, fun h => h3 (by simpa using h), fun _ => rfl, fun h => (h8 (by simpa using h)).below hb5, fun h => (h9 (by simpa using h)).below hb5, hne, below_then hB hB.size hb5⟩⟩
   ·cases ho
    refine box_step ?hg (N := 9) ?hd (cs := #[.int .i64 0, .int .i64 0, .int .i64 0, .int .i64 0, .bool false]) (t := 94) ?hr ?_
    (case hd => rfl)
    (case hg => rfl)
    (case hr => first | (go_simp; done) | (go_simp; rfl))
    intro g hg wb hbox hb5
    refine hK _ _ ⟨vA, vB, _, v8, by simp only [Act.put, List.setIfInBounds_toArray, List.set_cons_zero, List.set_cons_succ]; rfl, fun h => h3 (by simpa using h), fun h => h7 (by simpa using h), fun _ => ALg.new hg hB hbox, fun h => (h9 (by simpa using h)).below hb5, fun _ h => ((h9 (by simpa using h)).ne hg).symm, below_then hB hB.size hb5⟩
   ·cases ho
    refine box_step ?hg (N := 10) ?hd (cs := #[.int .i64 0, .int .u64 0, .bool false]) (t := 97) ?hr ?_
    (case hd => rfl)
    (case hg => rfl)
    (case hr => first | (go_simp; done) | (go_simp; rfl))
    intro g hg wb hbox hb5
    refine hK _ _ ⟨vA, vB, v7, _, by simp only [Act.put, List.setIfInBounds_toArray, List.set_cons_zero, List.set_cons_succ]; rfl, fun h => h3 (by simpa using h), fun h => h7 (by simpa using h), fun h => (h8 (by simpa using h)).below hb5, fun _ => ALg.new hg hB hbox, fun h _ => (h8 (by simpa using h)).ne hg, below_then hB hB.size hb5⟩
  ·intro b a' w' hall hI
   obtain ⟨vA, vB, v7, v8, ha, h3, h7, h8, h9, hne, hB⟩ := hI
   obtain rfl := h3 (hall 3 (by simp))
   obtain rfl := h7 (hall 7 (by simp))
   have hn := hne (hall 8 (by simp)) (hall 9 (by simp))
   obtain ⟨g7, rfl, k7, m7⟩ := h8 (hall 8 (by simp))
   obtain ⟨g8, rfl, k8, m8⟩ := h9 (hall 9 (by simp))
   subst haf
   simp only [Act.put, List.setIfInBounds_toArray, List.set_cons_zero, List.set_cons_succ] at ha
   subst ha
   clear h3 h7 h8 h9 hne hall
   have hg : g7 ≠ g8 := fun e => hn (by rw [e])
   have hg' := Ne.symm hg
   obtain ⟨⟨a0_, a1_, a2_, a3_, a4_⟩, fa0_, fa1_, fa2_, fa3_, fa4_⟩ := celg5 m7
   obtain ⟨⟨b0_, b1_, b2_⟩, fb0_, fb1_, fb2_⟩ := celg3 m8
   have M7 := Aside0.mk m7
   have M8 := Aside0.mk m8
   have MB := Aside0.mk (below_step HBD.out hB)
   have MG := Aside0.mk (And.intro (Nat.le_trans (below_size HBD.out) k7) (Nat.le_trans (below_size HBD.out) k8))
   clear m7 m8 hB k7 k8 hn
   refine last_ (i := 10) (N := none) #[true, true, true, true, true, true, true, true, true, true, true, false] rfl rfl (by kernel_rfl) (by decide) (fun K hK => ?_)
   refine skip_ (w1 := ?_) (by rfl) rfl ?_ ?_
   rotate_left
   ·go_simp; rfl
   refine hK.out _ _ ?_
   clear hK K
   refine last_ (i := 11) (N := none) #[true, true, true, true, true, true, true, true, true, true, true, true] rfl rfl (by kernel_rfl) (by decide) (fun K hK => ?_)
   refine skip_ (w1 := ?_) (by rfl) rfl ?_ ?_
   rotate_left
   ·go_simp; rfl
   refine hK.out _ _ ?_
   clear hK K
   refine done_ (by kernel_rfl) ?_
   go_wp2_with fail
   go_meet
   exact ⟨g7, g8, rfl, rfl, ⟨farg3 (putg5 M7.out _ _ _ _ _) hg _ _ _⟩, ⟨putg3 (farg5 M8.out hg' _ _ _ _ _) _ _ _⟩, ⟨belg3 (belg5 MB.out MG.out.1 _ _ _ _ _) MG.out.2 _ _ _⟩⟩
  ·exact ⟨_, _, _, _, by subst haf; simp only [Act.put, List.setIfInBounds_toArray, List.set_cons_zero, List.set_cons_succ]; rfl, by simp, by simp, by simp, by simp, by simp, Below.refl _ _⟩
 case rest =>
  obtain ⟨g7, g8, rfl, rfl, H7, H8, HX⟩ := hcut
  replace HI := Aside0.mk (HI.out.below HX.out)
  replace HZ := Aside0.mk (blk_below HZ.out HX.out); replace HY := Aside0.mk (blk_below HY.out HX.out)
  replace HW := Aside0.mk (Kd.R_below HW.out HX.out)
  have n7 : g7 ≠ g := blk_other H7.out HI.out.hP (by decide)
  have n8 : g8 ≠ g := blk_other H8.out HI.out.hP (by decide)
  clear eA eB HX
  obtain ⟨⟨x0, x1, x2, x3, x4⟩, _⟩ := celg5 H7.out
  obtain ⟨⟨v0, v1, v2⟩, _⟩ := celg3 H8.out
  have y2 : wc.cell? ⟨g, 2, none⟩ = some (.slice Az zs.length cz) := (blk_cell HI.out.hP 2).trans rfl
  go_upto_region 13 with ((with_reducible refine gate_builtin (b := .append) (xs := #[.tmp 82, .tmp 88]) rfl ?_); at_builtin; refine Kd.R_append k60 (w0 := w0) w0.heap.size rfl (.tmp 82) (.tmp 88) 23 60 (.agg #[.int .i64 0, .int .i64 0, .int .i64 0, .int .i64 0, .int .i64 0, .int .u64 0]) 48 rfl Tryz.underlying23 info61 rfl (by decide) (by omega) (.slice Az zs.length cz) zs ⟨⟨⟨s1, s2⟩, ⟨s3, s4⟩⟩, ⟨l1, l2⟩⟩ [.int .i64 s1, .int .i64 s2, .int .i64 s3, .int .i64 s4, .int .i64 l1, .int .u64 l2] (fun _ => True) (fun _ => False) rfl rfl (k60_mkM _ _ _ _) (fun _ hk => hk.elim) (fun _ _ => trivial) HI.out.hz HI.out.hB (below_size HI.out.hB) (by have := HLEN.out; omega) ?_; intro v9 w10 ho hb hg hat; obtain ⟨Av, cv, rfl⟩ := Kd.R_slice ho; have p1 := P_grown HI.out.hP HI.out.hz (by decide) hg; replace H7 := Aside0.mk (P_grownT H7.out HI.out.hz (by decide) hg); replace H8 := Aside0.mk (P_grownT H8.out HI.out.hz (by decide) hg); replace HZ := Aside0.mk (P_grownT HZ.out HI.out.hz (by decide) hg); replace HY := Aside0.mk (P_grownT HY.out HI.out.hz (by decide) hg); replace HW := Aside0.mk (Kd.R_mono (Kd.R_grown (R_apart HI.out.hz HW.out (by decide)) hg (fun k hk => hk.2)) (fun _ _ => trivial)); replace HI := Aside0.mk (HI.out.zone ho hb hg); clear x0 x1 x2 x3 x4 v0 v1 v2 y2 ho hb hg hat; have y2 : w10.cell? ⟨g, 2, none⟩ = some (.slice Az zs.length cz) := (blk_cell p1 2).trans rfl; have f2 := blk_frozen p1 2; have HP1 := Aside0.mk p1; clear p1)
  clear y2 f2
  replace H7 := Aside0.mk (blk_far (p := ⟨g, 2, none⟩) H7.out n7 (.slice Av (zs.length + 1) cv))
  replace H8 := Aside0.mk (blk_far (p := ⟨g, 2, none⟩) H8.out n8 (.slice Av (zs.length + 1) cv))
  replace HZ := Aside0.mk (blk_far (p := ⟨g, 2, none⟩) HZ.out HN4.out (.slice Av (zs.length + 1) cv)); replace HY := Aside0.mk (blk_far (p := ⟨g, 2, none⟩) HY.out HNY.out (.slice Av (zs.length + 1) cv))
  replace HW := Aside0.mk (Kd.R_set HW.out HP1.out ne27_9 2 (.slice Av (zs.length + 1) cv))
  have hi := HI.out
  simp only [List.length_append, List.length_cons, List.length_nil, Nat.zero_add] at hi
  replace HI := Aside0.mk hi
  clear hi HP1 n7 n8
  generalize w10.setCell ⟨g, 2, none⟩ (.slice Av (zs.length + 1) cv) = w8 at H7 H8 HZ HY HW HI ⊢
  obtain ⟨⟨x0, x1, x2, x3, x4⟩, _⟩ := celg5 H7.out
  obtain ⟨⟨v0, v1, v2⟩, _⟩ := celg3 H8.out
  have e0 : w8.cell? ad = some (.string (wrd ws 0)) := word_R HW.out HN.out.symm 0 (by have := HN.out; omega)
  clear HW HN H7 H8
  by_cases hb : b1 = true ∧ b2 = true
  ·have h9 := hkd.out
   rw [if_pos hb] at h9
   subst h9
   obtain ⟨rfl, rfl⟩ := hb
   obtain ⟨y0, y1, y2, y3, y4⟩ := cells5_ HI.out.hP
   obtain ⟨z0, z1, z2, z3, z4⟩ := cells5_ HZ.out
   have f0 := blk_frozen HZ.out 0
   have f1 := blk_frozen HZ.out 1
   have f2 := blk_frozen HZ.out 2
   have f3 := blk_frozen HZ.out 3
   have f4 := blk_frozen HZ.out 4
   go_wp2
   refine bodyPost_ret (results_ct rfl _ _ g4 27 _ (0, 0) _ rfl (put5_ HZ.out _ _ _ _ _) hu rfl (by kernel_rfl)) rfl ?_
   exact ⟨_, _, _, rfl, lin_end HI.out HZ.out HG4.out HY.out HNY4.out _ _ _ _ _⟩
  ·have h9 := hkd.out
   rw [if_neg hb] at h9
   subst h9
   have d9 : (b1 && b2) = false := by revert hb; cases b1 <;> cases b2 <;> simp
   clear hb
   cases b1
   all_goals (try (cases b2))
   all_goals (try (simp at d9; done))
   all_goals
    obtain ⟨y0, y1, y2, y3, y4⟩ := cells5_ HI.out.hP
    obtain ⟨z0, z1, z2, z3, z4⟩ := cells5_ HZ.out
    have f0 := blk_frozen HZ.out 0
    have f1 := blk_frozen HZ.out 1
    have f2 := blk_frozen HZ.out 2
    have f3 := blk_frozen HZ.out 3
    have f4 := blk_frozen HZ.out 4
    go_wp2
    refine bodyPost_ret (results_ct rfl _ _ g4 27 _ (0, 0) _ rfl (put5_ HZ.out _ _ _ _ _) hu rfl (by kernel_rfl)) rfl ?_
    exact ⟨_, _, _, rfl, lin_end HI.out HZ.out HG4.out HY.out HNY4.out _ _ _ _ _⟩
end Go.Proofs.YtbboanfggaknjaaGreatDoor.X
