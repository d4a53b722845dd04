/- Contracts of the functions that the law SpanBack reaches, and what they answer (a session's own texts, joined; part 4). -/
import Derived.Test.YtjbdljolpkkhcaaDoorWWords
import Derived.Deep.Slices
import Derived.ChangeArms
import Derived.SizedLaws
import Derived.OpenShut
import Derived.Lib.Strings
import Derived.Lib.IndexBytes
import Derived.Test.YtjbdljolpkkhcaaDoorBSpanBack3
namespace Go.Proofs.YtjbdljolpkkhcaaDoor.X
open Go.RowKit Go.Proofs.YtjbdljolpkkhcaaDoorW.PrintWords Go.Proofs.YtjbdljolpkkhcaaDoorW.PrintLast Go.Proofs.YtjbdljolpkkhcaaDoorW.PrintMore
attribute [local go_sem] max2_int min2_int max_two min_two max_three min_three max_four min_four   -- for this text's walks alone
set_option linter.unusedVariables false
set_option linter.unusedSimpArgs false

attribute [local go_sem high] eqA42
/-! ### oculuslaw04_SpanBack: function 6 -/
def oculuslaw04_SpanBack.j0 : Nat → ByteArray → Bool → Bool → Int → Int → Int → Int → Option (Bool)
 | 0, _, _, _, _, _, _, _ => none
 | k + 1, x1, x8, x57, x116000, x116001, x116002, x116003 => if x57 = true then (none) else (if x8 = true then ((span_Text.f k x116000 x116001 x116002 x116003).bind fun t125 => (if t125.toList = x1.toList then ((oculuslaw04_alive.f k).bind fun t126 => (some t126)) else (none))) else ((oculuslaw04_alive.f k).bind fun t127 => (some t127)))
def oculuslaw04_SpanBack.f (k : Nat) (a0_0 : Int) (a0_1 : Int) (a0_2 : Int) (a0_3 : Int) (a1 : ByteArray) : Option (Bool) := if (a1.size : Int) > 100 then ((oculuslaw04_alive.f k).bind fun t102 => (some t102)) else ((span_Text.f k a0_0 a0_1 a0_2 a0_3).bind fun t103 => ((span_Parse.f k t103).bind fun bt104 => ((span_Parse.f k a1).bind fun bt110 => ((oculusref04_Parse.f k a1).bind fun bt116 => ((span_Text.f k a0_0 a0_1 a0_2 a0_3).bind fun t122 => ((oculusref04_Text.f k a0_0 a0_1 a0_2 a0_3).bind fun t123 => (if t122.toList = t123.toList then ((span_May.f a0_0 a0_1 a0_2 a0_3).bind fun t124 => (if (bt104.2.2.2.2 != t124) = true then (oculuslaw04_SpanBack.j0 k a1 bt110.2.2.2.2 true bt110.1 bt110.2.1 bt110.2.2.1 bt110.2.2.2.1) else (if bt104.2.2.2.2 = true then (if ((!(bt104.1 == a0_0) || (!(bt104.2.1 == a0_1))) || ((!(bt104.2.2.1 == a0_2) || (!(bt104.2.2.2.1 == a0_3))))) = true then (oculuslaw04_SpanBack.j0 k a1 bt110.2.2.2.2 true bt110.1 bt110.2.1 bt110.2.2.1 bt110.2.2.2.1) else (if (bt110.2.2.2.2 != bt116.2.2.2.2) = true then (oculuslaw04_SpanBack.j0 k a1 bt110.2.2.2.2 true bt110.1 bt110.2.1 bt110.2.2.1 bt110.2.2.2.1) else (oculuslaw04_SpanBack.j0 k a1 bt110.2.2.2.2 ((!(bt110.1 == bt116.1) || (!(bt110.2.1 == bt116.2.1))) || ((!(bt110.2.2.1 == bt116.2.2.1) || (!(bt110.2.2.2.1 == bt116.2.2.2.1))))) bt110.1 bt110.2.1 bt110.2.2.1 bt110.2.2.2.1))) else (if (bt110.2.2.2.2 != bt116.2.2.2.2) = true then (oculuslaw04_SpanBack.j0 k a1 bt110.2.2.2.2 true bt110.1 bt110.2.1 bt110.2.2.1 bt110.2.2.2.1) else (oculuslaw04_SpanBack.j0 k a1 bt110.2.2.2.2 ((!(bt110.1 == bt116.1) || (!(bt110.2.1 == bt116.2.1))) || ((!(bt110.2.2.1 == bt116.2.2.1) || (!(bt110.2.2.2.1 == bt116.2.2.2.1))))) bt110.1 bt110.2.1 bt110.2.2.1 bt110.2.2.2.1))))) else (oculuslaw04_SpanBack.j0 k a1 bt110.2.2.2.2 true bt110.1 bt110.2.1 bt110.2.2.1 bt110.2.2.2.1))))))))
def oculuslaw04_SpanBack.T6 : Bool × List (List Nat × List Nat) := (true, [([], []), ([0], [0]), ([], []), ([2, 1], [2]), ([1, 3], [1, 3]), ([4, 3], [4]), ([5], [5]), ([5], [5]), ([7, 5, 5], [5, 7]), ([6, 8, 5], [5, 6, 8]), ([5, 9], [5, 9]), ([10, 8], [10]), ([11], [11]), ([12, 11, 11], [11, 12]), ([13], [13]), ([13], [13]), ([14, 15, 13], [13, 14, 15]), ([13, 16, 11], [11, 13, 16]), ([11, 17], [11, 17]), ([18, 13], [18]), ([19], [19]), ([19], [19]), ([21, 19], [19, 21]), ([20, 22, 19], [19, 20, 22]), ([19, 23], [19, 23]), ([24, 19], [24]), ([25], [25]), ([25], [25]), ([27, 25], [25, 27]), ([26, 28, 25], [25, 26, 28]), ([25, 29], [25, 29])])
def oculuslaw04_SpanBack.B6 : List Nat := [0, 1, 0, 7, 15, 31, 63, 63, 191, 511, 1023, 2047, 4095, 8191, 16383, 16383, 65535, 131071, 262143, 524287, 1048575, 1048575, 3145727, 8388607, 16777215, 33554431, 67108863, 67108863, 201326591, 536870911, 1073741823]
theorem oculuslaw04_SpanBack.tab6 : rtab .any (opsOf Tryd.f6 6) = oculuslaw04_SpanBack.T6 := by kernel_rfl
theorem oculuslaw04_SpanBack.bits6 : waitsOk oculuslaw04_SpanBack.T6.2 oculuslaw04_SpanBack.B6 = true := by kernel_rfl
set_option maxHeartbeats 8000000 in
set_option maxRecDepth 100000 in
theorem oculuslaw04_SpanBack.calls (k : Nat) (a0_0 : Int) (a0_1 : Int) (a0_2 : Int) (a0_3 : Int) (a1 : ByteArray) (r : Bool) (w : World) (hT : Aside0 (Tab w)) (h : oculuslaw04_SpanBack.f k a0_0 a0_1 a0_2 a0_3 a1 = some r) :
  Calls Tryd.prog 6 #[.agg #[.int .i64 a0_0, .int .i64 a0_1, .int .i64 a0_2, .int .i64 a0_3], .string a1] w fun e w' => e = .returned (.bool r) ∧ Below w.heap.size w w' := by
 have hu42 := Tryd.underlying42; have hu47 := Tryd.underlying47; have HB := Aside0.mk (Below.refl w.heap.size w)
 have H : (if (a1.size : Int) > 100 then ((oculuslaw04_alive.f k).bind fun t102 => (some t102)) else ((span_Text.f k a0_0 a0_1 a0_2 a0_3).bind fun t103 => ((span_Parse.f k t103).bind fun bt104 => ((span_Parse.f k a1).bind fun bt110 => ((oculusref04_Parse.f k a1).bind fun bt116 => ((span_Text.f k a0_0 a0_1 a0_2 a0_3).bind fun t122 => ((oculusref04_Text.f k a0_0 a0_1 a0_2 a0_3).bind fun t123 => (if t122.toList = t123.toList then ((span_May.f a0_0 a0_1 a0_2 a0_3).bind fun t124 => (if (bt104.2.2.2.2 != t124) = true then (oculuslaw04_SpanBack.j0 k a1 bt110.2.2.2.2 true bt110.1 bt110.2.1 bt110.2.2.1 bt110.2.2.2.1) else (if bt104.2.2.2.2 = true then (if ((!(bt104.1 == a0_0) || (!(bt104.2.1 == a0_1))) || ((!(bt104.2.2.1 == a0_2) || (!(bt104.2.2.2.1 == a0_3))))) = true then (oculuslaw04_SpanBack.j0 k a1 bt110.2.2.2.2 true bt110.1 bt110.2.1 bt110.2.2.1 bt110.2.2.2.1) else (if (bt110.2.2.2.2 != bt116.2.2.2.2) = true then (oculuslaw04_SpanBack.j0 k a1 bt110.2.2.2.2 true bt110.1 bt110.2.1 bt110.2.2.1 bt110.2.2.2.1) else (oculuslaw04_SpanBack.j0 k a1 bt110.2.2.2.2 ((!(bt110.1 == bt116.1) || (!(bt110.2.1 == bt116.2.1))) || ((!(bt110.2.2.1 == bt116.2.2.1) || (!(bt110.2.2.2.1 == bt116.2.2.2.1))))) bt110.1 bt110.2.1 bt110.2.2.1 bt110.2.2.2.1))) else (if (bt110.2.2.2.2 != bt116.2.2.2.2) = true then (oculuslaw04_SpanBack.j0 k a1 bt110.2.2.2.2 true bt110.1 bt110.2.1 bt110.2.2.1 bt110.2.2.2.1) else (oculuslaw04_SpanBack.j0 k a1 bt110.2.2.2.2 ((!(bt110.1 == bt116.1) || (!(bt110.2.1 == bt116.2.1))) || ((!(bt110.2.2.1 == bt116.2.2.1) || (!(bt110.2.2.2.1 == bt116.2.2.2.1))))) bt110.1 bt110.2.1 bt110.2.2.1 bt110.2.2.2.1))))) else (oculuslaw04_SpanBack.j0 k a1 bt110.2.2.2.2 true bt110.1 bt110.2.1 bt110.2.2.1 bt110.2.2.2.1))))))))) = some r := h
 clear h
 by_cases c3 : (a1.size : Int) > 100
 ·rw [if_pos c3] at H; have c3b0 : decide (100 < (a1.size : Int)) = true := decide_eq_true c3; have c3b1 : decide (100 < a1.size) = true := decide_eq_true (by omega); clear c3; replace H := Option.bind_eq_some_iff.mp H; obtain ⟨t102, A40, H⟩ := H
  replace H : (some t102) = some r := H
  have A4 := Aside0.mk A40; clear A40; obtain rfl := Option.some.inj H
  go_enter Tryd.func6, Tryd.ntmps6
  go_wp2_with (first | ((with_reducible refine gate_dst (N:=2) rfl ?_); refine box_event ?hg (N:=2) ?hd (cs := #[.int .i64 a0_0, .int .i64 a0_1, .int .i64 a0_2, .int .i64 a0_3]) (t:=42) ?hr ?_; (case hd => rfl); (case hg => rfl); (case hr => first | (go_simp; done) | (go_simp; rfl)); intro gb101 hg w5 hbox hb; have BK101 := Aside0.mk (hbox); have GW101 := hs_ HB hg; have GE101 := hs_ HB hg; replace HB := bs_ HB hb; clear hb hbox hg) | ((with_reducible refine gate_callee (f:=25) rfl ?_); refine goesL_ (some 13) rfl rfl Tryd.func25 (by kernel_rfl) rfl #[] rfl (by (try simp only [List.map_toArray, List.map_cons, List.map_nil]); first | done | rfl | (simp only [List.length_drop, List.length_take]; rfl)) ?_; (with_reducible refine (oculuslaw04_alive.calls k  t102 _ (by refine tb_ ?_ hT; repeat' (first | exact pbx HB | assumption | refine below_set ?_ (Aside0.out ?_))) A4.out).mono ?_); rintro e w6 ⟨rfl, hb⟩; refine ⟨_, rfl, ?_⟩; replace BK101 := bb_ BK101 hb; replace HB := bs_ HB hb; (try clear hb); (try clear hb2); (try clear hk); (try clear hi)))
  go_ret
  exact ⟨by first | rfl | (simp [errW_none, errW_some] <;> rfl) | (simp [*, errW_none, errW_some] <;> rfl), pbx HB⟩
 ·rw [if_neg c3] at H; have c3b0 : decide (100 < (a1.size : Int)) = false := decide_eq_false c3; have c3b1 : decide (100 < a1.size) = false := decide_eq_false (by omega); clear c3; replace H := Option.bind_eq_some_iff.mp H; obtain ⟨t103, A70, H⟩ := H
  replace H : ((span_Parse.f k t103).bind fun bt104 => ((span_Parse.f k a1).bind fun bt110 => ((oculusref04_Parse.f k a1).bind fun bt116 => ((span_Text.f k a0_0 a0_1 a0_2 a0_3).bind fun t122 => ((oculusref04_Text.f k a0_0 a0_1 a0_2 a0_3).bind fun t123 => (if t122.toList = t123.toList then ((span_May.f a0_0 a0_1 a0_2 a0_3).bind fun t124 => (if (bt104.2.2.2.2 != t124) = true then (oculuslaw04_SpanBack.j0 k a1 bt110.2.2.2.2 true bt110.1 bt110.2.1 bt110.2.2.1 bt110.2.2.2.1) else (if bt104.2.2.2.2 = true then (if ((!(bt104.1 == a0_0) || (!(bt104.2.1 == a0_1))) || ((!(bt104.2.2.1 == a0_2) || (!(bt104.2.2.2.1 == a0_3))))) = true then (oculuslaw04_SpanBack.j0 k a1 bt110.2.2.2.2 true bt110.1 bt110.2.1 bt110.2.2.1 bt110.2.2.2.1) else (if (bt110.2.2.2.2 != bt116.2.2.2.2) = true then (oculuslaw04_SpanBack.j0 k a1 bt110.2.2.2.2 true bt110.1 bt110.2.1 bt110.2.2.1 bt110.2.2.2.1) else (oculuslaw04_SpanBack.j0 k a1 bt110.2.2.2.2 ((!(bt110.1 == bt116.1) || (!(bt110.2.1 == bt116.2.1))) || ((!(bt110.2.2.1 == bt116.2.2.1) || (!(bt110.2.2.2.1 == bt116.2.2.2.1))))) bt110.1 bt110.2.1 bt110.2.2.1 bt110.2.2.2.1))) else (if (bt110.2.2.2.2 != bt116.2.2.2.2) = true then (oculuslaw04_SpanBack.j0 k a1 bt110.2.2.2.2 true bt110.1 bt110.2.1 bt110.2.2.1 bt110.2.2.2.1) else (oculuslaw04_SpanBack.j0 k a1 bt110.2.2.2.2 ((!(bt110.1 == bt116.1) || (!(bt110.2.1 == bt116.2.1))) || ((!(bt110.2.2.1 == bt116.2.2.1) || (!(bt110.2.2.2.1 == bt116.2.2.2.1))))) bt110.1 bt110.2.1 bt110.2.2.1 bt110.2.2.2.1))))) else (oculuslaw04_SpanBack.j0 k a1 bt110.2.2.2.2 true bt110.1 bt110.2.1 bt110.2.2.1 bt110.2.2.2.1))))))) = some r := H
  have A7 := Aside0.mk A70; clear A70; replace H := Option.bind_eq_some_iff.mp H; obtain ⟨⟨t104, t105, t106, t107, t108⟩, A80, H⟩ := H
  replace H : ((span_Parse.f k a1).bind fun bt110 => ((oculusref04_Parse.f k a1).bind fun bt116 => ((span_Text.f k a0_0 a0_1 a0_2 a0_3).bind fun t122 => ((oculusref04_Text.f k a0_0 a0_1 a0_2 a0_3).bind fun t123 => (if t122.toList = t123.toList then ((span_May.f a0_0 a0_1 a0_2 a0_3).bind fun t124 => (if (t108 != t124) = true then (oculuslaw04_SpanBack.j0 k a1 bt110.2.2.2.2 true bt110.1 bt110.2.1 bt110.2.2.1 bt110.2.2.2.1) else (if t108 = true then (if ((!(t104 == a0_0) || (!(t105 == a0_1))) || ((!(t106 == a0_2) || (!(t107 == a0_3))))) = true then (oculuslaw04_SpanBack.j0 k a1 bt110.2.2.2.2 true bt110.1 bt110.2.1 bt110.2.2.1 bt110.2.2.2.1) else (if (bt110.2.2.2.2 != bt116.2.2.2.2) = true then (oculuslaw04_SpanBack.j0 k a1 bt110.2.2.2.2 true bt110.1 bt110.2.1 bt110.2.2.1 bt110.2.2.2.1) else (oculuslaw04_SpanBack.j0 k a1 bt110.2.2.2.2 ((!(bt110.1 == bt116.1) || (!(bt110.2.1 == bt116.2.1))) || ((!(bt110.2.2.1 == bt116.2.2.1) || (!(bt110.2.2.2.1 == bt116.2.2.2.1))))) bt110.1 bt110.2.1 bt110.2.2.1 bt110.2.2.2.1))) else (if (bt110.2.2.2.2 != bt116.2.2.2.2) = true then (oculuslaw04_SpanBack.j0 k a1 bt110.2.2.2.2 true bt110.1 bt110.2.1 bt110.2.2.1 bt110.2.2.2.1) else (oculuslaw04_SpanBack.j0 k a1 bt110.2.2.2.2 ((!(bt110.1 == bt116.1) || (!(bt110.2.1 == bt116.2.1))) || ((!(bt110.2.2.1 == bt116.2.2.1) || (!(bt110.2.2.2.1 == bt116.2.2.2.1))))) bt110.1 bt110.2.1 bt110.2.2.1 bt110.2.2.2.1))))) else (oculuslaw04_SpanBack.j0 k a1 bt110.2.2.2.2 true bt110.1 bt110.2.1 bt110.2.2.1 bt110.2.2.2.1)))))) = some r := H
  have A8 := Aside0.mk A80; clear A80; replace H := Option.bind_eq_some_iff.mp H; obtain ⟨⟨t110, t111, t112, t113, t114⟩, A90, H⟩ := H
  replace H : ((oculusref04_Parse.f k a1).bind fun bt116 => ((span_Text.f k a0_0 a0_1 a0_2 a0_3).bind fun t122 => ((oculusref04_Text.f k a0_0 a0_1 a0_2 a0_3).bind fun t123 => (if t122.toList = t123.toList then ((span_May.f a0_0 a0_1 a0_2 a0_3).bind fun t124 => (if (t108 != t124) = true then (oculuslaw04_SpanBack.j0 k a1 t114 true t110 t111 t112 t113) else (if t108 = true then (if ((!(t104 == a0_0) || (!(t105 == a0_1))) || ((!(t106 == a0_2) || (!(t107 == a0_3))))) = true then (oculuslaw04_SpanBack.j0 k a1 t114 true t110 t111 t112 t113) else (if (t114 != bt116.2.2.2.2) = true then (oculuslaw04_SpanBack.j0 k a1 t114 true t110 t111 t112 t113) else (oculuslaw04_SpanBack.j0 k a1 t114 ((!(t110 == bt116.1) || (!(t111 == bt116.2.1))) || ((!(t112 == bt116.2.2.1) || (!(t113 == bt116.2.2.2.1))))) t110 t111 t112 t113))) else (if (t114 != bt116.2.2.2.2) = true then (oculuslaw04_SpanBack.j0 k a1 t114 true t110 t111 t112 t113) else (oculuslaw04_SpanBack.j0 k a1 t114 ((!(t110 == bt116.1) || (!(t111 == bt116.2.1))) || ((!(t112 == bt116.2.2.1) || (!(t113 == bt116.2.2.2.1))))) t110 t111 t112 t113))))) else (oculuslaw04_SpanBack.j0 k a1 t114 true t110 t111 t112 t113))))) = some r := H
  have A9 := Aside0.mk A90; clear A90; replace H := Option.bind_eq_some_iff.mp H; obtain ⟨⟨t116, t117, t118, t119, t120⟩, A100, H⟩ := H
  replace H : ((span_Text.f k a0_0 a0_1 a0_2 a0_3).bind fun t122 => ((oculusref04_Text.f k a0_0 a0_1 a0_2 a0_3).bind fun t123 => (if t122.toList = t123.toList then ((span_May.f a0_0 a0_1 a0_2 a0_3).bind fun t124 => (if (t108 != t124) = true then (oculuslaw04_SpanBack.j0 k a1 t114 true t110 t111 t112 t113) else (if t108 = true then (if ((!(t104 == a0_0) || (!(t105 == a0_1))) || ((!(t106 == a0_2) || (!(t107 == a0_3))))) = true then (oculuslaw04_SpanBack.j0 k a1 t114 true t110 t111 t112 t113) else (if (t114 != t120) = true then (oculuslaw04_SpanBack.j0 k a1 t114 true t110 t111 t112 t113) else (oculuslaw04_SpanBack.j0 k a1 t114 ((!(t110 == t116) || (!(t111 == t117))) || ((!(t112 == t118) || (!(t113 == t119))))) t110 t111 t112 t113))) else (if (t114 != t120) = true then (oculuslaw04_SpanBack.j0 k a1 t114 true t110 t111 t112 t113) else (oculuslaw04_SpanBack.j0 k a1 t114 ((!(t110 == t116) || (!(t111 == t117))) || ((!(t112 == t118) || (!(t113 == t119))))) t110 t111 t112 t113))))) else (oculuslaw04_SpanBack.j0 k a1 t114 true t110 t111 t112 t113)))) = some r := H
  have A10 := Aside0.mk A100; clear A100; have HC11 := Aside0.mk H; clear H
  go_enter Tryd.func6, Tryd.ntmps6
  go_upto_region 6 with (first | ((with_reducible refine gate_dst (N:=2) rfl ?_); refine box_event ?hg (N:=2) ?hd (cs := #[.int .i64 a0_0, .int .i64 a0_1, .int .i64 a0_2, .int .i64 a0_3]) (t:=42) ?hr ?_; (case hd => rfl); (case hg => rfl); (case hr => first | (go_simp; done) | (go_simp; rfl)); intro gb101 hg w12 hbox hb; have BK101 := Aside0.mk (hbox); have GW101 := hs_ HB hg; have GE101 := hs_ HB hg; replace HB := bs_ HB hb; clear hb hbox hg; have hcz13_0 : w12.cell? ⟨gb101, 0, none⟩ = some (.int .i64 a0_0) := bc_ BK101 0 rfl; have hcz13_1 : w12.cell? ⟨gb101, 1, none⟩ = some (.int .i64 a0_1) := bc_ BK101 1 rfl; have hcz13_2 : w12.cell? ⟨gb101, 2, none⟩ = some (.int .i64 a0_2) := bc_ BK101 2 rfl; have hcz13_3 : w12.cell? ⟨gb101, 3, none⟩ = some (.int .i64 a0_3) := bc_ BK101 3 rfl; have hfz13_0 := blk_frozen BK101.out 0; have hfz13_1 := blk_frozen BK101.out 1; have hfz13_2 := blk_frozen BK101.out 2; have hfz13_3 := blk_frozen BK101.out 3) | ((with_reducible refine gate_callee (f:=27) rfl ?_); refine goesL_ (some 16) rfl rfl Tryd.func27 (by kernel_rfl) rfl #[.agg #[.int .i64 a0_0, .int .i64 a0_1, .int .i64 a0_2, .int .i64 a0_3]] rfl (by (try simp only [List.map_toArray, List.map_cons, List.map_nil]); first | done | rfl | (simp only [List.length_drop, List.length_take]; rfl)) ?_; (with_reducible refine (span_Text.calls k a0_0 a0_1 a0_2 a0_3 t103 _ (by refine tb_ ?_ hT; repeat' (first | exact pbx HB | assumption | refine below_set ?_ (Aside0.out ?_))) A7.out).mono ?_); rintro e w14 ⟨rfl, hb⟩; refine ⟨_, rfl, ?_⟩; replace BK101 := bb_ BK101 hb; replace HB := bs_ HB hb; (try clear hb); (try clear hb2); (try clear hk); (try clear hi)) | ((with_reducible refine gate_callee (f:=26) rfl ?_); refine goesL_ (some 17) rfl rfl Tryd.func26 (by kernel_rfl) rfl #[.string t103] rfl (by (try simp only [List.map_toArray, List.map_cons, List.map_nil]); first | done | rfl | (simp only [List.length_drop, List.length_take]; rfl)) ?_; (with_reducible refine (span_Parse.calls k t103 t104 t105 t106 t107 t108 _ A8.out).mono ?_); rintro e w15 ⟨rfl, hb⟩; refine ⟨_, rfl, ?_⟩; replace BK101 := bb_ BK101 hb; replace HB := bs_ HB hb; (try clear hb); (try clear hb2); (try clear hk); (try clear hi)) | ((with_reducible refine gate_dst (N:=5) rfl ?_); refine box_event ?hg (N:=5) ?hd (cs := #[.int .i64 0, .int .i64 0, .int .i64 0, .int .i64 0]) (t:=42) ?hr ?_; (case hd => rfl); (case hg => rfl); (case hr => first | (go_simp; done) | (go_simp; rfl)); intro gb109 hg w16 hbox hb; have BK109 := Aside0.mk (hbox); have GW109 := hs_ HB hg; have GE109 := hs_ HB hg; have NB101_109 := hl_ BK101 hg; have NB109_101 := hr_ BK101 hg; replace BK101 := bb_ BK101 hb; replace HB := bs_ HB hb; clear hb hbox hg; have hnb17 := NB109_101.out; have hnc17 := NB101_109.out; have hcz18_0 : w16.cell? ⟨gb109, 0, none⟩ = some (.int .i64 0) := bc_ BK109 0 rfl; have hcz18_1 : w16.cell? ⟨gb109, 1, none⟩ = some (.int .i64 0) := bc_ BK109 1 rfl; have hcz18_2 : w16.cell? ⟨gb109, 2, none⟩ = some (.int .i64 0) := bc_ BK109 2 rfl; have hcz18_3 : w16.cell? ⟨gb109, 3, none⟩ = some (.int .i64 0) := bc_ BK109 3 rfl; have hfz18_0 := blk_frozen BK109.out 0; have hfz18_1 := blk_frozen BK109.out 1; have hfz18_2 := blk_frozen BK109.out 2; have hfz18_3 := blk_frozen BK109.out 3) | ((with_reducible refine gate_callee (f:=26) rfl ?_); refine goesL_ (some 22) rfl rfl Tryd.func26 (by kernel_rfl) rfl #[.string a1] rfl (by (try simp only [List.map_toArray, List.map_cons, List.map_nil]); first | done | rfl | (simp only [List.length_drop, List.length_take]; rfl)) ?_; (with_reducible refine (span_Parse.calls k a1 t110 t111 t112 t113 t114 _ A9.out).mono ?_); rintro e w19 ⟨rfl, hb⟩; refine ⟨_, rfl, ?_⟩; replace BK101 := Aside0.mk (blk_below (g:=gb101) (o := .cells #[.int .i64 a0_0, .int .i64 a0_1, .int .i64 a0_2, .int .i64 a0_3] 42 (0, 0)) (by (with_reducible repeat (first | refine blk_drewN ?_ _ | refine blk_drew ?_ | refine blk_alloc ?_ _)); refine blk_far ?_ NB101_109.out _; refine blk_far ?_ NB101_109.out _; refine blk_far ?_ NB101_109.out _; refine blk_far ?_ NB101_109.out _; (with_reducible repeat (first | refine blk_drewN ?_ _ | refine blk_drew ?_ | refine blk_alloc ?_ _)); exact BK101.out) hb); replace BK109 := Aside0.mk (blk_below (g:=gb109) (o := .cells #[.int .i64 t104, .int .i64 t105, .int .i64 t106, .int .i64 t107] 42 (0, 0)) (by (with_reducible repeat (first | refine blk_drewN ?_ _ | refine blk_drew ?_ | refine blk_alloc ?_ _)); refine blk_put (cs := #[.int .i64 t104, .int .i64 t105, .int .i64 t106, .int .i64 0]) ?_ 3 _ rfl; refine blk_put (cs := #[.int .i64 t104, .int .i64 t105, .int .i64 0, .int .i64 0]) ?_ 2 _ rfl; refine blk_put (cs := #[.int .i64 t104, .int .i64 0, .int .i64 0, .int .i64 0]) ?_ 1 _ rfl; refine blk_put (cs := #[.int .i64 0, .int .i64 0, .int .i64 0, .int .i64 0]) ?_ 0 _ rfl; (with_reducible repeat (first | refine blk_drewN ?_ _ | refine blk_drew ?_ | refine blk_alloc ?_ _)); exact BK109.out) hb); replace HB := Aside0.mk (below_step (by repeat (first | (with_reducible first | exact HB.out | apply below_alloc | apply pw_below_drewN | apply below_drew1 | refine below_set ?_ GE101.out | refine below_set ?_ GE109.out) | exact HB.out)) hb); (try clear hb); (try clear hb2); (try clear hk); (try clear hi)) | ((with_reducible refine gate_dst (N:=7) rfl ?_); refine box_event ?hg (N:=7) ?hd (cs := #[.int .i64 0, .int .i64 0, .int .i64 0, .int .i64 0]) (t:=42) ?hr ?_; (case hd => rfl); (case hg => rfl); (case hr => first | (go_simp; done) | (go_simp; rfl)); intro gb115 hg w20 hbox hb; have BK115 := Aside0.mk (hbox); have GW115 := hs_ HB hg; have GE115 := hs_ HB hg; have NB101_115 := hl_ BK101 hg; have NB115_101 := hr_ BK101 hg; have NB109_115 := hl_ BK109 hg; have NB115_109 := hr_ BK109 hg; replace BK101 := bb_ BK101 hb; replace BK109 := bb_ BK109 hb; replace HB := bs_ HB hb; clear hb hbox hg; have hnb21 := NB115_101.out; have hnc21 := NB101_115.out; have hnb22 := NB115_109.out; have hnc22 := NB109_115.out; have hcz23_0 : w20.cell? ⟨gb115, 0, none⟩ = some (.int .i64 0) := bc_ BK115 0 rfl; have hcz23_1 : w20.cell? ⟨gb115, 1, none⟩ = some (.int .i64 0) := bc_ BK115 1 rfl; have hcz23_2 : w20.cell? ⟨gb115, 2, none⟩ = some (.int .i64 0) := bc_ BK115 2 rfl; have hcz23_3 : w20.cell? ⟨gb115, 3, none⟩ = some (.int .i64 0) := bc_ BK115 3 rfl; have hfz23_0 := blk_frozen BK115.out 0; have hfz23_1 := blk_frozen BK115.out 1; have hfz23_2 := blk_frozen BK115.out 2; have hfz23_3 := blk_frozen BK115.out 3) | ((with_reducible refine gate_callee (f:=28) rfl ?_); refine goesL_ (some 26) rfl rfl Tryd.func28 (by kernel_rfl) rfl #[.string a1] rfl (by (try simp only [List.map_toArray, List.map_cons, List.map_nil]); first | done | rfl | (simp only [List.length_drop, List.length_take]; rfl)) ?_; (with_reducible refine (oculusref04_Parse.calls k a1 t116 t117 t118 t119 t120 _ A10.out).mono ?_); rintro e w24 ⟨rfl, hb⟩; refine ⟨_, rfl, ?_⟩; replace BK101 := Aside0.mk (blk_below (g:=gb101) (o := .cells #[.int .i64 a0_0, .int .i64 a0_1, .int .i64 a0_2, .int .i64 a0_3] 42 (0, 0)) (by (with_reducible repeat (first | refine blk_drewN ?_ _ | refine blk_drew ?_ | refine blk_alloc ?_ _)); refine blk_far ?_ NB101_115.out _; refine blk_far ?_ NB101_115.out _; refine blk_far ?_ NB101_115.out _; refine blk_far ?_ NB101_115.out _; (with_reducible repeat (first | refine blk_drewN ?_ _ | refine blk_drew ?_ | refine blk_alloc ?_ _)); exact BK101.out) hb); replace BK109 := Aside0.mk (blk_below (g:=gb109) (o := .cells #[.int .i64 t104, .int .i64 t105, .int .i64 t106, .int .i64 t107] 42 (0, 0)) (by (with_reducible repeat (first | refine blk_drewN ?_ _ | refine blk_drew ?_ | refine blk_alloc ?_ _)); refine blk_far ?_ NB109_115.out _; refine blk_far ?_ NB109_115.out _; refine blk_far ?_ NB109_115.out _; refine blk_far ?_ NB109_115.out _; (with_reducible repeat (first | refine blk_drewN ?_ _ | refine blk_drew ?_ | refine blk_alloc ?_ _)); exact BK109.out) hb); replace BK115 := Aside0.mk (blk_below (g:=gb115) (o := .cells #[.int .i64 t110, .int .i64 t111, .int .i64 t112, .int .i64 t113] 42 (0, 0)) (by (with_reducible repeat (first | refine blk_drewN ?_ _ | refine blk_drew ?_ | refine blk_alloc ?_ _)); refine blk_put (cs := #[.int .i64 t110, .int .i64 t111, .int .i64 t112, .int .i64 0]) ?_ 3 _ rfl; refine blk_put (cs := #[.int .i64 t110, .int .i64 t111, .int .i64 0, .int .i64 0]) ?_ 2 _ rfl; refine blk_put (cs := #[.int .i64 t110, .int .i64 0, .int .i64 0, .int .i64 0]) ?_ 1 _ rfl; refine blk_put (cs := #[.int .i64 0, .int .i64 0, .int .i64 0, .int .i64 0]) ?_ 0 _ rfl; (with_reducible repeat (first | refine blk_drewN ?_ _ | refine blk_drew ?_ | refine blk_alloc ?_ _)); exact BK115.out) hb); replace HB := Aside0.mk (below_step (by repeat (first | (with_reducible first | exact HB.out | apply below_alloc | apply pw_below_drewN | apply below_drew1 | refine below_set ?_ GE101.out | refine below_set ?_ GE109.out | refine below_set ?_ GE115.out) | exact HB.out)) hb); (try clear hb); (try clear hb2); (try clear hk); (try clear hi)) | ((with_reducible refine gate_dst (N:=9) rfl ?_); refine box_event ?hg (N:=9) ?hd (cs := #[.int .i64 0, .int .i64 0, .int .i64 0, .int .i64 0, .bool false]) (t:=47) ?hr ?_; (case hd => rfl); (case hg => rfl); (case hr => first | (go_simp; done) | (go_simp; rfl)); intro gb121 hg w25 hbox hb; have BK121 := Aside0.mk (hbox); have GW121 := hs_ HB hg; have GE121 := hs_ HB hg; have NB101_121 := hl_ BK101 hg; have NB121_101 := hr_ BK101 hg; have NB109_121 := hl_ BK109 hg; have NB121_109 := hr_ BK109 hg; have NB115_121 := hl_ BK115 hg; have NB121_115 := hr_ BK115 hg; replace BK101 := bb_ BK101 hb; replace BK109 := bb_ BK109 hb; replace BK115 := bb_ BK115 hb; replace HB := bs_ HB hb; clear hb hbox hg; have hnb26 := NB121_101.out; have hnc26 := NB101_121.out; have hnb27 := NB121_109.out; have hnc27 := NB109_121.out; have hnb28 := NB121_115.out; have hnc28 := NB115_121.out; have hcz29_0 : w25.cell? ⟨gb121, 0, none⟩ = some (.int .i64 0) := bc_ BK121 0 rfl; have hcz29_1 : w25.cell? ⟨gb121, 1, none⟩ = some (.int .i64 0) := bc_ BK121 1 rfl; have hcz29_2 : w25.cell? ⟨gb121, 2, none⟩ = some (.int .i64 0) := bc_ BK121 2 rfl; have hcz29_3 : w25.cell? ⟨gb121, 3, none⟩ = some (.int .i64 0) := bc_ BK121 3 rfl; have hcz29_4 : w25.cell? ⟨gb121, 4, none⟩ = some (.bool false) := bc_ BK121 4 rfl; have hfz29_0 := blk_frozen BK121.out 0; have hfz29_1 := blk_frozen BK121.out 1; have hfz29_2 := blk_frozen BK121.out 2; have hfz29_3 := blk_frozen BK121.out 3; have hfz29_4 := blk_frozen BK121.out 4))
  (try simp only [q_])
  go_cut [57] (fun v57 wc => ∃ (kq : Nat) (x57_10 : Bool), v57 = .bool x57_10 ∧ Aside0 (oculuslaw04_SpanBack.j0 kq a1 t114 x57_10 t110 t111 t112 t113 = some r) ∧ Aside0 (kq ≤ k) ∧ Aside0 (wc.heap[gb101]? = some (.cells #[.int .i64 a0_0, .int .i64 a0_1, .int .i64 a0_2, .int .i64 a0_3] 42 (0, 0))) ∧ Aside0 (wc.heap[gb109]? = some (.cells #[.int .i64 t104, .int .i64 t105, .int .i64 t106, .int .i64 t107] 42 (0, 0))) ∧ Aside0 (wc.heap[gb115]? = some (.cells #[.int .i64 t110, .int .i64 t111, .int .i64 t112, .int .i64 t113] 42 (0, 0))) ∧ Aside0 (wc.heap[gb121]? = some (.cells #[.int .i64 t116, .int .i64 t117, .int .i64 t118, .int .i64 t119, .bool t120] 47 (0, 0))) ∧ Aside0 (Below w.heap.size w wc))
  case first =>
   have H := HC11.out; clear HC11; replace H := Option.bind_eq_some_iff.mp H; obtain ⟨t122, A300, H⟩ := H
   replace H : ((oculusref04_Text.f k a0_0 a0_1 a0_2 a0_3).bind fun t123 => (if t122.toList = t123.toList then ((span_May.f a0_0 a0_1 a0_2 a0_3).bind fun t124 => (if (t108 != t124) = true then (oculuslaw04_SpanBack.j0 k a1 t114 true t110 t111 t112 t113) else (if t108 = true then (if ((!(t104 == a0_0) || (!(t105 == a0_1))) || ((!(t106 == a0_2) || (!(t107 == a0_3))))) = true then (oculuslaw04_SpanBack.j0 k a1 t114 true t110 t111 t112 t113) else (if (t114 != t120) = true then (oculuslaw04_SpanBack.j0 k a1 t114 true t110 t111 t112 t113) else (oculuslaw04_SpanBack.j0 k a1 t114 ((!(t110 == t116) || (!(t111 == t117))) || ((!(t112 == t118) || (!(t113 == t119))))) t110 t111 t112 t113))) else (if (t114 != t120) = true then (oculuslaw04_SpanBack.j0 k a1 t114 true t110 t111 t112 t113) else (oculuslaw04_SpanBack.j0 k a1 t114 ((!(t110 == t116) || (!(t111 == t117))) || ((!(t112 == t118) || (!(t113 == t119))))) t110 t111 t112 t113))))) else (oculuslaw04_SpanBack.j0 k a1 t114 true t110 t111 t112 t113))) = some r := H
   have A30 := Aside0.mk A300; clear A300; replace H := Option.bind_eq_some_iff.mp H; obtain ⟨t123, A310, H⟩ := H
   replace H : (if t122.toList = t123.toList then ((span_May.f a0_0 a0_1 a0_2 a0_3).bind fun t124 => (if (t108 != t124) = true then (oculuslaw04_SpanBack.j0 k a1 t114 true t110 t111 t112 t113) else (if t108 = true then (if ((!(t104 == a0_0) || (!(t105 == a0_1))) || ((!(t106 == a0_2) || (!(t107 == a0_3))))) = true then (oculuslaw04_SpanBack.j0 k a1 t114 true t110 t111 t112 t113) else (if (t114 != t120) = true then (oculuslaw04_SpanBack.j0 k a1 t114 true t110 t111 t112 t113) else (oculuslaw04_SpanBack.j0 k a1 t114 ((!(t110 == t116) || (!(t111 == t117))) || ((!(t112 == t118) || (!(t113 == t119))))) t110 t111 t112 t113))) else (if (t114 != t120) = true then (oculuslaw04_SpanBack.j0 k a1 t114 true t110 t111 t112 t113) else (oculuslaw04_SpanBack.j0 k a1 t114 ((!(t110 == t116) || (!(t111 == t117))) || ((!(t112 == t118) || (!(t113 == t119))))) t110 t111 t112 t113))))) else (oculuslaw04_SpanBack.j0 k a1 t114 true t110 t111 t112 t113)) = some r := H
   have A31 := Aside0.mk A310; clear A310
   by_cases c32 : t122.toList = t123.toList
   ·rw [if_pos c32] at H; have c32b0 : (t122.toList == t123.toList) = true := beq_iff_eq.mpr c32; have c32b1 : (t122.toList != t123.toList) = false := bne_eq_false_iff_eq.mpr c32; clear c32; (first | rw [c32b0] | (simp only [i64_w, i32_w]; rw [c32b0]) | skip)
    replace H := Option.bind_eq_some_iff.mp H; obtain ⟨t124, A330, H⟩ := H
    replace H : (if (t108 != t124) = true then (oculuslaw04_SpanBack.j0 k a1 t114 true t110 t111 t112 t113) else (if t108 = true then (if ((!(t104 == a0_0) || (!(t105 == a0_1))) || ((!(t106 == a0_2) || (!(t107 == a0_3))))) = true then (oculuslaw04_SpanBack.j0 k a1 t114 true t110 t111 t112 t113) else (if (t114 != t120) = true then (oculuslaw04_SpanBack.j0 k a1 t114 true t110 t111 t112 t113) else (oculuslaw04_SpanBack.j0 k a1 t114 ((!(t110 == t116) || (!(t111 == t117))) || ((!(t112 == t118) || (!(t113 == t119))))) t110 t111 t112 t113))) else (if (t114 != t120) = true then (oculuslaw04_SpanBack.j0 k a1 t114 true t110 t111 t112 t113) else (oculuslaw04_SpanBack.j0 k a1 t114 ((!(t110 == t116) || (!(t111 == t117))) || ((!(t112 == t118) || (!(t113 == t119))))) t110 t111 t112 t113)))) = some r := H
    have A33 := Aside0.mk A330; clear A330
    by_cases c34 : (t108 != t124) = true
    ·rw [if_pos c34] at H
     have c34b0 : (t108 != t124) = true := c34
     (try (have c34b1 : decide (t108 = t124) = false := by simpa using c34)); (try (have c34b2 : (t108 == t124) = false := by simpa using c34)); (try (have c34b3 : ¬ (t108 = t124) := by simpa using c34)); clear c34
     have H' := Aside0.mk H
     clear H
     try go_wp2
     have n0_ : Aside0 ((((((w25.setCell ⟨gb121, 0, none⟩ (.int .i64 t116)).setCell ⟨gb121, 1, none⟩ (.int .i64 t117)).setCell ⟨gb121, 2, none⟩ (.int .i64 t118)).setCell ⟨gb121, 3, none⟩ (.int .i64 t119)).setCell ⟨gb121, 4, none⟩ (.bool t120)).heap[gb101]? = some (.cells #[.int .i64 a0_0, .int .i64 a0_1, .int .i64 a0_2, .int .i64 a0_3] 42 (0, 0))) := ⟨by (with_reducible repeat (first | refine blk_drewN ?_ _ | refine blk_drew ?_ | refine blk_alloc ?_ _)); refine blk_far ?_ NB101_121.out _; refine blk_far ?_ NB101_121.out _; refine blk_far ?_ NB101_121.out _; refine blk_far ?_ NB101_121.out _; refine blk_far ?_ NB101_121.out _; (with_reducible repeat (first | refine blk_drewN ?_ _ | refine blk_drew ?_ | refine blk_alloc ?_ _)); exact BK101.out⟩; have n1_ : Aside0 ((((((w25.setCell ⟨gb121, 0, none⟩ (.int .i64 t116)).setCell ⟨gb121, 1, none⟩ (.int .i64 t117)).setCell ⟨gb121, 2, none⟩ (.int .i64 t118)).setCell ⟨gb121, 3, none⟩ (.int .i64 t119)).setCell ⟨gb121, 4, none⟩ (.bool t120)).heap[gb109]? = some (.cells #[.int .i64 t104, .int .i64 t105, .int .i64 t106, .int .i64 t107] 42 (0, 0))) := ⟨by (with_reducible repeat (first | refine blk_drewN ?_ _ | refine blk_drew ?_ | refine blk_alloc ?_ _)); refine blk_far ?_ NB109_121.out _; refine blk_far ?_ NB109_121.out _; refine blk_far ?_ NB109_121.out _; refine blk_far ?_ NB109_121.out _; refine blk_far ?_ NB109_121.out _; (with_reducible repeat (first | refine blk_drewN ?_ _ | refine blk_drew ?_ | refine blk_alloc ?_ _)); exact BK109.out⟩
     have n2_ : Aside0 ((((((w25.setCell ⟨gb121, 0, none⟩ (.int .i64 t116)).setCell ⟨gb121, 1, none⟩ (.int .i64 t117)).setCell ⟨gb121, 2, none⟩ (.int .i64 t118)).setCell ⟨gb121, 3, none⟩ (.int .i64 t119)).setCell ⟨gb121, 4, none⟩ (.bool t120)).heap[gb115]? = some (.cells #[.int .i64 t110, .int .i64 t111, .int .i64 t112, .int .i64 t113] 42 (0, 0))) := ⟨by (with_reducible repeat (first | refine blk_drewN ?_ _ | refine blk_drew ?_ | refine blk_alloc ?_ _)); refine blk_far ?_ NB115_121.out _; refine blk_far ?_ NB115_121.out _; refine blk_far ?_ NB115_121.out _; refine blk_far ?_ NB115_121.out _; refine blk_far ?_ NB115_121.out _; (with_reducible repeat (first | refine blk_drewN ?_ _ | refine blk_drew ?_ | refine blk_alloc ?_ _)); exact BK115.out⟩; have n3_ : Aside0 ((((((w25.setCell ⟨gb121, 0, none⟩ (.int .i64 t116)).setCell ⟨gb121, 1, none⟩ (.int .i64 t117)).setCell ⟨gb121, 2, none⟩ (.int .i64 t118)).setCell ⟨gb121, 3, none⟩ (.int .i64 t119)).setCell ⟨gb121, 4, none⟩ (.bool t120)).heap[gb121]? = some (.cells #[.int .i64 t116, .int .i64 t117, .int .i64 t118, .int .i64 t119, .bool t120] 47 (0, 0))) := ⟨by (with_reducible repeat (first | refine blk_drewN ?_ _ | refine blk_drew ?_ | refine blk_alloc ?_ _)); refine blk_put (cs := #[.int .i64 t116, .int .i64 t117, .int .i64 t118, .int .i64 t119, .bool false]) ?_ 4 _ rfl; refine blk_put (cs := #[.int .i64 t116, .int .i64 t117, .int .i64 t118, .int .i64 0, .bool false]) ?_ 3 _ rfl; refine blk_put (cs := #[.int .i64 t116, .int .i64 t117, .int .i64 0, .int .i64 0, .bool false]) ?_ 2 _ rfl; refine blk_put (cs := #[.int .i64 t116, .int .i64 0, .int .i64 0, .int .i64 0, .bool false]) ?_ 1 _ rfl; refine blk_put (cs := #[.int .i64 0, .int .i64 0, .int .i64 0, .int .i64 0, .bool false]) ?_ 0 _ rfl; (with_reducible repeat (first | refine blk_drewN ?_ _ | refine blk_drew ?_ | refine blk_alloc ?_ _)); exact BK121.out⟩
     have n4_ : Aside0 (Below w.heap.size w (((((w25.setCell ⟨gb121, 0, none⟩ (.int .i64 t116)).setCell ⟨gb121, 1, none⟩ (.int .i64 t117)).setCell ⟨gb121, 2, none⟩ (.int .i64 t118)).setCell ⟨gb121, 3, none⟩ (.int .i64 t119)).setCell ⟨gb121, 4, none⟩ (.bool t120))) := ⟨by repeat (first | (with_reducible first | exact HB.out | apply below_alloc | apply pw_below_drewN | apply below_drew1 | refine below_set ?_ GE101.out | refine below_set ?_ GE109.out | refine below_set ?_ GE115.out | refine below_set ?_ GE121.out) | exact HB.out)⟩; (try clear BK101); (try clear BK109); (try clear BK115); (try clear BK121); (try clear HB)
     generalize (((((w25.setCell ⟨gb121, 0, none⟩ (.int .i64 t116)).setCell ⟨gb121, 1, none⟩ (.int .i64 t117)).setCell ⟨gb121, 2, none⟩ (.int .i64 t118)).setCell ⟨gb121, 3, none⟩ (.int .i64 t119)).setCell ⟨gb121, 4, none⟩ (.bool t120)) = w35 at n0_ n1_ n2_ n3_ n4_ ⊢; have BK101 := n0_; have BK109 := n1_; have BK115 := n2_; have BK121 := n3_; have HB := n4_; clear n0_ n1_ n2_ n3_ n4_; (try (rw [drewN_self w35]; generalize hq_ : World.drewN w35 _ = w35; have n0_ : Aside0 (w35.heap[gb101]? = some (.cells #[.int .i64 a0_0, .int .i64 a0_1, .int .i64 a0_2, .int .i64 a0_3] 42 (0, 0))) := ⟨by rw [← hq_]; exact (pkx BK101)⟩; have n1_ : Aside0 (w35.heap[gb109]? = some (.cells #[.int .i64 t104, .int .i64 t105, .int .i64 t106, .int .i64 t107] 42 (0, 0))) := ⟨by rw [← hq_]; exact (pkx BK109)⟩; have n2_ : Aside0 (w35.heap[gb115]? = some (.cells #[.int .i64 t110, .int .i64 t111, .int .i64 t112, .int .i64 t113] 42 (0, 0))) := ⟨by rw [← hq_]; exact (pkx BK115)⟩; have n3_ : Aside0 (w35.heap[gb121]? = some (.cells #[.int .i64 t116, .int .i64 t117, .int .i64 t118, .int .i64 t119, .bool t120] 47 (0, 0))) := ⟨by rw [← hq_]; exact (pkx BK121)⟩; have n4_ : Aside0 (Below w.heap.size w w35) := ⟨by rw [← hq_]; exact (pbx HB)⟩; clear BK101 BK109 BK115 BK121 HB hq_; have BK101 := n0_; have BK109 := n1_; have BK115 := n2_; have BK121 := n3_; have HB := n4_; clear n0_ n1_ n2_ n3_ n4_))
     replace BK101 := Aside0.mk (blk_drew BK101.out); replace BK109 := Aside0.mk (blk_drew BK109.out); replace BK115 := Aside0.mk (blk_drew BK115.out); replace BK121 := Aside0.mk (blk_drew BK121.out); replace HB := Aside0.mk (below_drew1 HB.out)
     refine start_ (n:=31) (S := fun w' => w'.cell? ⟨gb101, 0, none⟩ = some (.int .i64 a0_0) ∧ w'.cell? ⟨gb101, 1, none⟩ = some (.int .i64 a0_1) ∧ w'.cell? ⟨gb101, 2, none⟩ = some (.int .i64 a0_2) ∧ w'.cell? ⟨gb101, 3, none⟩ = some (.int .i64 a0_3)) (ds := []) #[F,F,F,F,F,F,F,F,F,F,F,F,F,F,F,F,F,F,F,F,F,F,F,F,F,F,F,F,F,F,F] (by kernel_rfl) rfl rfl ⟨bc_ BK101 0 rfl, bc_ BK101 1 rfl, bc_ BK101 2 rfl, bc_ BK101 3 rfl⟩ (fun hHeld => ?_); refine with_tabW oculuslaw04_SpanBack.tab6 oculuslaw04_SpanBack.bits6 (fun HT_ HW_ => ?_)
     generalize w35.drew = w36 at BK101 BK109 BK115 BK121 HB hHeld ⊢; refine take_ (i:=0) (N:=some 27) (v:=?_) (a':=?_) ⟨m_ 31 1⟩ rfl rfl (take_ofW HT_.out HW_.out (by kernel_rfl)) (fun _ _ _ h=>h) (Or.inl ⟨rfl, ?_⟩) hHeld ?_ ?_; rotate_left
     ·rintro w' ⟨s0, s1, s2, s3⟩; go_simp; with_reducible rfl
     rotate_left
     ·simp only [q_, i64_w, i32_w]; rfl
     refine take_ (i:=2) (N:=some 29) (v:=?_) (a':=?_) ⟨m_ 31 5⟩ rfl rfl (take_ofW HT_.out HW_.out (by kernel_rfl)) (fun _ _ _ h=>h) (Or.inl ⟨rfl, ?_⟩) hHeld ?_ ?_; rotate_left
     ·rintro w' ⟨s0, s1, s2, s3⟩; go_simp; with_reducible rfl
     rotate_left
     ·simp only [q_, i64_w, i32_w]; rfl
     refine one_ (i:=1) (N:=some 28) ⟨m_ 31 7⟩ rfl rfl (one_of HT_.out (by kernel_rfl)) (by decide) (fun K hK => ?_); refine goes_ Tryd.func27 (by kernel_rfl) rfl #[.agg #[.int .i64 a0_0, .int .i64 a0_1, .int .i64 a0_2, .int .i64 a0_3]] (by rfl) rfl rfl (by (try simp only [List.map_toArray, List.map_cons, List.map_nil]); first | done | rfl | (simp only [List.length_drop, List.length_take]; rfl)) ?_; with_reducible refine (span_Text.calls k a0_0 a0_1 a0_2 a0_3 t122 _ (by refine tb_ ?_ hT; repeat' (first | exact pbx HB | assumption | refine below_set ?_ (Aside0.out ?_))) A30.out).mono ?_; rintro e w37 ⟨rfl, hb⟩; refine ⟨_, rfl, ?_⟩
     replace BK101 := bb_ BK101 hb; replace BK109 := bb_ BK109 hb; replace BK115 := bb_ BK115 hb; replace BK121 := bb_ BK121 hb; replace HB := bs_ HB hb; (try clear hb); (try clear hb2); (try clear hk); (try clear hi); refine hK.out _ _ ⟨bc_ BK101 0 rfl, bc_ BK101 1 rfl, bc_ BK101 2 rfl, bc_ BK101 3 rfl⟩ (fun hHeld => ?_); clear hK K; refine norm_ (a':=?_) ?_ ?_; rotate_left
     ·show Act.put _ (some 28) _ = _; simp only [q_, i64_w, i32_w]; rfl
     refine one_ (i:=3) (N:=some 30) ⟨m_ 31 15⟩ rfl rfl (one_of HT_.out (by kernel_rfl)) (by decide) (fun K hK => ?_); refine goes_ Tryd.func29 (by kernel_rfl) rfl #[.agg #[.int .i64 a0_0, .int .i64 a0_1, .int .i64 a0_2, .int .i64 a0_3]] (by rfl) rfl rfl (by (try simp only [List.map_toArray, List.map_cons, List.map_nil]); first | done | rfl | (simp only [List.length_drop, List.length_take]; rfl)) ?_; with_reducible refine (oculusref04_Text.calls k a0_0 a0_1 a0_2 a0_3 t123 _ A31.out).mono ?_; rintro e w38 ⟨rfl, hb⟩; refine ⟨_, rfl, ?_⟩
     replace BK101 := bb_ BK101 hb; replace BK109 := bb_ BK109 hb; replace BK115 := bb_ BK115 hb; replace BK121 := bb_ BK121 hb; replace HB := bs_ HB hb; (try clear hb); (try clear hb2); (try clear hk); (try clear hi); refine hK.out _ _ ⟨bc_ BK101 0 rfl, bc_ BK101 1 rfl, bc_ BK101 2 rfl, bc_ BK101 3 rfl⟩ (fun hHeld => ?_); clear hK K; refine norm_ (a':=?_) ?_ ?_; rotate_left
     ·show Act.put _ (some 30) _ = _; simp only [q_, i64_w, i32_w]; rfl
     refine pure_ (i:=4) (N:=some 31) (v:=?_) (a':=?_) ⟨m_ 31 31⟩ rfl rfl (any_of HT_.out (by kernel_rfl)) (fun _ _ _ h=>h) (Or.inl ⟨rfl, ?_⟩) ?_ ?_; rotate_left
     ·intro w'; go_simp; with_reducible rfl
     rotate_left
     ·simp only [q_, i64_w, i32_w]; rfl
     refine pure_ (i:=5) (N:=some 32) (v:=?_) (a':=?_) ⟨m_ 31 63⟩ rfl rfl (any_of HT_.out (by kernel_rfl)) (fun _ _ _ h=>h) (Or.inl ⟨rfl, ?_⟩) ?_ ?_; rotate_left
     ·intro w'; go_simp; with_reducible rfl
     rotate_left
     ·simp only [q_, i64_w, i32_w]; rfl
     refine pure_ (i:=6) (N:=some 33) (v:=?_) (a':=?_) ⟨m_ 31 127⟩ rfl rfl (any_of HT_.out (by kernel_rfl)) (fun _ _ _ h=>h) (Or.inl ⟨rfl, ?_⟩) ?_ ?_; rotate_left
     ·intro w'; go_simp; with_reducible rfl
     rotate_left
     ·simp only [q_, i64_w, i32_w]; rfl
     refine take_ (i:=7) (N:=some 34) (v:=?_) (a':=?_) ⟨m_ 31 255⟩ rfl rfl (take_ofW HT_.out HW_.out (by kernel_rfl)) (fun _ _ _ h=>h) (Or.inl ⟨rfl, ?_⟩) hHeld ?_ ?_; rotate_left
     ·rintro w' ⟨s0, s1, s2, s3⟩; go_simp; with_reducible rfl
     rotate_left
     ·simp only [q_, i64_w, i32_w]; rfl
     refine one_ (i:=8) (N:=some 35) ⟨m_ 31 511⟩ rfl rfl (one_of HT_.out (by kernel_rfl)) (by decide) (fun K hK => ?_); refine goes_ Tryd.func30 (by kernel_rfl) rfl #[.agg #[.int .i64 a0_0, .int .i64 a0_1, .int .i64 a0_2, .int .i64 a0_3]] (by rfl) rfl rfl (by (try simp only [List.map_toArray, List.map_cons, List.map_nil]); first | done | rfl | (simp only [List.length_drop, List.length_take]; rfl)) ?_; with_reducible refine (span_May.calls a0_0 a0_1 a0_2 a0_3 t124 _ A33.out).mono ?_; rintro e w39 ⟨rfl, hb⟩; refine ⟨_, rfl, ?_⟩
     replace BK101 := bb_ BK101 hb; replace BK109 := bb_ BK109 hb; replace BK115 := bb_ BK115 hb; replace BK121 := bb_ BK121 hb; replace HB := bs_ HB hb; (try clear hb); (try clear hb2); (try clear hk); (try clear hi); refine hK.out _ _ ⟨bc_ BK101 0 rfl, bc_ BK101 1 rfl, bc_ BK101 2 rfl, bc_ BK101 3 rfl⟩ (fun hHeld => ?_); clear hK K; refine norm_ (a':=?_) ?_ ?_; rotate_left
     ·show Act.put _ (some 35) _ = _; simp only [q_, i64_w, i32_w]; rfl
     refine pure_ (i:=9) (N:=some 36) (v:=?_) (a':=?_) ⟨m_ 31 1023⟩ rfl rfl (any_of HT_.out (by kernel_rfl)) (fun _ _ _ h=>h) (Or.inl ⟨rfl, ?_⟩) ?_ ?_; rotate_left
     ·intro w'; go_simp; with_reducible rfl
     rotate_left
     ·simp only [q_, i64_w, i32_w]; rfl
     refine pure_ (i:=10) (N:=some 37) (v:=?_) (a':=?_) ⟨m_ 31 2047⟩ rfl rfl (any_of HT_.out (by kernel_rfl)) (fun _ _ _ h=>h) (Or.inl ⟨rfl, ?_⟩) ?_ ?_; rotate_left
     ·intro w'; go_simp; with_reducible rfl
     rotate_left
     ·simp only [q_, i64_w, i32_w]; rfl
     refine pure_ (i:=11) (N:=some 38) (v:=?_) (a':=?_) ⟨m_ 31 4095⟩ rfl rfl (any_of HT_.out (by kernel_rfl)) (fun _ _ _ h=>h) (Or.inl ⟨rfl, ?_⟩) ?_ ?_; rotate_left
     ·intro w'; go_simp; with_reducible rfl
     rotate_left
     ·simp only [q_, i64_w, i32_w]; rfl
     refine pure_ (i:=12) (N:=some 39) (v:=undef) (a':=?_) ⟨m_ 31 8191⟩ rfl rfl (any_of HT_.out (by kernel_rfl)) (fun _ _ _ h=>h) (Or.inr ⟨by rfl, rfl⟩) ?_ ?_; rotate_left
     ·simp only [q_, i64_w, i32_w]; rfl
     refine pure_ (i:=13) (N:=some 40) (v:=undef) (a':=?_) ⟨m_ 31 16383⟩ rfl rfl (any_of HT_.out (by kernel_rfl)) (fun _ _ _ h=>h) (Or.inr ⟨by rfl, rfl⟩) ?_ ?_; rotate_left
     ·simp only [q_, i64_w, i32_w]; rfl
     refine pure_ (i:=14) (N:=some 41) (v:=undef) (a':=?_) ⟨m_ 31 32767⟩ rfl rfl (any_of HT_.out (by kernel_rfl)) (fun _ _ _ h=>h) (Or.inr ⟨by rfl, rfl⟩) ?_ ?_; rotate_left
     ·simp only [q_, i64_w, i32_w]; rfl
     refine pure_ (i:=15) (N:=some 42) (v:=undef) (a':=?_) ⟨m_ 31 65535⟩ rfl rfl (any_of HT_.out (by kernel_rfl)) (fun _ _ _ h=>h) (Or.inr ⟨by rfl, rfl⟩) ?_ ?_; rotate_left
     ·simp only [q_, i64_w, i32_w]; rfl
     refine pure_ (i:=16) (N:=some 43) (v:=undef) (a':=?_) ⟨m_ 31 131071⟩ rfl rfl (any_of HT_.out (by kernel_rfl)) (fun _ _ _ h=>h) (Or.inr ⟨by rfl, rfl⟩) ?_ ?_; rotate_left
     ·simp only [q_, i64_w, i32_w]; rfl
     refine pure_ (i:=17) (N:=some 44) (v:=undef) (a':=?_) ⟨m_ 31 262143⟩ rfl rfl (any_of HT_.out (by kernel_rfl)) (fun _ _ _ h=>h) (Or.inr ⟨by rfl, rfl⟩) ?_ ?_; rotate_left
     ·simp only [q_, i64_w, i32_w]; rfl
     refine pure_ (i:=18) (N:=some 45) (v:=?_) (a':=?_) ⟨m_ 31 524287⟩ rfl rfl (any_of HT_.out (by kernel_rfl)) (fun _ _ _ h=>h) (Or.inl ⟨rfl, ?_⟩) ?_ ?_; rotate_left
     ·intro w'; go_simp; with_reducible rfl
     rotate_left
     ·simp only [q_, i64_w, i32_w]; rfl
     refine pure_ (i:=19) (N:=some 46) (v:=?_) (a':=?_) ⟨m_ 31 1048575⟩ rfl rfl (any_of HT_.out (by kernel_rfl)) (fun _ _ _ h=>h) (Or.inl ⟨rfl, ?_⟩) ?_ ?_; rotate_left
     ·intro w'; go_simp; with_reducible rfl
     rotate_left
     ·simp only [q_, i64_w, i32_w]; rfl
     refine pure_ (i:=20) (N:=some 47) (v:=undef) (a':=?_) ⟨m_ 31 2097151⟩ rfl rfl (any_of HT_.out (by kernel_rfl)) (fun _ _ _ h=>h) (Or.inr ⟨by rfl, rfl⟩) ?_ ?_; rotate_left
     ·simp only [q_, i64_w, i32_w]; rfl
     refine pure_ (i:=21) (N:=some 48) (v:=undef) (a':=?_) ⟨m_ 31 4194303⟩ rfl rfl (any_of HT_.out (by kernel_rfl)) (fun _ _ _ h=>h) (Or.inr ⟨by rfl, rfl⟩) ?_ ?_; rotate_left
     ·simp only [q_, i64_w, i32_w]; rfl
     refine pure_ (i:=22) (N:=some 49) (v:=undef) (a':=?_) ⟨m_ 31 8388607⟩ rfl rfl (any_of HT_.out (by kernel_rfl)) (fun _ _ _ h=>h) (Or.inr ⟨by rfl, rfl⟩) ?_ ?_; rotate_left
     ·simp only [q_, i64_w, i32_w]; rfl
     refine pure_ (i:=23) (N:=some 50) (v:=undef) (a':=?_) ⟨m_ 31 16777215⟩ rfl rfl (any_of HT_.out (by kernel_rfl)) (fun _ _ _ h=>h) (Or.inr ⟨by rfl, rfl⟩) ?_ ?_; rotate_left
     ·simp only [q_, i64_w, i32_w]; rfl
     refine pure_ (i:=24) (N:=some 51) (v:=?_) (a':=?_) ⟨m_ 31 33554431⟩ rfl rfl (any_of HT_.out (by kernel_rfl)) (fun _ _ _ h=>h) (Or.inl ⟨rfl, ?_⟩) ?_ ?_; rotate_left
     ·intro w'; go_simp; with_reducible rfl
     rotate_left
     ·simp only [q_, i64_w, i32_w]; rfl
     refine pure_ (i:=25) (N:=some 52) (v:=?_) (a':=?_) ⟨m_ 31 67108863⟩ rfl rfl (any_of HT_.out (by kernel_rfl)) (fun _ _ _ h=>h) (Or.inl ⟨rfl, ?_⟩) ?_ ?_; rotate_left
     ·intro w'; go_simp; with_reducible rfl
     rotate_left
     ·simp only [q_, i64_w, i32_w]; rfl
     refine pure_ (i:=26) (N:=some 53) (v:=undef) (a':=?_) ⟨m_ 31 134217727⟩ rfl rfl (any_of HT_.out (by kernel_rfl)) (fun _ _ _ h=>h) (Or.inr ⟨by rfl, rfl⟩) ?_ ?_; rotate_left
     ·simp only [q_, i64_w, i32_w]; rfl
     refine pure_ (i:=27) (N:=some 54) (v:=undef) (a':=?_) ⟨m_ 31 268435455⟩ rfl rfl (any_of HT_.out (by kernel_rfl)) (fun _ _ _ h=>h) (Or.inr ⟨by rfl, rfl⟩) ?_ ?_; rotate_left
     ·simp only [q_, i64_w, i32_w]; rfl
     refine pure_ (i:=28) (N:=some 55) (v:=undef) (a':=?_) ⟨m_ 31 536870911⟩ rfl rfl (any_of HT_.out (by kernel_rfl)) (fun _ _ _ h=>h) (Or.inr ⟨by rfl, rfl⟩) ?_ ?_; rotate_left
     ·simp only [q_, i64_w, i32_w]; rfl
     refine pure_ (i:=29) (N:=some 56) (v:=undef) (a':=?_) ⟨m_ 31 1073741823⟩ rfl rfl (any_of HT_.out (by kernel_rfl)) (fun _ _ _ h=>h) (Or.inr ⟨by rfl, rfl⟩) ?_ ?_; rotate_left
     ·simp only [q_, i64_w, i32_w]; rfl
     refine pure_ (i:=30) (N:=some 57) (v:=?_) (a':=?_) ⟨m_ 31 2147483647⟩ rfl rfl (any_of HT_.out (by kernel_rfl)) (fun _ _ _ h=>h) (Or.inl ⟨rfl, ?_⟩) ?_ ?_; rotate_left
     ·intro w'; go_simp; with_reducible rfl
     rotate_left
     ·simp only [q_, i64_w, i32_w]; rfl
     refine done_ (done_of HT_.out (by kernel_rfl)) ?_
     try go_wp2
     go_meet
     case rel => exact ⟨_, (true), (by first | rfl | (simp; done) | (simp [*]; done)), H', ⟨by first | omega | exact Nat.le_refl _⟩, ⟨pkx BK101⟩, ⟨pkx BK109⟩, ⟨pkx BK115⟩, ⟨pkx BK121⟩, ⟨pbx HB⟩⟩
    ·rw [if_neg c34] at H
     have c34b0 : (t108 != t124) = false := by simpa using c34
     (try (have c34b1 : decide (t108 = t124) = true := by simpa using c34)); (try (have c34b2 : (t108 == t124) = true := by simpa using c34)); clear c34
     by_cases c40 : t108 = true
     ·subst c40
      have H1 : (if ((!(t104 == a0_0) || (!(t105 == a0_1))) || ((!(t106 == a0_2) || (!(t107 == a0_3))))) = true then (oculuslaw04_SpanBack.j0 k a1 t114 true t110 t111 t112 t113) else (if (t114 != t120) = true then (oculuslaw04_SpanBack.j0 k a1 t114 true t110 t111 t112 t113) else (oculuslaw04_SpanBack.j0 k a1 t114 ((!(t110 == t116) || (!(t111 == t117))) || ((!(t112 == t118) || (!(t113 == t119))))) t110 t111 t112 t113))) = some r := by rw [if_pos rfl] at H; exact H
      clear H; have H := H1; clear H1
      by_cases c41 : ((!(t104 == a0_0) || (!(t105 == a0_1))) || ((!(t106 == a0_2) || (!(t107 == a0_3))))) = true
      ·rw [if_pos c41] at H
       have c41b0 : ((!(t104 == a0_0) || (!(t105 == a0_1))) || ((!(t106 == a0_2) || (!(t107 == a0_3))))) = true := c41
       clear c41
       have H' := Aside0.mk H
       clear H
       try go_wp2
       have n0_ : Aside0 ((((((w25.setCell ⟨gb121, 0, none⟩ (.int .i64 t116)).setCell ⟨gb121, 1, none⟩ (.int .i64 t117)).setCell ⟨gb121, 2, none⟩ (.int .i64 t118)).setCell ⟨gb121, 3, none⟩ (.int .i64 t119)).setCell ⟨gb121, 4, none⟩ (.bool t120)).heap[gb101]? = some (.cells #[.int .i64 a0_0, .int .i64 a0_1, .int .i64 a0_2, .int .i64 a0_3] 42 (0, 0))) := ⟨by (with_reducible repeat (first | refine blk_drewN ?_ _ | refine blk_drew ?_ | refine blk_alloc ?_ _)); refine blk_far ?_ NB101_121.out _; refine blk_far ?_ NB101_121.out _; refine blk_far ?_ NB101_121.out _; refine blk_far ?_ NB101_121.out _; refine blk_far ?_ NB101_121.out _; (with_reducible repeat (first | refine blk_drewN ?_ _ | refine blk_drew ?_ | refine blk_alloc ?_ _)); exact BK101.out⟩; have n1_ : Aside0 ((((((w25.setCell ⟨gb121, 0, none⟩ (.int .i64 t116)).setCell ⟨gb121, 1, none⟩ (.int .i64 t117)).setCell ⟨gb121, 2, none⟩ (.int .i64 t118)).setCell ⟨gb121, 3, none⟩ (.int .i64 t119)).setCell ⟨gb121, 4, none⟩ (.bool t120)).heap[gb109]? = some (.cells #[.int .i64 t104, .int .i64 t105, .int .i64 t106, .int .i64 t107] 42 (0, 0))) := ⟨by (with_reducible repeat (first | refine blk_drewN ?_ _ | refine blk_drew ?_ | refine blk_alloc ?_ _)); refine blk_far ?_ NB109_121.out _; refine blk_far ?_ NB109_121.out _; refine blk_far ?_ NB109_121.out _; refine blk_far ?_ NB109_121.out _; refine blk_far ?_ NB109_121.out _; (with_reducible repeat (first | refine blk_drewN ?_ _ | refine blk_drew ?_ | refine blk_alloc ?_ _)); exact BK109.out⟩
       have n2_ : Aside0 ((((((w25.setCell ⟨gb121, 0, none⟩ (.int .i64 t116)).setCell ⟨gb121, 1, none⟩ (.int .i64 t117)).setCell ⟨gb121, 2, none⟩ (.int .i64 t118)).setCell ⟨gb121, 3, none⟩ (.int .i64 t119)).setCell ⟨gb121, 4, none⟩ (.bool t120)).heap[gb115]? = some (.cells #[.int .i64 t110, .int .i64 t111, .int .i64 t112, .int .i64 t113] 42 (0, 0))) := ⟨by (with_reducible repeat (first | refine blk_drewN ?_ _ | refine blk_drew ?_ | refine blk_alloc ?_ _)); refine blk_far ?_ NB115_121.out _; refine blk_far ?_ NB115_121.out _; refine blk_far ?_ NB115_121.out _; refine blk_far ?_ NB115_121.out _; refine blk_far ?_ NB115_121.out _; (with_reducible repeat (first | refine blk_drewN ?_ _ | refine blk_drew ?_ | refine blk_alloc ?_ _)); exact BK115.out⟩; have n3_ : Aside0 ((((((w25.setCell ⟨gb121, 0, none⟩ (.int .i64 t116)).setCell ⟨gb121, 1, none⟩ (.int .i64 t117)).setCell ⟨gb121, 2, none⟩ (.int .i64 t118)).setCell ⟨gb121, 3, none⟩ (.int .i64 t119)).setCell ⟨gb121, 4, none⟩ (.bool t120)).heap[gb121]? = some (.cells #[.int .i64 t116, .int .i64 t117, .int .i64 t118, .int .i64 t119, .bool t120] 47 (0, 0))) := ⟨by (with_reducible repeat (first | refine blk_drewN ?_ _ | refine blk_drew ?_ | refine blk_alloc ?_ _)); refine blk_put (cs := #[.int .i64 t116, .int .i64 t117, .int .i64 t118, .int .i64 t119, .bool false]) ?_ 4 _ rfl; refine blk_put (cs := #[.int .i64 t116, .int .i64 t117, .int .i64 t118, .int .i64 0, .bool false]) ?_ 3 _ rfl; refine blk_put (cs := #[.int .i64 t116, .int .i64 t117, .int .i64 0, .int .i64 0, .bool false]) ?_ 2 _ rfl; refine blk_put (cs := #[.int .i64 t116, .int .i64 0, .int .i64 0, .int .i64 0, .bool false]) ?_ 1 _ rfl; refine blk_put (cs := #[.int .i64 0, .int .i64 0, .int .i64 0, .int .i64 0, .bool false]) ?_ 0 _ rfl; (with_reducible repeat (first | refine blk_drewN ?_ _ | refine blk_drew ?_ | refine blk_alloc ?_ _)); exact BK121.out⟩
       have n4_ : Aside0 (Below w.heap.size w (((((w25.setCell ⟨gb121, 0, none⟩ (.int .i64 t116)).setCell ⟨gb121, 1, none⟩ (.int .i64 t117)).setCell ⟨gb121, 2, none⟩ (.int .i64 t118)).setCell ⟨gb121, 3, none⟩ (.int .i64 t119)).setCell ⟨gb121, 4, none⟩ (.bool t120))) := ⟨by repeat (first | (with_reducible first | exact HB.out | apply below_alloc | apply pw_below_drewN | apply below_drew1 | refine below_set ?_ GE101.out | refine below_set ?_ GE109.out | refine below_set ?_ GE115.out | refine below_set ?_ GE121.out) | exact HB.out)⟩; (try clear BK101); (try clear BK109); (try clear BK115); (try clear BK121); (try clear HB)
       generalize (((((w25.setCell ⟨gb121, 0, none⟩ (.int .i64 t116)).setCell ⟨gb121, 1, none⟩ (.int .i64 t117)).setCell ⟨gb121, 2, none⟩ (.int .i64 t118)).setCell ⟨gb121, 3, none⟩ (.int .i64 t119)).setCell ⟨gb121, 4, none⟩ (.bool t120)) = w42 at n0_ n1_ n2_ n3_ n4_ ⊢; have BK101 := n0_; have BK109 := n1_; have BK115 := n2_; have BK121 := n3_; have HB := n4_; clear n0_ n1_ n2_ n3_ n4_; (try (rw [drewN_self w42]; generalize hq_ : World.drewN w42 _ = w42; have n0_ : Aside0 (w42.heap[gb101]? = some (.cells #[.int .i64 a0_0, .int .i64 a0_1, .int .i64 a0_2, .int .i64 a0_3] 42 (0, 0))) := ⟨by rw [← hq_]; exact (pkx BK101)⟩; have n1_ : Aside0 (w42.heap[gb109]? = some (.cells #[.int .i64 t104, .int .i64 t105, .int .i64 t106, .int .i64 t107] 42 (0, 0))) := ⟨by rw [← hq_]; exact (pkx BK109)⟩; have n2_ : Aside0 (w42.heap[gb115]? = some (.cells #[.int .i64 t110, .int .i64 t111, .int .i64 t112, .int .i64 t113] 42 (0, 0))) := ⟨by rw [← hq_]; exact (pkx BK115)⟩; have n3_ : Aside0 (w42.heap[gb121]? = some (.cells #[.int .i64 t116, .int .i64 t117, .int .i64 t118, .int .i64 t119, .bool t120] 47 (0, 0))) := ⟨by rw [← hq_]; exact (pkx BK121)⟩; have n4_ : Aside0 (Below w.heap.size w w42) := ⟨by rw [← hq_]; exact (pbx HB)⟩; clear BK101 BK109 BK115 BK121 HB hq_; have BK101 := n0_; have BK109 := n1_; have BK115 := n2_; have BK121 := n3_; have HB := n4_; clear n0_ n1_ n2_ n3_ n4_))
       replace BK101 := Aside0.mk (blk_drew BK101.out); replace BK109 := Aside0.mk (blk_drew BK109.out); replace BK115 := Aside0.mk (blk_drew BK115.out); replace BK121 := Aside0.mk (blk_drew BK121.out); replace HB := Aside0.mk (below_drew1 HB.out)
       refine start_ (n:=31) (S := fun w' => w'.cell? ⟨gb101, 0, none⟩ = some (.int .i64 a0_0) ∧ w'.cell? ⟨gb101, 1, none⟩ = some (.int .i64 a0_1) ∧ w'.cell? ⟨gb101, 2, none⟩ = some (.int .i64 a0_2) ∧ w'.cell? ⟨gb101, 3, none⟩ = some (.int .i64 a0_3) ∧ w'.cell? ⟨gb109, 0, none⟩ = some (.int .i64 t104) ∧ w'.cell? ⟨gb109, 1, none⟩ = some (.int .i64 t105) ∧ w'.cell? ⟨gb109, 2, none⟩ = some (.int .i64 t106) ∧ w'.cell? ⟨gb109, 3, none⟩ = some (.int .i64 t107)) (ds := []) #[F,F,F,F,F,F,F,F,F,F,F,F,F,F,F,F,F,F,F,F,F,F,F,F,F,F,F,F,F,F,F] (by kernel_rfl) rfl rfl ⟨bc_ BK101 0 rfl, bc_ BK101 1 rfl, bc_ BK101 2 rfl, bc_ BK101 3 rfl, bc_ BK109 0 rfl, bc_ BK109 1 rfl, bc_ BK109 2 rfl, bc_ BK109 3 rfl⟩ (fun hHeld => ?_); refine with_tabW oculuslaw04_SpanBack.tab6 oculuslaw04_SpanBack.bits6 (fun HT_ HW_ => ?_)
       generalize w42.drew = w43 at BK101 BK109 BK115 BK121 HB hHeld ⊢; refine take_ (i:=0) (N:=some 27) (v:=?_) (a':=?_) ⟨m_ 31 1⟩ rfl rfl (take_ofW HT_.out HW_.out (by kernel_rfl)) (fun _ _ _ h=>h) (Or.inl ⟨rfl, ?_⟩) hHeld ?_ ?_; rotate_left
       ·rintro w' ⟨s0, s1, s2, s3, s4, s5, s6, s7⟩; go_simp; with_reducible rfl
       rotate_left
       ·simp only [q_, i64_w, i32_w]; rfl
       refine take_ (i:=2) (N:=some 29) (v:=?_) (a':=?_) ⟨m_ 31 5⟩ rfl rfl (take_ofW HT_.out HW_.out (by kernel_rfl)) (fun _ _ _ h=>h) (Or.inl ⟨rfl, ?_⟩) hHeld ?_ ?_; rotate_left
       ·rintro w' ⟨s0, s1, s2, s3, s4, s5, s6, s7⟩; go_simp; with_reducible rfl
       rotate_left
       ·simp only [q_, i64_w, i32_w]; rfl
       refine one_ (i:=1) (N:=some 28) ⟨m_ 31 7⟩ rfl rfl (one_of HT_.out (by kernel_rfl)) (by decide) (fun K hK => ?_); refine goes_ Tryd.func27 (by kernel_rfl) rfl #[.agg #[.int .i64 a0_0, .int .i64 a0_1, .int .i64 a0_2, .int .i64 a0_3]] (by rfl) rfl rfl (by (try simp only [List.map_toArray, List.map_cons, List.map_nil]); first | done | rfl | (simp only [List.length_drop, List.length_take]; rfl)) ?_; with_reducible refine (span_Text.calls k a0_0 a0_1 a0_2 a0_3 t122 _ (by refine tb_ ?_ hT; repeat' (first | exact pbx HB | assumption | refine below_set ?_ (Aside0.out ?_))) A30.out).mono ?_; rintro e w44 ⟨rfl, hb⟩; refine ⟨_, rfl, ?_⟩
       replace BK101 := bb_ BK101 hb; replace BK109 := bb_ BK109 hb; replace BK115 := bb_ BK115 hb; replace BK121 := bb_ BK121 hb; replace HB := bs_ HB hb; (try clear hb); (try clear hb2); (try clear hk); (try clear hi); refine hK.out _ _ ⟨bc_ BK101 0 rfl, bc_ BK101 1 rfl, bc_ BK101 2 rfl, bc_ BK101 3 rfl, bc_ BK109 0 rfl, bc_ BK109 1 rfl, bc_ BK109 2 rfl, bc_ BK109 3 rfl⟩ (fun hHeld => ?_); clear hK K; refine norm_ (a':=?_) ?_ ?_; rotate_left
       ·show Act.put _ (some 28) _ = _; simp only [q_, i64_w, i32_w]; rfl
       refine one_ (i:=3) (N:=some 30) ⟨m_ 31 15⟩ rfl rfl (one_of HT_.out (by kernel_rfl)) (by decide) (fun K hK => ?_); refine goes_ Tryd.func29 (by kernel_rfl) rfl #[.agg #[.int .i64 a0_0, .int .i64 a0_1, .int .i64 a0_2, .int .i64 a0_3]] (by rfl) rfl rfl (by (try simp only [List.map_toArray, List.map_cons, List.map_nil]); first | done | rfl | (simp only [List.length_drop, List.length_take]; rfl)) ?_; with_reducible refine (oculusref04_Text.calls k a0_0 a0_1 a0_2 a0_3 t123 _ A31.out).mono ?_; rintro e w45 ⟨rfl, hb⟩; refine ⟨_, rfl, ?_⟩
       replace BK101 := bb_ BK101 hb; replace BK109 := bb_ BK109 hb; replace BK115 := bb_ BK115 hb; replace BK121 := bb_ BK121 hb; replace HB := bs_ HB hb; (try clear hb); (try clear hb2); (try clear hk); (try clear hi); refine hK.out _ _ ⟨bc_ BK101 0 rfl, bc_ BK101 1 rfl, bc_ BK101 2 rfl, bc_ BK101 3 rfl, bc_ BK109 0 rfl, bc_ BK109 1 rfl, bc_ BK109 2 rfl, bc_ BK109 3 rfl⟩ (fun hHeld => ?_); clear hK K; refine norm_ (a':=?_) ?_ ?_; rotate_left
       ·show Act.put _ (some 30) _ = _; simp only [q_, i64_w, i32_w]; rfl
       refine pure_ (i:=4) (N:=some 31) (v:=?_) (a':=?_) ⟨m_ 31 31⟩ rfl rfl (any_of HT_.out (by kernel_rfl)) (fun _ _ _ h=>h) (Or.inl ⟨rfl, ?_⟩) ?_ ?_; rotate_left
       ·intro w'; go_simp; with_reducible rfl
       rotate_left
       ·simp only [q_, i64_w, i32_w]; rfl
       refine pure_ (i:=5) (N:=some 32) (v:=?_) (a':=?_) ⟨m_ 31 63⟩ rfl rfl (any_of HT_.out (by kernel_rfl)) (fun _ _ _ h=>h) (Or.inl ⟨rfl, ?_⟩) ?_ ?_; rotate_left
       ·intro w'; go_simp; with_reducible rfl
       rotate_left
       ·simp only [q_, i64_w, i32_w]; rfl
       refine pure_ (i:=6) (N:=some 33) (v:=?_) (a':=?_) ⟨m_ 31 127⟩ rfl rfl (any_of HT_.out (by kernel_rfl)) (fun _ _ _ h=>h) (Or.inl ⟨rfl, ?_⟩) ?_ ?_; rotate_left
       ·intro w'; go_simp; with_reducible rfl
       rotate_left
       ·simp only [q_, i64_w, i32_w]; rfl
       refine take_ (i:=7) (N:=some 34) (v:=?_) (a':=?_) ⟨m_ 31 255⟩ rfl rfl (take_ofW HT_.out HW_.out (by kernel_rfl)) (fun _ _ _ h=>h) (Or.inl ⟨rfl, ?_⟩) hHeld ?_ ?_; rotate_left
       ·rintro w' ⟨s0, s1, s2, s3, s4, s5, s6, s7⟩; go_simp; with_reducible rfl
       rotate_left
       ·simp only [q_, i64_w, i32_w]; rfl
       refine one_ (i:=8) (N:=some 35) ⟨m_ 31 511⟩ rfl rfl (one_of HT_.out (by kernel_rfl)) (by decide) (fun K hK => ?_); refine goes_ Tryd.func30 (by kernel_rfl) rfl #[.agg #[.int .i64 a0_0, .int .i64 a0_1, .int .i64 a0_2, .int .i64 a0_3]] (by rfl) rfl rfl (by (try simp only [List.map_toArray, List.map_cons, List.map_nil]); first | done | rfl | (simp only [List.length_drop, List.length_take]; rfl)) ?_; with_reducible refine (span_May.calls a0_0 a0_1 a0_2 a0_3 t124 _ A33.out).mono ?_; rintro e w46 ⟨rfl, hb⟩; refine ⟨_, rfl, ?_⟩
       replace BK101 := bb_ BK101 hb; replace BK109 := bb_ BK109 hb; replace BK115 := bb_ BK115 hb; replace BK121 := bb_ BK121 hb; replace HB := bs_ HB hb; (try clear hb); (try clear hb2); (try clear hk); (try clear hi); refine hK.out _ _ ⟨bc_ BK101 0 rfl, bc_ BK101 1 rfl, bc_ BK101 2 rfl, bc_ BK101 3 rfl, bc_ BK109 0 rfl, bc_ BK109 1 rfl, bc_ BK109 2 rfl, bc_ BK109 3 rfl⟩ (fun hHeld => ?_); clear hK K; refine norm_ (a':=?_) ?_ ?_; rotate_left
       ·show Act.put _ (some 35) _ = _; simp only [q_, i64_w, i32_w]; rfl
       refine pure_ (i:=9) (N:=some 36) (v:=?_) (a':=?_) ⟨m_ 31 1023⟩ rfl rfl (any_of HT_.out (by kernel_rfl)) (fun _ _ _ h=>h) (Or.inl ⟨rfl, ?_⟩) ?_ ?_; rotate_left
       ·intro w'; go_simp; with_reducible rfl
       rotate_left
       ·simp only [q_, i64_w, i32_w]; rfl
       refine pure_ (i:=10) (N:=some 37) (v:=?_) (a':=?_) ⟨m_ 31 2047⟩ rfl rfl (any_of HT_.out (by kernel_rfl)) (fun _ _ _ h=>h) (Or.inl ⟨rfl, ?_⟩) ?_ ?_; rotate_left
       ·intro w'; go_simp; with_reducible rfl
       rotate_left
       ·simp only [q_, i64_w, i32_w]; rfl
       refine pure_ (i:=11) (N:=some 38) (v:=?_) (a':=?_) ⟨m_ 31 4095⟩ rfl rfl (any_of HT_.out (by kernel_rfl)) (fun _ _ _ h=>h) (Or.inl ⟨rfl, ?_⟩) ?_ ?_; rotate_left
       ·intro w'; go_simp; with_reducible rfl
       rotate_left
       ·simp only [q_, i64_w, i32_w]; rfl
       refine pure_ (i:=12) (N:=some 39) (v:=?_) (a':=?_) ⟨m_ 31 8191⟩ rfl rfl (any_of HT_.out (by kernel_rfl)) (fun _ _ _ h=>h) (Or.inl ⟨rfl, ?_⟩) ?_ ?_; rotate_left
       ·intro w'; go_simp; with_reducible rfl
       rotate_left
       ·simp only [q_, i64_w, i32_w]; rfl
       refine pure_ (i:=13) (N:=some 40) (v:=?_) (a':=?_) ⟨m_ 31 16383⟩ rfl rfl (any_of HT_.out (by kernel_rfl)) (fun _ _ _ h=>h) (Or.inl ⟨rfl, ?_⟩) ?_ ?_; rotate_left
       ·intro w'; go_simp; with_reducible rfl
       rotate_left
       ·simp only [q_, i64_w, i32_w]; rfl
       refine take_ (i:=14) (N:=some 41) (v:=?_) (a':=?_) ⟨m_ 31 32767⟩ rfl rfl (take_ofW HT_.out HW_.out (by kernel_rfl)) (fun _ _ _ h=>h) (Or.inl ⟨rfl, ?_⟩) hHeld ?_ ?_; rotate_left
       ·rintro w' ⟨s0, s1, s2, s3, s4, s5, s6, s7⟩; go_simp; with_reducible rfl
       rotate_left
       ·simp only [q_, i64_w, i32_w]; rfl
       refine take_ (i:=15) (N:=some 42) (v:=?_) (a':=?_) ⟨m_ 31 65535⟩ rfl rfl (take_ofW HT_.out HW_.out (by kernel_rfl)) (fun _ _ _ h=>h) (Or.inl ⟨rfl, ?_⟩) hHeld ?_ ?_; rotate_left
       ·rintro w' ⟨s0, s1, s2, s3, s4, s5, s6, s7⟩; go_simp; with_reducible rfl
       rotate_left
       ·simp only [q_, i64_w, i32_w]; rfl
       refine pure_ (i:=16) (N:=some 43) (v:=?_) (a':=?_) ⟨m_ 31 131071⟩ rfl rfl (any_of HT_.out (by kernel_rfl)) (fun _ _ _ h=>h) (Or.inl ⟨rfl, ?_⟩) ?_ ?_; rotate_left
       ·intro w'; go_simp; with_reducible rfl
       rotate_left
       ·simp only [q_, i64_w, i32_w]; rfl
       refine pure_ (i:=17) (N:=some 44) (v:=?_) (a':=?_) ⟨m_ 31 262143⟩ rfl rfl (any_of HT_.out (by kernel_rfl)) (fun _ _ _ h=>h) (Or.inl ⟨rfl, ?_⟩) ?_ ?_; rotate_left
       ·intro w'; go_simp; with_reducible rfl
       rotate_left
       ·simp only [q_, i64_w, i32_w]; rfl
       refine pure_ (i:=18) (N:=some 45) (v:=?_) (a':=?_) ⟨m_ 31 524287⟩ rfl rfl (any_of HT_.out (by kernel_rfl)) (fun _ _ _ h=>h) (Or.inl ⟨rfl, ?_⟩) ?_ ?_; rotate_left
       ·intro w'; go_simp; with_reducible rfl
       rotate_left
       ·simp only [q_, i64_w, i32_w]; rfl
       refine pure_ (i:=19) (N:=some 46) (v:=?_) (a':=?_) ⟨m_ 31 1048575⟩ rfl rfl (any_of HT_.out (by kernel_rfl)) (fun _ _ _ h=>h) (Or.inl ⟨rfl, ?_⟩) ?_ ?_; rotate_left
       ·intro w'; go_simp; with_reducible rfl
       rotate_left
       ·simp only [q_, i64_w, i32_w]; rfl
       refine pure_ (i:=20) (N:=some 47) (v:=undef) (a':=?_) ⟨m_ 31 2097151⟩ rfl rfl (any_of HT_.out (by kernel_rfl)) (fun _ _ _ h=>h) (Or.inr ⟨by rfl, rfl⟩) ?_ ?_; rotate_left
       ·simp only [q_, i64_w, i32_w]; rfl
       refine pure_ (i:=21) (N:=some 48) (v:=undef) (a':=?_) ⟨m_ 31 4194303⟩ rfl rfl (any_of HT_.out (by kernel_rfl)) (fun _ _ _ h=>h) (Or.inr ⟨by rfl, rfl⟩) ?_ ?_; rotate_left
       ·simp only [q_, i64_w, i32_w]; rfl
       refine pure_ (i:=22) (N:=some 49) (v:=undef) (a':=?_) ⟨m_ 31 8388607⟩ rfl rfl (any_of HT_.out (by kernel_rfl)) (fun _ _ _ h=>h) (Or.inr ⟨by rfl, rfl⟩) ?_ ?_; rotate_left
       ·simp only [q_, i64_w, i32_w]; rfl
       refine pure_ (i:=23) (N:=some 50) (v:=undef) (a':=?_) ⟨m_ 31 16777215⟩ rfl rfl (any_of HT_.out (by kernel_rfl)) (fun _ _ _ h=>h) (Or.inr ⟨by rfl, rfl⟩) ?_ ?_; rotate_left
       ·simp only [q_, i64_w, i32_w]; rfl
       refine pure_ (i:=24) (N:=some 51) (v:=?_) (a':=?_) ⟨m_ 31 33554431⟩ rfl rfl (any_of HT_.out (by kernel_rfl)) (fun _ _ _ h=>h) (Or.inl ⟨rfl, ?_⟩) ?_ ?_; rotate_left
       ·intro w'; go_simp; with_reducible rfl
       rotate_left
       ·simp only [q_, i64_w, i32_w]; rfl
       refine pure_ (i:=25) (N:=some 52) (v:=?_) (a':=?_) ⟨m_ 31 67108863⟩ rfl rfl (any_of HT_.out (by kernel_rfl)) (fun _ _ _ h=>h) (Or.inl ⟨rfl, ?_⟩) ?_ ?_; rotate_left
       ·intro w'; go_simp; with_reducible rfl
       rotate_left
       ·simp only [q_, i64_w, i32_w]; rfl
       refine pure_ (i:=26) (N:=some 53) (v:=undef) (a':=?_) ⟨m_ 31 134217727⟩ rfl rfl (any_of HT_.out (by kernel_rfl)) (fun _ _ _ h=>h) (Or.inr ⟨by rfl, rfl⟩) ?_ ?_; rotate_left
       ·simp only [q_, i64_w, i32_w]; rfl
       refine pure_ (i:=27) (N:=some 54) (v:=undef) (a':=?_) ⟨m_ 31 268435455⟩ rfl rfl (any_of HT_.out (by kernel_rfl)) (fun _ _ _ h=>h) (Or.inr ⟨by rfl, rfl⟩) ?_ ?_; rotate_left
       ·simp only [q_, i64_w, i32_w]; rfl
       refine pure_ (i:=28) (N:=some 55) (v:=undef) (a':=?_) ⟨m_ 31 536870911⟩ rfl rfl (any_of HT_.out (by kernel_rfl)) (fun _ _ _ h=>h) (Or.inr ⟨by rfl, rfl⟩) ?_ ?_; rotate_left
       ·simp only [q_, i64_w, i32_w]; rfl
       refine pure_ (i:=29) (N:=some 56) (v:=undef) (a':=?_) ⟨m_ 31 1073741823⟩ rfl rfl (any_of HT_.out (by kernel_rfl)) (fun _ _ _ h=>h) (Or.inr ⟨by rfl, rfl⟩) ?_ ?_; rotate_left
       ·simp only [q_, i64_w, i32_w]; rfl
       refine pure_ (i:=30) (N:=some 57) (v:=?_) (a':=?_) ⟨m_ 31 2147483647⟩ rfl rfl (any_of HT_.out (by kernel_rfl)) (fun _ _ _ h=>h) (Or.inl ⟨rfl, ?_⟩) ?_ ?_; rotate_left
       ·intro w'; go_simp; with_reducible rfl
       rotate_left
       ·simp only [q_, i64_w, i32_w]; rfl
       refine done_ (done_of HT_.out (by kernel_rfl)) ?_
       try go_wp2
       go_meet
       case rel => exact ⟨_, (true), (by first | rfl | (simp; done) | (simp [*]; done)), H', ⟨by first | omega | exact Nat.le_refl _⟩, ⟨pkx BK101⟩, ⟨pkx BK109⟩, ⟨pkx BK115⟩, ⟨pkx BK121⟩, ⟨pbx HB⟩⟩
      ·rw [if_neg c41] at H
       have c41b0 : ((!(t104 == a0_0) || (!(t105 == a0_1))) || ((!(t106 == a0_2) || (!(t107 == a0_3))))) = false := by simpa using c41
       clear c41
       by_cases c47 : (t114 != t120) = true
       ·rw [if_pos c47] at H
        have c47b0 : (t114 != t120) = true := c47
        (try (have c47b1 : decide (t114 = t120) = false := by simpa using c47)); (try (have c47b2 : (t114 == t120) = false := by simpa using c47)); (try (have c47b3 : ¬ (t114 = t120) := by simpa using c47)); clear c47
        have H' := Aside0.mk H
        clear H
        try go_wp2
        have n0_ : Aside0 ((((((w25.setCell ⟨gb121, 0, none⟩ (.int .i64 t116)).setCell ⟨gb121, 1, none⟩ (.int .i64 t117)).setCell ⟨gb121, 2, none⟩ (.int .i64 t118)).setCell ⟨gb121, 3, none⟩ (.int .i64 t119)).setCell ⟨gb121, 4, none⟩ (.bool t120)).heap[gb101]? = some (.cells #[.int .i64 a0_0, .int .i64 a0_1, .int .i64 a0_2, .int .i64 a0_3] 42 (0, 0))) := ⟨by (with_reducible repeat (first | refine blk_drewN ?_ _ | refine blk_drew ?_ | refine blk_alloc ?_ _)); refine blk_far ?_ NB101_121.out _; refine blk_far ?_ NB101_121.out _; refine blk_far ?_ NB101_121.out _; refine blk_far ?_ NB101_121.out _; refine blk_far ?_ NB101_121.out _; (with_reducible repeat (first | refine blk_drewN ?_ _ | refine blk_drew ?_ | refine blk_alloc ?_ _)); exact BK101.out⟩; have n1_ : Aside0 ((((((w25.setCell ⟨gb121, 0, none⟩ (.int .i64 t116)).setCell ⟨gb121, 1, none⟩ (.int .i64 t117)).setCell ⟨gb121, 2, none⟩ (.int .i64 t118)).setCell ⟨gb121, 3, none⟩ (.int .i64 t119)).setCell ⟨gb121, 4, none⟩ (.bool t120)).heap[gb109]? = some (.cells #[.int .i64 t104, .int .i64 t105, .int .i64 t106, .int .i64 t107] 42 (0, 0))) := ⟨by (with_reducible repeat (first | refine blk_drewN ?_ _ | refine blk_drew ?_ | refine blk_alloc ?_ _)); refine blk_far ?_ NB109_121.out _; refine blk_far ?_ NB109_121.out _; refine blk_far ?_ NB109_121.out _; refine blk_far ?_ NB109_121.out _; refine blk_far ?_ NB109_121.out _; (with_reducible repeat (first | refine blk_drewN ?_ _ | refine blk_drew ?_ | refine blk_alloc ?_ _)); exact BK109.out⟩
        have n2_ : Aside0 ((((((w25.setCell ⟨gb121, 0, none⟩ (.int .i64 t116)).setCell ⟨gb121, 1, none⟩ (.int .i64 t117)).setCell ⟨gb121, 2, none⟩ (.int .i64 t118)).setCell ⟨gb121, 3, none⟩ (.int .i64 t119)).setCell ⟨gb121, 4, none⟩ (.bool t120)).heap[gb115]? = some (.cells #[.int .i64 t110, .int .i64 t111, .int .i64 t112, .int .i64 t113] 42 (0, 0))) := ⟨by (with_reducible repeat (first | refine blk_drewN ?_ _ | refine blk_drew ?_ | refine blk_alloc ?_ _)); refine blk_far ?_ NB115_121.out _; refine blk_far ?_ NB115_121.out _; refine blk_far ?_ NB115_121.out _; refine blk_far ?_ NB115_121.out _; refine blk_far ?_ NB115_121.out _; (with_reducible repeat (first | refine blk_drewN ?_ _ | refine blk_drew ?_ | refine blk_alloc ?_ _)); exact BK115.out⟩; have n3_ : Aside0 ((((((w25.setCell ⟨gb121, 0, none⟩ (.int .i64 t116)).setCell ⟨gb121, 1, none⟩ (.int .i64 t117)).setCell ⟨gb121, 2, none⟩ (.int .i64 t118)).setCell ⟨gb121, 3, none⟩ (.int .i64 t119)).setCell ⟨gb121, 4, none⟩ (.bool t120)).heap[gb121]? = some (.cells #[.int .i64 t116, .int .i64 t117, .int .i64 t118, .int .i64 t119, .bool t120] 47 (0, 0))) := ⟨by (with_reducible repeat (first | refine blk_drewN ?_ _ | refine blk_drew ?_ | refine blk_alloc ?_ _)); refine blk_put (cs := #[.int .i64 t116, .int .i64 t117, .int .i64 t118, .int .i64 t119, .bool false]) ?_ 4 _ rfl; refine blk_put (cs := #[.int .i64 t116, .int .i64 t117, .int .i64 t118, .int .i64 0, .bool false]) ?_ 3 _ rfl; refine blk_put (cs := #[.int .i64 t116, .int .i64 t117, .int .i64 0, .int .i64 0, .bool false]) ?_ 2 _ rfl; refine blk_put (cs := #[.int .i64 t116, .int .i64 0, .int .i64 0, .int .i64 0, .bool false]) ?_ 1 _ rfl; refine blk_put (cs := #[.int .i64 0, .int .i64 0, .int .i64 0, .int .i64 0, .bool false]) ?_ 0 _ rfl; (with_reducible repeat (first | refine blk_drewN ?_ _ | refine blk_drew ?_ | refine blk_alloc ?_ _)); exact BK121.out⟩
        have n4_ : Aside0 (Below w.heap.size w (((((w25.setCell ⟨gb121, 0, none⟩ (.int .i64 t116)).setCell ⟨gb121, 1, none⟩ (.int .i64 t117)).setCell ⟨gb121, 2, none⟩ (.int .i64 t118)).setCell ⟨gb121, 3, none⟩ (.int .i64 t119)).setCell ⟨gb121, 4, none⟩ (.bool t120))) := ⟨by repeat (first | (with_reducible first | exact HB.out | apply below_alloc | apply pw_below_drewN | apply below_drew1 | refine below_set ?_ GE101.out | refine below_set ?_ GE109.out | refine below_set ?_ GE115.out | refine below_set ?_ GE121.out) | exact HB.out)⟩; (try clear BK101); (try clear BK109); (try clear BK115); (try clear BK121); (try clear HB)
        generalize (((((w25.setCell ⟨gb121, 0, none⟩ (.int .i64 t116)).setCell ⟨gb121, 1, none⟩ (.int .i64 t117)).setCell ⟨gb121, 2, none⟩ (.int .i64 t118)).setCell ⟨gb121, 3, none⟩ (.int .i64 t119)).setCell ⟨gb121, 4, none⟩ (.bool t120)) = w48 at n0_ n1_ n2_ n3_ n4_ ⊢; have BK101 := n0_; have BK109 := n1_; have BK115 := n2_; have BK121 := n3_; have HB := n4_; clear n0_ n1_ n2_ n3_ n4_; (try (rw [drewN_self w48]; generalize hq_ : World.drewN w48 _ = w48; have n0_ : Aside0 (w48.heap[gb101]? = some (.cells #[.int .i64 a0_0, .int .i64 a0_1, .int .i64 a0_2, .int .i64 a0_3] 42 (0, 0))) := ⟨by rw [← hq_]; exact (pkx BK101)⟩; have n1_ : Aside0 (w48.heap[gb109]? = some (.cells #[.int .i64 t104, .int .i64 t105, .int .i64 t106, .int .i64 t107] 42 (0, 0))) := ⟨by rw [← hq_]; exact (pkx BK109)⟩; have n2_ : Aside0 (w48.heap[gb115]? = some (.cells #[.int .i64 t110, .int .i64 t111, .int .i64 t112, .int .i64 t113] 42 (0, 0))) := ⟨by rw [← hq_]; exact (pkx BK115)⟩; have n3_ : Aside0 (w48.heap[gb121]? = some (.cells #[.int .i64 t116, .int .i64 t117, .int .i64 t118, .int .i64 t119, .bool t120] 47 (0, 0))) := ⟨by rw [← hq_]; exact (pkx BK121)⟩; have n4_ : Aside0 (Below w.heap.size w w48) := ⟨by rw [← hq_]; exact (pbx HB)⟩; clear BK101 BK109 BK115 BK121 HB hq_; have BK101 := n0_; have BK109 := n1_; have BK115 := n2_; have BK121 := n3_; have HB := n4_; clear n0_ n1_ n2_ n3_ n4_))
        replace BK101 := Aside0.mk (blk_drew BK101.out); replace BK109 := Aside0.mk (blk_drew BK109.out); replace BK115 := Aside0.mk (blk_drew BK115.out); replace BK121 := Aside0.mk (blk_drew BK121.out); replace HB := Aside0.mk (below_drew1 HB.out)
        refine start_ (n:=31) (S := fun w' => w'.cell? ⟨gb101, 0, none⟩ = some (.int .i64 a0_0) ∧ w'.cell? ⟨gb101, 1, none⟩ = some (.int .i64 a0_1) ∧ w'.cell? ⟨gb101, 2, none⟩ = some (.int .i64 a0_2) ∧ w'.cell? ⟨gb101, 3, none⟩ = some (.int .i64 a0_3) ∧ w'.cell? ⟨gb109, 0, none⟩ = some (.int .i64 t104) ∧ w'.cell? ⟨gb109, 1, none⟩ = some (.int .i64 t105) ∧ w'.cell? ⟨gb109, 2, none⟩ = some (.int .i64 t106) ∧ w'.cell? ⟨gb109, 3, none⟩ = some (.int .i64 t107) ∧ w'.cell? ⟨gb121, 0, none⟩ = some (.int .i64 t116) ∧ w'.cell? ⟨gb121, 1, none⟩ = some (.int .i64 t117) ∧ w'.cell? ⟨gb121, 2, none⟩ = some (.int .i64 t118) ∧ w'.cell? ⟨gb121, 3, none⟩ = some (.int .i64 t119) ∧ w'.cell? ⟨gb121, 4, none⟩ = some (.bool t120)) (ds := []) #[F,F,F,F,F,F,F,F,F,F,F,F,F,F,F,F,F,F,F,F,F,F,F,F,F,F,F,F,F,F,F] (by kernel_rfl) rfl rfl ⟨bc_ BK101 0 rfl, bc_ BK101 1 rfl, bc_ BK101 2 rfl, bc_ BK101 3 rfl, bc_ BK109 0 rfl, bc_ BK109 1 rfl, bc_ BK109 2 rfl, bc_ BK109 3 rfl, bc_ BK121 0 rfl, bc_ BK121 1 rfl, bc_ BK121 2 rfl, bc_ BK121 3 rfl, bc_ BK121 4 rfl⟩ (fun hHeld => ?_); refine with_tabW oculuslaw04_SpanBack.tab6 oculuslaw04_SpanBack.bits6 (fun HT_ HW_ => ?_)
        generalize w48.drew = w49 at BK101 BK109 BK115 BK121 HB hHeld ⊢; refine take_ (i:=0) (N:=some 27) (v:=?_) (a':=?_) ⟨m_ 31 1⟩ rfl rfl (take_ofW HT_.out HW_.out (by kernel_rfl)) (fun _ _ _ h=>h) (Or.inl ⟨rfl, ?_⟩) hHeld ?_ ?_; rotate_left
        ·rintro w' ⟨s0, s1, s2, s3, s4, s5, s6, s7, s8, s9, s10, s11, s12⟩; go_simp; with_reducible rfl
        rotate_left
        ·simp only [q_, i64_w, i32_w]; rfl
        refine take_ (i:=2) (N:=some 29) (v:=?_) (a':=?_) ⟨m_ 31 5⟩ rfl rfl (take_ofW HT_.out HW_.out (by kernel_rfl)) (fun _ _ _ h=>h) (Or.inl ⟨rfl, ?_⟩) hHeld ?_ ?_; rotate_left
        ·rintro w' ⟨s0, s1, s2, s3, s4, s5, s6, s7, s8, s9, s10, s11, s12⟩; go_simp; with_reducible rfl
        rotate_left
        ·simp only [q_, i64_w, i32_w]; rfl
        refine one_ (i:=1) (N:=some 28) ⟨m_ 31 7⟩ rfl rfl (one_of HT_.out (by kernel_rfl)) (by decide) (fun K hK => ?_); refine goes_ Tryd.func27 (by kernel_rfl) rfl #[.agg #[.int .i64 a0_0, .int .i64 a0_1, .int .i64 a0_2, .int .i64 a0_3]] (by rfl) rfl rfl (by (try simp only [List.map_toArray, List.map_cons, List.map_nil]); first | done | rfl | (simp only [List.length_drop, List.length_take]; rfl)) ?_; with_reducible refine (span_Text.calls k a0_0 a0_1 a0_2 a0_3 t122 _ (by refine tb_ ?_ hT; repeat' (first | exact pbx HB | assumption | refine below_set ?_ (Aside0.out ?_))) A30.out).mono ?_; rintro e w50 ⟨rfl, hb⟩; refine ⟨_, rfl, ?_⟩
        replace BK101 := bb_ BK101 hb; replace BK109 := bb_ BK109 hb; replace BK115 := bb_ BK115 hb; replace BK121 := bb_ BK121 hb; replace HB := bs_ HB hb; (try clear hb); (try clear hb2); (try clear hk); (try clear hi); refine hK.out _ _ ⟨bc_ BK101 0 rfl, bc_ BK101 1 rfl, bc_ BK101 2 rfl, bc_ BK101 3 rfl, bc_ BK109 0 rfl, bc_ BK109 1 rfl, bc_ BK109 2 rfl, bc_ BK109 3 rfl, bc_ BK121 0 rfl, bc_ BK121 1 rfl, bc_ BK121 2 rfl, bc_ BK121 3 rfl, bc_ BK121 4 rfl⟩ (fun hHeld => ?_); clear hK K; refine norm_ (a':=?_) ?_ ?_; rotate_left
        ·show Act.put _ (some 28) _ = _; simp only [q_, i64_w, i32_w]; rfl
        refine one_ (i:=3) (N:=some 30) ⟨m_ 31 15⟩ rfl rfl (one_of HT_.out (by kernel_rfl)) (by decide) (fun K hK => ?_); refine goes_ Tryd.func29 (by kernel_rfl) rfl #[.agg #[.int .i64 a0_0, .int .i64 a0_1, .int .i64 a0_2, .int .i64 a0_3]] (by rfl) rfl rfl (by (try simp only [List.map_toArray, List.map_cons, List.map_nil]); first | done | rfl | (simp only [List.length_drop, List.length_take]; rfl)) ?_; with_reducible refine (oculusref04_Text.calls k a0_0 a0_1 a0_2 a0_3 t123 _ A31.out).mono ?_; rintro e w51 ⟨rfl, hb⟩; refine ⟨_, rfl, ?_⟩
        replace BK101 := bb_ BK101 hb; replace BK109 := bb_ BK109 hb; replace BK115 := bb_ BK115 hb; replace BK121 := bb_ BK121 hb; replace HB := bs_ HB hb; (try clear hb); (try clear hb2); (try clear hk); (try clear hi); refine hK.out _ _ ⟨bc_ BK101 0 rfl, bc_ BK101 1 rfl, bc_ BK101 2 rfl, bc_ BK101 3 rfl, bc_ BK109 0 rfl, bc_ BK109 1 rfl, bc_ BK109 2 rfl, bc_ BK109 3 rfl, bc_ BK121 0 rfl, bc_ BK121 1 rfl, bc_ BK121 2 rfl, bc_ BK121 3 rfl, bc_ BK121 4 rfl⟩ (fun hHeld => ?_); clear hK K; refine norm_ (a':=?_) ?_ ?_; rotate_left
        ·show Act.put _ (some 30) _ = _; simp only [q_, i64_w, i32_w]; rfl
        refine pure_ (i:=4) (N:=some 31) (v:=?_) (a':=?_) ⟨m_ 31 31⟩ rfl rfl (any_of HT_.out (by kernel_rfl)) (fun _ _ _ h=>h) (Or.inl ⟨rfl, ?_⟩) ?_ ?_; rotate_left
        ·intro w'; go_simp; with_reducible rfl
        rotate_left
        ·simp only [q_, i64_w, i32_w]; rfl
        refine pure_ (i:=5) (N:=some 32) (v:=?_) (a':=?_) ⟨m_ 31 63⟩ rfl rfl (any_of HT_.out (by kernel_rfl)) (fun _ _ _ h=>h) (Or.inl ⟨rfl, ?_⟩) ?_ ?_; rotate_left
        ·intro w'; go_simp; with_reducible rfl
        rotate_left
        ·simp only [q_, i64_w, i32_w]; rfl
        refine pure_ (i:=6) (N:=some 33) (v:=?_) (a':=?_) ⟨m_ 31 127⟩ rfl rfl (any_of HT_.out (by kernel_rfl)) (fun _ _ _ h=>h) (Or.inl ⟨rfl, ?_⟩) ?_ ?_; rotate_left
        ·intro w'; go_simp; with_reducible rfl
        rotate_left
        ·simp only [q_, i64_w, i32_w]; rfl
        refine take_ (i:=7) (N:=some 34) (v:=?_) (a':=?_) ⟨m_ 31 255⟩ rfl rfl (take_ofW HT_.out HW_.out (by kernel_rfl)) (fun _ _ _ h=>h) (Or.inl ⟨rfl, ?_⟩) hHeld ?_ ?_; rotate_left
        ·rintro w' ⟨s0, s1, s2, s3, s4, s5, s6, s7, s8, s9, s10, s11, s12⟩; go_simp; with_reducible rfl
        rotate_left
        ·simp only [q_, i64_w, i32_w]; rfl
        refine one_ (i:=8) (N:=some 35) ⟨m_ 31 511⟩ rfl rfl (one_of HT_.out (by kernel_rfl)) (by decide) (fun K hK => ?_); refine goes_ Tryd.func30 (by kernel_rfl) rfl #[.agg #[.int .i64 a0_0, .int .i64 a0_1, .int .i64 a0_2, .int .i64 a0_3]] (by rfl) rfl rfl (by (try simp only [List.map_toArray, List.map_cons, List.map_nil]); first | done | rfl | (simp only [List.length_drop, List.length_take]; rfl)) ?_; with_reducible refine (span_May.calls a0_0 a0_1 a0_2 a0_3 t124 _ A33.out).mono ?_; rintro e w52 ⟨rfl, hb⟩; refine ⟨_, rfl, ?_⟩
        replace BK101 := bb_ BK101 hb; replace BK109 := bb_ BK109 hb; replace BK115 := bb_ BK115 hb; replace BK121 := bb_ BK121 hb; replace HB := bs_ HB hb; (try clear hb); (try clear hb2); (try clear hk); (try clear hi); refine hK.out _ _ ⟨bc_ BK101 0 rfl, bc_ BK101 1 rfl, bc_ BK101 2 rfl, bc_ BK101 3 rfl, bc_ BK109 0 rfl, bc_ BK109 1 rfl, bc_ BK109 2 rfl, bc_ BK109 3 rfl, bc_ BK121 0 rfl, bc_ BK121 1 rfl, bc_ BK121 2 rfl, bc_ BK121 3 rfl, bc_ BK121 4 rfl⟩ (fun hHeld => ?_); clear hK K; refine norm_ (a':=?_) ?_ ?_; rotate_left
        ·show Act.put _ (some 35) _ = _; simp only [q_, i64_w, i32_w]; rfl
        refine pure_ (i:=9) (N:=some 36) (v:=?_) (a':=?_) ⟨m_ 31 1023⟩ rfl rfl (any_of HT_.out (by kernel_rfl)) (fun _ _ _ h=>h) (Or.inl ⟨rfl, ?_⟩) ?_ ?_; rotate_left
        ·intro w'; go_simp; with_reducible rfl
        rotate_left
        ·simp only [q_, i64_w, i32_w]; rfl
        refine pure_ (i:=10) (N:=some 37) (v:=?_) (a':=?_) ⟨m_ 31 2047⟩ rfl rfl (any_of HT_.out (by kernel_rfl)) (fun _ _ _ h=>h) (Or.inl ⟨rfl, ?_⟩) ?_ ?_; rotate_left
        ·intro w'; go_simp; with_reducible rfl
        rotate_left
        ·simp only [q_, i64_w, i32_w]; rfl
        refine pure_ (i:=11) (N:=some 38) (v:=?_) (a':=?_) ⟨m_ 31 4095⟩ rfl rfl (any_of HT_.out (by kernel_rfl)) (fun _ _ _ h=>h) (Or.inl ⟨rfl, ?_⟩) ?_ ?_; rotate_left
        ·intro w'; go_simp; with_reducible rfl
        rotate_left
        ·simp only [q_, i64_w, i32_w]; rfl
        refine pure_ (i:=12) (N:=some 39) (v:=?_) (a':=?_) ⟨m_ 31 8191⟩ rfl rfl (any_of HT_.out (by kernel_rfl)) (fun _ _ _ h=>h) (Or.inl ⟨rfl, ?_⟩) ?_ ?_; rotate_left
        ·intro w'; go_simp; with_reducible rfl
        rotate_left
        ·simp only [q_, i64_w, i32_w]; rfl
        refine pure_ (i:=13) (N:=some 40) (v:=?_) (a':=?_) ⟨m_ 31 16383⟩ rfl rfl (any_of HT_.out (by kernel_rfl)) (fun _ _ _ h=>h) (Or.inl ⟨rfl, ?_⟩) ?_ ?_; rotate_left
        ·intro w'; go_simp; with_reducible rfl
        rotate_left
        ·simp only [q_, i64_w, i32_w]; rfl
        refine take_ (i:=14) (N:=some 41) (v:=?_) (a':=?_) ⟨m_ 31 32767⟩ rfl rfl (take_ofW HT_.out HW_.out (by kernel_rfl)) (fun _ _ _ h=>h) (Or.inl ⟨rfl, ?_⟩) hHeld ?_ ?_; rotate_left
        ·rintro w' ⟨s0, s1, s2, s3, s4, s5, s6, s7, s8, s9, s10, s11, s12⟩; go_simp; with_reducible rfl
        rotate_left
        ·simp only [q_, i64_w, i32_w]; rfl
        refine take_ (i:=15) (N:=some 42) (v:=?_) (a':=?_) ⟨m_ 31 65535⟩ rfl rfl (take_ofW HT_.out HW_.out (by kernel_rfl)) (fun _ _ _ h=>h) (Or.inl ⟨rfl, ?_⟩) hHeld ?_ ?_; rotate_left
        ·rintro w' ⟨s0, s1, s2, s3, s4, s5, s6, s7, s8, s9, s10, s11, s12⟩; go_simp; with_reducible rfl
        rotate_left
        ·simp only [q_, i64_w, i32_w]; rfl
        refine pure_ (i:=16) (N:=some 43) (v:=?_) (a':=?_) ⟨m_ 31 131071⟩ rfl rfl (any_of HT_.out (by kernel_rfl)) (fun _ _ _ h=>h) (Or.inl ⟨rfl, ?_⟩) ?_ ?_; rotate_left
        ·intro w'; go_simp; with_reducible rfl
        rotate_left
        ·simp only [q_, i64_w, i32_w]; rfl
        refine pure_ (i:=17) (N:=some 44) (v:=?_) (a':=?_) ⟨m_ 31 262143⟩ rfl rfl (any_of HT_.out (by kernel_rfl)) (fun _ _ _ h=>h) (Or.inl ⟨rfl, ?_⟩) ?_ ?_; rotate_left
        ·intro w'; go_simp; with_reducible rfl
        rotate_left
        ·simp only [q_, i64_w, i32_w]; rfl
        refine pure_ (i:=18) (N:=some 45) (v:=?_) (a':=?_) ⟨m_ 31 524287⟩ rfl rfl (any_of HT_.out (by kernel_rfl)) (fun _ _ _ h=>h) (Or.inl ⟨rfl, ?_⟩) ?_ ?_; rotate_left
        ·intro w'; go_simp; with_reducible rfl
        rotate_left
        ·simp only [q_, i64_w, i32_w]; rfl
        refine pure_ (i:=19) (N:=some 46) (v:=?_) (a':=?_) ⟨m_ 31 1048575⟩ rfl rfl (any_of HT_.out (by kernel_rfl)) (fun _ _ _ h=>h) (Or.inl ⟨rfl, ?_⟩) ?_ ?_; rotate_left
        ·intro w'; go_simp; with_reducible rfl
        rotate_left
        ·simp only [q_, i64_w, i32_w]; rfl
        refine pure_ (i:=20) (N:=some 47) (v:=?_) (a':=?_) ⟨m_ 31 2097151⟩ rfl rfl (any_of HT_.out (by kernel_rfl)) (fun _ _ _ h=>h) (Or.inl ⟨rfl, ?_⟩) ?_ ?_; rotate_left
        ·intro w'; go_simp; with_reducible rfl
        rotate_left
        ·simp only [q_, i64_w, i32_w]; rfl
        refine pure_ (i:=21) (N:=some 48) (v:=?_) (a':=?_) ⟨m_ 31 4194303⟩ rfl rfl (any_of HT_.out (by kernel_rfl)) (fun _ _ _ h=>h) (Or.inl ⟨rfl, ?_⟩) ?_ ?_; rotate_left
        ·intro w'; go_simp; with_reducible rfl
        rotate_left
        ·simp only [q_, i64_w, i32_w]; rfl
        refine take_ (i:=22) (N:=some 49) (v:=?_) (a':=?_) ⟨m_ 31 8388607⟩ rfl rfl (take_ofW HT_.out HW_.out (by kernel_rfl)) (fun _ _ _ h=>h) (Or.inl ⟨rfl, ?_⟩) hHeld ?_ ?_; rotate_left
        ·rintro w' ⟨s0, s1, s2, s3, s4, s5, s6, s7, s8, s9, s10, s11, s12⟩; go_simp; with_reducible rfl
        rotate_left
        ·simp only [q_, i64_w, i32_w]; rfl
        refine pure_ (i:=23) (N:=some 50) (v:=?_) (a':=?_) ⟨m_ 31 16777215⟩ rfl rfl (any_of HT_.out (by kernel_rfl)) (fun _ _ _ h=>h) (Or.inl ⟨rfl, ?_⟩) ?_ ?_; rotate_left
        ·intro w'; go_simp; with_reducible rfl
        rotate_left
        ·simp only [q_, i64_w, i32_w]; rfl
        refine pure_ (i:=24) (N:=some 51) (v:=?_) (a':=?_) ⟨m_ 31 33554431⟩ rfl rfl (any_of HT_.out (by kernel_rfl)) (fun _ _ _ h=>h) (Or.inl ⟨rfl, ?_⟩) ?_ ?_; rotate_left
        ·intro w'; go_simp; with_reducible rfl
        rotate_left
        ·simp only [q_, i64_w, i32_w]; rfl
        refine pure_ (i:=25) (N:=some 52) (v:=?_) (a':=?_) ⟨m_ 31 67108863⟩ rfl rfl (any_of HT_.out (by kernel_rfl)) (fun _ _ _ h=>h) (Or.inl ⟨rfl, ?_⟩) ?_ ?_; rotate_left
        ·intro w'; go_simp; with_reducible rfl
        rotate_left
        ·simp only [q_, i64_w, i32_w]; rfl
        refine pure_ (i:=26) (N:=some 53) (v:=undef) (a':=?_) ⟨m_ 31 134217727⟩ rfl rfl (any_of HT_.out (by kernel_rfl)) (fun _ _ _ h=>h) (Or.inr ⟨by rfl, rfl⟩) ?_ ?_; rotate_left
        ·simp only [q_, i64_w, i32_w]; rfl
        refine pure_ (i:=27) (N:=some 54) (v:=undef) (a':=?_) ⟨m_ 31 268435455⟩ rfl rfl (any_of HT_.out (by kernel_rfl)) (fun _ _ _ h=>h) (Or.inr ⟨by rfl, rfl⟩) ?_ ?_; rotate_left
        ·simp only [q_, i64_w, i32_w]; rfl
        refine pure_ (i:=28) (N:=some 55) (v:=undef) (a':=?_) ⟨m_ 31 536870911⟩ rfl rfl (any_of HT_.out (by kernel_rfl)) (fun _ _ _ h=>h) (Or.inr ⟨by rfl, rfl⟩) ?_ ?_; rotate_left
        ·simp only [q_, i64_w, i32_w]; rfl
        refine pure_ (i:=29) (N:=some 56) (v:=undef) (a':=?_) ⟨m_ 31 1073741823⟩ rfl rfl (any_of HT_.out (by kernel_rfl)) (fun _ _ _ h=>h) (Or.inr ⟨by rfl, rfl⟩) ?_ ?_; rotate_left
        ·simp only [q_, i64_w, i32_w]; rfl
        refine pure_ (i:=30) (N:=some 57) (v:=?_) (a':=?_) ⟨m_ 31 2147483647⟩ rfl rfl (any_of HT_.out (by kernel_rfl)) (fun _ _ _ h=>h) (Or.inl ⟨rfl, ?_⟩) ?_ ?_; rotate_left
        ·intro w'; go_simp; with_reducible rfl
        rotate_left
        ·simp only [q_, i64_w, i32_w]; rfl
        refine done_ (done_of HT_.out (by kernel_rfl)) ?_
        try go_wp2
        go_meet
        case rel => exact ⟨_, (true), (by first | rfl | (simp; done) | (simp [*]; done)), H', ⟨by first | omega | exact Nat.le_refl _⟩, ⟨pkx BK101⟩, ⟨pkx BK109⟩, ⟨pkx BK115⟩, ⟨pkx BK121⟩, ⟨pbx HB⟩⟩
       ·rw [if_neg c47] at H
        have c47b0 : (t114 != t120) = false := by simpa using c47
        (try (have c47b1 : decide (t114 = t120) = true := by simpa using c47)); (try (have c47b2 : (t114 == t120) = true := by simpa using c47)); clear c47
        have H' := Aside0.mk H
        clear H
        try go_wp2
        have n0_ : Aside0 ((((((w25.setCell ⟨gb121, 0, none⟩ (.int .i64 t116)).setCell ⟨gb121, 1, none⟩ (.int .i64 t117)).setCell ⟨gb121, 2, none⟩ (.int .i64 t118)).setCell ⟨gb121, 3, none⟩ (.int .i64 t119)).setCell ⟨gb121, 4, none⟩ (.bool t120)).heap[gb101]? = some (.cells #[.int .i64 a0_0, .int .i64 a0_1, .int .i64 a0_2, .int .i64 a0_3] 42 (0, 0))) := ⟨by (with_reducible repeat (first | refine blk_drewN ?_ _ | refine blk_drew ?_ | refine blk_alloc ?_ _)); refine blk_far ?_ NB101_121.out _; refine blk_far ?_ NB101_121.out _; refine blk_far ?_ NB101_121.out _; refine blk_far ?_ NB101_121.out _; refine blk_far ?_ NB101_121.out _; (with_reducible repeat (first | refine blk_drewN ?_ _ | refine blk_drew ?_ | refine blk_alloc ?_ _)); exact BK101.out⟩; have n1_ : Aside0 ((((((w25.setCell ⟨gb121, 0, none⟩ (.int .i64 t116)).setCell ⟨gb121, 1, none⟩ (.int .i64 t117)).setCell ⟨gb121, 2, none⟩ (.int .i64 t118)).setCell ⟨gb121, 3, none⟩ (.int .i64 t119)).setCell ⟨gb121, 4, none⟩ (.bool t120)).heap[gb109]? = some (.cells #[.int .i64 t104, .int .i64 t105, .int .i64 t106, .int .i64 t107] 42 (0, 0))) := ⟨by (with_reducible repeat (first | refine blk_drewN ?_ _ | refine blk_drew ?_ | refine blk_alloc ?_ _)); refine blk_far ?_ NB109_121.out _; refine blk_far ?_ NB109_121.out _; refine blk_far ?_ NB109_121.out _; refine blk_far ?_ NB109_121.out _; refine blk_far ?_ NB109_121.out _; (with_reducible repeat (first | refine blk_drewN ?_ _ | refine blk_drew ?_ | refine blk_alloc ?_ _)); exact BK109.out⟩
        have n2_ : Aside0 ((((((w25.setCell ⟨gb121, 0, none⟩ (.int .i64 t116)).setCell ⟨gb121, 1, none⟩ (.int .i64 t117)).setCell ⟨gb121, 2, none⟩ (.int .i64 t118)).setCell ⟨gb121, 3, none⟩ (.int .i64 t119)).setCell ⟨gb121, 4, none⟩ (.bool t120)).heap[gb115]? = some (.cells #[.int .i64 t110, .int .i64 t111, .int .i64 t112, .int .i64 t113] 42 (0, 0))) := ⟨by (with_reducible repeat (first | refine blk_drewN ?_ _ | refine blk_drew ?_ | refine blk_alloc ?_ _)); refine blk_far ?_ NB115_121.out _; refine blk_far ?_ NB115_121.out _; refine blk_far ?_ NB115_121.out _; refine blk_far ?_ NB115_121.out _; refine blk_far ?_ NB115_121.out _; (with_reducible repeat (first | refine blk_drewN ?_ _ | refine blk_drew ?_ | refine blk_alloc ?_ _)); exact BK115.out⟩; have n3_ : Aside0 ((((((w25.setCell ⟨gb121, 0, none⟩ (.int .i64 t116)).setCell ⟨gb121, 1, none⟩ (.int .i64 t117)).setCell ⟨gb121, 2, none⟩ (.int .i64 t118)).setCell ⟨gb121, 3, none⟩ (.int .i64 t119)).setCell ⟨gb121, 4, none⟩ (.bool t120)).heap[gb121]? = some (.cells #[.int .i64 t116, .int .i64 t117, .int .i64 t118, .int .i64 t119, .bool t120] 47 (0, 0))) := ⟨by (with_reducible repeat (first | refine blk_drewN ?_ _ | refine blk_drew ?_ | refine blk_alloc ?_ _)); refine blk_put (cs := #[.int .i64 t116, .int .i64 t117, .int .i64 t118, .int .i64 t119, .bool false]) ?_ 4 _ rfl; refine blk_put (cs := #[.int .i64 t116, .int .i64 t117, .int .i64 t118, .int .i64 0, .bool false]) ?_ 3 _ rfl; refine blk_put (cs := #[.int .i64 t116, .int .i64 t117, .int .i64 0, .int .i64 0, .bool false]) ?_ 2 _ rfl; refine blk_put (cs := #[.int .i64 t116, .int .i64 0, .int .i64 0, .int .i64 0, .bool false]) ?_ 1 _ rfl; refine blk_put (cs := #[.int .i64 0, .int .i64 0, .int .i64 0, .int .i64 0, .bool false]) ?_ 0 _ rfl; (with_reducible repeat (first | refine blk_drewN ?_ _ | refine blk_drew ?_ | refine blk_alloc ?_ _)); exact BK121.out⟩
        have n4_ : Aside0 (Below w.heap.size w (((((w25.setCell ⟨gb121, 0, none⟩ (.int .i64 t116)).setCell ⟨gb121, 1, none⟩ (.int .i64 t117)).setCell ⟨gb121, 2, none⟩ (.int .i64 t118)).setCell ⟨gb121, 3, none⟩ (.int .i64 t119)).setCell ⟨gb121, 4, none⟩ (.bool t120))) := ⟨by repeat (first | (with_reducible first | exact HB.out | apply below_alloc | apply pw_below_drewN | apply below_drew1 | refine below_set ?_ GE101.out | refine below_set ?_ GE109.out | refine below_set ?_ GE115.out | refine below_set ?_ GE121.out) | exact HB.out)⟩; (try clear BK101); (try clear BK109); (try clear BK115); (try clear BK121); (try clear HB)
        generalize (((((w25.setCell ⟨gb121, 0, none⟩ (.int .i64 t116)).setCell ⟨gb121, 1, none⟩ (.int .i64 t117)).setCell ⟨gb121, 2, none⟩ (.int .i64 t118)).setCell ⟨gb121, 3, none⟩ (.int .i64 t119)).setCell ⟨gb121, 4, none⟩ (.bool t120)) = w53 at n0_ n1_ n2_ n3_ n4_ ⊢; have BK101 := n0_; have BK109 := n1_; have BK115 := n2_; have BK121 := n3_; have HB := n4_; clear n0_ n1_ n2_ n3_ n4_; (try (rw [drewN_self w53]; generalize hq_ : World.drewN w53 _ = w53; have n0_ : Aside0 (w53.heap[gb101]? = some (.cells #[.int .i64 a0_0, .int .i64 a0_1, .int .i64 a0_2, .int .i64 a0_3] 42 (0, 0))) := ⟨by rw [← hq_]; exact (pkx BK101)⟩; have n1_ : Aside0 (w53.heap[gb109]? = some (.cells #[.int .i64 t104, .int .i64 t105, .int .i64 t106, .int .i64 t107] 42 (0, 0))) := ⟨by rw [← hq_]; exact (pkx BK109)⟩; have n2_ : Aside0 (w53.heap[gb115]? = some (.cells #[.int .i64 t110, .int .i64 t111, .int .i64 t112, .int .i64 t113] 42 (0, 0))) := ⟨by rw [← hq_]; exact (pkx BK115)⟩; have n3_ : Aside0 (w53.heap[gb121]? = some (.cells #[.int .i64 t116, .int .i64 t117, .int .i64 t118, .int .i64 t119, .bool t120] 47 (0, 0))) := ⟨by rw [← hq_]; exact (pkx BK121)⟩; have n4_ : Aside0 (Below w.heap.size w w53) := ⟨by rw [← hq_]; exact (pbx HB)⟩; clear BK101 BK109 BK115 BK121 HB hq_; have BK101 := n0_; have BK109 := n1_; have BK115 := n2_; have BK121 := n3_; have HB := n4_; clear n0_ n1_ n2_ n3_ n4_))
        replace BK101 := Aside0.mk (blk_drew BK101.out); replace BK109 := Aside0.mk (blk_drew BK109.out); replace BK115 := Aside0.mk (blk_drew BK115.out); replace BK121 := Aside0.mk (blk_drew BK121.out); replace HB := Aside0.mk (below_drew1 HB.out)
        refine start_ (n:=31) (S := fun w' => w'.cell? ⟨gb101, 0, none⟩ = some (.int .i64 a0_0) ∧ w'.cell? ⟨gb101, 1, none⟩ = some (.int .i64 a0_1) ∧ w'.cell? ⟨gb101, 2, none⟩ = some (.int .i64 a0_2) ∧ w'.cell? ⟨gb101, 3, none⟩ = some (.int .i64 a0_3) ∧ w'.cell? ⟨gb109, 0, none⟩ = some (.int .i64 t104) ∧ w'.cell? ⟨gb109, 1, none⟩ = some (.int .i64 t105) ∧ w'.cell? ⟨gb109, 2, none⟩ = some (.int .i64 t106) ∧ w'.cell? ⟨gb109, 3, none⟩ = some (.int .i64 t107) ∧ w'.cell? ⟨gb121, 0, none⟩ = some (.int .i64 t116) ∧ w'.cell? ⟨gb121, 1, none⟩ = some (.int .i64 t117) ∧ w'.cell? ⟨gb121, 2, none⟩ = some (.int .i64 t118) ∧ w'.cell? ⟨gb121, 3, none⟩ = some (.int .i64 t119) ∧ w'.cell? ⟨gb121, 4, none⟩ = some (.bool t120) ∧ w'.cell? ⟨gb115, 0, none⟩ = some (.int .i64 t110) ∧ w'.cell? ⟨gb115, 1, none⟩ = some (.int .i64 t111) ∧ w'.cell? ⟨gb115, 2, none⟩ = some (.int .i64 t112) ∧ w'.cell? ⟨gb115, 3, none⟩ = some (.int .i64 t113)) (ds := []) #[F,F,F,F,F,F,F,F,F,F,F,F,F,F,F,F,F,F,F,F,F,F,F,F,F,F,F,F,F,F,F] (by kernel_rfl) rfl rfl ⟨bc_ BK101 0 rfl, bc_ BK101 1 rfl, bc_ BK101 2 rfl, bc_ BK101 3 rfl, bc_ BK109 0 rfl, bc_ BK109 1 rfl, bc_ BK109 2 rfl, bc_ BK109 3 rfl, bc_ BK121 0 rfl, bc_ BK121 1 rfl, bc_ BK121 2 rfl, bc_ BK121 3 rfl, bc_ BK121 4 rfl, bc_ BK115 0 rfl, bc_ BK115 1 rfl, bc_ BK115 2 rfl, bc_ BK115 3 rfl⟩ (fun hHeld => ?_); refine with_tabW oculuslaw04_SpanBack.tab6 oculuslaw04_SpanBack.bits6 (fun HT_ HW_ => ?_)
        generalize w53.drew = w54 at BK101 BK109 BK115 BK121 HB hHeld ⊢; refine take_ (i:=0) (N:=some 27) (v:=?_) (a':=?_) ⟨m_ 31 1⟩ rfl rfl (take_ofW HT_.out HW_.out (by kernel_rfl)) (fun _ _ _ h=>h) (Or.inl ⟨rfl, ?_⟩) hHeld ?_ ?_; rotate_left
        ·rintro w' ⟨s0, s1, s2, s3, s4, s5, s6, s7, s8, s9, s10, s11, s12, s13, s14, s15, s16⟩; go_simp; with_reducible rfl
        rotate_left
        ·simp only [q_, i64_w, i32_w]; rfl
        refine take_ (i:=2) (N:=some 29) (v:=?_) (a':=?_) ⟨m_ 31 5⟩ rfl rfl (take_ofW HT_.out HW_.out (by kernel_rfl)) (fun _ _ _ h=>h) (Or.inl ⟨rfl, ?_⟩) hHeld ?_ ?_; rotate_left
        ·rintro w' ⟨s0, s1, s2, s3, s4, s5, s6, s7, s8, s9, s10, s11, s12, s13, s14, s15, s16⟩; go_simp; with_reducible rfl
        rotate_left
        ·simp only [q_, i64_w, i32_w]; rfl
        refine one_ (i:=1) (N:=some 28) ⟨m_ 31 7⟩ rfl rfl (one_of HT_.out (by kernel_rfl)) (by decide) (fun K hK => ?_); refine goes_ Tryd.func27 (by kernel_rfl) rfl #[.agg #[.int .i64 a0_0, .int .i64 a0_1, .int .i64 a0_2, .int .i64 a0_3]] (by rfl) rfl rfl (by (try simp only [List.map_toArray, List.map_cons, List.map_nil]); first | done | rfl | (simp only [List.length_drop, List.length_take]; rfl)) ?_; with_reducible refine (span_Text.calls k a0_0 a0_1 a0_2 a0_3 t122 _ (by refine tb_ ?_ hT; repeat' (first | exact pbx HB | assumption | refine below_set ?_ (Aside0.out ?_))) A30.out).mono ?_; rintro e w55 ⟨rfl, hb⟩; refine ⟨_, rfl, ?_⟩
        replace BK101 := bb_ BK101 hb; replace BK109 := bb_ BK109 hb; replace BK115 := bb_ BK115 hb; replace BK121 := bb_ BK121 hb; replace HB := bs_ HB hb; (try clear hb); (try clear hb2); (try clear hk); (try clear hi); refine hK.out _ _ ⟨bc_ BK101 0 rfl, bc_ BK101 1 rfl, bc_ BK101 2 rfl, bc_ BK101 3 rfl, bc_ BK109 0 rfl, bc_ BK109 1 rfl, bc_ BK109 2 rfl, bc_ BK109 3 rfl, bc_ BK121 0 rfl, bc_ BK121 1 rfl, bc_ BK121 2 rfl, bc_ BK121 3 rfl, bc_ BK121 4 rfl, bc_ BK115 0 rfl, bc_ BK115 1 rfl, bc_ BK115 2 rfl, bc_ BK115 3 rfl⟩ (fun hHeld => ?_); clear hK K; refine norm_ (a':=?_) ?_ ?_; rotate_left
        ·show Act.put _ (some 28) _ = _; simp only [q_, i64_w, i32_w]; rfl
        refine one_ (i:=3) (N:=some 30) ⟨m_ 31 15⟩ rfl rfl (one_of HT_.out (by kernel_rfl)) (by decide) (fun K hK => ?_); refine goes_ Tryd.func29 (by kernel_rfl) rfl #[.agg #[.int .i64 a0_0, .int .i64 a0_1, .int .i64 a0_2, .int .i64 a0_3]] (by rfl) rfl rfl (by (try simp only [List.map_toArray, List.map_cons, List.map_nil]); first | done | rfl | (simp only [List.length_drop, List.length_take]; rfl)) ?_; with_reducible refine (oculusref04_Text.calls k a0_0 a0_1 a0_2 a0_3 t123 _ A31.out).mono ?_; rintro e w56 ⟨rfl, hb⟩; refine ⟨_, rfl, ?_⟩
        replace BK101 := bb_ BK101 hb; replace BK109 := bb_ BK109 hb; replace BK115 := bb_ BK115 hb; replace BK121 := bb_ BK121 hb; replace HB := bs_ HB hb; (try clear hb); (try clear hb2); (try clear hk); (try clear hi); refine hK.out _ _ ⟨bc_ BK101 0 rfl, bc_ BK101 1 rfl, bc_ BK101 2 rfl, bc_ BK101 3 rfl, bc_ BK109 0 rfl, bc_ BK109 1 rfl, bc_ BK109 2 rfl, bc_ BK109 3 rfl, bc_ BK121 0 rfl, bc_ BK121 1 rfl, bc_ BK121 2 rfl, bc_ BK121 3 rfl, bc_ BK121 4 rfl, bc_ BK115 0 rfl, bc_ BK115 1 rfl, bc_ BK115 2 rfl, bc_ BK115 3 rfl⟩ (fun hHeld => ?_); clear hK K; refine norm_ (a':=?_) ?_ ?_; rotate_left
        ·show Act.put _ (some 30) _ = _; simp only [q_, i64_w, i32_w]; rfl
        refine pure_ (i:=4) (N:=some 31) (v:=?_) (a':=?_) ⟨m_ 31 31⟩ rfl rfl (any_of HT_.out (by kernel_rfl)) (fun _ _ _ h=>h) (Or.inl ⟨rfl, ?_⟩) ?_ ?_; rotate_left
        ·intro w'; go_simp; with_reducible rfl
        rotate_left
        ·simp only [q_, i64_w, i32_w]; rfl
        refine pure_ (i:=5) (N:=some 32) (v:=?_) (a':=?_) ⟨m_ 31 63⟩ rfl rfl (any_of HT_.out (by kernel_rfl)) (fun _ _ _ h=>h) (Or.inl ⟨rfl, ?_⟩) ?_ ?_; rotate_left
        ·intro w'; go_simp; with_reducible rfl
        rotate_left
        ·simp only [q_, i64_w, i32_w]; rfl
        refine pure_ (i:=6) (N:=some 33) (v:=?_) (a':=?_) ⟨m_ 31 127⟩ rfl rfl (any_of HT_.out (by kernel_rfl)) (fun _ _ _ h=>h) (Or.inl ⟨rfl, ?_⟩) ?_ ?_; rotate_left
        ·intro w'; go_simp; with_reducible rfl
        rotate_left
        ·simp only [q_, i64_w, i32_w]; rfl
        refine take_ (i:=7) (N:=some 34) (v:=?_) (a':=?_) ⟨m_ 31 255⟩ rfl rfl (take_ofW HT_.out HW_.out (by kernel_rfl)) (fun _ _ _ h=>h) (Or.inl ⟨rfl, ?_⟩) hHeld ?_ ?_; rotate_left
        ·rintro w' ⟨s0, s1, s2, s3, s4, s5, s6, s7, s8, s9, s10, s11, s12, s13, s14, s15, s16⟩; go_simp; with_reducible rfl
        rotate_left
        ·simp only [q_, i64_w, i32_w]; rfl
        refine one_ (i:=8) (N:=some 35) ⟨m_ 31 511⟩ rfl rfl (one_of HT_.out (by kernel_rfl)) (by decide) (fun K hK => ?_); refine goes_ Tryd.func30 (by kernel_rfl) rfl #[.agg #[.int .i64 a0_0, .int .i64 a0_1, .int .i64 a0_2, .int .i64 a0_3]] (by rfl) rfl rfl (by (try simp only [List.map_toArray, List.map_cons, List.map_nil]); first | done | rfl | (simp only [List.length_drop, List.length_take]; rfl)) ?_; with_reducible refine (span_May.calls a0_0 a0_1 a0_2 a0_3 t124 _ A33.out).mono ?_; rintro e w57 ⟨rfl, hb⟩; refine ⟨_, rfl, ?_⟩
        replace BK101 := bb_ BK101 hb; replace BK109 := bb_ BK109 hb; replace BK115 := bb_ BK115 hb; replace BK121 := bb_ BK121 hb; replace HB := bs_ HB hb; (try clear hb); (try clear hb2); (try clear hk); (try clear hi); refine hK.out _ _ ⟨bc_ BK101 0 rfl, bc_ BK101 1 rfl, bc_ BK101 2 rfl, bc_ BK101 3 rfl, bc_ BK109 0 rfl, bc_ BK109 1 rfl, bc_ BK109 2 rfl, bc_ BK109 3 rfl, bc_ BK121 0 rfl, bc_ BK121 1 rfl, bc_ BK121 2 rfl, bc_ BK121 3 rfl, bc_ BK121 4 rfl, bc_ BK115 0 rfl, bc_ BK115 1 rfl, bc_ BK115 2 rfl, bc_ BK115 3 rfl⟩ (fun hHeld => ?_); clear hK K; refine norm_ (a':=?_) ?_ ?_; rotate_left
        ·show Act.put _ (some 35) _ = _; simp only [q_, i64_w, i32_w]; rfl
        refine pure_ (i:=9) (N:=some 36) (v:=?_) (a':=?_) ⟨m_ 31 1023⟩ rfl rfl (any_of HT_.out (by kernel_rfl)) (fun _ _ _ h=>h) (Or.inl ⟨rfl, ?_⟩) ?_ ?_; rotate_left
        ·intro w'; go_simp; with_reducible rfl
        rotate_left
        ·simp only [q_, i64_w, i32_w]; rfl
        refine pure_ (i:=10) (N:=some 37) (v:=?_) (a':=?_) ⟨m_ 31 2047⟩ rfl rfl (any_of HT_.out (by kernel_rfl)) (fun _ _ _ h=>h) (Or.inl ⟨rfl, ?_⟩) ?_ ?_; rotate_left
        ·intro w'; go_simp; with_reducible rfl
        rotate_left
        ·simp only [q_, i64_w, i32_w]; rfl
        refine pure_ (i:=11) (N:=some 38) (v:=?_) (a':=?_) ⟨m_ 31 4095⟩ rfl rfl (any_of HT_.out (by kernel_rfl)) (fun _ _ _ h=>h) (Or.inl ⟨rfl, ?_⟩) ?_ ?_; rotate_left
        ·intro w'; go_simp; with_reducible rfl
        rotate_left
        ·simp only [q_, i64_w, i32_w]; rfl
        refine pure_ (i:=12) (N:=some 39) (v:=?_) (a':=?_) ⟨m_ 31 8191⟩ rfl rfl (any_of HT_.out (by kernel_rfl)) (fun _ _ _ h=>h) (Or.inl ⟨rfl, ?_⟩) ?_ ?_; rotate_left
        ·intro w'; go_simp; with_reducible rfl
        rotate_left
        ·simp only [q_, i64_w, i32_w]; rfl
        refine pure_ (i:=13) (N:=some 40) (v:=?_) (a':=?_) ⟨m_ 31 16383⟩ rfl rfl (any_of HT_.out (by kernel_rfl)) (fun _ _ _ h=>h) (Or.inl ⟨rfl, ?_⟩) ?_ ?_; rotate_left
        ·intro w'; go_simp; with_reducible rfl
        rotate_left
        ·simp only [q_, i64_w, i32_w]; rfl
        refine take_ (i:=14) (N:=some 41) (v:=?_) (a':=?_) ⟨m_ 31 32767⟩ rfl rfl (take_ofW HT_.out HW_.out (by kernel_rfl)) (fun _ _ _ h=>h) (Or.inl ⟨rfl, ?_⟩) hHeld ?_ ?_; rotate_left
        ·rintro w' ⟨s0, s1, s2, s3, s4, s5, s6, s7, s8, s9, s10, s11, s12, s13, s14, s15, s16⟩; go_simp; with_reducible rfl
        rotate_left
        ·simp only [q_, i64_w, i32_w]; rfl
        refine take_ (i:=15) (N:=some 42) (v:=?_) (a':=?_) ⟨m_ 31 65535⟩ rfl rfl (take_ofW HT_.out HW_.out (by kernel_rfl)) (fun _ _ _ h=>h) (Or.inl ⟨rfl, ?_⟩) hHeld ?_ ?_; rotate_left
        ·rintro w' ⟨s0, s1, s2, s3, s4, s5, s6, s7, s8, s9, s10, s11, s12, s13, s14, s15, s16⟩; go_simp; with_reducible rfl
        rotate_left
        ·simp only [q_, i64_w, i32_w]; rfl
        refine pure_ (i:=16) (N:=some 43) (v:=?_) (a':=?_) ⟨m_ 31 131071⟩ rfl rfl (any_of HT_.out (by kernel_rfl)) (fun _ _ _ h=>h) (Or.inl ⟨rfl, ?_⟩) ?_ ?_; rotate_left
        ·intro w'; go_simp; with_reducible rfl
        rotate_left
        ·simp only [q_, i64_w, i32_w]; rfl
        refine pure_ (i:=17) (N:=some 44) (v:=?_) (a':=?_) ⟨m_ 31 262143⟩ rfl rfl (any_of HT_.out (by kernel_rfl)) (fun _ _ _ h=>h) (Or.inl ⟨rfl, ?_⟩) ?_ ?_; rotate_left
        ·intro w'; go_simp; with_reducible rfl
        rotate_left
        ·simp only [q_, i64_w, i32_w]; rfl
        refine pure_ (i:=18) (N:=some 45) (v:=?_) (a':=?_) ⟨m_ 31 524287⟩ rfl rfl (any_of HT_.out (by kernel_rfl)) (fun _ _ _ h=>h) (Or.inl ⟨rfl, ?_⟩) ?_ ?_; rotate_left
        ·intro w'; go_simp; with_reducible rfl
        rotate_left
        ·simp only [q_, i64_w, i32_w]; rfl
        refine pure_ (i:=19) (N:=some 46) (v:=?_) (a':=?_) ⟨m_ 31 1048575⟩ rfl rfl (any_of HT_.out (by kernel_rfl)) (fun _ _ _ h=>h) (Or.inl ⟨rfl, ?_⟩) ?_ ?_; rotate_left
        ·intro w'; go_simp; with_reducible rfl
        rotate_left
        ·simp only [q_, i64_w, i32_w]; rfl
        refine pure_ (i:=20) (N:=some 47) (v:=?_) (a':=?_) ⟨m_ 31 2097151⟩ rfl rfl (any_of HT_.out (by kernel_rfl)) (fun _ _ _ h=>h) (Or.inl ⟨rfl, ?_⟩) ?_ ?_; rotate_left
        ·intro w'; go_simp; with_reducible rfl
        rotate_left
        ·simp only [q_, i64_w, i32_w]; rfl
        refine pure_ (i:=21) (N:=some 48) (v:=?_) (a':=?_) ⟨m_ 31 4194303⟩ rfl rfl (any_of HT_.out (by kernel_rfl)) (fun _ _ _ h=>h) (Or.inl ⟨rfl, ?_⟩) ?_ ?_; rotate_left
        ·intro w'; go_simp; with_reducible rfl
        rotate_left
        ·simp only [q_, i64_w, i32_w]; rfl
        refine take_ (i:=22) (N:=some 49) (v:=?_) (a':=?_) ⟨m_ 31 8388607⟩ rfl rfl (take_ofW HT_.out HW_.out (by kernel_rfl)) (fun _ _ _ h=>h) (Or.inl ⟨rfl, ?_⟩) hHeld ?_ ?_; rotate_left
        ·rintro w' ⟨s0, s1, s2, s3, s4, s5, s6, s7, s8, s9, s10, s11, s12, s13, s14, s15, s16⟩; go_simp; with_reducible rfl
        rotate_left
        ·simp only [q_, i64_w, i32_w]; rfl
        refine pure_ (i:=23) (N:=some 50) (v:=?_) (a':=?_) ⟨m_ 31 16777215⟩ rfl rfl (any_of HT_.out (by kernel_rfl)) (fun _ _ _ h=>h) (Or.inl ⟨rfl, ?_⟩) ?_ ?_; rotate_left
        ·intro w'; go_simp; with_reducible rfl
        rotate_left
        ·simp only [q_, i64_w, i32_w]; rfl
        refine pure_ (i:=24) (N:=some 51) (v:=?_) (a':=?_) ⟨m_ 31 33554431⟩ rfl rfl (any_of HT_.out (by kernel_rfl)) (fun _ _ _ h=>h) (Or.inl ⟨rfl, ?_⟩) ?_ ?_; rotate_left
        ·intro w'; go_simp; with_reducible rfl
        rotate_left
        ·simp only [q_, i64_w, i32_w]; rfl
        refine pure_ (i:=25) (N:=some 52) (v:=?_) (a':=?_) ⟨m_ 31 67108863⟩ rfl rfl (any_of HT_.out (by kernel_rfl)) (fun _ _ _ h=>h) (Or.inl ⟨rfl, ?_⟩) ?_ ?_; rotate_left
        ·intro w'; go_simp; with_reducible rfl
        rotate_left
        ·simp only [q_, i64_w, i32_w]; rfl
        refine pure_ (i:=27) (N:=some 54) (v:=?_) (a':=?_) ⟨m_ 31 201326591⟩ rfl rfl (any_of HT_.out (by kernel_rfl)) (fun _ _ _ h=>h) (Or.inl ⟨rfl, ?_⟩) ?_ ?_; rotate_left
        ·intro w'; go_simp; with_reducible rfl
        rotate_left
        ·simp only [q_, i64_w, i32_w]; rfl
        refine take_ (i:=26) (N:=some 53) (v:=?_) (a':=?_) ⟨m_ 31 268435455⟩ rfl rfl (take_ofW HT_.out HW_.out (by kernel_rfl)) (fun _ _ _ h=>h) (Or.inl ⟨rfl, ?_⟩) hHeld ?_ ?_; rotate_left
        ·rintro w' ⟨s0, s1, s2, s3, s4, s5, s6, s7, s8, s9, s10, s11, s12, s13, s14, s15, s16⟩; go_simp; with_reducible rfl
        rotate_left
        ·simp only [q_, i64_w, i32_w]; rfl
        refine take_ (i:=28) (N:=some 55) (v:=?_) (a':=?_) ⟨m_ 31 536870911⟩ rfl rfl (take_ofW HT_.out HW_.out (by kernel_rfl)) (fun _ _ _ h=>h) (Or.inl ⟨rfl, ?_⟩) hHeld ?_ ?_; rotate_left
        ·rintro w' ⟨s0, s1, s2, s3, s4, s5, s6, s7, s8, s9, s10, s11, s12, s13, s14, s15, s16⟩; go_simp; with_reducible rfl
        rotate_left
        ·simp only [q_, i64_w, i32_w]; rfl
        refine pure_ (i:=29) (N:=some 56) (v:=?_) (a':=?_) ⟨m_ 31 1073741823⟩ rfl rfl (any_of HT_.out (by kernel_rfl)) (fun _ _ _ h=>h) (Or.inl ⟨rfl, ?_⟩) ?_ ?_; rotate_left
        ·intro w'; go_simp; with_reducible rfl
        rotate_left
        ·simp only [q_, i64_w, i32_w]; rfl
        refine pure_ (i:=30) (N:=some 57) (v:=?_) (a':=?_) ⟨m_ 31 2147483647⟩ rfl rfl (any_of HT_.out (by kernel_rfl)) (fun _ _ _ h=>h) (Or.inl ⟨rfl, ?_⟩) ?_ ?_; rotate_left
        ·intro w'; go_simp; with_reducible rfl
        rotate_left
        ·simp only [q_, i64_w, i32_w]; rfl
        refine done_ (done_of HT_.out (by kernel_rfl)) ?_
        try go_wp2
        go_meet
        case rel => exact ⟨_, (((!(t110 == t116) || (!(t111 == t117))) || ((!(t112 == t118) || (!(t113 == t119)))))), (by first | rfl | (simp; done) | (simp [*]; done) | (cases t110 <;> simp; done) | (cases t116 <;> simp; done) | (cases t111 <;> simp; done)), H', ⟨by first | omega | exact Nat.le_refl _⟩, ⟨pkx BK101⟩, ⟨pkx BK109⟩, ⟨pkx BK115⟩, ⟨pkx BK121⟩, ⟨pbx HB⟩⟩
     ·replace c40 := Bool.eq_false_iff.mpr c40; subst c40
      have H1 : (if (t114 != t120) = true then (oculuslaw04_SpanBack.j0 k a1 t114 true t110 t111 t112 t113) else (oculuslaw04_SpanBack.j0 k a1 t114 ((!(t110 == t116) || (!(t111 == t117))) || ((!(t112 == t118) || (!(t113 == t119))))) t110 t111 t112 t113)) = some r := by rw [if_neg (show ¬ (false = true) by decide)] at H; exact H
      clear H; have H := H1; clear H1
      by_cases c58 : (t114 != t120) = true
      ·rw [if_pos c58] at H
       have c58b0 : (t114 != t120) = true := c58
       (try (have c58b1 : decide (t114 = t120) = false := by simpa using c58)); (try (have c58b2 : (t114 == t120) = false := by simpa using c58)); (try (have c58b3 : ¬ (t114 = t120) := by simpa using c58)); clear c58
       have H' := Aside0.mk H
       clear H
       try go_wp2
       have n0_ : Aside0 ((((((w25.setCell ⟨gb121, 0, none⟩ (.int .i64 t116)).setCell ⟨gb121, 1, none⟩ (.int .i64 t117)).setCell ⟨gb121, 2, none⟩ (.int .i64 t118)).setCell ⟨gb121, 3, none⟩ (.int .i64 t119)).setCell ⟨gb121, 4, none⟩ (.bool t120)).heap[gb101]? = some (.cells #[.int .i64 a0_0, .int .i64 a0_1, .int .i64 a0_2, .int .i64 a0_3] 42 (0, 0))) := ⟨by (with_reducible repeat (first | refine blk_drewN ?_ _ | refine blk_drew ?_ | refine blk_alloc ?_ _)); refine blk_far ?_ NB101_121.out _; refine blk_far ?_ NB101_121.out _; refine blk_far ?_ NB101_121.out _; refine blk_far ?_ NB101_121.out _; refine blk_far ?_ NB101_121.out _; (with_reducible repeat (first | refine blk_drewN ?_ _ | refine blk_drew ?_ | refine blk_alloc ?_ _)); exact BK101.out⟩; have n1_ : Aside0 ((((((w25.setCell ⟨gb121, 0, none⟩ (.int .i64 t116)).setCell ⟨gb121, 1, none⟩ (.int .i64 t117)).setCell ⟨gb121, 2, none⟩ (.int .i64 t118)).setCell ⟨gb121, 3, none⟩ (.int .i64 t119)).setCell ⟨gb121, 4, none⟩ (.bool t120)).heap[gb109]? = some (.cells #[.int .i64 t104, .int .i64 t105, .int .i64 t106, .int .i64 t107] 42 (0, 0))) := ⟨by (with_reducible repeat (first | refine blk_drewN ?_ _ | refine blk_drew ?_ | refine blk_alloc ?_ _)); refine blk_far ?_ NB109_121.out _; refine blk_far ?_ NB109_121.out _; refine blk_far ?_ NB109_121.out _; refine blk_far ?_ NB109_121.out _; refine blk_far ?_ NB109_121.out _; (with_reducible repeat (first | refine blk_drewN ?_ _ | refine blk_drew ?_ | refine blk_alloc ?_ _)); exact BK109.out⟩
       have n2_ : Aside0 ((((((w25.setCell ⟨gb121, 0, none⟩ (.int .i64 t116)).setCell ⟨gb121, 1, none⟩ (.int .i64 t117)).setCell ⟨gb121, 2, none⟩ (.int .i64 t118)).setCell ⟨gb121, 3, none⟩ (.int .i64 t119)).setCell ⟨gb121, 4, none⟩ (.bool t120)).heap[gb115]? = some (.cells #[.int .i64 t110, .int .i64 t111, .int .i64 t112, .int .i64 t113] 42 (0, 0))) := ⟨by (with_reducible repeat (first | refine blk_drewN ?_ _ | refine blk_drew ?_ | refine blk_alloc ?_ _)); refine blk_far ?_ NB115_121.out _; refine blk_far ?_ NB115_121.out _; refine blk_far ?_ NB115_121.out _; refine blk_far ?_ NB115_121.out _; refine blk_far ?_ NB115_121.out _; (with_reducible repeat (first | refine blk_drewN ?_ _ | refine blk_drew ?_ | refine blk_alloc ?_ _)); exact BK115.out⟩; have n3_ : Aside0 ((((((w25.setCell ⟨gb121, 0, none⟩ (.int .i64 t116)).setCell ⟨gb121, 1, none⟩ (.int .i64 t117)).setCell ⟨gb121, 2, none⟩ (.int .i64 t118)).setCell ⟨gb121, 3, none⟩ (.int .i64 t119)).setCell ⟨gb121, 4, none⟩ (.bool t120)).heap[gb121]? = some (.cells #[.int .i64 t116, .int .i64 t117, .int .i64 t118, .int .i64 t119, .bool t120] 47 (0, 0))) := ⟨by (with_reducible repeat (first | refine blk_drewN ?_ _ | refine blk_drew ?_ | refine blk_alloc ?_ _)); refine blk_put (cs := #[.int .i64 t116, .int .i64 t117, .int .i64 t118, .int .i64 t119, .bool false]) ?_ 4 _ rfl; refine blk_put (cs := #[.int .i64 t116, .int .i64 t117, .int .i64 t118, .int .i64 0, .bool false]) ?_ 3 _ rfl; refine blk_put (cs := #[.int .i64 t116, .int .i64 t117, .int .i64 0, .int .i64 0, .bool false]) ?_ 2 _ rfl; refine blk_put (cs := #[.int .i64 t116, .int .i64 0, .int .i64 0, .int .i64 0, .bool false]) ?_ 1 _ rfl; refine blk_put (cs := #[.int .i64 0, .int .i64 0, .int .i64 0, .int .i64 0, .bool false]) ?_ 0 _ rfl; (with_reducible repeat (first | refine blk_drewN ?_ _ | refine blk_drew ?_ | refine blk_alloc ?_ _)); exact BK121.out⟩
       have n4_ : Aside0 (Below w.heap.size w (((((w25.setCell ⟨gb121, 0, none⟩ (.int .i64 t116)).setCell ⟨gb121, 1, none⟩ (.int .i64 t117)).setCell ⟨gb121, 2, none⟩ (.int .i64 t118)).setCell ⟨gb121, 3, none⟩ (.int .i64 t119)).setCell ⟨gb121, 4, none⟩ (.bool t120))) := ⟨by repeat (first | (with_reducible first | exact HB.out | apply below_alloc | apply pw_below_drewN | apply below_drew1 | refine below_set ?_ GE101.out | refine below_set ?_ GE109.out | refine below_set ?_ GE115.out | refine below_set ?_ GE121.out) | exact HB.out)⟩; (try clear BK101); (try clear BK109); (try clear BK115); (try clear BK121); (try clear HB)
       generalize (((((w25.setCell ⟨gb121, 0, none⟩ (.int .i64 t116)).setCell ⟨gb121, 1, none⟩ (.int .i64 t117)).setCell ⟨gb121, 2, none⟩ (.int .i64 t118)).setCell ⟨gb121, 3, none⟩ (.int .i64 t119)).setCell ⟨gb121, 4, none⟩ (.bool t120)) = w59 at n0_ n1_ n2_ n3_ n4_ ⊢; have BK101 := n0_; have BK109 := n1_; have BK115 := n2_; have BK121 := n3_; have HB := n4_; clear n0_ n1_ n2_ n3_ n4_; (try (rw [drewN_self w59]; generalize hq_ : World.drewN w59 _ = w59; have n0_ : Aside0 (w59.heap[gb101]? = some (.cells #[.int .i64 a0_0, .int .i64 a0_1, .int .i64 a0_2, .int .i64 a0_3] 42 (0, 0))) := ⟨by rw [← hq_]; exact (pkx BK101)⟩; have n1_ : Aside0 (w59.heap[gb109]? = some (.cells #[.int .i64 t104, .int .i64 t105, .int .i64 t106, .int .i64 t107] 42 (0, 0))) := ⟨by rw [← hq_]; exact (pkx BK109)⟩; have n2_ : Aside0 (w59.heap[gb115]? = some (.cells #[.int .i64 t110, .int .i64 t111, .int .i64 t112, .int .i64 t113] 42 (0, 0))) := ⟨by rw [← hq_]; exact (pkx BK115)⟩; have n3_ : Aside0 (w59.heap[gb121]? = some (.cells #[.int .i64 t116, .int .i64 t117, .int .i64 t118, .int .i64 t119, .bool t120] 47 (0, 0))) := ⟨by rw [← hq_]; exact (pkx BK121)⟩; have n4_ : Aside0 (Below w.heap.size w w59) := ⟨by rw [← hq_]; exact (pbx HB)⟩; clear BK101 BK109 BK115 BK121 HB hq_; have BK101 := n0_; have BK109 := n1_; have BK115 := n2_; have BK121 := n3_; have HB := n4_; clear n0_ n1_ n2_ n3_ n4_))
       replace BK101 := Aside0.mk (blk_drew BK101.out); replace BK109 := Aside0.mk (blk_drew BK109.out); replace BK115 := Aside0.mk (blk_drew BK115.out); replace BK121 := Aside0.mk (blk_drew BK121.out); replace HB := Aside0.mk (below_drew1 HB.out)
       refine start_ (n:=31) (S := fun w' => w'.cell? ⟨gb101, 0, none⟩ = some (.int .i64 a0_0) ∧ w'.cell? ⟨gb101, 1, none⟩ = some (.int .i64 a0_1) ∧ w'.cell? ⟨gb101, 2, none⟩ = some (.int .i64 a0_2) ∧ w'.cell? ⟨gb101, 3, none⟩ = some (.int .i64 a0_3) ∧ w'.cell? ⟨gb121, 0, none⟩ = some (.int .i64 t116) ∧ w'.cell? ⟨gb121, 1, none⟩ = some (.int .i64 t117) ∧ w'.cell? ⟨gb121, 2, none⟩ = some (.int .i64 t118) ∧ w'.cell? ⟨gb121, 3, none⟩ = some (.int .i64 t119) ∧ w'.cell? ⟨gb121, 4, none⟩ = some (.bool t120)) (ds := []) #[F,F,F,F,F,F,F,F,F,F,F,F,F,F,F,F,F,F,F,F,F,F,F,F,F,F,F,F,F,F,F] (by kernel_rfl) rfl rfl ⟨bc_ BK101 0 rfl, bc_ BK101 1 rfl, bc_ BK101 2 rfl, bc_ BK101 3 rfl, bc_ BK121 0 rfl, bc_ BK121 1 rfl, bc_ BK121 2 rfl, bc_ BK121 3 rfl, bc_ BK121 4 rfl⟩ (fun hHeld => ?_); refine with_tabW oculuslaw04_SpanBack.tab6 oculuslaw04_SpanBack.bits6 (fun HT_ HW_ => ?_)
       generalize w59.drew = w60 at BK101 BK109 BK115 BK121 HB hHeld ⊢; refine take_ (i:=0) (N:=some 27) (v:=?_) (a':=?_) ⟨m_ 31 1⟩ rfl rfl (take_ofW HT_.out HW_.out (by kernel_rfl)) (fun _ _ _ h=>h) (Or.inl ⟨rfl, ?_⟩) hHeld ?_ ?_; rotate_left
       ·rintro w' ⟨s0, s1, s2, s3, s4, s5, s6, s7, s8⟩; go_simp; with_reducible rfl
       rotate_left
       ·simp only [q_, i64_w, i32_w]; rfl
       refine take_ (i:=2) (N:=some 29) (v:=?_) (a':=?_) ⟨m_ 31 5⟩ rfl rfl (take_ofW HT_.out HW_.out (by kernel_rfl)) (fun _ _ _ h=>h) (Or.inl ⟨rfl, ?_⟩) hHeld ?_ ?_; rotate_left
       ·rintro w' ⟨s0, s1, s2, s3, s4, s5, s6, s7, s8⟩; go_simp; with_reducible rfl
       rotate_left
       ·simp only [q_, i64_w, i32_w]; rfl
       refine one_ (i:=1) (N:=some 28) ⟨m_ 31 7⟩ rfl rfl (one_of HT_.out (by kernel_rfl)) (by decide) (fun K hK => ?_); refine goes_ Tryd.func27 (by kernel_rfl) rfl #[.agg #[.int .i64 a0_0, .int .i64 a0_1, .int .i64 a0_2, .int .i64 a0_3]] (by rfl) rfl rfl (by (try simp only [List.map_toArray, List.map_cons, List.map_nil]); first | done | rfl | (simp only [List.length_drop, List.length_take]; rfl)) ?_; with_reducible refine (span_Text.calls k a0_0 a0_1 a0_2 a0_3 t122 _ (by refine tb_ ?_ hT; repeat' (first | exact pbx HB | assumption | refine below_set ?_ (Aside0.out ?_))) A30.out).mono ?_; rintro e w61 ⟨rfl, hb⟩; refine ⟨_, rfl, ?_⟩
       replace BK101 := bb_ BK101 hb; replace BK109 := bb_ BK109 hb; replace BK115 := bb_ BK115 hb; replace BK121 := bb_ BK121 hb; replace HB := bs_ HB hb; (try clear hb); (try clear hb2); (try clear hk); (try clear hi); refine hK.out _ _ ⟨bc_ BK101 0 rfl, bc_ BK101 1 rfl, bc_ BK101 2 rfl, bc_ BK101 3 rfl, bc_ BK121 0 rfl, bc_ BK121 1 rfl, bc_ BK121 2 rfl, bc_ BK121 3 rfl, bc_ BK121 4 rfl⟩ (fun hHeld => ?_); clear hK K; refine norm_ (a':=?_) ?_ ?_; rotate_left
       ·show Act.put _ (some 28) _ = _; simp only [q_, i64_w, i32_w]; rfl
       refine one_ (i:=3) (N:=some 30) ⟨m_ 31 15⟩ rfl rfl (one_of HT_.out (by kernel_rfl)) (by decide) (fun K hK => ?_); refine goes_ Tryd.func29 (by kernel_rfl) rfl #[.agg #[.int .i64 a0_0, .int .i64 a0_1, .int .i64 a0_2, .int .i64 a0_3]] (by rfl) rfl rfl (by (try simp only [List.map_toArray, List.map_cons, List.map_nil]); first | done | rfl | (simp only [List.length_drop, List.length_take]; rfl)) ?_; with_reducible refine (oculusref04_Text.calls k a0_0 a0_1 a0_2 a0_3 t123 _ A31.out).mono ?_; rintro e w62 ⟨rfl, hb⟩; refine ⟨_, rfl, ?_⟩
       replace BK101 := bb_ BK101 hb; replace BK109 := bb_ BK109 hb; replace BK115 := bb_ BK115 hb; replace BK121 := bb_ BK121 hb; replace HB := bs_ HB hb; (try clear hb); (try clear hb2); (try clear hk); (try clear hi); refine hK.out _ _ ⟨bc_ BK101 0 rfl, bc_ BK101 1 rfl, bc_ BK101 2 rfl, bc_ BK101 3 rfl, bc_ BK121 0 rfl, bc_ BK121 1 rfl, bc_ BK121 2 rfl, bc_ BK121 3 rfl, bc_ BK121 4 rfl⟩ (fun hHeld => ?_); clear hK K; refine norm_ (a':=?_) ?_ ?_; rotate_left
       ·show Act.put _ (some 30) _ = _; simp only [q_, i64_w, i32_w]; rfl
       refine pure_ (i:=4) (N:=some 31) (v:=?_) (a':=?_) ⟨m_ 31 31⟩ rfl rfl (any_of HT_.out (by kernel_rfl)) (fun _ _ _ h=>h) (Or.inl ⟨rfl, ?_⟩) ?_ ?_; rotate_left
       ·intro w'; go_simp; with_reducible rfl
       rotate_left
       ·simp only [q_, i64_w, i32_w]; rfl
       refine pure_ (i:=5) (N:=some 32) (v:=?_) (a':=?_) ⟨m_ 31 63⟩ rfl rfl (any_of HT_.out (by kernel_rfl)) (fun _ _ _ h=>h) (Or.inl ⟨rfl, ?_⟩) ?_ ?_; rotate_left
       ·intro w'; go_simp; with_reducible rfl
       rotate_left
       ·simp only [q_, i64_w, i32_w]; rfl
       refine pure_ (i:=6) (N:=some 33) (v:=?_) (a':=?_) ⟨m_ 31 127⟩ rfl rfl (any_of HT_.out (by kernel_rfl)) (fun _ _ _ h=>h) (Or.inl ⟨rfl, ?_⟩) ?_ ?_; rotate_left
       ·intro w'; go_simp; with_reducible rfl
       rotate_left
       ·simp only [q_, i64_w, i32_w]; rfl
       refine take_ (i:=7) (N:=some 34) (v:=?_) (a':=?_) ⟨m_ 31 255⟩ rfl rfl (take_ofW HT_.out HW_.out (by kernel_rfl)) (fun _ _ _ h=>h) (Or.inl ⟨rfl, ?_⟩) hHeld ?_ ?_; rotate_left
       ·rintro w' ⟨s0, s1, s2, s3, s4, s5, s6, s7, s8⟩; go_simp; with_reducible rfl
       rotate_left
       ·simp only [q_, i64_w, i32_w]; rfl
       refine one_ (i:=8) (N:=some 35) ⟨m_ 31 511⟩ rfl rfl (one_of HT_.out (by kernel_rfl)) (by decide) (fun K hK => ?_); refine goes_ Tryd.func30 (by kernel_rfl) rfl #[.agg #[.int .i64 a0_0, .int .i64 a0_1, .int .i64 a0_2, .int .i64 a0_3]] (by rfl) rfl rfl (by (try simp only [List.map_toArray, List.map_cons, List.map_nil]); first | done | rfl | (simp only [List.length_drop, List.length_take]; rfl)) ?_; with_reducible refine (span_May.calls a0_0 a0_1 a0_2 a0_3 t124 _ A33.out).mono ?_; rintro e w63 ⟨rfl, hb⟩; refine ⟨_, rfl, ?_⟩
       replace BK101 := bb_ BK101 hb; replace BK109 := bb_ BK109 hb; replace BK115 := bb_ BK115 hb; replace BK121 := bb_ BK121 hb; replace HB := bs_ HB hb; (try clear hb); (try clear hb2); (try clear hk); (try clear hi); refine hK.out _ _ ⟨bc_ BK101 0 rfl, bc_ BK101 1 rfl, bc_ BK101 2 rfl, bc_ BK101 3 rfl, bc_ BK121 0 rfl, bc_ BK121 1 rfl, bc_ BK121 2 rfl, bc_ BK121 3 rfl, bc_ BK121 4 rfl⟩ (fun hHeld => ?_); clear hK K; refine norm_ (a':=?_) ?_ ?_; rotate_left
       ·show Act.put _ (some 35) _ = _; simp only [q_, i64_w, i32_w]; rfl
       refine pure_ (i:=9) (N:=some 36) (v:=?_) (a':=?_) ⟨m_ 31 1023⟩ rfl rfl (any_of HT_.out (by kernel_rfl)) (fun _ _ _ h=>h) (Or.inl ⟨rfl, ?_⟩) ?_ ?_; rotate_left
       ·intro w'; go_simp; with_reducible rfl
       rotate_left
       ·simp only [q_, i64_w, i32_w]; rfl
       refine pure_ (i:=10) (N:=some 37) (v:=?_) (a':=?_) ⟨m_ 31 2047⟩ rfl rfl (any_of HT_.out (by kernel_rfl)) (fun _ _ _ h=>h) (Or.inl ⟨rfl, ?_⟩) ?_ ?_; rotate_left
       ·intro w'; go_simp; with_reducible rfl
       rotate_left
       ·simp only [q_, i64_w, i32_w]; rfl
       refine pure_ (i:=11) (N:=some 38) (v:=?_) (a':=?_) ⟨m_ 31 4095⟩ rfl rfl (any_of HT_.out (by kernel_rfl)) (fun _ _ _ h=>h) (Or.inl ⟨rfl, ?_⟩) ?_ ?_; rotate_left
       ·intro w'; go_simp; with_reducible rfl
       rotate_left
       ·simp only [q_, i64_w, i32_w]; rfl
       refine pure_ (i:=12) (N:=some 39) (v:=?_) (a':=?_) ⟨m_ 31 8191⟩ rfl rfl (any_of HT_.out (by kernel_rfl)) (fun _ _ _ h=>h) (Or.inl ⟨rfl, ?_⟩) ?_ ?_; rotate_left
       ·intro w'; go_simp; with_reducible rfl
       rotate_left
       ·simp only [q_, i64_w, i32_w]; rfl
       refine pure_ (i:=13) (N:=some 40) (v:=?_) (a':=?_) ⟨m_ 31 16383⟩ rfl rfl (any_of HT_.out (by kernel_rfl)) (fun _ _ _ h=>h) (Or.inl ⟨rfl, ?_⟩) ?_ ?_; rotate_left
       ·intro w'; go_simp; with_reducible rfl
       rotate_left
       ·simp only [q_, i64_w, i32_w]; rfl
       refine pure_ (i:=14) (N:=some 41) (v:=undef) (a':=?_) ⟨m_ 31 32767⟩ rfl rfl (any_of HT_.out (by kernel_rfl)) (fun _ _ _ h=>h) (Or.inr ⟨by rfl, rfl⟩) ?_ ?_; rotate_left
       ·simp only [q_, i64_w, i32_w]; rfl
       refine pure_ (i:=15) (N:=some 42) (v:=undef) (a':=?_) ⟨m_ 31 65535⟩ rfl rfl (any_of HT_.out (by kernel_rfl)) (fun _ _ _ h=>h) (Or.inr ⟨by rfl, rfl⟩) ?_ ?_; rotate_left
       ·simp only [q_, i64_w, i32_w]; rfl
       refine pure_ (i:=16) (N:=some 43) (v:=undef) (a':=?_) ⟨m_ 31 131071⟩ rfl rfl (any_of HT_.out (by kernel_rfl)) (fun _ _ _ h=>h) (Or.inr ⟨by rfl, rfl⟩) ?_ ?_; rotate_left
       ·simp only [q_, i64_w, i32_w]; rfl
       refine pure_ (i:=17) (N:=some 44) (v:=?_) (a':=?_) ⟨m_ 31 262143⟩ rfl rfl (any_of HT_.out (by kernel_rfl)) (fun _ _ _ h=>h) (Or.inl ⟨rfl, ?_⟩) ?_ ?_; rotate_left
       ·intro w'; go_simp; with_reducible rfl
       rotate_left
       ·simp only [q_, i64_w, i32_w]; rfl
       refine pure_ (i:=18) (N:=some 45) (v:=?_) (a':=?_) ⟨m_ 31 524287⟩ rfl rfl (any_of HT_.out (by kernel_rfl)) (fun _ _ _ h=>h) (Or.inl ⟨rfl, ?_⟩) ?_ ?_; rotate_left
       ·intro w'; go_simp; with_reducible rfl
       rotate_left
       ·simp only [q_, i64_w, i32_w]; rfl
       refine pure_ (i:=19) (N:=some 46) (v:=?_) (a':=?_) ⟨m_ 31 1048575⟩ rfl rfl (any_of HT_.out (by kernel_rfl)) (fun _ _ _ h=>h) (Or.inl ⟨rfl, ?_⟩) ?_ ?_; rotate_left
       ·intro w'; go_simp; with_reducible rfl
       rotate_left
       ·simp only [q_, i64_w, i32_w]; rfl
       refine pure_ (i:=20) (N:=some 47) (v:=?_) (a':=?_) ⟨m_ 31 2097151⟩ rfl rfl (any_of HT_.out (by kernel_rfl)) (fun _ _ _ h=>h) (Or.inl ⟨rfl, ?_⟩) ?_ ?_; rotate_left
       ·intro w'; go_simp; with_reducible rfl
       rotate_left
       ·simp only [q_, i64_w, i32_w]; rfl
       refine pure_ (i:=21) (N:=some 48) (v:=?_) (a':=?_) ⟨m_ 31 4194303⟩ rfl rfl (any_of HT_.out (by kernel_rfl)) (fun _ _ _ h=>h) (Or.inl ⟨rfl, ?_⟩) ?_ ?_; rotate_left
       ·intro w'; go_simp; with_reducible rfl
       rotate_left
       ·simp only [q_, i64_w, i32_w]; rfl
       refine take_ (i:=22) (N:=some 49) (v:=?_) (a':=?_) ⟨m_ 31 8388607⟩ rfl rfl (take_ofW HT_.out HW_.out (by kernel_rfl)) (fun _ _ _ h=>h) (Or.inl ⟨rfl, ?_⟩) hHeld ?_ ?_; rotate_left
       ·rintro w' ⟨s0, s1, s2, s3, s4, s5, s6, s7, s8⟩; go_simp; with_reducible rfl
       rotate_left
       ·simp only [q_, i64_w, i32_w]; rfl
       refine pure_ (i:=23) (N:=some 50) (v:=?_) (a':=?_) ⟨m_ 31 16777215⟩ rfl rfl (any_of HT_.out (by kernel_rfl)) (fun _ _ _ h=>h) (Or.inl ⟨rfl, ?_⟩) ?_ ?_; rotate_left
       ·intro w'; go_simp; with_reducible rfl
       rotate_left
       ·simp only [q_, i64_w, i32_w]; rfl
       refine pure_ (i:=24) (N:=some 51) (v:=?_) (a':=?_) ⟨m_ 31 33554431⟩ rfl rfl (any_of HT_.out (by kernel_rfl)) (fun _ _ _ h=>h) (Or.inl ⟨rfl, ?_⟩) ?_ ?_; rotate_left
       ·intro w'; go_simp; with_reducible rfl
       rotate_left
       ·simp only [q_, i64_w, i32_w]; rfl
       refine pure_ (i:=25) (N:=some 52) (v:=?_) (a':=?_) ⟨m_ 31 67108863⟩ rfl rfl (any_of HT_.out (by kernel_rfl)) (fun _ _ _ h=>h) (Or.inl ⟨rfl, ?_⟩) ?_ ?_; rotate_left
       ·intro w'; go_simp; with_reducible rfl
       rotate_left
       ·simp only [q_, i64_w, i32_w]; rfl
       refine pure_ (i:=26) (N:=some 53) (v:=undef) (a':=?_) ⟨m_ 31 134217727⟩ rfl rfl (any_of HT_.out (by kernel_rfl)) (fun _ _ _ h=>h) (Or.inr ⟨by rfl, rfl⟩) ?_ ?_; rotate_left
       ·simp only [q_, i64_w, i32_w]; rfl
       refine pure_ (i:=27) (N:=some 54) (v:=undef) (a':=?_) ⟨m_ 31 268435455⟩ rfl rfl (any_of HT_.out (by kernel_rfl)) (fun _ _ _ h=>h) (Or.inr ⟨by rfl, rfl⟩) ?_ ?_; rotate_left
       ·simp only [q_, i64_w, i32_w]; rfl
       refine pure_ (i:=28) (N:=some 55) (v:=undef) (a':=?_) ⟨m_ 31 536870911⟩ rfl rfl (any_of HT_.out (by kernel_rfl)) (fun _ _ _ h=>h) (Or.inr ⟨by rfl, rfl⟩) ?_ ?_; rotate_left
       ·simp only [q_, i64_w, i32_w]; rfl
       refine pure_ (i:=29) (N:=some 56) (v:=undef) (a':=?_) ⟨m_ 31 1073741823⟩ rfl rfl (any_of HT_.out (by kernel_rfl)) (fun _ _ _ h=>h) (Or.inr ⟨by rfl, rfl⟩) ?_ ?_; rotate_left
       ·simp only [q_, i64_w, i32_w]; rfl
       refine pure_ (i:=30) (N:=some 57) (v:=?_) (a':=?_) ⟨m_ 31 2147483647⟩ rfl rfl (any_of HT_.out (by kernel_rfl)) (fun _ _ _ h=>h) (Or.inl ⟨rfl, ?_⟩) ?_ ?_; rotate_left
       ·intro w'; go_simp; with_reducible rfl
       rotate_left
       ·simp only [q_, i64_w, i32_w]; rfl
       refine done_ (done_of HT_.out (by kernel_rfl)) ?_
       try go_wp2
       go_meet
       case rel => exact ⟨_, (true), (by first | rfl | (simp; done) | (simp [*]; done)), H', ⟨by first | omega | exact Nat.le_refl _⟩, ⟨pkx BK101⟩, ⟨pkx BK109⟩, ⟨pkx BK115⟩, ⟨pkx BK121⟩, ⟨pbx HB⟩⟩
      ·rw [if_neg c58] at H
       have c58b0 : (t114 != t120) = false := by simpa using c58
       (try (have c58b1 : decide (t114 = t120) = true := by simpa using c58)); (try (have c58b2 : (t114 == t120) = true := by simpa using c58)); clear c58
       have H' := Aside0.mk H
       clear H
       try go_wp2
       have n0_ : Aside0 ((((((w25.setCell ⟨gb121, 0, none⟩ (.int .i64 t116)).setCell ⟨gb121, 1, none⟩ (.int .i64 t117)).setCell ⟨gb121, 2, none⟩ (.int .i64 t118)).setCell ⟨gb121, 3, none⟩ (.int .i64 t119)).setCell ⟨gb121, 4, none⟩ (.bool t120)).heap[gb101]? = some (.cells #[.int .i64 a0_0, .int .i64 a0_1, .int .i64 a0_2, .int .i64 a0_3] 42 (0, 0))) := ⟨by (with_reducible repeat (first | refine blk_drewN ?_ _ | refine blk_drew ?_ | refine blk_alloc ?_ _)); refine blk_far ?_ NB101_121.out _; refine blk_far ?_ NB101_121.out _; refine blk_far ?_ NB101_121.out _; refine blk_far ?_ NB101_121.out _; refine blk_far ?_ NB101_121.out _; (with_reducible repeat (first | refine blk_drewN ?_ _ | refine blk_drew ?_ | refine blk_alloc ?_ _)); exact BK101.out⟩; have n1_ : Aside0 ((((((w25.setCell ⟨gb121, 0, none⟩ (.int .i64 t116)).setCell ⟨gb121, 1, none⟩ (.int .i64 t117)).setCell ⟨gb121, 2, none⟩ (.int .i64 t118)).setCell ⟨gb121, 3, none⟩ (.int .i64 t119)).setCell ⟨gb121, 4, none⟩ (.bool t120)).heap[gb109]? = some (.cells #[.int .i64 t104, .int .i64 t105, .int .i64 t106, .int .i64 t107] 42 (0, 0))) := ⟨by (with_reducible repeat (first | refine blk_drewN ?_ _ | refine blk_drew ?_ | refine blk_alloc ?_ _)); refine blk_far ?_ NB109_121.out _; refine blk_far ?_ NB109_121.out _; refine blk_far ?_ NB109_121.out _; refine blk_far ?_ NB109_121.out _; refine blk_far ?_ NB109_121.out _; (with_reducible repeat (first | refine blk_drewN ?_ _ | refine blk_drew ?_ | refine blk_alloc ?_ _)); exact BK109.out⟩
       have n2_ : Aside0 ((((((w25.setCell ⟨gb121, 0, none⟩ (.int .i64 t116)).setCell ⟨gb121, 1, none⟩ (.int .i64 t117)).setCell ⟨gb121, 2, none⟩ (.int .i64 t118)).setCell ⟨gb121, 3, none⟩ (.int .i64 t119)).setCell ⟨gb121, 4, none⟩ (.bool t120)).heap[gb115]? = some (.cells #[.int .i64 t110, .int .i64 t111, .int .i64 t112, .int .i64 t113] 42 (0, 0))) := ⟨by (with_reducible repeat (first | refine blk_drewN ?_ _ | refine blk_drew ?_ | refine blk_alloc ?_ _)); refine blk_far ?_ NB115_121.out _; refine blk_far ?_ NB115_121.out _; refine blk_far ?_ NB115_121.out _; refine blk_far ?_ NB115_121.out _; refine blk_far ?_ NB115_121.out _; (with_reducible repeat (first | refine blk_drewN ?_ _ | refine blk_drew ?_ | refine blk_alloc ?_ _)); exact BK115.out⟩; have n3_ : Aside0 ((((((w25.setCell ⟨gb121, 0, none⟩ (.int .i64 t116)).setCell ⟨gb121, 1, none⟩ (.int .i64 t117)).setCell ⟨gb121, 2, none⟩ (.int .i64 t118)).setCell ⟨gb121, 3, none⟩ (.int .i64 t119)).setCell ⟨gb121, 4, none⟩ (.bool t120)).heap[gb121]? = some (.cells #[.int .i64 t116, .int .i64 t117, .int .i64 t118, .int .i64 t119, .bool t120] 47 (0, 0))) := ⟨by (with_reducible repeat (first | refine blk_drewN ?_ _ | refine blk_drew ?_ | refine blk_alloc ?_ _)); refine blk_put (cs := #[.int .i64 t116, .int .i64 t117, .int .i64 t118, .int .i64 t119, .bool false]) ?_ 4 _ rfl; refine blk_put (cs := #[.int .i64 t116, .int .i64 t117, .int .i64 t118, .int .i64 0, .bool false]) ?_ 3 _ rfl; refine blk_put (cs := #[.int .i64 t116, .int .i64 t117, .int .i64 0, .int .i64 0, .bool false]) ?_ 2 _ rfl; refine blk_put (cs := #[.int .i64 t116, .int .i64 0, .int .i64 0, .int .i64 0, .bool false]) ?_ 1 _ rfl; refine blk_put (cs := #[.int .i64 0, .int .i64 0, .int .i64 0, .int .i64 0, .bool false]) ?_ 0 _ rfl; (with_reducible repeat (first | refine blk_drewN ?_ _ | refine blk_drew ?_ | refine blk_alloc ?_ _)); exact BK121.out⟩
       have n4_ : Aside0 (Below w.heap.size w (((((w25.setCell ⟨gb121, 0, none⟩ (.int .i64 t116)).setCell ⟨gb121, 1, none⟩ (.int .i64 t117)).setCell ⟨gb121, 2, none⟩ (.int .i64 t118)).setCell ⟨gb121, 3, none⟩ (.int .i64 t119)).setCell ⟨gb121, 4, none⟩ (.bool t120))) := ⟨by repeat (first | (with_reducible first | exact HB.out | apply below_alloc | apply pw_below_drewN | apply below_drew1 | refine below_set ?_ GE101.out | refine below_set ?_ GE109.out | refine below_set ?_ GE115.out | refine below_set ?_ GE121.out) | exact HB.out)⟩; (try clear BK101); (try clear BK109); (try clear BK115); (try clear BK121); (try clear HB)
       generalize (((((w25.setCell ⟨gb121, 0, none⟩ (.int .i64 t116)).setCell ⟨gb121, 1, none⟩ (.int .i64 t117)).setCell ⟨gb121, 2, none⟩ (.int .i64 t118)).setCell ⟨gb121, 3, none⟩ (.int .i64 t119)).setCell ⟨gb121, 4, none⟩ (.bool t120)) = w64 at n0_ n1_ n2_ n3_ n4_ ⊢; have BK101 := n0_; have BK109 := n1_; have BK115 := n2_; have BK121 := n3_; have HB := n4_; clear n0_ n1_ n2_ n3_ n4_; (try (rw [drewN_self w64]; generalize hq_ : World.drewN w64 _ = w64; have n0_ : Aside0 (w64.heap[gb101]? = some (.cells #[.int .i64 a0_0, .int .i64 a0_1, .int .i64 a0_2, .int .i64 a0_3] 42 (0, 0))) := ⟨by rw [← hq_]; exact (pkx BK101)⟩; have n1_ : Aside0 (w64.heap[gb109]? = some (.cells #[.int .i64 t104, .int .i64 t105, .int .i64 t106, .int .i64 t107] 42 (0, 0))) := ⟨by rw [← hq_]; exact (pkx BK109)⟩; have n2_ : Aside0 (w64.heap[gb115]? = some (.cells #[.int .i64 t110, .int .i64 t111, .int .i64 t112, .int .i64 t113] 42 (0, 0))) := ⟨by rw [← hq_]; exact (pkx BK115)⟩; have n3_ : Aside0 (w64.heap[gb121]? = some (.cells #[.int .i64 t116, .int .i64 t117, .int .i64 t118, .int .i64 t119, .bool t120] 47 (0, 0))) := ⟨by rw [← hq_]; exact (pkx BK121)⟩; have n4_ : Aside0 (Below w.heap.size w w64) := ⟨by rw [← hq_]; exact (pbx HB)⟩; clear BK101 BK109 BK115 BK121 HB hq_; have BK101 := n0_; have BK109 := n1_; have BK115 := n2_; have BK121 := n3_; have HB := n4_; clear n0_ n1_ n2_ n3_ n4_))
       replace BK101 := Aside0.mk (blk_drew BK101.out); replace BK109 := Aside0.mk (blk_drew BK109.out); replace BK115 := Aside0.mk (blk_drew BK115.out); replace BK121 := Aside0.mk (blk_drew BK121.out); replace HB := Aside0.mk (below_drew1 HB.out)
       refine start_ (n:=31) (S := fun w' => w'.cell? ⟨gb101, 0, none⟩ = some (.int .i64 a0_0) ∧ w'.cell? ⟨gb101, 1, none⟩ = some (.int .i64 a0_1) ∧ w'.cell? ⟨gb101, 2, none⟩ = some (.int .i64 a0_2) ∧ w'.cell? ⟨gb101, 3, none⟩ = some (.int .i64 a0_3) ∧ w'.cell? ⟨gb121, 0, none⟩ = some (.int .i64 t116) ∧ w'.cell? ⟨gb121, 1, none⟩ = some (.int .i64 t117) ∧ w'.cell? ⟨gb121, 2, none⟩ = some (.int .i64 t118) ∧ w'.cell? ⟨gb121, 3, none⟩ = some (.int .i64 t119) ∧ w'.cell? ⟨gb121, 4, none⟩ = some (.bool t120) ∧ w'.cell? ⟨gb115, 0, none⟩ = some (.int .i64 t110) ∧ w'.cell? ⟨gb115, 1, none⟩ = some (.int .i64 t111) ∧ w'.cell? ⟨gb115, 2, none⟩ = some (.int .i64 t112) ∧ w'.cell? ⟨gb115, 3, none⟩ = some (.int .i64 t113)) (ds := []) #[F,F,F,F,F,F,F,F,F,F,F,F,F,F,F,F,F,F,F,F,F,F,F,F,F,F,F,F,F,F,F] (by kernel_rfl) rfl rfl ⟨bc_ BK101 0 rfl, bc_ BK101 1 rfl, bc_ BK101 2 rfl, bc_ BK101 3 rfl, bc_ BK121 0 rfl, bc_ BK121 1 rfl, bc_ BK121 2 rfl, bc_ BK121 3 rfl, bc_ BK121 4 rfl, bc_ BK115 0 rfl, bc_ BK115 1 rfl, bc_ BK115 2 rfl, bc_ BK115 3 rfl⟩ (fun hHeld => ?_); refine with_tabW oculuslaw04_SpanBack.tab6 oculuslaw04_SpanBack.bits6 (fun HT_ HW_ => ?_)
       generalize w64.drew = w65 at BK101 BK109 BK115 BK121 HB hHeld ⊢; refine take_ (i:=0) (N:=some 27) (v:=?_) (a':=?_) ⟨m_ 31 1⟩ rfl rfl (take_ofW HT_.out HW_.out (by kernel_rfl)) (fun _ _ _ h=>h) (Or.inl ⟨rfl, ?_⟩) hHeld ?_ ?_; rotate_left
       ·rintro w' ⟨s0, s1, s2, s3, s4, s5, s6, s7, s8, s9, s10, s11, s12⟩; go_simp; with_reducible rfl
       rotate_left
       ·simp only [q_, i64_w, i32_w]; rfl
       refine take_ (i:=2) (N:=some 29) (v:=?_) (a':=?_) ⟨m_ 31 5⟩ rfl rfl (take_ofW HT_.out HW_.out (by kernel_rfl)) (fun _ _ _ h=>h) (Or.inl ⟨rfl, ?_⟩) hHeld ?_ ?_; rotate_left
       ·rintro w' ⟨s0, s1, s2, s3, s4, s5, s6, s7, s8, s9, s10, s11, s12⟩; go_simp; with_reducible rfl
       rotate_left
       ·simp only [q_, i64_w, i32_w]; rfl
       refine one_ (i:=1) (N:=some 28) ⟨m_ 31 7⟩ rfl rfl (one_of HT_.out (by kernel_rfl)) (by decide) (fun K hK => ?_); refine goes_ Tryd.func27 (by kernel_rfl) rfl #[.agg #[.int .i64 a0_0, .int .i64 a0_1, .int .i64 a0_2, .int .i64 a0_3]] (by rfl) rfl rfl (by (try simp only [List.map_toArray, List.map_cons, List.map_nil]); first | done | rfl | (simp only [List.length_drop, List.length_take]; rfl)) ?_; with_reducible refine (span_Text.calls k a0_0 a0_1 a0_2 a0_3 t122 _ (by refine tb_ ?_ hT; repeat' (first | exact pbx HB | assumption | refine below_set ?_ (Aside0.out ?_))) A30.out).mono ?_; rintro e w66 ⟨rfl, hb⟩; refine ⟨_, rfl, ?_⟩
       replace BK101 := bb_ BK101 hb; replace BK109 := bb_ BK109 hb; replace BK115 := bb_ BK115 hb; replace BK121 := bb_ BK121 hb; replace HB := bs_ HB hb; (try clear hb); (try clear hb2); (try clear hk); (try clear hi); refine hK.out _ _ ⟨bc_ BK101 0 rfl, bc_ BK101 1 rfl, bc_ BK101 2 rfl, bc_ BK101 3 rfl, bc_ BK121 0 rfl, bc_ BK121 1 rfl, bc_ BK121 2 rfl, bc_ BK121 3 rfl, bc_ BK121 4 rfl, bc_ BK115 0 rfl, bc_ BK115 1 rfl, bc_ BK115 2 rfl, bc_ BK115 3 rfl⟩ (fun hHeld => ?_); clear hK K; refine norm_ (a':=?_) ?_ ?_; rotate_left
       ·show Act.put _ (some 28) _ = _; simp only [q_, i64_w, i32_w]; rfl
       refine one_ (i:=3) (N:=some 30) ⟨m_ 31 15⟩ rfl rfl (one_of HT_.out (by kernel_rfl)) (by decide) (fun K hK => ?_); refine goes_ Tryd.func29 (by kernel_rfl) rfl #[.agg #[.int .i64 a0_0, .int .i64 a0_1, .int .i64 a0_2, .int .i64 a0_3]] (by rfl) rfl rfl (by (try simp only [List.map_toArray, List.map_cons, List.map_nil]); first | done | rfl | (simp only [List.length_drop, List.length_take]; rfl)) ?_; with_reducible refine (oculusref04_Text.calls k a0_0 a0_1 a0_2 a0_3 t123 _ A31.out).mono ?_; rintro e w67 ⟨rfl, hb⟩; refine ⟨_, rfl, ?_⟩
       replace BK101 := bb_ BK101 hb; replace BK109 := bb_ BK109 hb; replace BK115 := bb_ BK115 hb; replace BK121 := bb_ BK121 hb; replace HB := bs_ HB hb; (try clear hb); (try clear hb2); (try clear hk); (try clear hi); refine hK.out _ _ ⟨bc_ BK101 0 rfl, bc_ BK101 1 rfl, bc_ BK101 2 rfl, bc_ BK101 3 rfl, bc_ BK121 0 rfl, bc_ BK121 1 rfl, bc_ BK121 2 rfl, bc_ BK121 3 rfl, bc_ BK121 4 rfl, bc_ BK115 0 rfl, bc_ BK115 1 rfl, bc_ BK115 2 rfl, bc_ BK115 3 rfl⟩ (fun hHeld => ?_); clear hK K; refine norm_ (a':=?_) ?_ ?_; rotate_left
       ·show Act.put _ (some 30) _ = _; simp only [q_, i64_w, i32_w]; rfl
       refine pure_ (i:=4) (N:=some 31) (v:=?_) (a':=?_) ⟨m_ 31 31⟩ rfl rfl (any_of HT_.out (by kernel_rfl)) (fun _ _ _ h=>h) (Or.inl ⟨rfl, ?_⟩) ?_ ?_; rotate_left
       ·intro w'; go_simp; with_reducible rfl
       rotate_left
       ·simp only [q_, i64_w, i32_w]; rfl
       refine pure_ (i:=5) (N:=some 32) (v:=?_) (a':=?_) ⟨m_ 31 63⟩ rfl rfl (any_of HT_.out (by kernel_rfl)) (fun _ _ _ h=>h) (Or.inl ⟨rfl, ?_⟩) ?_ ?_; rotate_left
       ·intro w'; go_simp; with_reducible rfl
       rotate_left
       ·simp only [q_, i64_w, i32_w]; rfl
       refine pure_ (i:=6) (N:=some 33) (v:=?_) (a':=?_) ⟨m_ 31 127⟩ rfl rfl (any_of HT_.out (by kernel_rfl)) (fun _ _ _ h=>h) (Or.inl ⟨rfl, ?_⟩) ?_ ?_; rotate_left
       ·intro w'; go_simp; with_reducible rfl
       rotate_left
       ·simp only [q_, i64_w, i32_w]; rfl
       refine take_ (i:=7) (N:=some 34) (v:=?_) (a':=?_) ⟨m_ 31 255⟩ rfl rfl (take_ofW HT_.out HW_.out (by kernel_rfl)) (fun _ _ _ h=>h) (Or.inl ⟨rfl, ?_⟩) hHeld ?_ ?_; rotate_left
       ·rintro w' ⟨s0, s1, s2, s3, s4, s5, s6, s7, s8, s9, s10, s11, s12⟩; go_simp; with_reducible rfl
       rotate_left
       ·simp only [q_, i64_w, i32_w]; rfl
       refine one_ (i:=8) (N:=some 35) ⟨m_ 31 511⟩ rfl rfl (one_of HT_.out (by kernel_rfl)) (by decide) (fun K hK => ?_); refine goes_ Tryd.func30 (by kernel_rfl) rfl #[.agg #[.int .i64 a0_0, .int .i64 a0_1, .int .i64 a0_2, .int .i64 a0_3]] (by rfl) rfl rfl (by (try simp only [List.map_toArray, List.map_cons, List.map_nil]); first | done | rfl | (simp only [List.length_drop, List.length_take]; rfl)) ?_; with_reducible refine (span_May.calls a0_0 a0_1 a0_2 a0_3 t124 _ A33.out).mono ?_; rintro e w68 ⟨rfl, hb⟩; refine ⟨_, rfl, ?_⟩
       replace BK101 := bb_ BK101 hb; replace BK109 := bb_ BK109 hb; replace BK115 := bb_ BK115 hb; replace BK121 := bb_ BK121 hb; replace HB := bs_ HB hb; (try clear hb); (try clear hb2); (try clear hk); (try clear hi); refine hK.out _ _ ⟨bc_ BK101 0 rfl, bc_ BK101 1 rfl, bc_ BK101 2 rfl, bc_ BK101 3 rfl, bc_ BK121 0 rfl, bc_ BK121 1 rfl, bc_ BK121 2 rfl, bc_ BK121 3 rfl, bc_ BK121 4 rfl, bc_ BK115 0 rfl, bc_ BK115 1 rfl, bc_ BK115 2 rfl, bc_ BK115 3 rfl⟩ (fun hHeld => ?_); clear hK K; refine norm_ (a':=?_) ?_ ?_; rotate_left
       ·show Act.put _ (some 35) _ = _; simp only [q_, i64_w, i32_w]; rfl
       refine pure_ (i:=9) (N:=some 36) (v:=?_) (a':=?_) ⟨m_ 31 1023⟩ rfl rfl (any_of HT_.out (by kernel_rfl)) (fun _ _ _ h=>h) (Or.inl ⟨rfl, ?_⟩) ?_ ?_; rotate_left
       ·intro w'; go_simp; with_reducible rfl
       rotate_left
       ·simp only [q_, i64_w, i32_w]; rfl
       refine pure_ (i:=10) (N:=some 37) (v:=?_) (a':=?_) ⟨m_ 31 2047⟩ rfl rfl (any_of HT_.out (by kernel_rfl)) (fun _ _ _ h=>h) (Or.inl ⟨rfl, ?_⟩) ?_ ?_; rotate_left
       ·intro w'; go_simp; with_reducible rfl
       rotate_left
       ·simp only [q_, i64_w, i32_w]; rfl
       refine pure_ (i:=11) (N:=some 38) (v:=?_) (a':=?_) ⟨m_ 31 4095⟩ rfl rfl (any_of HT_.out (by kernel_rfl)) (fun _ _ _ h=>h) (Or.inl ⟨rfl, ?_⟩) ?_ ?_; rotate_left
       ·intro w'; go_simp; with_reducible rfl
       rotate_left
       ·simp only [q_, i64_w, i32_w]; rfl
       refine pure_ (i:=12) (N:=some 39) (v:=?_) (a':=?_) ⟨m_ 31 8191⟩ rfl rfl (any_of HT_.out (by kernel_rfl)) (fun _ _ _ h=>h) (Or.inl ⟨rfl, ?_⟩) ?_ ?_; rotate_left
       ·intro w'; go_simp; with_reducible rfl
       rotate_left
       ·simp only [q_, i64_w, i32_w]; rfl
       refine pure_ (i:=13) (N:=some 40) (v:=?_) (a':=?_) ⟨m_ 31 16383⟩ rfl rfl (any_of HT_.out (by kernel_rfl)) (fun _ _ _ h=>h) (Or.inl ⟨rfl, ?_⟩) ?_ ?_; rotate_left
       ·intro w'; go_simp; with_reducible rfl
       rotate_left
       ·simp only [q_, i64_w, i32_w]; rfl
       refine pure_ (i:=14) (N:=some 41) (v:=undef) (a':=?_) ⟨m_ 31 32767⟩ rfl rfl (any_of HT_.out (by kernel_rfl)) (fun _ _ _ h=>h) (Or.inr ⟨by rfl, rfl⟩) ?_ ?_; rotate_left
       ·simp only [q_, i64_w, i32_w]; rfl
       refine pure_ (i:=15) (N:=some 42) (v:=undef) (a':=?_) ⟨m_ 31 65535⟩ rfl rfl (any_of HT_.out (by kernel_rfl)) (fun _ _ _ h=>h) (Or.inr ⟨by rfl, rfl⟩) ?_ ?_; rotate_left
       ·simp only [q_, i64_w, i32_w]; rfl
       refine pure_ (i:=16) (N:=some 43) (v:=undef) (a':=?_) ⟨m_ 31 131071⟩ rfl rfl (any_of HT_.out (by kernel_rfl)) (fun _ _ _ h=>h) (Or.inr ⟨by rfl, rfl⟩) ?_ ?_; rotate_left
       ·simp only [q_, i64_w, i32_w]; rfl
       refine pure_ (i:=17) (N:=some 44) (v:=?_) (a':=?_) ⟨m_ 31 262143⟩ rfl rfl (any_of HT_.out (by kernel_rfl)) (fun _ _ _ h=>h) (Or.inl ⟨rfl, ?_⟩) ?_ ?_; rotate_left
       ·intro w'; go_simp; with_reducible rfl
       rotate_left
       ·simp only [q_, i64_w, i32_w]; rfl
       refine pure_ (i:=18) (N:=some 45) (v:=?_) (a':=?_) ⟨m_ 31 524287⟩ rfl rfl (any_of HT_.out (by kernel_rfl)) (fun _ _ _ h=>h) (Or.inl ⟨rfl, ?_⟩) ?_ ?_; rotate_left
       ·intro w'; go_simp; with_reducible rfl
       rotate_left
       ·simp only [q_, i64_w, i32_w]; rfl
       refine pure_ (i:=19) (N:=some 46) (v:=?_) (a':=?_) ⟨m_ 31 1048575⟩ rfl rfl (any_of HT_.out (by kernel_rfl)) (fun _ _ _ h=>h) (Or.inl ⟨rfl, ?_⟩) ?_ ?_; rotate_left
       ·intro w'; go_simp; with_reducible rfl
       rotate_left
       ·simp only [q_, i64_w, i32_w]; rfl
       refine pure_ (i:=20) (N:=some 47) (v:=?_) (a':=?_) ⟨m_ 31 2097151⟩ rfl rfl (any_of HT_.out (by kernel_rfl)) (fun _ _ _ h=>h) (Or.inl ⟨rfl, ?_⟩) ?_ ?_; rotate_left
       ·intro w'; go_simp; with_reducible rfl
       rotate_left
       ·simp only [q_, i64_w, i32_w]; rfl
       refine pure_ (i:=21) (N:=some 48) (v:=?_) (a':=?_) ⟨m_ 31 4194303⟩ rfl rfl (any_of HT_.out (by kernel_rfl)) (fun _ _ _ h=>h) (Or.inl ⟨rfl, ?_⟩) ?_ ?_; rotate_left
       ·intro w'; go_simp; with_reducible rfl
       rotate_left
       ·simp only [q_, i64_w, i32_w]; rfl
       refine take_ (i:=22) (N:=some 49) (v:=?_) (a':=?_) ⟨m_ 31 8388607⟩ rfl rfl (take_ofW HT_.out HW_.out (by kernel_rfl)) (fun _ _ _ h=>h) (Or.inl ⟨rfl, ?_⟩) hHeld ?_ ?_; rotate_left
       ·rintro w' ⟨s0, s1, s2, s3, s4, s5, s6, s7, s8, s9, s10, s11, s12⟩; go_simp; with_reducible rfl
       rotate_left
       ·simp only [q_, i64_w, i32_w]; rfl
       refine pure_ (i:=23) (N:=some 50) (v:=?_) (a':=?_) ⟨m_ 31 16777215⟩ rfl rfl (any_of HT_.out (by kernel_rfl)) (fun _ _ _ h=>h) (Or.inl ⟨rfl, ?_⟩) ?_ ?_; rotate_left
       ·intro w'; go_simp; with_reducible rfl
       rotate_left
       ·simp only [q_, i64_w, i32_w]; rfl
       refine pure_ (i:=24) (N:=some 51) (v:=?_) (a':=?_) ⟨m_ 31 33554431⟩ rfl rfl (any_of HT_.out (by kernel_rfl)) (fun _ _ _ h=>h) (Or.inl ⟨rfl, ?_⟩) ?_ ?_; rotate_left
       ·intro w'; go_simp; with_reducible rfl
       rotate_left
       ·simp only [q_, i64_w, i32_w]; rfl
       refine pure_ (i:=25) (N:=some 52) (v:=?_) (a':=?_) ⟨m_ 31 67108863⟩ rfl rfl (any_of HT_.out (by kernel_rfl)) (fun _ _ _ h=>h) (Or.inl ⟨rfl, ?_⟩) ?_ ?_; rotate_left
       ·intro w'; go_simp; with_reducible rfl
       rotate_left
       ·simp only [q_, i64_w, i32_w]; rfl
       refine pure_ (i:=27) (N:=some 54) (v:=?_) (a':=?_) ⟨m_ 31 201326591⟩ rfl rfl (any_of HT_.out (by kernel_rfl)) (fun _ _ _ h=>h) (Or.inl ⟨rfl, ?_⟩) ?_ ?_; rotate_left
       ·intro w'; go_simp; with_reducible rfl
       rotate_left
       ·simp only [q_, i64_w, i32_w]; rfl
       refine take_ (i:=26) (N:=some 53) (v:=?_) (a':=?_) ⟨m_ 31 268435455⟩ rfl rfl (take_ofW HT_.out HW_.out (by kernel_rfl)) (fun _ _ _ h=>h) (Or.inl ⟨rfl, ?_⟩) hHeld ?_ ?_; rotate_left
       ·rintro w' ⟨s0, s1, s2, s3, s4, s5, s6, s7, s8, s9, s10, s11, s12⟩; go_simp; with_reducible rfl
       rotate_left
       ·simp only [q_, i64_w, i32_w]; rfl
       refine take_ (i:=28) (N:=some 55) (v:=?_) (a':=?_) ⟨m_ 31 536870911⟩ rfl rfl (take_ofW HT_.out HW_.out (by kernel_rfl)) (fun _ _ _ h=>h) (Or.inl ⟨rfl, ?_⟩) hHeld ?_ ?_; rotate_left
       ·rintro w' ⟨s0, s1, s2, s3, s4, s5, s6, s7, s8, s9, s10, s11, s12⟩; go_simp; with_reducible rfl
       rotate_left
       ·simp only [q_, i64_w, i32_w]; rfl
       refine pure_ (i:=29) (N:=some 56) (v:=?_) (a':=?_) ⟨m_ 31 1073741823⟩ rfl rfl (any_of HT_.out (by kernel_rfl)) (fun _ _ _ h=>h) (Or.inl ⟨rfl, ?_⟩) ?_ ?_; rotate_left
       ·intro w'; go_simp; with_reducible rfl
       rotate_left
       ·simp only [q_, i64_w, i32_w]; rfl
       refine pure_ (i:=30) (N:=some 57) (v:=?_) (a':=?_) ⟨m_ 31 2147483647⟩ rfl rfl (any_of HT_.out (by kernel_rfl)) (fun _ _ _ h=>h) (Or.inl ⟨rfl, ?_⟩) ?_ ?_; rotate_left
       ·intro w'; go_simp; with_reducible rfl
       rotate_left
       ·simp only [q_, i64_w, i32_w]; rfl
       refine done_ (done_of HT_.out (by kernel_rfl)) ?_
       try go_wp2
       go_meet
       case rel => exact ⟨_, (((!(t110 == t116) || (!(t111 == t117))) || ((!(t112 == t118) || (!(t113 == t119)))))), (by first | rfl | (simp; done) | (simp [*]; done) | (cases t110 <;> simp; done) | (cases t116 <;> simp; done) | (cases t111 <;> simp; done)), H', ⟨by first | omega | exact Nat.le_refl _⟩, ⟨pkx BK101⟩, ⟨pkx BK109⟩, ⟨pkx BK115⟩, ⟨pkx BK121⟩, ⟨pbx HB⟩⟩
   ·rw [if_neg c32] at H; have c32b0 : (t122.toList == t123.toList) = false := beq_eq_false_iff_ne.mpr c32; have c32b1 : (t122.toList != t123.toList) = true := bne_iff_ne.mpr c32; (first | rw [c32b0] | (simp only [i64_w, i32_w]; rw [c32b0]) | skip)
    have H' := Aside0.mk H
    clear H
    try go_wp2
    have n0_ : Aside0 ((((((w25.setCell ⟨gb121, 0, none⟩ (.int .i64 t116)).setCell ⟨gb121, 1, none⟩ (.int .i64 t117)).setCell ⟨gb121, 2, none⟩ (.int .i64 t118)).setCell ⟨gb121, 3, none⟩ (.int .i64 t119)).setCell ⟨gb121, 4, none⟩ (.bool t120)).heap[gb101]? = some (.cells #[.int .i64 a0_0, .int .i64 a0_1, .int .i64 a0_2, .int .i64 a0_3] 42 (0, 0))) := ⟨by (with_reducible repeat (first | refine blk_drewN ?_ _ | refine blk_drew ?_ | refine blk_alloc ?_ _)); refine blk_far ?_ NB101_121.out _; refine blk_far ?_ NB101_121.out _; refine blk_far ?_ NB101_121.out _; refine blk_far ?_ NB101_121.out _; refine blk_far ?_ NB101_121.out _; (with_reducible repeat (first | refine blk_drewN ?_ _ | refine blk_drew ?_ | refine blk_alloc ?_ _)); exact BK101.out⟩; have n1_ : Aside0 ((((((w25.setCell ⟨gb121, 0, none⟩ (.int .i64 t116)).setCell ⟨gb121, 1, none⟩ (.int .i64 t117)).setCell ⟨gb121, 2, none⟩ (.int .i64 t118)).setCell ⟨gb121, 3, none⟩ (.int .i64 t119)).setCell ⟨gb121, 4, none⟩ (.bool t120)).heap[gb109]? = some (.cells #[.int .i64 t104, .int .i64 t105, .int .i64 t106, .int .i64 t107] 42 (0, 0))) := ⟨by (with_reducible repeat (first | refine blk_drewN ?_ _ | refine blk_drew ?_ | refine blk_alloc ?_ _)); refine blk_far ?_ NB109_121.out _; refine blk_far ?_ NB109_121.out _; refine blk_far ?_ NB109_121.out _; refine blk_far ?_ NB109_121.out _; refine blk_far ?_ NB109_121.out _; (with_reducible repeat (first | refine blk_drewN ?_ _ | refine blk_drew ?_ | refine blk_alloc ?_ _)); exact BK109.out⟩
    have n2_ : Aside0 ((((((w25.setCell ⟨gb121, 0, none⟩ (.int .i64 t116)).setCell ⟨gb121, 1, none⟩ (.int .i64 t117)).setCell ⟨gb121, 2, none⟩ (.int .i64 t118)).setCell ⟨gb121, 3, none⟩ (.int .i64 t119)).setCell ⟨gb121, 4, none⟩ (.bool t120)).heap[gb115]? = some (.cells #[.int .i64 t110, .int .i64 t111, .int .i64 t112, .int .i64 t113] 42 (0, 0))) := ⟨by (with_reducible repeat (first | refine blk_drewN ?_ _ | refine blk_drew ?_ | refine blk_alloc ?_ _)); refine blk_far ?_ NB115_121.out _; refine blk_far ?_ NB115_121.out _; refine blk_far ?_ NB115_121.out _; refine blk_far ?_ NB115_121.out _; refine blk_far ?_ NB115_121.out _; (with_reducible repeat (first | refine blk_drewN ?_ _ | refine blk_drew ?_ | refine blk_alloc ?_ _)); exact BK115.out⟩; have n3_ : Aside0 ((((((w25.setCell ⟨gb121, 0, none⟩ (.int .i64 t116)).setCell ⟨gb121, 1, none⟩ (.int .i64 t117)).setCell ⟨gb121, 2, none⟩ (.int .i64 t118)).setCell ⟨gb121, 3, none⟩ (.int .i64 t119)).setCell ⟨gb121, 4, none⟩ (.bool t120)).heap[gb121]? = some (.cells #[.int .i64 t116, .int .i64 t117, .int .i64 t118, .int .i64 t119, .bool t120] 47 (0, 0))) := ⟨by (with_reducible repeat (first | refine blk_drewN ?_ _ | refine blk_drew ?_ | refine blk_alloc ?_ _)); refine blk_put (cs := #[.int .i64 t116, .int .i64 t117, .int .i64 t118, .int .i64 t119, .bool false]) ?_ 4 _ rfl; refine blk_put (cs := #[.int .i64 t116, .int .i64 t117, .int .i64 t118, .int .i64 0, .bool false]) ?_ 3 _ rfl; refine blk_put (cs := #[.int .i64 t116, .int .i64 t117, .int .i64 0, .int .i64 0, .bool false]) ?_ 2 _ rfl; refine blk_put (cs := #[.int .i64 t116, .int .i64 0, .int .i64 0, .int .i64 0, .bool false]) ?_ 1 _ rfl; refine blk_put (cs := #[.int .i64 0, .int .i64 0, .int .i64 0, .int .i64 0, .bool false]) ?_ 0 _ rfl; (with_reducible repeat (first | refine blk_drewN ?_ _ | refine blk_drew ?_ | refine blk_alloc ?_ _)); exact BK121.out⟩
    have n4_ : Aside0 (Below w.heap.size w (((((w25.setCell ⟨gb121, 0, none⟩ (.int .i64 t116)).setCell ⟨gb121, 1, none⟩ (.int .i64 t117)).setCell ⟨gb121, 2, none⟩ (.int .i64 t118)).setCell ⟨gb121, 3, none⟩ (.int .i64 t119)).setCell ⟨gb121, 4, none⟩ (.bool t120))) := ⟨by repeat (first | (with_reducible first | exact HB.out | apply below_alloc | apply pw_below_drewN | apply below_drew1 | refine below_set ?_ GE101.out | refine below_set ?_ GE109.out | refine below_set ?_ GE115.out | refine below_set ?_ GE121.out) | exact HB.out)⟩; (try clear BK101); (try clear BK109); (try clear BK115); (try clear BK121); (try clear HB)
    generalize (((((w25.setCell ⟨gb121, 0, none⟩ (.int .i64 t116)).setCell ⟨gb121, 1, none⟩ (.int .i64 t117)).setCell ⟨gb121, 2, none⟩ (.int .i64 t118)).setCell ⟨gb121, 3, none⟩ (.int .i64 t119)).setCell ⟨gb121, 4, none⟩ (.bool t120)) = w69 at n0_ n1_ n2_ n3_ n4_ ⊢; have BK101 := n0_; have BK109 := n1_; have BK115 := n2_; have BK121 := n3_; have HB := n4_; clear n0_ n1_ n2_ n3_ n4_; (try (rw [drewN_self w69]; generalize hq_ : World.drewN w69 _ = w69; have n0_ : Aside0 (w69.heap[gb101]? = some (.cells #[.int .i64 a0_0, .int .i64 a0_1, .int .i64 a0_2, .int .i64 a0_3] 42 (0, 0))) := ⟨by rw [← hq_]; exact (pkx BK101)⟩; have n1_ : Aside0 (w69.heap[gb109]? = some (.cells #[.int .i64 t104, .int .i64 t105, .int .i64 t106, .int .i64 t107] 42 (0, 0))) := ⟨by rw [← hq_]; exact (pkx BK109)⟩; have n2_ : Aside0 (w69.heap[gb115]? = some (.cells #[.int .i64 t110, .int .i64 t111, .int .i64 t112, .int .i64 t113] 42 (0, 0))) := ⟨by rw [← hq_]; exact (pkx BK115)⟩; have n3_ : Aside0 (w69.heap[gb121]? = some (.cells #[.int .i64 t116, .int .i64 t117, .int .i64 t118, .int .i64 t119, .bool t120] 47 (0, 0))) := ⟨by rw [← hq_]; exact (pkx BK121)⟩; have n4_ : Aside0 (Below w.heap.size w w69) := ⟨by rw [← hq_]; exact (pbx HB)⟩; clear BK101 BK109 BK115 BK121 HB hq_; have BK101 := n0_; have BK109 := n1_; have BK115 := n2_; have BK121 := n3_; have HB := n4_; clear n0_ n1_ n2_ n3_ n4_))
    replace BK101 := Aside0.mk (blk_drew BK101.out); replace BK109 := Aside0.mk (blk_drew BK109.out); replace BK115 := Aside0.mk (blk_drew BK115.out); replace BK121 := Aside0.mk (blk_drew BK121.out); replace HB := Aside0.mk (below_drew1 HB.out)
    refine start_ (n:=31) (S := fun w' => w'.cell? ⟨gb101, 0, none⟩ = some (.int .i64 a0_0) ∧ w'.cell? ⟨gb101, 1, none⟩ = some (.int .i64 a0_1) ∧ w'.cell? ⟨gb101, 2, none⟩ = some (.int .i64 a0_2) ∧ w'.cell? ⟨gb101, 3, none⟩ = some (.int .i64 a0_3)) (ds := []) #[F,F,F,F,F,F,F,F,F,F,F,F,F,F,F,F,F,F,F,F,F,F,F,F,F,F,F,F,F,F,F] (by kernel_rfl) rfl rfl ⟨bc_ BK101 0 rfl, bc_ BK101 1 rfl, bc_ BK101 2 rfl, bc_ BK101 3 rfl⟩ (fun hHeld => ?_); refine with_tabW oculuslaw04_SpanBack.tab6 oculuslaw04_SpanBack.bits6 (fun HT_ HW_ => ?_)
    generalize w69.drew = w70 at BK101 BK109 BK115 BK121 HB hHeld ⊢; refine take_ (i:=0) (N:=some 27) (v:=?_) (a':=?_) ⟨m_ 31 1⟩ rfl rfl (take_ofW HT_.out HW_.out (by kernel_rfl)) (fun _ _ _ h=>h) (Or.inl ⟨rfl, ?_⟩) hHeld ?_ ?_; rotate_left
    ·rintro w' ⟨s0, s1, s2, s3⟩; go_simp; with_reducible rfl
    rotate_left
    ·simp only [q_, i64_w, i32_w]; rfl
    refine take_ (i:=2) (N:=some 29) (v:=?_) (a':=?_) ⟨m_ 31 5⟩ rfl rfl (take_ofW HT_.out HW_.out (by kernel_rfl)) (fun _ _ _ h=>h) (Or.inl ⟨rfl, ?_⟩) hHeld ?_ ?_; rotate_left
    ·rintro w' ⟨s0, s1, s2, s3⟩; go_simp; with_reducible rfl
    rotate_left
    ·simp only [q_, i64_w, i32_w]; rfl
    refine one_ (i:=1) (N:=some 28) ⟨m_ 31 7⟩ rfl rfl (one_of HT_.out (by kernel_rfl)) (by decide) (fun K hK => ?_); refine goes_ Tryd.func27 (by kernel_rfl) rfl #[.agg #[.int .i64 a0_0, .int .i64 a0_1, .int .i64 a0_2, .int .i64 a0_3]] (by rfl) rfl rfl (by (try simp only [List.map_toArray, List.map_cons, List.map_nil]); first | done | rfl | (simp only [List.length_drop, List.length_take]; rfl)) ?_; with_reducible refine (span_Text.calls k a0_0 a0_1 a0_2 a0_3 t122 _ (by refine tb_ ?_ hT; repeat' (first | exact pbx HB | assumption | refine below_set ?_ (Aside0.out ?_))) A30.out).mono ?_; rintro e w71 ⟨rfl, hb⟩; refine ⟨_, rfl, ?_⟩
    replace BK101 := bb_ BK101 hb; replace BK109 := bb_ BK109 hb; replace BK115 := bb_ BK115 hb; replace BK121 := bb_ BK121 hb; replace HB := bs_ HB hb; (try clear hb); (try clear hb2); (try clear hk); (try clear hi); refine hK.out _ _ ⟨bc_ BK101 0 rfl, bc_ BK101 1 rfl, bc_ BK101 2 rfl, bc_ BK101 3 rfl⟩ (fun hHeld => ?_); clear hK K; refine norm_ (a':=?_) ?_ ?_; rotate_left
    ·show Act.put _ (some 28) _ = _; simp only [q_, i64_w, i32_w]; rfl
    refine one_ (i:=3) (N:=some 30) ⟨m_ 31 15⟩ rfl rfl (one_of HT_.out (by kernel_rfl)) (by decide) (fun K hK => ?_); refine goes_ Tryd.func29 (by kernel_rfl) rfl #[.agg #[.int .i64 a0_0, .int .i64 a0_1, .int .i64 a0_2, .int .i64 a0_3]] (by rfl) rfl rfl (by (try simp only [List.map_toArray, List.map_cons, List.map_nil]); first | done | rfl | (simp only [List.length_drop, List.length_take]; rfl)) ?_; with_reducible refine (oculusref04_Text.calls k a0_0 a0_1 a0_2 a0_3 t123 _ A31.out).mono ?_; rintro e w72 ⟨rfl, hb⟩; refine ⟨_, rfl, ?_⟩
    replace BK101 := bb_ BK101 hb; replace BK109 := bb_ BK109 hb; replace BK115 := bb_ BK115 hb; replace BK121 := bb_ BK121 hb; replace HB := bs_ HB hb; (try clear hb); (try clear hb2); (try clear hk); (try clear hi); refine hK.out _ _ ⟨bc_ BK101 0 rfl, bc_ BK101 1 rfl, bc_ BK101 2 rfl, bc_ BK101 3 rfl⟩ (fun hHeld => ?_); clear hK K; refine norm_ (a':=?_) ?_ ?_; rotate_left
    ·show Act.put _ (some 30) _ = _; simp only [q_, i64_w, i32_w]; rfl
    refine pure_ (i:=4) (N:=some 31) (v:=?_) (a':=?_) ⟨m_ 31 31⟩ rfl rfl (any_of HT_.out (by kernel_rfl)) (fun _ _ _ h=>h) (Or.inl ⟨rfl, ?_⟩) ?_ ?_; rotate_left
    ·intro w'; go_simp; with_reducible rfl
    rotate_left
    ·simp only [q_, i64_w, i32_w]; rfl
    refine pure_ (i:=5) (N:=some 32) (v:=?_) (a':=?_) ⟨m_ 31 63⟩ rfl rfl (any_of HT_.out (by kernel_rfl)) (fun _ _ _ h=>h) (Or.inl ⟨rfl, ?_⟩) ?_ ?_; rotate_left
    ·intro w'; go_simp; with_reducible rfl
    rotate_left
    ·simp only [q_, i64_w, i32_w]; rfl
    refine pure_ (i:=6) (N:=some 33) (v:=undef) (a':=?_) ⟨m_ 31 127⟩ rfl rfl (any_of HT_.out (by kernel_rfl)) (fun _ _ _ h=>h) (Or.inr ⟨by rfl, rfl⟩) ?_ ?_; rotate_left
    ·simp only [q_, i64_w, i32_w]; rfl
    refine pure_ (i:=7) (N:=some 34) (v:=undef) (a':=?_) ⟨m_ 31 255⟩ rfl rfl (any_of HT_.out (by kernel_rfl)) (fun _ _ _ h=>h) (Or.inr ⟨by rfl, rfl⟩) ?_ ?_; rotate_left
    ·simp only [q_, i64_w, i32_w]; rfl
    refine pure_ (i:=8) (N:=some 35) (v:=undef) (a':=?_) ⟨m_ 31 511⟩ rfl rfl (any_of HT_.out (by kernel_rfl)) (fun _ _ _ h=>h) (Or.inr ⟨by rfl, rfl⟩) ?_ ?_; rotate_left
    ·simp only [q_, i64_w, i32_w]; rfl
    refine pure_ (i:=9) (N:=some 36) (v:=undef) (a':=?_) ⟨m_ 31 1023⟩ rfl rfl (any_of HT_.out (by kernel_rfl)) (fun _ _ _ h=>h) (Or.inr ⟨by rfl, rfl⟩) ?_ ?_; rotate_left
    ·simp only [q_, i64_w, i32_w]; rfl
    refine pure_ (i:=10) (N:=some 37) (v:=?_) (a':=?_) ⟨m_ 31 2047⟩ rfl rfl (any_of HT_.out (by kernel_rfl)) (fun _ _ _ h=>h) (Or.inl ⟨rfl, ?_⟩) ?_ ?_; rotate_left
    ·intro w'; go_simp; with_reducible rfl
    rotate_left
    ·simp only [q_, i64_w, i32_w]; rfl
    refine pure_ (i:=11) (N:=some 38) (v:=?_) (a':=?_) ⟨m_ 31 4095⟩ rfl rfl (any_of HT_.out (by kernel_rfl)) (fun _ _ _ h=>h) (Or.inl ⟨rfl, ?_⟩) ?_ ?_; rotate_left
    ·intro w'; go_simp; with_reducible rfl
    rotate_left
    ·simp only [q_, i64_w, i32_w]; rfl
    refine pure_ (i:=12) (N:=some 39) (v:=undef) (a':=?_) ⟨m_ 31 8191⟩ rfl rfl (any_of HT_.out (by kernel_rfl)) (fun _ _ _ h=>h) (Or.inr ⟨by rfl, rfl⟩) ?_ ?_; rotate_left
    ·simp only [q_, i64_w, i32_w]; rfl
    refine pure_ (i:=13) (N:=some 40) (v:=undef) (a':=?_) ⟨m_ 31 16383⟩ rfl rfl (any_of HT_.out (by kernel_rfl)) (fun _ _ _ h=>h) (Or.inr ⟨by rfl, rfl⟩) ?_ ?_; rotate_left
    ·simp only [q_, i64_w, i32_w]; rfl
    refine pure_ (i:=14) (N:=some 41) (v:=undef) (a':=?_) ⟨m_ 31 32767⟩ rfl rfl (any_of HT_.out (by kernel_rfl)) (fun _ _ _ h=>h) (Or.inr ⟨by rfl, rfl⟩) ?_ ?_; rotate_left
    ·simp only [q_, i64_w, i32_w]; rfl
    refine pure_ (i:=15) (N:=some 42) (v:=undef) (a':=?_) ⟨m_ 31 65535⟩ rfl rfl (any_of HT_.out (by kernel_rfl)) (fun _ _ _ h=>h) (Or.inr ⟨by rfl, rfl⟩) ?_ ?_; rotate_left
    ·simp only [q_, i64_w, i32_w]; rfl
    refine pure_ (i:=16) (N:=some 43) (v:=undef) (a':=?_) ⟨m_ 31 131071⟩ rfl rfl (any_of HT_.out (by kernel_rfl)) (fun _ _ _ h=>h) (Or.inr ⟨by rfl, rfl⟩) ?_ ?_; rotate_left
    ·simp only [q_, i64_w, i32_w]; rfl
    refine pure_ (i:=17) (N:=some 44) (v:=undef) (a':=?_) ⟨m_ 31 262143⟩ rfl rfl (any_of HT_.out (by kernel_rfl)) (fun _ _ _ h=>h) (Or.inr ⟨by rfl, rfl⟩) ?_ ?_; rotate_left
    ·simp only [q_, i64_w, i32_w]; rfl
    refine pure_ (i:=18) (N:=some 45) (v:=?_) (a':=?_) ⟨m_ 31 524287⟩ rfl rfl (any_of HT_.out (by kernel_rfl)) (fun _ _ _ h=>h) (Or.inl ⟨rfl, ?_⟩) ?_ ?_; rotate_left
    ·intro w'; go_simp; with_reducible rfl
    rotate_left
    ·simp only [q_, i64_w, i32_w]; rfl
    refine pure_ (i:=19) (N:=some 46) (v:=?_) (a':=?_) ⟨m_ 31 1048575⟩ rfl rfl (any_of HT_.out (by kernel_rfl)) (fun _ _ _ h=>h) (Or.inl ⟨rfl, ?_⟩) ?_ ?_; rotate_left
    ·intro w'; go_simp; with_reducible rfl
    rotate_left
    ·simp only [q_, i64_w, i32_w]; rfl
    refine pure_ (i:=20) (N:=some 47) (v:=undef) (a':=?_) ⟨m_ 31 2097151⟩ rfl rfl (any_of HT_.out (by kernel_rfl)) (fun _ _ _ h=>h) (Or.inr ⟨by rfl, rfl⟩) ?_ ?_; rotate_left
    ·simp only [q_, i64_w, i32_w]; rfl
    refine pure_ (i:=21) (N:=some 48) (v:=undef) (a':=?_) ⟨m_ 31 4194303⟩ rfl rfl (any_of HT_.out (by kernel_rfl)) (fun _ _ _ h=>h) (Or.inr ⟨by rfl, rfl⟩) ?_ ?_; rotate_left
    ·simp only [q_, i64_w, i32_w]; rfl
    refine pure_ (i:=22) (N:=some 49) (v:=undef) (a':=?_) ⟨m_ 31 8388607⟩ rfl rfl (any_of HT_.out (by kernel_rfl)) (fun _ _ _ h=>h) (Or.inr ⟨by rfl, rfl⟩) ?_ ?_; rotate_left
    ·simp only [q_, i64_w, i32_w]; rfl
    refine pure_ (i:=23) (N:=some 50) (v:=undef) (a':=?_) ⟨m_ 31 16777215⟩ rfl rfl (any_of HT_.out (by kernel_rfl)) (fun _ _ _ h=>h) (Or.inr ⟨by rfl, rfl⟩) ?_ ?_; rotate_left
    ·simp only [q_, i64_w, i32_w]; rfl
    refine pure_ (i:=24) (N:=some 51) (v:=?_) (a':=?_) ⟨m_ 31 33554431⟩ rfl rfl (any_of HT_.out (by kernel_rfl)) (fun _ _ _ h=>h) (Or.inl ⟨rfl, ?_⟩) ?_ ?_; rotate_left
    ·intro w'; go_simp; with_reducible rfl
    rotate_left
    ·simp only [q_, i64_w, i32_w]; rfl
    refine pure_ (i:=25) (N:=some 52) (v:=?_) (a':=?_) ⟨m_ 31 67108863⟩ rfl rfl (any_of HT_.out (by kernel_rfl)) (fun _ _ _ h=>h) (Or.inl ⟨rfl, ?_⟩) ?_ ?_; rotate_left
    ·intro w'; go_simp; with_reducible rfl
    rotate_left
    ·simp only [q_, i64_w, i32_w]; rfl
    refine pure_ (i:=26) (N:=some 53) (v:=undef) (a':=?_) ⟨m_ 31 134217727⟩ rfl rfl (any_of HT_.out (by kernel_rfl)) (fun _ _ _ h=>h) (Or.inr ⟨by rfl, rfl⟩) ?_ ?_; rotate_left
    ·simp only [q_, i64_w, i32_w]; rfl
    refine pure_ (i:=27) (N:=some 54) (v:=undef) (a':=?_) ⟨m_ 31 268435455⟩ rfl rfl (any_of HT_.out (by kernel_rfl)) (fun _ _ _ h=>h) (Or.inr ⟨by rfl, rfl⟩) ?_ ?_; rotate_left
    ·simp only [q_, i64_w, i32_w]; rfl
    refine pure_ (i:=28) (N:=some 55) (v:=undef) (a':=?_) ⟨m_ 31 536870911⟩ rfl rfl (any_of HT_.out (by kernel_rfl)) (fun _ _ _ h=>h) (Or.inr ⟨by rfl, rfl⟩) ?_ ?_; rotate_left
    ·simp only [q_, i64_w, i32_w]; rfl
    refine pure_ (i:=29) (N:=some 56) (v:=undef) (a':=?_) ⟨m_ 31 1073741823⟩ rfl rfl (any_of HT_.out (by kernel_rfl)) (fun _ _ _ h=>h) (Or.inr ⟨by rfl, rfl⟩) ?_ ?_; rotate_left
    ·simp only [q_, i64_w, i32_w]; rfl
    refine pure_ (i:=30) (N:=some 57) (v:=?_) (a':=?_) ⟨m_ 31 2147483647⟩ rfl rfl (any_of HT_.out (by kernel_rfl)) (fun _ _ _ h=>h) (Or.inl ⟨rfl, ?_⟩) ?_ ?_; rotate_left
    ·intro w'; go_simp; with_reducible rfl
    rotate_left
    ·simp only [q_, i64_w, i32_w]; rfl
    refine done_ (done_of HT_.out (by kernel_rfl)) ?_
    try go_wp2
    go_meet
    case rel => exact ⟨_, (true), (by first | rfl | (simp; done) | (simp [*]; done)), H', ⟨by first | omega | exact Nat.le_refl _⟩, ⟨pkx BK101⟩, ⟨pkx BK109⟩, ⟨pkx BK115⟩, ⟨pkx BK121⟩, ⟨pbx HB⟩⟩
  case rest =>
   clear HC11; (try clear c2); (try clear p2); (try clear c3); (try clear c27); (try clear c29); (try clear c30); (try clear c32); (try clear c32b0); (try clear c32b1); obtain ⟨kq, x57_10, rfl, HA, HJ10, BK101, BK109, BK115, BK121, HB⟩ := hcut
   cases kq with
   | zero => exact absurd HA.out (by simp [oculuslaw04_SpanBack.j0])
   | succ kj10 =>
    have H := HA.out; clear HA
    simp only [oculuslaw04_SpanBack.j0] at H
    by_cases c73 : x57_10 = true
    ·subst c73
     have H1 : (none) = some r := by rw [if_pos rfl] at H; exact H
     clear H; have H := H1; clear H1
     exact absurd H (by simp)
    ·replace c73 := Bool.eq_false_iff.mpr c73; subst c73
     have H1 : (if t114 = true then ((span_Text.f kj10 t110 t111 t112 t113).bind fun t125 => (if t125.toList = a1.toList then ((oculuslaw04_alive.f kj10).bind fun t126 => (some t126)) else (none))) else ((oculuslaw04_alive.f kj10).bind fun t127 => (some t127))) = some r := by rw [if_neg (show ¬ (false = true) by decide)] at H; exact H
     clear H; have H := H1; clear H1
     by_cases c74 : t114 = true
     ·subst c74
      have H1 : ((span_Text.f kj10 t110 t111 t112 t113).bind fun t125 => (if t125.toList = a1.toList then ((oculuslaw04_alive.f kj10).bind fun t126 => (some t126)) else (none))) = some r := by rw [if_pos rfl] at H; exact H
      clear H; have H := H1; clear H1; replace H := Option.bind_eq_some_iff.mp H; obtain ⟨t125, A750, H⟩ := H
      replace H : (if t125.toList = a1.toList then ((oculuslaw04_alive.f kj10).bind fun t126 => (some t126)) else (none)) = some r := H
      have A75 := Aside0.mk A750; clear A750
      by_cases c76 : t125.toList = a1.toList
      ·rw [if_pos c76] at H; have c76b0 : (t125.toList == a1.toList) = true := beq_iff_eq.mpr c76; have c76b1 : (t125.toList != a1.toList) = false := bne_eq_false_iff_eq.mpr c76; clear c76; replace H := Option.bind_eq_some_iff.mp H; obtain ⟨t126, A770, H⟩ := H
       replace H : (some t126) = some r := H
       have A77 := Aside0.mk A770; clear A770; obtain rfl := Option.some.inj H; have hnb78 := NB115_101.out; have hnc78 := NB101_115.out; have hnb79 := NB115_109.out; have hnc79 := NB109_115.out; have hnb80 := NB115_121.out; have hnc80 := NB121_115.out
       have hcz81_0 : wc.cell? ⟨gb115, 0, none⟩ = some (.int .i64 t110) := bc_ BK115 0 rfl
       have hcz81_1 : wc.cell? ⟨gb115, 1, none⟩ = some (.int .i64 t111) := bc_ BK115 1 rfl
       have hcz81_2 : wc.cell? ⟨gb115, 2, none⟩ = some (.int .i64 t112) := bc_ BK115 2 rfl
       have hcz81_3 : wc.cell? ⟨gb115, 3, none⟩ = some (.int .i64 t113) := bc_ BK115 3 rfl
       have hfz81_0 := blk_frozen BK115.out 0; have hfz81_1 := blk_frozen BK115.out 1; have hfz81_2 := blk_frozen BK115.out 2; have hfz81_3 := blk_frozen BK115.out 3
       go_wp2_with (first | (go_at_call 27; (with_reducible refine (span_Text.calls kj10 t110 t111 t112 t113 t125 _ (by refine tb_ ?_ hT; repeat' (first | exact pbx HB | assumption | refine below_set ?_ (Aside0.out ?_))) A75.out).mono ?_); rintro e w82 ⟨rfl, hb⟩; replace BK101 := bb_ BK101 hb; replace BK109 := bb_ BK109 hb; replace BK115 := bb_ BK115 hb; replace BK121 := bb_ BK121 hb; replace HB := bs_ HB hb; (try clear hb); (try clear hb2); (try clear hk); (try clear hi)) | (go_at_call 25; (with_reducible refine (oculuslaw04_alive.calls kj10  t126 _ (by refine tb_ ?_ hT; repeat' (first | exact pbx HB | assumption | refine below_set ?_ (Aside0.out ?_))) A77.out).mono ?_); rintro e w83 ⟨rfl, hb⟩; replace BK101 := bb_ BK101 hb; replace BK109 := bb_ BK109 hb; replace BK115 := bb_ BK115 hb; replace BK121 := bb_ BK121 hb; replace HB := bs_ HB hb; (try clear hb); (try clear hb2); (try clear hk); (try clear hi)))
       go_ret
       exact ⟨by first | rfl | (simp [errW_none, errW_some] <;> rfl) | (simp [*, errW_none, errW_some] <;> rfl), pbx HB⟩
      ·rw [if_neg c76] at H
       exact absurd H (by simp)
     ·replace c74 := Bool.eq_false_iff.mpr c74; subst c74
      have H1 : ((oculuslaw04_alive.f kj10).bind fun t127 => (some t127)) = some r := by rw [if_neg (show ¬ (false = true) by decide)] at H; exact H
      clear H; have H := H1; clear H1; replace H := Option.bind_eq_some_iff.mp H; obtain ⟨t127, A840, H⟩ := H
      replace H : (some t127) = some r := H
      have A84 := Aside0.mk A840; clear A840; obtain rfl := Option.some.inj H
      go_wp2_with (first | (go_at_call 25; (with_reducible refine (oculuslaw04_alive.calls kj10  t127 _ (by refine tb_ ?_ hT; repeat' (first | exact pbx HB | assumption | refine below_set ?_ (Aside0.out ?_))) A84.out).mono ?_); rintro e w85 ⟨rfl, hb⟩; replace BK101 := bb_ BK101 hb; replace BK109 := bb_ BK109 hb; replace BK115 := bb_ BK115 hb; replace BK121 := bb_ BK121 hb; replace HB := bs_ HB hb; (try clear hb); (try clear hb2); (try clear hk); (try clear hi)))
      go_ret
      exact ⟨by first | rfl | (simp [errW_none, errW_some] <;> rfl) | (simp [*, errW_none, errW_some] <;> rfl), pbx HB⟩

end Go.Proofs.YtjbdljolpkkhcaaDoor.X
/- A general opening of a row's arguments: what a value of a type reads as, as a term of a kind 'Kd', with the bounds that the row's reach gives. -/
set_option linter.unusedVariables false
set_option linter.unusedSimpArgs false
namespace Go.Proofs.YtjbdljolpkkhcaaDoor.Opn
open Go.ChangeShapes Go.WideShapes Go.RowKit Go.Proofs.YtjbdljolpkkhcaaDoorW.PrintWords

/-- Whatever is read at type t is a cell row of some a of kind d that is good. -/
def Opens {α : Type} (P : Program) (t : TypeId) (d : Kd α) (good : α → Prop) : Prop :=
  ∀ {H : Type} {enc : TypeId × Value → H} {w : World} {base : Nat} {spare : Nat → Bool} {held : Bool} {fuel : Nat} {cs : List Value} {x : DataW H × List MemPlace},
    DataW.trod enc P w base spare held fuel t cs = some x → (∀ m ∈ x.1.weights P t, m ≤ reachBytes) → ∃ a, d.K w a cs ∧ good a

theorem opens_int {P : Program} {t : TypeId} {k : IntKind} (ht : P.underlying t = some (.int k)) : Opens P t (Kd.int k) (fun n => (Lit.int k n).wf = true) := by
  intro H enc w base spare held fuel cs x hx _
  obtain ⟨n, rfl, rfl, hn⟩ := DataW.trod_int ht hx
  exact ⟨n, rfl, hn⟩
theorem opens_string {P : Program} {t : TypeId} (ht : P.underlying t = some .string) : Opens P t Kd.string (fun s => s.size ≤ reachBytes) := by
  intro H enc w base spare held fuel cs x hx hw
  obtain ⟨s, rfl, rfl, _⟩ := DataW.trod_string ht hx
  refine ⟨s, rfl, ?_⟩
  have := hw s.data.toList.length (by simp [DataW.weights])
  simpa using this

/-- The fields from one place on. -/
def OpensTail {α : Type} (P : Program) (fs : List Field) (o len : Nat) (d : Kd α) (good : α → Prop) : Prop :=
  ∀ {H : Type} {enc : TypeId × Value → H} {w : World} {base : Nat} {spare : Nat → Bool} {held : Bool} {n : Nat} {cs : List Value} {xs : List (DataW H × List MemPlace)},
    cs.length = len → xs.length = fs.length →
    (∀ (i : Nat) (f : Field), fs[i]? = some f → DataW.trod enc P w base spare held n f.type ((cs.drop f.offset).take (P.cellsOf f.type)) = xs[i]?) →
    (∀ m ∈ DataW.weightsEach P (fs.map (·.type)) (xs.map (·.1)), m ≤ reachBytes) → ∃ a, d.K w a (cs.drop o) ∧ good a

theorem tail_one {α : Type} {P : Program} {f : Field} {o len : Nat} {d : Kd α} {good : α → Prop} (ho : f.offset = o) (hl : len ≤ o + P.cellsOf f.type) (h : Opens P f.type d good) : OpensTail P [f] o len d good := by
  intro H enc w base spare held n cs xs hcs hxs hall hw
  obtain ⟨x, rfl⟩ : ∃ x, xs = [x] := by
    match xs, hxs with
    | [x], _ => exact ⟨x, rfl⟩
  have h0 := hall 0 f rfl
  rw [ho, List.take_of_length_le (by rw [List.length_drop]; omega)] at h0
  exact h h0 (fun m hm => hw m (by simp only [List.map_cons, List.map_nil, DataW.weightsEach, List.mem_append]; exact Or.inl hm))
theorem tail_cons {α β : Type} {P : Program} {f : Field} {fs : List Field} {o o' len : Nat} {a : Kd α} {b : Kd β} {ga : α → Prop} {gb : β → Prop} (ho : f.offset = o) (ho' : o' = o + P.cellsOf f.type)
    (h : Opens P f.type a ga) (ht : OpensTail P fs o' len b gb) : OpensTail P (f :: fs) o len (Kd.pair a b) (fun x => ga x.1 ∧ gb x.2) := by
  intro H enc w base spare held n cs xs hcs hxs hall hw
  obtain ⟨x, xs, rfl⟩ : ∃ x r, xs = x :: r := by
    match xs, hxs with
    | x :: r, _ => exact ⟨x, r, rfl⟩
  have h0 := hall 0 f rfl
  rw [ho] at h0
  obtain ⟨y, hy, hgy⟩ := h h0 (fun m hm => hw m (by simp only [List.map_cons, DataW.weightsEach, List.mem_append]; exact Or.inl hm))
  obtain ⟨z, hz, hgz⟩ := ht (xs := xs) hcs (by simpa using hxs) (fun i g hg => by simpa using hall (i + 1) g (by simpa using hg))
    (fun m hm => hw m (by simp only [List.map_cons, DataW.weightsEach, List.mem_append]; exact Or.inr hm))
  refine ⟨(y, z), ⟨(cs.drop o).take (P.cellsOf f.type), cs.drop o', ?_, hy, hz⟩, hgy, hgz⟩
  rw [ho', ← List.drop_drop, List.take_append_drop]
/-- A struct: its fields one behind the other. -/
theorem opens_struct {α β : Type} {P : Program} {t : TypeId} {fs : Array Field} {len : Nat} {d : Kd α} {good : α → Prop} (ht : P.underlying t = some (.struct fs)) (hl : P.cellsOf t = len) (h : OpensTail P fs.toList 0 len d good) (f : β → α) (g : α → β) (hfg : ∀ a, f (g a) = a) :
    Opens P t (Kd.iso d f) (fun x => good (f x)) := by
  intro H enc w base spare held fuel cs x hx hw
  obtain ⟨xs, n, rfl, rfl, hcs, hxs, hall⟩ := DataW.trod_struct ht hx
  obtain ⟨a, ha, hga⟩ := h (xs := xs) (hcs.trans hl) (by simpa using hxs) (fun i f hf => hall i f (by simpa using hf)) (fun m hm => hw m (by simp only [DataW.weights, ht]; exact hm))
  refine ⟨g a, ?_, by show good (f (g a)); rw [hfg]; exact hga⟩
  show d.K w (f (g a)) cs
  rw [hfg]
  simpa using ha
/-- A struct of one field. -/
theorem Opens.iso {α β : Type} {P : Program} {t : TypeId} {d : Kd α} {good : α → Prop} (h : Opens P t d good) (f : β → α) (g : α → β) (hfg : ∀ a, f (g a) = a) : Opens P t (Kd.iso d f) (fun x => good (f x)) := by
  intro H enc w base spare held fuel cs x hx hw
  obtain ⟨a, ha, hga⟩ := h hx hw
  refine ⟨g a, ?_, by show good (f (g a)); rw [hfg]; exact hga⟩
  show d.K w (f (g a)) cs
  rw [hfg]
  exact ha
end Go.Proofs.YtjbdljolpkkhcaaDoor.Opn
/- The openings of the arguments of the law SpanBack, and its pure statement. -/
set_option linter.unusedVariables false
namespace Go.Proofs.YtjbdljolpkkhcaaDoor.X
open Go.RowKit Go.Proofs.YtjbdljolpkkhcaaDoorW.PrintWords Go.Proofs.YtjbdljolpkkhcaaDoorW.PrintLast Go.Proofs.YtjbdljolpkkhcaaDoorW.PrintMore Go.Proofs.YtjbdljolpkkhcaaDoor.Opn
def good23 (x : S23) : Prop := ((Lit.int .i64 x.f0).wf = true) ∧ ((Lit.int .i64 x.f1).wf = true)
theorem opens23 : Opens Tryd.prog 23 k23 good23 := opens_struct Tryd.underlying23 (len := 2) (by kernel_rfl) (tail_cons rfl (by kernel_rfl) (opens_int Tryd.underlying3) (tail_one rfl (Nat.le_of_eq (by kernel_rfl)) (opens_int Tryd.underlying3))) (fun x : S23 => (x.f0, x.f1)) (fun a => ⟨a.1, a.2⟩) (fun _ => rfl)
def good42 (x : S42) : Prop := (good23 x.f0) ∧ (good23 x.f1)
theorem opens42 : Opens Tryd.prog 42 k42 good42 := opens_struct Tryd.underlying42 (len := 4) (by kernel_rfl) (tail_cons rfl (by kernel_rfl) opens23 (tail_one rfl (Nat.le_of_eq (by kernel_rfl)) opens23)) (fun x : S42 => (x.f0, x.f1)) (fun a => ⟨a.1, a.2⟩) (fun _ => rfl)
/-- What is left: a statement over numbers and lists alone. -/
def oculuslaw04_SpanBack.PureX : Prop := ∀ (a0 : S42) (a1 : ByteArray), (good42 a0) → (a1.size ≤ reachBytes) → ∃ k, oculuslaw04_SpanBack.f k (a0.f0.f0) (a0.f0.f1) (a0.f1.f0) (a0.f1.f1) a1 = some true
end Go.Proofs.YtjbdljolpkkhcaaDoor.X
/- What span and its reference answer: spans, their cells. -/
set_option linter.unusedVariables false
set_option linter.unusedSimpArgs false
namespace Go.Proofs.YtjbdljolpkkhcaaDoor.X
open Go.RowKit Go.Proofs.YtjbdljolpkkhcaaDoorW.PrintWords Go.Proofs.YtjbdljolpkkhcaaDoorW.PrintLast Go.Proofs.YtjbdljolpkkhcaaDoorW.PrintMore
abbrev Cl := S23
def mayZ (a b c d : Int) : Bool := decide ((0 ≤ a ∧ a < 999 ∧ 0 ≤ b ∧ b < 702) ∧ (0 ≤ c ∧ c < 999 ∧ 0 ≤ d ∧ d < 702))
theorem addr_may_eq (a b : Int) : addr_May.f a b = some (decide (0 ≤ a ∧ a < 999 ∧ 0 ≤ b ∧ b < 702)) := by
  unfold addr_May.f
  by_cases h1 : a ≥ 0
  · rw [if_pos h1]
    by_cases h2 : a < 999
    · rw [if_pos h2]
      by_cases h3 : b ≥ 0
      · rw [if_pos h3, Option.some.injEq, decide_eq_decide]; omega
      · rw [if_neg h3, decide_eq_false (by omega)]
    · rw [if_neg h2, decide_eq_false (by omega)]
  · rw [if_neg h1, decide_eq_false (by omega)]
theorem span_may_eq (a b c d : Int) : span_May.f a b c d = some (mayZ a b c d) := by
  unfold span_May.f mayZ
  rw [addr_may_eq, Option.bind_some]
  by_cases h : 0 ≤ a ∧ a < 999 ∧ 0 ≤ b ∧ b < 702
  · rw [decide_eq_true h, if_pos rfl, addr_may_eq, Option.bind_some, Option.some.injEq, decide_eq_decide]
    exact ⟨fun g => ⟨h, g⟩, fun g => g.2⟩
  · rw [decide_eq_false h, if_neg (by simp), decide_eq_false (fun g => h g.1)]
theorem rmayd_eq (a b : Int) : oculusref03_May.f a b = some (decide (0 ≤ a ∧ a < 999 ∧ 0 ≤ b ∧ b < 702)) := by
  unfold oculusref03_May.f
  by_cases h1 : a ≥ 0
  · rw [if_pos h1]
    by_cases h2 : a ≤ 998
    · rw [if_pos h2]
      by_cases h3 : b ≥ 0
      · rw [if_pos h3, Option.some.injEq, decide_eq_decide]; omega
      · rw [if_neg h3, decide_eq_false (by omega)]
    · rw [if_neg h2, decide_eq_false (by omega)]
  · rw [if_neg h1, decide_eq_false (by omega)]
theorem rspan_may_eq (a b c d : Int) : oculusref04_May.f a b c d = some (mayZ a b c d) := by
  unfold oculusref04_May.f mayZ
  rw [rmayd_eq, Option.bind_some]
  by_cases h : 0 ≤ a ∧ a < 999 ∧ 0 ≤ b ∧ b < 702
  · rw [decide_eq_true h, if_pos rfl, rmayd_eq, Option.bind_some, Option.some.injEq, decide_eq_decide]
    exact ⟨fun g => ⟨h, g⟩, fun g => g.2⟩
  · rw [decide_eq_false h, if_neg (by simp), decide_eq_false (fun g => h g.1)]
theorem span_str (a b c d : Int) (h : mayZ a b c d = true) : span_Straight.f a b c d = some (mn a c, mn b d, mx a c, mx b d) := straight_eq (by rw [span_may_eq, h])
/-! The cells of a span. -/
def cellsOf (a b c d : Int) : List Cl := if mayZ a b c d = true ∧ ¬ ((mx a c - mn a c + 1) * (mx b d - mn b d + 1) > 1000) then cellsL (mn a c) (mn b d) (mx a c) (mx b d) else []
theorem mnmx (a c : Int) (h1 : 0 ≤ a ∧ a < 1000) (h2 : 0 ≤ c ∧ c < 1000) : 0 ≤ mn a c ∧ mn a c ≤ mx a c ∧ mx a c < 1000 := by
  unfold mn mx
  refine ⟨?_, ?_, ?_⟩ <;> (repeat' split) <;> omega
theorem may_b {a b c d : Int} (h : mayZ a b c d = true) : (0 ≤ a ∧ a < 1000) ∧ (0 ≤ b ∧ b < 1000) ∧ (0 ≤ c ∧ c < 1000) ∧ (0 ≤ d ∧ d < 1000) := by
  unfold mayZ at h
  have := of_decide_eq_true h
  omega
theorem span_size_eq (a b c d : Int) : span_Size.f a b c d = some (if mayZ a b c d = true then (mx a c - mn a c + 1) * (mx b d - mn b d + 1) else 0) := by
  unfold span_Size.f span_Rows.f span_Cols.f
  rw [span_may_eq, Option.bind_some]
  by_cases h : mayZ a b c d = true
  · have hb := may_b h
    have m1 := mnmx a c hb.1 hb.2.2.1
    have m2 := mnmx b d hb.2.1 hb.2.2.2
    rw [if_pos h, if_pos h, span_str a b c d h]
    simp only [Option.bind_some]
    rw [if_pos h]
    simp only [Option.bind_some]
    generalize mn a c = p0 at *
    generalize mn b d = p1 at *
    generalize mx a c = p2 at *
    generalize mx b d = p3 at *
    rw [w64 (x := p2 - p0) (by omega) (by omega), w64 (x := p2 - p0 + 1) (by omega) (by omega), w64 (x := p3 - p1) (by omega) (by omega), w64 (x := p3 - p1 + 1) (by omega) (by omega)]
    obtain ⟨x, hx⟩ : ∃ x : Nat, p2 - p0 + 1 = (x : Int) := ⟨(p2 - p0 + 1).toNat, by omega⟩
    obtain ⟨y, hy⟩ : ∃ y : Nat, p3 - p1 + 1 = (y : Int) := ⟨(p3 - p1 + 1).toNat, by omega⟩
    rw [hx, hy]
    have hxy : x * y ≤ 1000 * 1000 := Nat.mul_le_mul (by omega) (by omega)
    have hc : (x : Int) * (y : Int) = ((x * y : Nat) : Int) := by simp
    rw [hc, w64 (by omega) (by omega)]
  · rw [if_neg h, if_neg h, Option.bind_some, Option.bind_some, if_neg h, Option.bind_some]
    rw [w64 (by omega) (by omega)]; rfl
theorem span_cells_eq (a b c d : Int) : span_Cells.f a b c d = some (cellsOf a b c d) := by
  unfold span_Cells.f cellsOf allF
  rw [span_size_eq, Option.bind_some, span_may_eq, Option.bind_some]
  by_cases h : mayZ a b c d = true
  · simp only [if_pos h]
    by_cases g : (mx a c - mn a c + 1) * (mx b d - mn b d + 1) > 1000
    · rw [if_pos g, if_neg (fun k => k.2 g)]
    · rw [if_neg g, if_pos ⟨h, g⟩, span_str a b c d h]; rfl
  · simp only [if_neg h]
    rw [if_neg (by omega), if_neg (fun k => h k.1)]
end Go.Proofs.YtjbdljolpkkhcaaDoor.X
/- Plain facts on texts as lists of bytes. -/
set_option linter.unusedVariables false
set_option linter.unusedSimpArgs false
namespace Go.Proofs.YtjbdljolpkkhcaaDoor.X
open Go.RowKit Go.Proofs.YtjbdljolpkkhcaaDoorW.PrintWords Go.Proofs.YtjbdljolpkkhcaaDoorW.PrintLast Go.Proofs.YtjbdljolpkkhcaaDoorW.PrintMore
/-- A text's bytes; the text of bytes. -/
def by_ (s : ByteArray) : List UInt8 := s.data.toList
def tx (l : List UInt8) : ByteArray := ⟨l.toArray⟩
theorem by_tx (l : List UInt8) : by_ (tx l) = l := by simp [by_, tx]
theorem tx_by (s : ByteArray) : tx (by_ s) = s := by
  obtain ⟨⟨l⟩⟩ := s
  rfl
theorem by_inj {s t : ByteArray} (h : by_ s = by_ t) : s = t := by rw [← tx_by s, ← tx_by t, h]
theorem toList_by (s : ByteArray) : s.toList = by_ s := ByteArray.toList_eq s
theorem size_by (s : ByteArray) : s.size = (by_ s).length := by
  obtain ⟨⟨l⟩⟩ := s
  rfl
theorem size_tx (l : List UInt8) : (tx l).size = l.length := by rw [size_by, by_tx]
theorem by_extract (s : ByteArray) (a b : Nat) : by_ (s.extract a b) = ((by_ s).drop a).take (b - a) := Go.Lib.extract_data s a b
theorem by_head (s : ByteArray) (b : Nat) : by_ (s.extract 0 b) = (by_ s).take b := by rw [by_extract]; simp
theorem by_tail (s : ByteArray) (a : Nat) : by_ (s.extract a s.size) = (by_ s).drop a := by
  rw [by_extract, List.take_of_length_le]
  rw [List.length_drop, size_by]
  exact Nat.le_refl _
theorem ext_head (s : ByteArray) (b : Nat) : s.extract 0 b = tx ((by_ s).take b) := by_inj (by rw [by_head, by_tx])
theorem ext_tail (s : ByteArray) (a : Nat) : s.extract a s.size = tx ((by_ s).drop a) := by_inj (by rw [by_tail, by_tx])
theorem by_append (s t : ByteArray) : by_ (s ++ t) = by_ s ++ by_ t := by
  obtain ⟨⟨l⟩⟩ := s
  obtain ⟨⟨m⟩⟩ := t
  simp [by_, ByteArray.data_append]
theorem tx_append (l m : List UInt8) : tx l ++ tx m = tx (l ++ m) := by_inj (by rw [by_append, by_tx, by_tx, by_tx])
theorem bt_by (s : ByteArray) (i : Nat) (h : i < (by_ s).length) : bt s (i : Int) = ((by_ s)[i].toNat : Int) := by
  obtain ⟨⟨l⟩⟩ := s
  have h' : (i : Int).toNat < (⟨⟨l⟩⟩ : ByteArray).size := by rw [Int.toNat_natCast]; exact h
  unfold bt
  rw [dif_pos h']
  simp only [Int.toNat_natCast]
  rfl
theorem bt_tx (l : List UInt8) (i : Nat) (h : i < l.length) : bt (tx l) (i : Int) = (l[i].toNat : Int) := by
  rw [bt_by (tx l) i (by rw [by_tx]; exact h)]
  simp only [by_tx]
theorem bt_tx0 (c : UInt8) (l : List UInt8) : bt (tx (c :: l)) 0 = (c.toNat : Int) := bt_tx (c :: l) 0 (by simp)
theorem u8_lt (c : UInt8) : c.toNat < 256 := c.toNat_lt
theorem u8_inj {a b : UInt8} (h : a.toNat = b.toNat) : a = b := UInt8.toNat_inj.1 h
end Go.Proofs.YtjbdljolpkkhcaaDoor.X
/- What addr and its reference answer: letters, numbers, names. -/
set_option linter.unusedVariables false
set_option linter.unusedSimpArgs false
namespace Go.Proofs.YtjbdljolpkkhcaaDoor.X
open Go.RowKit Go.Proofs.YtjbdljolpkkhcaaDoorW.PrintWords Go.Proofs.YtjbdljolpkkhcaaDoorW.PrintLast Go.Proofs.YtjbdljolpkkhcaaDoorW.PrintMore
def u8 (n : Nat) : UInt8 := UInt8.ofNat n
/-- A column's letters; a number's digits. -/
def letL (c : Nat) : List UInt8 := if c < 26 then [u8 (65 + c)] else [u8 (64 + c / 26), u8 (65 + c % 26)]
def digL (n : Nat) : List UInt8 := if n < 10 then [u8 (48 + n)] else if n < 100 then [u8 (48 + n / 10), u8 (48 + n % 10)] else [u8 (48 + n / 100), u8 (48 + n / 10 % 10), u8 (48 + n % 10)]
theorem itoa_digL (n : Nat) (h : n < 1000) : Lib.itoa (n : Int) = digL n := by
  unfold Lib.itoa digL u8
  rw [if_neg (by omega), Int.toNat_natCast]
  by_cases h1 : n < 10
  · rw [if_pos h1, Lib.decDigits, dif_pos h1]
  · rw [if_neg h1, Lib.decDigits, dif_neg h1]
    by_cases h2 : n < 100
    · rw [if_pos h2, Lib.decDigits, dif_pos (by omega)]; rfl
    · rw [if_neg h2, Lib.decDigits, dif_neg (by omega), Lib.decDigits, dif_pos (by omega)]
      rw [Nat.div_div_eq_div_mul]; rfl
theorem itoa_eq (n : Nat) (h : n < 1000) : strconv_Itoa.f (n : Int) = some (tx (digL n)) := by
  unfold strconv_Itoa.f
  rw [if_pos (by omega), itoa_digL n h]; rfl
theorem sn1 (a : Nat) : strOfNums [(a : Int)] = tx [u8 a] := rfl
theorem sn2 (a b : Nat) : strOfNums [(a : Int), (b : Int)] = tx [u8 a, u8 b] := rfl
theorem tdiv26 (c : Nat) : Int.tdiv (c : Int) 26 = ((c / 26 : Nat) : Int) := by rw [Int.tdiv_eq_ediv_of_nonneg (by omega)]; omega
theorem tmod26 (c : Nat) : Int.tmod (c : Int) 26 = ((c % 26 : Nat) : Int) := by rw [Int.tmod_eq_emod_of_nonneg (by omega)]; omega
theorem tdiv10 (c : Nat) : Int.tdiv (c : Int) 10 = ((c / 10 : Nat) : Int) := by rw [Int.tdiv_eq_ediv_of_nonneg (by omega)]; omega
theorem tmod10 (c : Nat) : Int.tmod (c : Int) 10 = ((c % 10 : Nat) : Int) := by rw [Int.tmod_eq_emod_of_nonneg (by omega)]; omega
theorem wn (x : Int) (n : Nat) (h : x = (n : Int)) (hn : n < 256) : wrap64 x % 256 = (n : Int) := by rw [w64 (by omega) (by omega)]; omega
/-- The letters of any column. -/
def ltrI (c : Int) : List UInt8 := if c < 0 ∨ c ≥ 702 then [] else letL c.toNat
theorem letters_ev (c : Int) : Ev (fun k => addr_Letters.f k c) (tx (ltrI c)) := by
  unfold addr_Letters.f ltrI
  by_cases h : c < 0 ∨ c ≥ 702
  · rw [if_pos h]
    have hj : Ev (fun k => addr_Letters.j0 k c true) (tx []) := by
      refine Ev.step (fun k => addr_Letters.j0.eq_2 _ _ _) ?_
      exact ev_pos rfl (Ev.now _)
    refine ev_ite (fun _ => hj) (fun h1 => ?_)
    rw [decide_eq_true (by omega)]
    exact hj
  · rw [if_neg h]
    refine ev_neg (by omega) ?_
    rw [decide_eq_false (by omega)]
    refine Ev.step (fun k => addr_Letters.j0.eq_2 _ _ _) ?_
    refine ev_neg (by simp) ?_
    obtain ⟨n, rfl⟩ : ∃ n : Nat, c = (n : Int) := ⟨c.toNat, by omega⟩
    rw [Int.toNat_natCast]
    unfold letL
    refine ev_ite (fun h1 => ev_some fun _ => ?_) (fun h1 => ev_some fun _ => ?_)
    · rw [if_pos (by omega), wn _ (65 + n) (by omega) (by omega), sn1]
    · have e1 : wrap64 (wrap64 (65 + wrap64 (((n / 26 : Nat) : Int))) - 1) % 256 = ((64 + n / 26 : Nat) : Int) := by
        rw [w64 (x := ((n / 26 : Nat) : Int)) (by omega) (by omega), w64 (x := 65 + ((n / 26 : Nat) : Int)) (by omega) (by omega)]
        exact wn _ _ (by omega) (by omega)
      have e2 : wrap64 (65 + ((n % 26 : Nat) : Int)) % 256 = ((65 + n % 26 : Nat) : Int) := wn _ _ (by omega) (by omega)
      rw [if_neg (by omega), tdiv26, tmod26, e1, e2, sn2]
theorem rletters_ev (c : Int) : Ev (fun k => oculusref03_Letters.f k c) (tx (ltrI c)) := by
  unfold oculusref03_Letters.f ltrI
  by_cases h : c < 0 ∨ c ≥ 702
  · rw [if_pos h]
    have hj : Ev (fun k => oculusref03_Letters.j0 k c true) (tx []) := by
      refine Ev.step (fun k => oculusref03_Letters.j0.eq_2 _ _ _) ?_
      exact ev_pos rfl (Ev.now _)
    refine ev_ite (fun _ => hj) (fun h1 => ?_)
    rw [decide_eq_true (by omega)]
    exact hj
  · rw [if_neg h]
    refine ev_neg (by omega) ?_
    rw [decide_eq_false (by omega)]
    refine Ev.step (fun k => oculusref03_Letters.j0.eq_2 _ _ _) ?_
    refine ev_neg (by simp) ?_
    obtain ⟨n, rfl⟩ : ∃ n : Nat, c = (n : Int) := ⟨c.toNat, by omega⟩
    rw [Int.toNat_natCast]
    unfold letL
    refine ev_ite (fun h1 => ev_some fun _ => ?_) (fun h1 => ev_some fun _ => ?_)
    · rw [if_pos (by omega), wn _ (65 + n) (by omega) (by omega), sn1]
    · have e1 : wrap64 (64 + wrap64 (((n / 26 : Nat) : Int))) % 256 = ((64 + n / 26 : Nat) : Int) := by
        rw [w64 (x := ((n / 26 : Nat) : Int)) (by omega) (by omega)]
        exact wn _ _ (by omega) (by omega)
      have e2 : wrap64 (65 + ((n % 26 : Nat) : Int)) % 256 = ((65 + n % 26 : Nat) : Int) := wn _ _ (by omega) (by omega)
      rw [if_neg (by omega), tdiv26, tmod26, e1, e2, sn2]
/-! The reference's digits. -/
theorem digits_l0_zero (l : List UInt8) : Ev (fun k => oculusref01_Digits.l0 k 0 (tx l)) (tx l) := by
  refine Ev.step (fun k => oculusref01_Digits.l0.eq_2 _ _ _) ?_
  exact ev_neg (by omega) (Ev.now _)
theorem digits_l0_more (n : Nat) (h0 : 0 < n) (h : n < 1000) (l q : List UInt8) (hl : l.length < 10) (hn : Ev (fun k => oculusref01_Digits.l0 k ((n / 10 : Nat) : Int) (tx (u8 (48 + n % 10) :: l))) (tx q)) : Ev (fun k => oculusref01_Digits.l0 k (n : Int) (tx l)) (tx q) := by
  refine Ev.step (fun k => oculusref01_Digits.l0.eq_2 _ _ _) ?_
  refine ev_pos (by omega) (ev_bsome ?_)
  have e2 : wrap64 (48 + Int.tmod (n : Int) 10) % 256 = ((48 + n % 10 : Nat) : Int) := by rw [tmod10]; exact wn _ _ (by omega) (by omega)
  rw [e2, sn1, tdiv10, w64 (by omega) (by omega)]
  refine ev_pos (by rw [size_tx, size_tx]; simp; omega) ?_
  rw [tx_append]
  exact hn
theorem digits_ev (n : Nat) (h : n < 1000) : Ev (fun k => oculusref01_Digits.f k (n : Int)) (tx (digL n)) := by
  unfold oculusref01_Digits.f
  have e2 : wrap64 (48 + Int.tmod (n : Int) 10) % 256 = ((48 + n % 10 : Nat) : Int) := by rw [tmod10]; exact wn _ _ (by omega) (by omega)
  rw [e2, sn1, tdiv10, w64 (by omega) (by omega)]
  unfold digL
  by_cases h1 : n < 10
  · rw [if_pos h1, show n / 10 = 0 by omega, show n % 10 = n by omega]
    exact digits_l0_zero _
  · rw [if_neg h1]
    by_cases h2 : n < 100
    · rw [if_pos h2]
      refine digits_l0_more _ (by omega) (by omega) _ _ (by simp) ?_
      rw [show n / 10 / 10 = 0 by omega, show n / 10 % 10 = n / 10 by omega]
      exact digits_l0_zero _
    · rw [if_neg h2]
      refine digits_l0_more _ (by omega) (by omega) _ _ (by simp) ?_
      refine digits_l0_more _ (by omega) (by omega) _ _ (by simp) ?_
      rw [show n / 10 / 10 / 10 = 0 by omega, show n / 10 / 10 % 10 = n / 100 by omega]
      exact digits_l0_zero _
/-! Names. -/
def mayI (r c : Int) : Bool := decide (0 ≤ r ∧ r < 999 ∧ 0 ≤ c ∧ c < 702)
theorem amay_eq (a b : Int) : addr_May.f a b = some (mayI a b) := by
  unfold addr_May.f mayI
  by_cases h1 : a ≥ 0
  · rw [if_pos h1]
    by_cases h2 : a < 999
    · rw [if_pos h2]
      by_cases h3 : b ≥ 0
      · rw [if_pos h3, Option.some.injEq, decide_eq_decide]; omega
      · rw [if_neg h3, decide_eq_false (by omega)]
    · rw [if_neg h2, decide_eq_false (by omega)]
  · rw [if_neg h1, decide_eq_false (by omega)]
theorem rmay_eq (a b : Int) : oculusref03_May.f a b = some (mayI a b) := by
  unfold oculusref03_May.f mayI
  by_cases h1 : a ≥ 0
  · rw [if_pos h1]
    by_cases h2 : a ≤ 998
    · rw [if_pos h2]
      by_cases h3 : b ≥ 0
      · rw [if_pos h3, Option.some.injEq, decide_eq_decide]; omega
      · rw [if_neg h3, decide_eq_false (by omega)]
    · rw [if_neg h2, decide_eq_false (by omega)]
  · rw [if_neg h1, decide_eq_false (by omega)]
def nameL (r c : Int) : List UInt8 := if mayI r c = true then letL c.toNat ++ digL (r.toNat + 1) else []
theorem letL_len (n : Nat) : (letL n).length ≤ 2 := by unfold letL; split <;> simp
theorem digL_len (n : Nat) : (digL n).length ≤ 3 := by unfold digL; (repeat' split) <;> simp
theorem name_ev (r c : Int) : Ev (fun k => addr_Name.f k r c) (tx (nameL r c)) := by
  unfold addr_Name.f nameL
  refine ev_bind (ev_some fun _ => amay_eq r c) ?_
  by_cases h : mayI r c = true
  · rw [if_pos h]
    refine ev_pos h ?_
    unfold mayI at h
    have hb := of_decide_eq_true h
    have hl := letters_ev c
    unfold ltrI at hl
    rw [if_neg (by omega)] at hl
    refine ev_bind hl ?_
    have e : wrap64 (r + 1) = ((r.toNat + 1 : Nat) : Int) := by rw [w64 (by omega) (by omega)]; omega
    rw [e, itoa_eq _ (by omega)]
    refine ev_bsome ?_
    have h1 := letL_len c.toNat
    have h2 := digL_len (r.toNat + 1)
    refine ev_pos (by rw [size_tx, size_tx]; omega) (ev_some fun _ => by rw [tx_append])
  · rw [if_neg h]; exact ev_neg h (Ev.now _)
theorem rname_ev (r c : Int) : Ev (fun k => oculusref03_Name.f k r c) (tx (nameL r c)) := by
  unfold oculusref03_Name.f nameL
  refine ev_bind (ev_some fun _ => rmay_eq r c) ?_
  by_cases h : mayI r c = true
  · rw [if_pos h]
    refine ev_pos h ?_
    unfold mayI at h
    have hb := of_decide_eq_true h
    have hl := rletters_ev c
    unfold ltrI at hl
    rw [if_neg (by omega)] at hl
    refine ev_bind hl ?_
    have e : wrap64 (r + 1) = ((r.toNat + 1 : Nat) : Int) := by rw [w64 (by omega) (by omega)]; omega
    rw [e]
    refine ev_bind (digits_ev _ (by omega)) ?_
    have h1 := letL_len c.toNat
    have h2 := digL_len (r.toNat + 1)
    refine ev_pos (by rw [size_tx, size_tx]; omega) (ev_some fun _ => by rw [tx_append])
  · rw [if_neg h]; exact ev_neg h (Ev.now _)
end Go.Proofs.YtjbdljolpkkhcaaDoor.X
