/- Contracts of the functions that the law LabelLattice reaches, and what they answer (a session's own texts, joined; part 2). -/
import Derived.Test.YtfcpkehldmehjaaDoorBLabelLattice1
namespace Go.Proofs.YtfcpkehldmehjaaDoor.X
open Go.RowKit Go.Proofs.YtfcpkehldmehjaaDoorW.PrintWords Go.Proofs.YtfcpkehldmehjaaDoorW.PrintLast Go.Proofs.YtfcpkehldmehjaaDoorW.PrintMore
attribute [local go_sem] max2_int min2_int max_two min_two max_three min_three max_four min_four   -- for this text's walks alone
set_option linter.unusedVariables false
set_option linter.unusedSimpArgs false

attribute [local go_sem high] eqA24
/-! ### oculuslaw02_LabelLattice: function 7 -/
mutual
def oculuslaw02_LabelLattice.j0 : Nat → Bool → Int → Int → Int → Int → Int → Int → Int → Int → Int → Int → Option (Bool)
 | 0, _, _, _, _, _, _, _, _, _, _, _ => none
 | k + 1, x36, x102000, x102001, x103000, x103001, x104000, x104001, x107000, x107001, x110000, x110001 => if x36 = true then (none) else ((label_Below.f x102000 x102001 x104000 x104001).bind fun t114 => (if t114 = true then ((label_Below.f x103000 x103001 x104000 x104001).bind fun t115 => ((label_Below.f x107000 x107001 x104000 x104001).bind fun t116 => (if (t115 != t116) = true then (oculuslaw02_LabelLattice.j1 k true x102000 x102001 x103000 x103001 x104000 x104001 x107000 x107001 x110000 x110001) else ((label_Below.f x104000 x104001 x102000 x102001).bind fun t117 => (if t117 = true then ((label_Below.f x104000 x104001 x103000 x103001).bind fun t118 => ((label_Below.f x104000 x104001 x110000 x110001).bind fun t119 => (oculuslaw02_LabelLattice.j1 k (t118 != t119) x102000 x102001 x103000 x103001 x104000 x104001 x107000 x107001 x110000 x110001))) else (oculuslaw02_LabelLattice.j1 k false x102000 x102001 x103000 x103001 x104000 x104001 x107000 x107001 x110000 x110001)))))) else ((label_Below.f x104000 x104001 x102000 x102001).bind fun t120 => (if t120 = true then ((label_Below.f x104000 x104001 x103000 x103001).bind fun t121 => ((label_Below.f x104000 x104001 x110000 x110001).bind fun t122 => (oculuslaw02_LabelLattice.j1 k (t121 != t122) x102000 x102001 x103000 x103001 x104000 x104001 x107000 x107001 x110000 x110001))) else (oculuslaw02_LabelLattice.j1 k false x102000 x102001 x103000 x103001 x104000 x104001 x107000 x107001 x110000 x110001)))))
def oculuslaw02_LabelLattice.j1 : Nat → Bool → Int → Int → Int → Int → Int → Int → Int → Int → Int → Int → Option (Bool)
 | 0, _, _, _, _, _, _, _, _, _, _, _ => none
 | k + 1, x62, x102000, x102001, x103000, x103001, x104000, x104001, x107000, x107001, x110000, x110001 => if x62 = true then (none) else ((label_Join.f x103000 x103001 x102000 x102001).bind fun bt123 => (if (!(bt123.1 == x107000) || (!(bt123.2 == x107001))) = true then (oculuslaw02_LabelLattice.j2 k true x102000 x102001 x103000 x103001 x107000 x107001 x110000 x110001) else ((label_Meet.f x103000 x103001 x102000 x102001).bind fun bt125 => (if (!(bt125.1 == x110000) || (!(bt125.2 == x110001))) = true then (oculuslaw02_LabelLattice.j2 k true x102000 x102001 x103000 x103001 x107000 x107001 x110000 x110001) else ((label_Join.f x107000 x107001 x104000 x104001).bind fun bt127 => ((label_Join.f x103000 x103001 x104000 x104001).bind fun bt129 => ((label_Join.f x102000 x102001 bt129.1 bt129.2).bind fun bt131 => (if (!(bt127.1 == bt131.1) || (!(bt127.2 == bt131.2))) = true then (oculuslaw02_LabelLattice.j2 k true x102000 x102001 x103000 x103001 x107000 x107001 x110000 x110001) else ((label_Meet.f x110000 x110001 x104000 x104001).bind fun bt133 => ((label_Meet.f x103000 x103001 x104000 x104001).bind fun bt135 => ((label_Meet.f x102000 x102001 bt135.1 bt135.2).bind fun bt137 => (oculuslaw02_LabelLattice.j2 k (!(bt133.1 == bt137.1) || (!(bt133.2 == bt137.2))) x102000 x102001 x103000 x103001 x107000 x107001 x110000 x110001))))))))))))
def oculuslaw02_LabelLattice.j2 : Nat → Bool → Int → Int → Int → Int → Int → Int → Int → Int → Option (Bool)
 | 0, _, _, _, _, _, _, _, _, _ => none
 | k + 1, x96, x102000, x102001, x103000, x103001, x107000, x107001, x110000, x110001 => if x96 = true then (none) else ((label_Join.f x102000 x102001 x110000 x110001).bind fun bt139 => (if (bt139.1 == x102000 && (bt139.2 == x102001)) = true then ((label_Meet.f x102000 x102001 x107000 x107001).bind fun bt141 => (if (bt141.1 == x102000 && (bt141.2 == x102001)) = true then ((label_Below.f x102000 x102001 x103000 x103001).bind fun t143 => (if (t143 == (x107000 == x103000 && (x107001 == x103001))) = true then ((label_May.f x102000 x102001).bind fun t144 => (if t144 = true then ((label_May.f x103000 x103001).bind fun t145 => (if t145 = true then ((label_May.f x107000 x107001).bind fun t146 => (if t146 = true then ((label_May.f x110000 x110001).bind fun t147 => (if t147 = true then ((oculuslaw02_alive.f k).bind fun t148 => (some t148)) else (none))) else (none))) else ((oculuslaw02_alive.f k).bind fun t149 => (some t149)))) else ((oculuslaw02_alive.f k).bind fun t150 => (some t150)))) else (none))) else (none))) else (none)))
end
def oculuslaw02_LabelLattice.f (k : Nat) (a0_0 : Int) (a0_1 : Int) (a1_0 : Int) (a1_1 : Int) (a2_0 : Int) (a2_1 : Int) : Option (Bool) := (label_Join.f a0_0 a0_1 a1_0 a1_1).bind fun bt104 => ((label_Meet.f a0_0 a0_1 a1_0 a1_1).bind fun bt107 => ((label_Below.f a0_0 a0_1 bt104.1 bt104.2).bind fun t110 => (if t110 = true then ((label_Below.f a1_0 a1_1 bt104.1 bt104.2).bind fun t111 => (if t111 = true then ((label_Below.f bt107.1 bt107.2 a0_0 a0_1).bind fun t112 => (if t112 = true then ((label_Below.f bt107.1 bt107.2 a1_0 a1_1).bind fun t113 => (oculuslaw02_LabelLattice.j0 k (!t113) a0_0 a0_1 a1_0 a1_1 a2_0 a2_1 bt104.1 bt104.2 bt107.1 bt107.2)) else (oculuslaw02_LabelLattice.j0 k true a0_0 a0_1 a1_0 a1_1 a2_0 a2_1 bt104.1 bt104.2 bt107.1 bt107.2))) else (oculuslaw02_LabelLattice.j0 k true a0_0 a0_1 a1_0 a1_1 a2_0 a2_1 bt104.1 bt104.2 bt107.1 bt107.2))) else (oculuslaw02_LabelLattice.j0 k true a0_0 a0_1 a1_0 a1_1 a2_0 a2_1 bt104.1 bt104.2 bt107.1 bt107.2))))
def oculuslaw02_LabelLattice.T5 : Bool × List (List Nat × List Nat) := (true, [([], []), ([], []), ([0, 1], [0, 1]), ([2, 2], [2]), ([3], [3]), ([3], [3]), ([4, 5, 3, 3], [3, 4, 5]), ([3], [3]), ([3], [3]), ([7, 8, 6, 3], [3, 7, 8]), ([6, 9, 3], [3, 6, 9]), ([3, 10], [3, 10]), ([11, 9], [11]), ([12], [12]), ([12], [12]), ([13, 14, 12, 12], [12, 13, 14]), ([15, 15, 12], [12, 15]), ([16], [16]), ([16], [16]), ([17, 18, 16, 16], [16, 17, 18]), ([16], [16]), ([16], [16]), ([20, 21, 19, 16], [16, 20, 21]), ([19, 22, 16], [16, 19, 22]), ([16, 23, 12], [12, 16, 23]), ([12, 24], [12, 24])])
def oculuslaw02_LabelLattice.B5 : List Nat := [0, 0, 3, 7, 15, 15, 63, 15, 15, 511, 1023, 2047, 4095, 8191, 8191, 32767, 65535, 131071, 131071, 524287, 131071, 131071, 4194303, 8388607, 16777215, 33554431]
theorem oculuslaw02_LabelLattice.tab5 : rtab .any (opsOf Tryd.f7 5) = oculuslaw02_LabelLattice.T5 := by kernel_rfl
theorem oculuslaw02_LabelLattice.bits5 : waitsOk oculuslaw02_LabelLattice.T5.2 oculuslaw02_LabelLattice.B5 = true := by kernel_rfl
def oculuslaw02_LabelLattice.T7 : Bool × List (List Nat × List Nat) := (true, [([], []), ([], []), ([0, 1], [0, 1]), ([], []), ([2, 3], [2, 3]), ([4, 2], [4]), ([5], [5]), ([5], [5]), ([6, 7, 5, 5], [5, 6, 7]), ([5], [5]), ([8, 9, 5], [5, 8, 9]), ([5, 10], [5, 10]), ([11, 8], [11]), ([12], [12]), ([12], [12]), ([13, 14, 12, 12], [12, 13, 14]), ([12], [12]), ([12], [12]), ([12], [12]), ([17, 18, 15, 12], [12, 17, 18]), ([16, 19, 19, 12], [12, 16, 19]), ([15, 20, 12], [12, 15, 20]), ([12, 21], [12, 21]), ([22, 20], [22]), ([23], [23]), ([23], [23]), ([24, 25, 23, 23], [23, 24, 25]), ([23], [23]), ([23], [23]), ([23], [23]), ([28, 29, 26, 23], [23, 28, 29]), ([27, 30, 30, 23], [23, 27, 30]), ([26, 31, 23], [23, 26, 31]), ([23, 32], [23, 32])])
def oculuslaw02_LabelLattice.B7 : List Nat := [0, 0, 3, 0, 15, 31, 63, 63, 255, 63, 1023, 2047, 4095, 8191, 8191, 32767, 8191, 8191, 8191, 458751, 1048575, 2097151, 4194303, 8388607, 16777215, 16777215, 67108863, 16777215, 16777215, 16777215, 939524095, 2147483647, 4294967295, 8589934591]
theorem oculuslaw02_LabelLattice.tab7 : rtab .any (opsOf Tryd.f7 7) = oculuslaw02_LabelLattice.T7 := by kernel_rfl
theorem oculuslaw02_LabelLattice.bits7 : waitsOk oculuslaw02_LabelLattice.T7.2 oculuslaw02_LabelLattice.B7 = true := by kernel_rfl
def oculuslaw02_LabelLattice.T9 : Bool × List (List Nat × List Nat) := (true, [([], []), ([], []), ([0, 1], [0, 1]), ([], []), ([2, 3], [2, 3]), ([4, 2], [4]), ([5], [5]), ([5], [5]), ([6, 7, 5, 5], [5, 6, 7]), ([5], [5]), ([8, 9, 5], [5, 8, 9]), ([5, 10], [5, 10]), ([11, 8], [11]), ([12], [12]), ([12], [12]), ([13, 14, 12, 12], [12, 13, 14]), ([12], [12]), ([12], [12]), ([16, 17, 12], [12, 16, 17]), ([15, 18, 12], [12, 15, 18]), ([12, 19], [12, 19]), ([20, 15], [20]), ([21], [21]), ([22, 21, 21], [21, 22]), ([23, 21], [21, 23]), ([24, 23, 21], [21, 24]), ([25], [25]), ([26, 25, 25], [25, 26]), ([27, 25], [25, 27]), ([25, 28, 21], [21, 25, 28]), ([29, 27, 21], [21, 29]), ([30], [30]), ([31, 30, 30], [30, 31]), ([32, 32, 30], [30, 32]), ([33], [33]), ([34, 33, 33], [33, 34]), ([33, 35, 30], [30, 33, 35]), ([30, 36, 21], [21, 30, 36]), ([21, 37], [21, 37]), ([38, 35], [38]), ([39, 39], [39]), ([39, 40], [39, 40]), ([41, 40, 0, 1, 2, 3, 4, 5, 6, 7, 8, 9, 10, 11, 12, 13, 14, 15, 16, 17, 18, 19, 20, 21, 22, 23, 24, 25, 26, 27, 28, 29, 30, 31, 32, 33, 34, 35, 36, 37, 38, 39, 40, 41], [41])])
def oculuslaw02_LabelLattice.B9 : List Nat := [0, 0, 3, 0, 15, 31, 63, 63, 255, 63, 1023, 2047, 4095, 8191, 8191, 32767, 8191, 8191, 204799, 524287, 1048575, 2097151, 4194303, 8388607, 16777215, 33554431, 67108863, 134217727, 268435455, 536870911, 1073741823, 2147483647, 4294967295, 8589934591, 17179869183, 34359738367, 68719476735, 137438953471, 274877906943, 549755813887, 1099511627775, 2199023255551, 4398046511103]
theorem oculuslaw02_LabelLattice.tab9 : rtab .any (opsOf Tryd.f7 9) = oculuslaw02_LabelLattice.T9 := by kernel_rfl
theorem oculuslaw02_LabelLattice.bits9 : waitsOk oculuslaw02_LabelLattice.T9.2 oculuslaw02_LabelLattice.B9 = true := by kernel_rfl
set_option maxHeartbeats 8000000 in
set_option maxRecDepth 100000 in
theorem oculuslaw02_LabelLattice.calls (k : Nat) (a0_0 : Int) (a0_1 : Int) (a1_0 : Int) (a1_1 : Int) (a2_0 : Int) (a2_1 : Int) (r : Bool) (w : World) (hT : Aside0 (Tab w)) (h : oculuslaw02_LabelLattice.f k a0_0 a0_1 a1_0 a1_1 a2_0 a2_1 = some r) :
  Calls Tryd.prog 7 #[.agg #[.int .i64 a0_0, .int .u64 a0_1], .agg #[.int .i64 a1_0, .int .u64 a1_1], .agg #[.int .i64 a2_0, .int .u64 a2_1]] w fun e w' => e = .returned (.bool r) ∧ Below w.heap.size w w' := by
 have hu24 := Tryd.underlying24; have HB := Aside0.mk (Below.refl w.heap.size w)
 have H : ((label_Join.f a0_0 a0_1 a1_0 a1_1).bind fun bt104 => ((label_Meet.f a0_0 a0_1 a1_0 a1_1).bind fun bt107 => ((label_Below.f a0_0 a0_1 bt104.1 bt104.2).bind fun t110 => (if t110 = true then ((label_Below.f a1_0 a1_1 bt104.1 bt104.2).bind fun t111 => (if t111 = true then ((label_Below.f bt107.1 bt107.2 a0_0 a0_1).bind fun t112 => (if t112 = true then ((label_Below.f bt107.1 bt107.2 a1_0 a1_1).bind fun t113 => (oculuslaw02_LabelLattice.j0 k (!t113) a0_0 a0_1 a1_0 a1_1 a2_0 a2_1 bt104.1 bt104.2 bt107.1 bt107.2)) else (oculuslaw02_LabelLattice.j0 k true a0_0 a0_1 a1_0 a1_1 a2_0 a2_1 bt104.1 bt104.2 bt107.1 bt107.2))) else (oculuslaw02_LabelLattice.j0 k true a0_0 a0_1 a1_0 a1_1 a2_0 a2_1 bt104.1 bt104.2 bt107.1 bt107.2))) else (oculuslaw02_LabelLattice.j0 k true a0_0 a0_1 a1_0 a1_1 a2_0 a2_1 bt104.1 bt104.2 bt107.1 bt107.2))))) = some r := h
 clear h; replace H := Option.bind_eq_some_iff.mp H; obtain ⟨⟨t104, t105⟩, A40, H⟩ := H
 replace H : ((label_Meet.f a0_0 a0_1 a1_0 a1_1).bind fun bt107 => ((label_Below.f a0_0 a0_1 t104 t105).bind fun t110 => (if t110 = true then ((label_Below.f a1_0 a1_1 t104 t105).bind fun t111 => (if t111 = true then ((label_Below.f bt107.1 bt107.2 a0_0 a0_1).bind fun t112 => (if t112 = true then ((label_Below.f bt107.1 bt107.2 a1_0 a1_1).bind fun t113 => (oculuslaw02_LabelLattice.j0 k (!t113) a0_0 a0_1 a1_0 a1_1 a2_0 a2_1 t104 t105 bt107.1 bt107.2)) else (oculuslaw02_LabelLattice.j0 k true a0_0 a0_1 a1_0 a1_1 a2_0 a2_1 t104 t105 bt107.1 bt107.2))) else (oculuslaw02_LabelLattice.j0 k true a0_0 a0_1 a1_0 a1_1 a2_0 a2_1 t104 t105 bt107.1 bt107.2))) else (oculuslaw02_LabelLattice.j0 k true a0_0 a0_1 a1_0 a1_1 a2_0 a2_1 t104 t105 bt107.1 bt107.2)))) = some r := H
 have A4 := Aside0.mk A40; clear A40; replace H := Option.bind_eq_some_iff.mp H; obtain ⟨⟨t107, t108⟩, A50, H⟩ := H
 replace H : ((label_Below.f a0_0 a0_1 t104 t105).bind fun t110 => (if t110 = true then ((label_Below.f a1_0 a1_1 t104 t105).bind fun t111 => (if t111 = true then ((label_Below.f t107 t108 a0_0 a0_1).bind fun t112 => (if t112 = true then ((label_Below.f t107 t108 a1_0 a1_1).bind fun t113 => (oculuslaw02_LabelLattice.j0 k (!t113) a0_0 a0_1 a1_0 a1_1 a2_0 a2_1 t104 t105 t107 t108)) else (oculuslaw02_LabelLattice.j0 k true a0_0 a0_1 a1_0 a1_1 a2_0 a2_1 t104 t105 t107 t108))) else (oculuslaw02_LabelLattice.j0 k true a0_0 a0_1 a1_0 a1_1 a2_0 a2_1 t104 t105 t107 t108))) else (oculuslaw02_LabelLattice.j0 k true a0_0 a0_1 a1_0 a1_1 a2_0 a2_1 t104 t105 t107 t108))) = some r := H
 have A5 := Aside0.mk A50; clear A50; have HC6 := Aside0.mk H; clear H
 go_enter Tryd.func7, Tryd.ntmps7
 go_upto_region 3 with (first | ((with_reducible refine gate_dst (N:=3) rfl ?_); refine box_event ?hg (N:=3) ?hd (cs := #[.int .i64 a0_0, .int .u64 a0_1]) (t:=24) ?hr ?_; (case hd => rfl); (case hg => rfl); (case hr => first | (go_simp; done) | (go_simp; rfl)); intro gb101 hg w7 hbox hb; have BK101 := Aside0.mk (hbox); have GW101 := hs_ HB hg; have GE101 := hs_ HB hg; replace HB := bs_ HB hb; clear hb hbox hg) | ((with_reducible refine gate_dst (N:=4) rfl ?_); refine box_event ?hg (N:=4) ?hd (cs := #[.int .i64 a1_0, .int .u64 a1_1]) (t:=24) ?hr ?_; (case hd => rfl); (case hg => rfl); (case hr => first | (go_simp; done) | (go_simp; rfl)); intro gb102 hg w8 hbox hb; have BK102 := Aside0.mk (hbox); have GW102 := hs_ HB hg; have GE102 := hs_ HB hg; have NB101_102 := hl_ BK101 hg; have NB102_101 := hr_ BK101 hg; replace BK101 := bb_ BK101 hb; replace HB := bs_ HB hb; clear hb hbox hg) | ((with_reducible refine gate_dst (N:=5) rfl ?_); refine box_event ?hg (N:=5) ?hd (cs := #[.int .i64 a2_0, .int .u64 a2_1]) (t:=24) ?hr ?_; (case hd => rfl); (case hg => rfl); (case hr => first | (go_simp; done) | (go_simp; rfl)); intro gb103 hg w9 hbox hb; have BK103 := Aside0.mk (hbox); have GW103 := hs_ HB hg; have GE103 := hs_ HB hg; have NB101_103 := hl_ BK101 hg; have NB103_101 := hr_ BK101 hg; have NB102_103 := hl_ BK102 hg; have NB103_102 := hr_ BK102 hg; replace BK101 := bb_ BK101 hb; replace BK102 := bb_ BK102 hb; replace HB := bs_ HB hb; clear hb hbox hg; have hnb10 := NB101_102.out; have hnc10 := NB102_101.out; have hnb11 := NB101_103.out; have hnc11 := NB103_101.out; have hcz12_0 : w9.cell? ⟨gb101, 0, none⟩ = some (.int .i64 a0_0) := bc_ BK101 0 rfl; have hcz12_1 : w9.cell? ⟨gb101, 1, none⟩ = some (.int .u64 a0_1) := bc_ BK101 1 rfl; have hfz12_0 := blk_frozen BK101.out 0; have hfz12_1 := blk_frozen BK101.out 1; have hnb13 := NB102_103.out; have hnc13 := NB103_102.out; have hcz14_0 : w9.cell? ⟨gb102, 0, none⟩ = some (.int .i64 a1_0) := bc_ BK102 0 rfl; have hcz14_1 : w9.cell? ⟨gb102, 1, none⟩ = some (.int .u64 a1_1) := bc_ BK102 1 rfl; have hfz14_0 := blk_frozen BK102.out 0; have hfz14_1 := blk_frozen BK102.out 1) | ((with_reducible refine gate_callee (f:=25) rfl ?_); refine goesL_ (some 11) rfl rfl Tryd.func25 (by kernel_rfl) rfl #[.agg #[.int .i64 a0_0, .int .u64 a0_1], .agg #[.int .i64 a1_0, .int .u64 a1_1]] rfl (by (try simp only [List.map_toArray, List.map_cons, List.map_nil]); first | done | rfl | (simp only [List.length_drop, List.length_take]; rfl)) ?_; (with_reducible refine (label_Join.calls a0_0 a0_1 a1_0 a1_1 t104 t105 _ A4.out).mono ?_); rintro e w15 ⟨rfl, hb⟩; refine ⟨_, rfl, ?_⟩; replace BK101 := bb_ BK101 hb; replace BK102 := bb_ BK102 hb; replace BK103 := bb_ BK103 hb; replace HB := bs_ HB hb; (try clear hb); (try clear hb2); (try clear hk); (try clear hi)) | ((with_reducible refine gate_dst (N:=7) rfl ?_); refine box_event ?hg (N:=7) ?hd (cs := #[.int .i64 0, .int .u64 0]) (t:=24) ?hr ?_; (case hd => rfl); (case hg => rfl); (case hr => first | (go_simp; done) | (go_simp; rfl)); intro gb106 hg w16 hbox hb; have BK106 := Aside0.mk (hbox); have GW106 := hs_ HB hg; have GE106 := hs_ HB hg; have NB101_106 := hl_ BK101 hg; have NB106_101 := hr_ BK101 hg; have NB102_106 := hl_ BK102 hg; have NB106_102 := hr_ BK102 hg; have NB103_106 := hl_ BK103 hg; have NB106_103 := hr_ BK103 hg; replace BK101 := bb_ BK101 hb; replace BK102 := bb_ BK102 hb; replace BK103 := bb_ BK103 hb; replace HB := bs_ HB hb; clear hb hbox hg; have hnb17 := NB106_101.out; have hnc17 := NB101_106.out; have hnb18 := NB106_102.out; have hnc18 := NB102_106.out; have hnb19 := NB106_103.out; have hnc19 := NB103_106.out; have hcz20_0 : w16.cell? ⟨gb106, 0, none⟩ = some (.int .i64 0) := bc_ BK106 0 rfl; have hcz20_1 : w16.cell? ⟨gb106, 1, none⟩ = some (.int .u64 0) := bc_ BK106 1 rfl; have hfz20_0 := blk_frozen BK106.out 0; have hfz20_1 := blk_frozen BK106.out 1; have hcz21_0 : w16.cell? ⟨gb101, 0, none⟩ = some (.int .i64 a0_0) := bc_ BK101 0 rfl; have hcz21_1 : w16.cell? ⟨gb101, 1, none⟩ = some (.int .u64 a0_1) := bc_ BK101 1 rfl; have hfz21_0 := blk_frozen BK101.out 0; have hfz21_1 := blk_frozen BK101.out 1; have hcz22_0 : w16.cell? ⟨gb102, 0, none⟩ = some (.int .i64 a1_0) := bc_ BK102 0 rfl; have hcz22_1 : w16.cell? ⟨gb102, 1, none⟩ = some (.int .u64 a1_1) := bc_ BK102 1 rfl; have hfz22_0 := blk_frozen BK102.out 0; have hfz22_1 := blk_frozen BK102.out 1) | ((with_reducible refine gate_callee (f:=26) rfl ?_); refine goesL_ (some 14) rfl rfl Tryd.func26 (by kernel_rfl) rfl #[.agg #[.int .i64 a0_0, .int .u64 a0_1], .agg #[.int .i64 a1_0, .int .u64 a1_1]] rfl (by (try simp only [List.map_toArray, List.map_cons, List.map_nil]); first | done | rfl | (simp only [List.length_drop, List.length_take]; rfl)) ?_; (with_reducible refine (label_Meet.calls a0_0 a0_1 a1_0 a1_1 t107 t108 _ A5.out).mono ?_); rintro e w23 ⟨rfl, hb⟩; refine ⟨_, rfl, ?_⟩; replace BK101 := Aside0.mk (blk_below (g:=gb101) (o := .cells #[.int .i64 a0_0, .int .u64 a0_1] 24 (0, 0)) (by (with_reducible repeat (first | refine blk_drewN ?_ _ | refine blk_drew ?_ | refine blk_alloc ?_ _)); refine blk_far ?_ NB101_106.out _; refine blk_far ?_ NB101_106.out _; (with_reducible repeat (first | refine blk_drewN ?_ _ | refine blk_drew ?_ | refine blk_alloc ?_ _)); exact BK101.out) hb); replace BK102 := Aside0.mk (blk_below (g:=gb102) (o := .cells #[.int .i64 a1_0, .int .u64 a1_1] 24 (0, 0)) (by (with_reducible repeat (first | refine blk_drewN ?_ _ | refine blk_drew ?_ | refine blk_alloc ?_ _)); refine blk_far ?_ NB102_106.out _; refine blk_far ?_ NB102_106.out _; (with_reducible repeat (first | refine blk_drewN ?_ _ | refine blk_drew ?_ | refine blk_alloc ?_ _)); exact BK102.out) hb); replace BK103 := Aside0.mk (blk_below (g:=gb103) (o := .cells #[.int .i64 a2_0, .int .u64 a2_1] 24 (0, 0)) (by (with_reducible repeat (first | refine blk_drewN ?_ _ | refine blk_drew ?_ | refine blk_alloc ?_ _)); refine blk_far ?_ NB103_106.out _; refine blk_far ?_ NB103_106.out _; (with_reducible repeat (first | refine blk_drewN ?_ _ | refine blk_drew ?_ | refine blk_alloc ?_ _)); exact BK103.out) hb); replace BK106 := Aside0.mk (blk_below (g:=gb106) (o := .cells #[.int .i64 t104, .int .u64 t105] 24 (0, 0)) (by (with_reducible repeat (first | refine blk_drewN ?_ _ | refine blk_drew ?_ | refine blk_alloc ?_ _)); refine blk_put (cs := #[.int .i64 t104, .int .u64 0]) ?_ 1 _ rfl; refine blk_put (cs := #[.int .i64 0, .int .u64 0]) ?_ 0 _ rfl; (with_reducible repeat (first | refine blk_drewN ?_ _ | refine blk_drew ?_ | refine blk_alloc ?_ _)); exact BK106.out) hb); replace HB := Aside0.mk (below_step (by repeat (first | (with_reducible first | exact HB.out | apply below_alloc | apply pw_below_drewN | apply below_drew1 | refine below_set ?_ GE101.out | refine below_set ?_ GE102.out | refine below_set ?_ GE103.out | refine below_set ?_ GE106.out) | exact HB.out)) hb); (try clear hb); (try clear hb2); (try clear hk); (try clear hi)) | ((with_reducible refine gate_dst (N:=8) rfl ?_); refine box_event ?hg (N:=8) ?hd (cs := #[.int .i64 0, .int .u64 0]) (t:=24) ?hr ?_; (case hd => rfl); (case hg => rfl); (case hr => first | (go_simp; done) | (go_simp; rfl)); intro gb109 hg w24 hbox hb; have BK109 := Aside0.mk (hbox); have GW109 := hs_ HB hg; have GE109 := hs_ HB hg; have NB101_109 := hl_ BK101 hg; have NB109_101 := hr_ BK101 hg; have NB102_109 := hl_ BK102 hg; have NB109_102 := hr_ BK102 hg; have NB103_109 := hl_ BK103 hg; have NB109_103 := hr_ BK103 hg; have NB106_109 := hl_ BK106 hg; have NB109_106 := hr_ BK106 hg; replace BK101 := bb_ BK101 hb; replace BK102 := bb_ BK102 hb; replace BK103 := bb_ BK103 hb; replace BK106 := bb_ BK106 hb; replace HB := bs_ HB hb; clear hb hbox hg; have hnb25 := NB109_101.out; have hnc25 := NB101_109.out; have hnb26 := NB109_102.out; have hnc26 := NB102_109.out; have hnb27 := NB109_103.out; have hnc27 := NB103_109.out; have hnb28 := NB109_106.out; have hnc28 := NB106_109.out; have hcz29_0 : w24.cell? ⟨gb109, 0, none⟩ = some (.int .i64 0) := bc_ BK109 0 rfl; have hcz29_1 : w24.cell? ⟨gb109, 1, none⟩ = some (.int .u64 0) := bc_ BK109 1 rfl; have hfz29_0 := blk_frozen BK109.out 0; have hfz29_1 := blk_frozen BK109.out 1))
 (try simp only [q_])
 go_cut [36] (fun v36 wc => ∃ (kq : Nat) (x36_5 : Bool), v36 = .bool x36_5 ∧ Aside0 (oculuslaw02_LabelLattice.j0 kq x36_5 a0_0 a0_1 a1_0 a1_1 a2_0 a2_1 t104 t105 t107 t108 = some r) ∧ Aside0 (kq ≤ k) ∧ Aside0 (wc.heap[gb101]? = some (.cells #[.int .i64 a0_0, .int .u64 a0_1] 24 (0, 0))) ∧ Aside0 (wc.heap[gb102]? = some (.cells #[.int .i64 a1_0, .int .u64 a1_1] 24 (0, 0))) ∧ Aside0 (wc.heap[gb103]? = some (.cells #[.int .i64 a2_0, .int .u64 a2_1] 24 (0, 0))) ∧ Aside0 (wc.heap[gb106]? = some (.cells #[.int .i64 t104, .int .u64 t105] 24 (0, 0))) ∧ Aside0 (wc.heap[gb109]? = some (.cells #[.int .i64 t107, .int .u64 t108] 24 (0, 0))) ∧ Aside0 (Below w.heap.size w wc))
 case first =>
  have H := HC6.out; clear HC6; replace H := Option.bind_eq_some_iff.mp H; obtain ⟨t110, A300, H⟩ := H
  replace H : (if t110 = true then ((label_Below.f a1_0 a1_1 t104 t105).bind fun t111 => (if t111 = true then ((label_Below.f t107 t108 a0_0 a0_1).bind fun t112 => (if t112 = true then ((label_Below.f t107 t108 a1_0 a1_1).bind fun t113 => (oculuslaw02_LabelLattice.j0 k (!t113) a0_0 a0_1 a1_0 a1_1 a2_0 a2_1 t104 t105 t107 t108)) else (oculuslaw02_LabelLattice.j0 k true a0_0 a0_1 a1_0 a1_1 a2_0 a2_1 t104 t105 t107 t108))) else (oculuslaw02_LabelLattice.j0 k true a0_0 a0_1 a1_0 a1_1 a2_0 a2_1 t104 t105 t107 t108))) else (oculuslaw02_LabelLattice.j0 k true a0_0 a0_1 a1_0 a1_1 a2_0 a2_1 t104 t105 t107 t108)) = some r := H
  have A30 := Aside0.mk A300; clear A300
  by_cases c31 : t110 = true
  ·subst c31
   have H1 : ((label_Below.f a1_0 a1_1 t104 t105).bind fun t111 => (if t111 = true then ((label_Below.f t107 t108 a0_0 a0_1).bind fun t112 => (if t112 = true then ((label_Below.f t107 t108 a1_0 a1_1).bind fun t113 => (oculuslaw02_LabelLattice.j0 k (!t113) a0_0 a0_1 a1_0 a1_1 a2_0 a2_1 t104 t105 t107 t108)) else (oculuslaw02_LabelLattice.j0 k true a0_0 a0_1 a1_0 a1_1 a2_0 a2_1 t104 t105 t107 t108))) else (oculuslaw02_LabelLattice.j0 k true a0_0 a0_1 a1_0 a1_1 a2_0 a2_1 t104 t105 t107 t108))) = some r := by rw [if_pos rfl] at H; exact H
   clear H; have H := H1; clear H1; replace H := Option.bind_eq_some_iff.mp H; obtain ⟨t111, A320, H⟩ := H
   replace H : (if t111 = true then ((label_Below.f t107 t108 a0_0 a0_1).bind fun t112 => (if t112 = true then ((label_Below.f t107 t108 a1_0 a1_1).bind fun t113 => (oculuslaw02_LabelLattice.j0 k (!t113) a0_0 a0_1 a1_0 a1_1 a2_0 a2_1 t104 t105 t107 t108)) else (oculuslaw02_LabelLattice.j0 k true a0_0 a0_1 a1_0 a1_1 a2_0 a2_1 t104 t105 t107 t108))) else (oculuslaw02_LabelLattice.j0 k true a0_0 a0_1 a1_0 a1_1 a2_0 a2_1 t104 t105 t107 t108)) = some r := H
   have A32 := Aside0.mk A320; clear A320
   by_cases c33 : t111 = true
   ·subst c33
    have H1 : ((label_Below.f t107 t108 a0_0 a0_1).bind fun t112 => (if t112 = true then ((label_Below.f t107 t108 a1_0 a1_1).bind fun t113 => (oculuslaw02_LabelLattice.j0 k (!t113) a0_0 a0_1 a1_0 a1_1 a2_0 a2_1 t104 t105 t107 t108)) else (oculuslaw02_LabelLattice.j0 k true a0_0 a0_1 a1_0 a1_1 a2_0 a2_1 t104 t105 t107 t108))) = some r := by rw [if_pos rfl] at H; exact H
    clear H; have H := H1; clear H1; replace H := Option.bind_eq_some_iff.mp H; obtain ⟨t112, A340, H⟩ := H
    replace H : (if t112 = true then ((label_Below.f t107 t108 a1_0 a1_1).bind fun t113 => (oculuslaw02_LabelLattice.j0 k (!t113) a0_0 a0_1 a1_0 a1_1 a2_0 a2_1 t104 t105 t107 t108)) else (oculuslaw02_LabelLattice.j0 k true a0_0 a0_1 a1_0 a1_1 a2_0 a2_1 t104 t105 t107 t108)) = some r := H
    have A34 := Aside0.mk A340; clear A340
    by_cases c35 : t112 = true
    ·subst c35
     have H1 : ((label_Below.f t107 t108 a1_0 a1_1).bind fun t113 => (oculuslaw02_LabelLattice.j0 k (!t113) a0_0 a0_1 a1_0 a1_1 a2_0 a2_1 t104 t105 t107 t108)) = some r := by rw [if_pos rfl] at H; exact H
     clear H; have H := H1; clear H1; replace H := Option.bind_eq_some_iff.mp H; obtain ⟨t113, A360, H⟩ := H
     replace H : (oculuslaw02_LabelLattice.j0 k (!t113) a0_0 a0_1 a1_0 a1_1 a2_0 a2_1 t104 t105 t107 t108) = some r := H
     have A36 := Aside0.mk A360; clear A360
     have H' := Aside0.mk H
     clear H; have hnb37 := NB101_102.out; have hnc37 := NB102_101.out; have hnb38 := NB101_103.out; have hnc38 := NB103_101.out; have hnb39 := NB101_106.out; have hnc39 := NB106_101.out; have hnb40 := NB101_109.out; have hnc40 := NB109_101.out
     have hcz41_0 : w24.cell? ⟨gb101, 0, none⟩ = some (.int .i64 a0_0) := bc_ BK101 0 rfl
     have hcz41_1 : w24.cell? ⟨gb101, 1, none⟩ = some (.int .u64 a0_1) := bc_ BK101 1 rfl
     have hfz41_0 := blk_frozen BK101.out 0; have hfz41_1 := blk_frozen BK101.out 1; have hnb42 := NB106_102.out; have hnc42 := NB102_106.out; have hnb43 := NB106_103.out; have hnc43 := NB103_106.out; have hnb44 := NB106_109.out; have hnc44 := NB109_106.out
     have hcz45_0 : w24.cell? ⟨gb106, 0, none⟩ = some (.int .i64 t104) := bc_ BK106 0 rfl
     have hcz45_1 : w24.cell? ⟨gb106, 1, none⟩ = some (.int .u64 t105) := bc_ BK106 1 rfl
     have hfz45_0 := blk_frozen BK106.out 0; have hfz45_1 := blk_frozen BK106.out 1
     go_wp2_with (first | ((with_reducible refine gate_callee (f:=27) rfl ?_); refine goesL_ (some 17) rfl rfl Tryd.func27 (by kernel_rfl) rfl #[.agg #[.int .i64 a0_0, .int .u64 a0_1], .agg #[.int .i64 t104, .int .u64 t105]] rfl (by (try simp only [List.map_toArray, List.map_cons, List.map_nil]); first | done | rfl | (simp only [List.length_drop, List.length_take]; rfl)) ?_; (with_reducible refine (label_Below.calls a0_0 a0_1 t104 t105 true _ A30.out).mono ?_); rintro e w46 ⟨rfl, hb⟩; refine ⟨_, rfl, ?_⟩; replace BK101 := Aside0.mk (blk_below (g:=gb101) (o := .cells #[.int .i64 a0_0, .int .u64 a0_1] 24 (0, 0)) (by (with_reducible repeat (first | refine blk_drewN ?_ _ | refine blk_drew ?_ | refine blk_alloc ?_ _)); refine blk_far ?_ NB101_109.out _; refine blk_far ?_ NB101_109.out _; (with_reducible repeat (first | refine blk_drewN ?_ _ | refine blk_drew ?_ | refine blk_alloc ?_ _)); exact BK101.out) hb); replace BK102 := Aside0.mk (blk_below (g:=gb102) (o := .cells #[.int .i64 a1_0, .int .u64 a1_1] 24 (0, 0)) (by (with_reducible repeat (first | refine blk_drewN ?_ _ | refine blk_drew ?_ | refine blk_alloc ?_ _)); refine blk_far ?_ NB102_109.out _; refine blk_far ?_ NB102_109.out _; (with_reducible repeat (first | refine blk_drewN ?_ _ | refine blk_drew ?_ | refine blk_alloc ?_ _)); exact BK102.out) hb); replace BK103 := Aside0.mk (blk_below (g:=gb103) (o := .cells #[.int .i64 a2_0, .int .u64 a2_1] 24 (0, 0)) (by (with_reducible repeat (first | refine blk_drewN ?_ _ | refine blk_drew ?_ | refine blk_alloc ?_ _)); refine blk_far ?_ NB103_109.out _; refine blk_far ?_ NB103_109.out _; (with_reducible repeat (first | refine blk_drewN ?_ _ | refine blk_drew ?_ | refine blk_alloc ?_ _)); exact BK103.out) hb); replace BK106 := Aside0.mk (blk_below (g:=gb106) (o := .cells #[.int .i64 t104, .int .u64 t105] 24 (0, 0)) (by (with_reducible repeat (first | refine blk_drewN ?_ _ | refine blk_drew ?_ | refine blk_alloc ?_ _)); refine blk_far ?_ NB106_109.out _; refine blk_far ?_ NB106_109.out _; (with_reducible repeat (first | refine blk_drewN ?_ _ | refine blk_drew ?_ | refine blk_alloc ?_ _)); exact BK106.out) hb); replace BK109 := Aside0.mk (blk_below (g:=gb109) (o := .cells #[.int .i64 t107, .int .u64 t108] 24 (0, 0)) (by (with_reducible repeat (first | refine blk_drewN ?_ _ | refine blk_drew ?_ | refine blk_alloc ?_ _)); refine blk_put (cs := #[.int .i64 t107, .int .u64 0]) ?_ 1 _ rfl; refine blk_put (cs := #[.int .i64 0, .int .u64 0]) ?_ 0 _ rfl; (with_reducible repeat (first | refine blk_drewN ?_ _ | refine blk_drew ?_ | refine blk_alloc ?_ _)); exact BK109.out) hb); replace HB := Aside0.mk (below_step (by repeat (first | (with_reducible first | exact HB.out | apply below_alloc | apply pw_below_drewN | apply below_drew1 | refine below_set ?_ GE101.out | refine below_set ?_ GE102.out | refine below_set ?_ GE103.out | refine below_set ?_ GE106.out | refine below_set ?_ GE109.out) | exact HB.out)) hb); (try clear hb); (try clear hb2); (try clear hk); (try clear hi); have hnb47 := NB102_103.out; have hnc47 := NB103_102.out; have hnb48 := NB102_109.out; have hnc48 := NB109_102.out; have hcz49_0 : w46.cell? ⟨gb102, 0, none⟩ = some (.int .i64 a1_0) := bc_ BK102 0 rfl; have hcz49_1 : w46.cell? ⟨gb102, 1, none⟩ = some (.int .u64 a1_1) := bc_ BK102 1 rfl; have hfz49_0 := blk_frozen BK102.out 0; have hfz49_1 := blk_frozen BK102.out 1; have hcz50_0 : w46.cell? ⟨gb106, 0, none⟩ = some (.int .i64 t104) := bc_ BK106 0 rfl; have hcz50_1 : w46.cell? ⟨gb106, 1, none⟩ = some (.int .u64 t105) := bc_ BK106 1 rfl; have hfz50_0 := blk_frozen BK106.out 0; have hfz50_1 := blk_frozen BK106.out 1) | (go_at_call 27; (with_reducible refine (label_Below.calls a1_0 a1_1 t104 t105 true _ A32.out).mono ?_); rintro e w51 ⟨rfl, hb⟩; replace BK101 := bb_ BK101 hb; replace BK102 := bb_ BK102 hb; replace BK103 := bb_ BK103 hb; replace BK106 := bb_ BK106 hb; replace BK109 := bb_ BK109 hb; replace HB := bs_ HB hb; (try clear hb); (try clear hb2); (try clear hk); (try clear hi); have hnb52 := NB109_103.out; have hnc52 := NB103_109.out; have hcz53_0 : w51.cell? ⟨gb109, 0, none⟩ = some (.int .i64 t107) := bc_ BK109 0 rfl; have hcz53_1 : w51.cell? ⟨gb109, 1, none⟩ = some (.int .u64 t108) := bc_ BK109 1 rfl; have hfz53_0 := blk_frozen BK109.out 0; have hfz53_1 := blk_frozen BK109.out 1; have hcz54_0 : w51.cell? ⟨gb101, 0, none⟩ = some (.int .i64 a0_0) := bc_ BK101 0 rfl; have hcz54_1 : w51.cell? ⟨gb101, 1, none⟩ = some (.int .u64 a0_1) := bc_ BK101 1 rfl; have hfz54_0 := blk_frozen BK101.out 0; have hfz54_1 := blk_frozen BK101.out 1) | (go_at_call 27; (with_reducible refine (label_Below.calls t107 t108 a0_0 a0_1 true _ A34.out).mono ?_); rintro e w55 ⟨rfl, hb⟩; replace BK101 := bb_ BK101 hb; replace BK102 := bb_ BK102 hb; replace BK103 := bb_ BK103 hb; replace BK106 := bb_ BK106 hb; replace BK109 := bb_ BK109 hb; replace HB := bs_ HB hb; (try clear hb); (try clear hb2); (try clear hk); (try clear hi); have hcz56_0 : w55.cell? ⟨gb109, 0, none⟩ = some (.int .i64 t107) := bc_ BK109 0 rfl; have hcz56_1 : w55.cell? ⟨gb109, 1, none⟩ = some (.int .u64 t108) := bc_ BK109 1 rfl; have hfz56_0 := blk_frozen BK109.out 0; have hfz56_1 := blk_frozen BK109.out 1; have hcz57_0 : w55.cell? ⟨gb102, 0, none⟩ = some (.int .i64 a1_0) := bc_ BK102 0 rfl; have hcz57_1 : w55.cell? ⟨gb102, 1, none⟩ = some (.int .u64 a1_1) := bc_ BK102 1 rfl; have hfz57_0 := blk_frozen BK102.out 0; have hfz57_1 := blk_frozen BK102.out 1) | (go_at_call 27; (with_reducible refine (label_Below.calls t107 t108 a1_0 a1_1 t113 _ A36.out).mono ?_); rintro e w58 ⟨rfl, hb⟩; replace BK101 := bb_ BK101 hb; replace BK102 := bb_ BK102 hb; replace BK103 := bb_ BK103 hb; replace BK106 := bb_ BK106 hb; replace BK109 := bb_ BK109 hb; replace HB := bs_ HB hb; (try clear hb); (try clear hb2); (try clear hk); (try clear hi)))
     go_meet
     case rel => exact ⟨_, (!t113), (by first | rfl | (simp; done) | (simp [*]; done) | (cases t113 <;> simp; done)), H', ⟨by first | omega | exact Nat.le_refl _⟩, ⟨pkx BK101⟩, ⟨pkx BK102⟩, ⟨pkx BK103⟩, ⟨pkx BK106⟩, ⟨pkx BK109⟩, ⟨pbx HB⟩⟩
    ·replace c35 := Bool.eq_false_iff.mpr c35; subst c35
     have H1 : (oculuslaw02_LabelLattice.j0 k true a0_0 a0_1 a1_0 a1_1 a2_0 a2_1 t104 t105 t107 t108) = some r := by rw [if_neg (show ¬ (false = true) by decide)] at H; exact H
     clear H; have H := H1; clear H1
     have H' := Aside0.mk H
     clear H; have hnb59 := NB101_102.out; have hnc59 := NB102_101.out; have hnb60 := NB101_103.out; have hnc60 := NB103_101.out; have hnb61 := NB101_106.out; have hnc61 := NB106_101.out; have hnb62 := NB101_109.out; have hnc62 := NB109_101.out
     have hcz63_0 : w24.cell? ⟨gb101, 0, none⟩ = some (.int .i64 a0_0) := bc_ BK101 0 rfl
     have hcz63_1 : w24.cell? ⟨gb101, 1, none⟩ = some (.int .u64 a0_1) := bc_ BK101 1 rfl
     have hfz63_0 := blk_frozen BK101.out 0; have hfz63_1 := blk_frozen BK101.out 1; have hnb64 := NB106_102.out; have hnc64 := NB102_106.out; have hnb65 := NB106_103.out; have hnc65 := NB103_106.out; have hnb66 := NB106_109.out; have hnc66 := NB109_106.out
     have hcz67_0 : w24.cell? ⟨gb106, 0, none⟩ = some (.int .i64 t104) := bc_ BK106 0 rfl
     have hcz67_1 : w24.cell? ⟨gb106, 1, none⟩ = some (.int .u64 t105) := bc_ BK106 1 rfl
     have hfz67_0 := blk_frozen BK106.out 0; have hfz67_1 := blk_frozen BK106.out 1
     go_wp2_with (first | ((with_reducible refine gate_callee (f:=27) rfl ?_); refine goesL_ (some 17) rfl rfl Tryd.func27 (by kernel_rfl) rfl #[.agg #[.int .i64 a0_0, .int .u64 a0_1], .agg #[.int .i64 t104, .int .u64 t105]] rfl (by (try simp only [List.map_toArray, List.map_cons, List.map_nil]); first | done | rfl | (simp only [List.length_drop, List.length_take]; rfl)) ?_; (with_reducible refine (label_Below.calls a0_0 a0_1 t104 t105 true _ A30.out).mono ?_); rintro e w68 ⟨rfl, hb⟩; refine ⟨_, rfl, ?_⟩; replace BK101 := Aside0.mk (blk_below (g:=gb101) (o := .cells #[.int .i64 a0_0, .int .u64 a0_1] 24 (0, 0)) (by (with_reducible repeat (first | refine blk_drewN ?_ _ | refine blk_drew ?_ | refine blk_alloc ?_ _)); refine blk_far ?_ NB101_109.out _; refine blk_far ?_ NB101_109.out _; (with_reducible repeat (first | refine blk_drewN ?_ _ | refine blk_drew ?_ | refine blk_alloc ?_ _)); exact BK101.out) hb); replace BK102 := Aside0.mk (blk_below (g:=gb102) (o := .cells #[.int .i64 a1_0, .int .u64 a1_1] 24 (0, 0)) (by (with_reducible repeat (first | refine blk_drewN ?_ _ | refine blk_drew ?_ | refine blk_alloc ?_ _)); refine blk_far ?_ NB102_109.out _; refine blk_far ?_ NB102_109.out _; (with_reducible repeat (first | refine blk_drewN ?_ _ | refine blk_drew ?_ | refine blk_alloc ?_ _)); exact BK102.out) hb); replace BK103 := Aside0.mk (blk_below (g:=gb103) (o := .cells #[.int .i64 a2_0, .int .u64 a2_1] 24 (0, 0)) (by (with_reducible repeat (first | refine blk_drewN ?_ _ | refine blk_drew ?_ | refine blk_alloc ?_ _)); refine blk_far ?_ NB103_109.out _; refine blk_far ?_ NB103_109.out _; (with_reducible repeat (first | refine blk_drewN ?_ _ | refine blk_drew ?_ | refine blk_alloc ?_ _)); exact BK103.out) hb); replace BK106 := Aside0.mk (blk_below (g:=gb106) (o := .cells #[.int .i64 t104, .int .u64 t105] 24 (0, 0)) (by (with_reducible repeat (first | refine blk_drewN ?_ _ | refine blk_drew ?_ | refine blk_alloc ?_ _)); refine blk_far ?_ NB106_109.out _; refine blk_far ?_ NB106_109.out _; (with_reducible repeat (first | refine blk_drewN ?_ _ | refine blk_drew ?_ | refine blk_alloc ?_ _)); exact BK106.out) hb); replace BK109 := Aside0.mk (blk_below (g:=gb109) (o := .cells #[.int .i64 t107, .int .u64 t108] 24 (0, 0)) (by (with_reducible repeat (first | refine blk_drewN ?_ _ | refine blk_drew ?_ | refine blk_alloc ?_ _)); refine blk_put (cs := #[.int .i64 t107, .int .u64 0]) ?_ 1 _ rfl; refine blk_put (cs := #[.int .i64 0, .int .u64 0]) ?_ 0 _ rfl; (with_reducible repeat (first | refine blk_drewN ?_ _ | refine blk_drew ?_ | refine blk_alloc ?_ _)); exact BK109.out) hb); replace HB := Aside0.mk (below_step (by repeat (first | (with_reducible first | exact HB.out | apply below_alloc | apply pw_below_drewN | apply below_drew1 | refine below_set ?_ GE101.out | refine below_set ?_ GE102.out | refine below_set ?_ GE103.out | refine below_set ?_ GE106.out | refine below_set ?_ GE109.out) | exact HB.out)) hb); (try clear hb); (try clear hb2); (try clear hk); (try clear hi); have hnb69 := NB102_103.out; have hnc69 := NB103_102.out; have hnb70 := NB102_109.out; have hnc70 := NB109_102.out; have hcz71_0 : w68.cell? ⟨gb102, 0, none⟩ = some (.int .i64 a1_0) := bc_ BK102 0 rfl; have hcz71_1 : w68.cell? ⟨gb102, 1, none⟩ = some (.int .u64 a1_1) := bc_ BK102 1 rfl; have hfz71_0 := blk_frozen BK102.out 0; have hfz71_1 := blk_frozen BK102.out 1; have hcz72_0 : w68.cell? ⟨gb106, 0, none⟩ = some (.int .i64 t104) := bc_ BK106 0 rfl; have hcz72_1 : w68.cell? ⟨gb106, 1, none⟩ = some (.int .u64 t105) := bc_ BK106 1 rfl; have hfz72_0 := blk_frozen BK106.out 0; have hfz72_1 := blk_frozen BK106.out 1) | (go_at_call 27; (with_reducible refine (label_Below.calls a1_0 a1_1 t104 t105 true _ A32.out).mono ?_); rintro e w73 ⟨rfl, hb⟩; replace BK101 := bb_ BK101 hb; replace BK102 := bb_ BK102 hb; replace BK103 := bb_ BK103 hb; replace BK106 := bb_ BK106 hb; replace BK109 := bb_ BK109 hb; replace HB := bs_ HB hb; (try clear hb); (try clear hb2); (try clear hk); (try clear hi); have hnb74 := NB109_103.out; have hnc74 := NB103_109.out; have hcz75_0 : w73.cell? ⟨gb109, 0, none⟩ = some (.int .i64 t107) := bc_ BK109 0 rfl; have hcz75_1 : w73.cell? ⟨gb109, 1, none⟩ = some (.int .u64 t108) := bc_ BK109 1 rfl; have hfz75_0 := blk_frozen BK109.out 0; have hfz75_1 := blk_frozen BK109.out 1; have hcz76_0 : w73.cell? ⟨gb101, 0, none⟩ = some (.int .i64 a0_0) := bc_ BK101 0 rfl; have hcz76_1 : w73.cell? ⟨gb101, 1, none⟩ = some (.int .u64 a0_1) := bc_ BK101 1 rfl; have hfz76_0 := blk_frozen BK101.out 0; have hfz76_1 := blk_frozen BK101.out 1) | (go_at_call 27; (with_reducible refine (label_Below.calls t107 t108 a0_0 a0_1 false _ A34.out).mono ?_); rintro e w77 ⟨rfl, hb⟩; replace BK101 := bb_ BK101 hb; replace BK102 := bb_ BK102 hb; replace BK103 := bb_ BK103 hb; replace BK106 := bb_ BK106 hb; replace BK109 := bb_ BK109 hb; replace HB := bs_ HB hb; (try clear hb); (try clear hb2); (try clear hk); (try clear hi)))
     go_meet
     case rel => exact ⟨_, (true), (by first | rfl | (simp; done) | (simp [*]; done)), H', ⟨by first | omega | exact Nat.le_refl _⟩, ⟨pkx BK101⟩, ⟨pkx BK102⟩, ⟨pkx BK103⟩, ⟨pkx BK106⟩, ⟨pkx BK109⟩, ⟨pbx HB⟩⟩
   ·replace c33 := Bool.eq_false_iff.mpr c33; subst c33
    have H1 : (oculuslaw02_LabelLattice.j0 k true a0_0 a0_1 a1_0 a1_1 a2_0 a2_1 t104 t105 t107 t108) = some r := by rw [if_neg (show ¬ (false = true) by decide)] at H; exact H
    clear H; have H := H1; clear H1
    have H' := Aside0.mk H
    clear H; have hnb78 := NB101_102.out; have hnc78 := NB102_101.out; have hnb79 := NB101_103.out; have hnc79 := NB103_101.out; have hnb80 := NB101_106.out; have hnc80 := NB106_101.out; have hnb81 := NB101_109.out; have hnc81 := NB109_101.out
    have hcz82_0 : w24.cell? ⟨gb101, 0, none⟩ = some (.int .i64 a0_0) := bc_ BK101 0 rfl
    have hcz82_1 : w24.cell? ⟨gb101, 1, none⟩ = some (.int .u64 a0_1) := bc_ BK101 1 rfl
    have hfz82_0 := blk_frozen BK101.out 0; have hfz82_1 := blk_frozen BK101.out 1; have hnb83 := NB106_102.out; have hnc83 := NB102_106.out; have hnb84 := NB106_103.out; have hnc84 := NB103_106.out; have hnb85 := NB106_109.out; have hnc85 := NB109_106.out
    have hcz86_0 : w24.cell? ⟨gb106, 0, none⟩ = some (.int .i64 t104) := bc_ BK106 0 rfl
    have hcz86_1 : w24.cell? ⟨gb106, 1, none⟩ = some (.int .u64 t105) := bc_ BK106 1 rfl
    have hfz86_0 := blk_frozen BK106.out 0; have hfz86_1 := blk_frozen BK106.out 1
    go_wp2_with (first | ((with_reducible refine gate_callee (f:=27) rfl ?_); refine goesL_ (some 17) rfl rfl Tryd.func27 (by kernel_rfl) rfl #[.agg #[.int .i64 a0_0, .int .u64 a0_1], .agg #[.int .i64 t104, .int .u64 t105]] rfl (by (try simp only [List.map_toArray, List.map_cons, List.map_nil]); first | done | rfl | (simp only [List.length_drop, List.length_take]; rfl)) ?_; (with_reducible refine (label_Below.calls a0_0 a0_1 t104 t105 true _ A30.out).mono ?_); rintro e w87 ⟨rfl, hb⟩; refine ⟨_, rfl, ?_⟩; replace BK101 := Aside0.mk (blk_below (g:=gb101) (o := .cells #[.int .i64 a0_0, .int .u64 a0_1] 24 (0, 0)) (by (with_reducible repeat (first | refine blk_drewN ?_ _ | refine blk_drew ?_ | refine blk_alloc ?_ _)); refine blk_far ?_ NB101_109.out _; refine blk_far ?_ NB101_109.out _; (with_reducible repeat (first | refine blk_drewN ?_ _ | refine blk_drew ?_ | refine blk_alloc ?_ _)); exact BK101.out) hb); replace BK102 := Aside0.mk (blk_below (g:=gb102) (o := .cells #[.int .i64 a1_0, .int .u64 a1_1] 24 (0, 0)) (by (with_reducible repeat (first | refine blk_drewN ?_ _ | refine blk_drew ?_ | refine blk_alloc ?_ _)); refine blk_far ?_ NB102_109.out _; refine blk_far ?_ NB102_109.out _; (with_reducible repeat (first | refine blk_drewN ?_ _ | refine blk_drew ?_ | refine blk_alloc ?_ _)); exact BK102.out) hb); replace BK103 := Aside0.mk (blk_below (g:=gb103) (o := .cells #[.int .i64 a2_0, .int .u64 a2_1] 24 (0, 0)) (by (with_reducible repeat (first | refine blk_drewN ?_ _ | refine blk_drew ?_ | refine blk_alloc ?_ _)); refine blk_far ?_ NB103_109.out _; refine blk_far ?_ NB103_109.out _; (with_reducible repeat (first | refine blk_drewN ?_ _ | refine blk_drew ?_ | refine blk_alloc ?_ _)); exact BK103.out) hb); replace BK106 := Aside0.mk (blk_below (g:=gb106) (o := .cells #[.int .i64 t104, .int .u64 t105] 24 (0, 0)) (by (with_reducible repeat (first | refine blk_drewN ?_ _ | refine blk_drew ?_ | refine blk_alloc ?_ _)); refine blk_far ?_ NB106_109.out _; refine blk_far ?_ NB106_109.out _; (with_reducible repeat (first | refine blk_drewN ?_ _ | refine blk_drew ?_ | refine blk_alloc ?_ _)); exact BK106.out) hb); replace BK109 := Aside0.mk (blk_below (g:=gb109) (o := .cells #[.int .i64 t107, .int .u64 t108] 24 (0, 0)) (by (with_reducible repeat (first | refine blk_drewN ?_ _ | refine blk_drew ?_ | refine blk_alloc ?_ _)); refine blk_put (cs := #[.int .i64 t107, .int .u64 0]) ?_ 1 _ rfl; refine blk_put (cs := #[.int .i64 0, .int .u64 0]) ?_ 0 _ rfl; (with_reducible repeat (first | refine blk_drewN ?_ _ | refine blk_drew ?_ | refine blk_alloc ?_ _)); exact BK109.out) hb); replace HB := Aside0.mk (below_step (by repeat (first | (with_reducible first | exact HB.out | apply below_alloc | apply pw_below_drewN | apply below_drew1 | refine below_set ?_ GE101.out | refine below_set ?_ GE102.out | refine below_set ?_ GE103.out | refine below_set ?_ GE106.out | refine below_set ?_ GE109.out) | exact HB.out)) hb); (try clear hb); (try clear hb2); (try clear hk); (try clear hi); have hnb88 := NB102_103.out; have hnc88 := NB103_102.out; have hnb89 := NB102_109.out; have hnc89 := NB109_102.out; have hcz90_0 : w87.cell? ⟨gb102, 0, none⟩ = some (.int .i64 a1_0) := bc_ BK102 0 rfl; have hcz90_1 : w87.cell? ⟨gb102, 1, none⟩ = some (.int .u64 a1_1) := bc_ BK102 1 rfl; have hfz90_0 := blk_frozen BK102.out 0; have hfz90_1 := blk_frozen BK102.out 1; have hcz91_0 : w87.cell? ⟨gb106, 0, none⟩ = some (.int .i64 t104) := bc_ BK106 0 rfl; have hcz91_1 : w87.cell? ⟨gb106, 1, none⟩ = some (.int .u64 t105) := bc_ BK106 1 rfl; have hfz91_0 := blk_frozen BK106.out 0; have hfz91_1 := blk_frozen BK106.out 1) | (go_at_call 27; (with_reducible refine (label_Below.calls a1_0 a1_1 t104 t105 false _ A32.out).mono ?_); rintro e w92 ⟨rfl, hb⟩; replace BK101 := bb_ BK101 hb; replace BK102 := bb_ BK102 hb; replace BK103 := bb_ BK103 hb; replace BK106 := bb_ BK106 hb; replace BK109 := bb_ BK109 hb; replace HB := bs_ HB hb; (try clear hb); (try clear hb2); (try clear hk); (try clear hi)))
    go_meet
    case rel => exact ⟨_, (true), (by first | rfl | (simp; done) | (simp [*]; done)), H', ⟨by first | omega | exact Nat.le_refl _⟩, ⟨pkx BK101⟩, ⟨pkx BK102⟩, ⟨pkx BK103⟩, ⟨pkx BK106⟩, ⟨pkx BK109⟩, ⟨pbx HB⟩⟩
  ·replace c31 := Bool.eq_false_iff.mpr c31; subst c31
   have H1 : (oculuslaw02_LabelLattice.j0 k true a0_0 a0_1 a1_0 a1_1 a2_0 a2_1 t104 t105 t107 t108) = some r := by rw [if_neg (show ¬ (false = true) by decide)] at H; exact H
   clear H; have H := H1; clear H1
   have H' := Aside0.mk H
   clear H; have hnb93 := NB101_102.out; have hnc93 := NB102_101.out; have hnb94 := NB101_103.out; have hnc94 := NB103_101.out; have hnb95 := NB101_106.out; have hnc95 := NB106_101.out; have hnb96 := NB101_109.out; have hnc96 := NB109_101.out
   have hcz97_0 : w24.cell? ⟨gb101, 0, none⟩ = some (.int .i64 a0_0) := bc_ BK101 0 rfl
   have hcz97_1 : w24.cell? ⟨gb101, 1, none⟩ = some (.int .u64 a0_1) := bc_ BK101 1 rfl
   have hfz97_0 := blk_frozen BK101.out 0; have hfz97_1 := blk_frozen BK101.out 1; have hnb98 := NB106_102.out; have hnc98 := NB102_106.out; have hnb99 := NB106_103.out; have hnc99 := NB103_106.out; have hnb100 := NB106_109.out; have hnc100 := NB109_106.out
   have hcz101_0 : w24.cell? ⟨gb106, 0, none⟩ = some (.int .i64 t104) := bc_ BK106 0 rfl
   have hcz101_1 : w24.cell? ⟨gb106, 1, none⟩ = some (.int .u64 t105) := bc_ BK106 1 rfl
   have hfz101_0 := blk_frozen BK106.out 0; have hfz101_1 := blk_frozen BK106.out 1
   go_wp2_with (first | ((with_reducible refine gate_callee (f:=27) rfl ?_); refine goesL_ (some 17) rfl rfl Tryd.func27 (by kernel_rfl) rfl #[.agg #[.int .i64 a0_0, .int .u64 a0_1], .agg #[.int .i64 t104, .int .u64 t105]] rfl (by (try simp only [List.map_toArray, List.map_cons, List.map_nil]); first | done | rfl | (simp only [List.length_drop, List.length_take]; rfl)) ?_; (with_reducible refine (label_Below.calls a0_0 a0_1 t104 t105 false _ A30.out).mono ?_); rintro e w102 ⟨rfl, hb⟩; refine ⟨_, rfl, ?_⟩; replace BK101 := Aside0.mk (blk_below (g:=gb101) (o := .cells #[.int .i64 a0_0, .int .u64 a0_1] 24 (0, 0)) (by (with_reducible repeat (first | refine blk_drewN ?_ _ | refine blk_drew ?_ | refine blk_alloc ?_ _)); refine blk_far ?_ NB101_109.out _; refine blk_far ?_ NB101_109.out _; (with_reducible repeat (first | refine blk_drewN ?_ _ | refine blk_drew ?_ | refine blk_alloc ?_ _)); exact BK101.out) hb); replace BK102 := Aside0.mk (blk_below (g:=gb102) (o := .cells #[.int .i64 a1_0, .int .u64 a1_1] 24 (0, 0)) (by (with_reducible repeat (first | refine blk_drewN ?_ _ | refine blk_drew ?_ | refine blk_alloc ?_ _)); refine blk_far ?_ NB102_109.out _; refine blk_far ?_ NB102_109.out _; (with_reducible repeat (first | refine blk_drewN ?_ _ | refine blk_drew ?_ | refine blk_alloc ?_ _)); exact BK102.out) hb); replace BK103 := Aside0.mk (blk_below (g:=gb103) (o := .cells #[.int .i64 a2_0, .int .u64 a2_1] 24 (0, 0)) (by (with_reducible repeat (first | refine blk_drewN ?_ _ | refine blk_drew ?_ | refine blk_alloc ?_ _)); refine blk_far ?_ NB103_109.out _; refine blk_far ?_ NB103_109.out _; (with_reducible repeat (first | refine blk_drewN ?_ _ | refine blk_drew ?_ | refine blk_alloc ?_ _)); exact BK103.out) hb); replace BK106 := Aside0.mk (blk_below (g:=gb106) (o := .cells #[.int .i64 t104, .int .u64 t105] 24 (0, 0)) (by (with_reducible repeat (first | refine blk_drewN ?_ _ | refine blk_drew ?_ | refine blk_alloc ?_ _)); refine blk_far ?_ NB106_109.out _; refine blk_far ?_ NB106_109.out _; (with_reducible repeat (first | refine blk_drewN ?_ _ | refine blk_drew ?_ | refine blk_alloc ?_ _)); exact BK106.out) hb); replace BK109 := Aside0.mk (blk_below (g:=gb109) (o := .cells #[.int .i64 t107, .int .u64 t108] 24 (0, 0)) (by (with_reducible repeat (first | refine blk_drewN ?_ _ | refine blk_drew ?_ | refine blk_alloc ?_ _)); refine blk_put (cs := #[.int .i64 t107, .int .u64 0]) ?_ 1 _ rfl; refine blk_put (cs := #[.int .i64 0, .int .u64 0]) ?_ 0 _ rfl; (with_reducible repeat (first | refine blk_drewN ?_ _ | refine blk_drew ?_ | refine blk_alloc ?_ _)); exact BK109.out) hb); replace HB := Aside0.mk (below_step (by repeat (first | (with_reducible first | exact HB.out | apply below_alloc | apply pw_below_drewN | apply below_drew1 | refine below_set ?_ GE101.out | refine below_set ?_ GE102.out | refine below_set ?_ GE103.out | refine below_set ?_ GE106.out | refine below_set ?_ GE109.out) | exact HB.out)) hb); (try clear hb); (try clear hb2); (try clear hk); (try clear hi)))
   go_meet
   case rel => exact ⟨_, (true), (by first | rfl | (simp; done) | (simp [*]; done)), H', ⟨by first | omega | exact Nat.le_refl _⟩, ⟨pkx BK101⟩, ⟨pkx BK102⟩, ⟨pkx BK103⟩, ⟨pkx BK106⟩, ⟨pkx BK109⟩, ⟨pbx HB⟩⟩
 case rest =>
  clear HC6; (try clear c1); (try clear c2); (try clear p2); (try clear c3); (try clear c4); (try clear c5); (try clear c6); (try clear c7); (try clear c8); (try clear c9); (try clear c10); (try clear c11); (try clear c13); (try clear c17); (try clear c18); (try clear c19); (try clear c25); (try clear c26); (try clear c27); (try clear c28); (try clear c31); (try clear c33); (try clear c35); (try clear c37); (try clear c38); (try clear c39); (try clear c40); (try clear c42); (try clear c43); (try clear c44); (try clear c47); (try clear c48); (try clear c52); (try clear c59); (try clear c60); (try clear c61); (try clear c62); (try clear c64); (try clear c65); (try clear c66); (try clear c69); (try clear c70); (try clear c74); (try clear c78); (try clear c79); (try clear c80); (try clear c81); (try clear c83); (try clear c84); (try clear c85); (try clear c88); (try clear c89); (try clear c93); (try clear c94); (try clear c95); (try clear c96); (try clear c98); (try clear c99); (try clear c100); (try clear hcz101_0); (try clear hcz101_1); (try clear hcz12_0); (try clear hcz12_1); (try clear hcz14_0); (try clear hcz14_1); (try clear hcz20_0); (try clear hcz20_1); (try clear hcz21_0); (try clear hcz21_1); (try clear hcz22_0); (try clear hcz22_1); (try clear hcz29_0); (try clear hcz29_1); (try clear hcz41_0); (try clear hcz41_1); (try clear hcz45_0); (try clear hcz45_1); (try clear hcz49_0); (try clear hcz49_1); (try clear hcz50_0); (try clear hcz50_1); (try clear hcz53_0); (try clear hcz53_1); (try clear hcz54_0); (try clear hcz54_1); (try clear hcz56_0); (try clear hcz56_1); (try clear hcz57_0); (try clear hcz57_1); (try clear hcz63_0); (try clear hcz63_1); (try clear hcz67_0); (try clear hcz67_1); (try clear hcz71_0); (try clear hcz71_1); (try clear hcz72_0); (try clear hcz72_1)
  (try clear hcz75_0); (try clear hcz75_1); (try clear hcz76_0); (try clear hcz76_1); (try clear hcz82_0); (try clear hcz82_1); (try clear hcz86_0); (try clear hcz86_1); (try clear hcz90_0); (try clear hcz90_1); (try clear hcz91_0); (try clear hcz91_1); (try clear hcz97_0); (try clear hcz97_1); (try clear hfz101_0); (try clear hfz101_1); (try clear hfz12_0); (try clear hfz12_1); (try clear hfz14_0); (try clear hfz14_1); (try clear hfz20_0); (try clear hfz20_1); (try clear hfz21_0); (try clear hfz21_1); (try clear hfz22_0); (try clear hfz22_1); (try clear hfz29_0); (try clear hfz29_1); (try clear hfz41_0); (try clear hfz41_1); (try clear hfz45_0); (try clear hfz45_1); (try clear hfz49_0); (try clear hfz49_1); (try clear hfz50_0); (try clear hfz50_1); (try clear hfz53_0); (try clear hfz53_1); (try clear hfz54_0); (try clear hfz54_1); (try clear hfz56_0); (try clear hfz56_1); (try clear hfz57_0)
  (try clear hfz57_1); (try clear hfz63_0); (try clear hfz63_1); (try clear hfz67_0); (try clear hfz67_1); (try clear hfz71_0); (try clear hfz71_1); (try clear hfz72_0); (try clear hfz72_1); (try clear hfz75_0); (try clear hfz75_1); (try clear hfz76_0); (try clear hfz76_1); (try clear hfz82_0); (try clear hfz82_1); (try clear hfz86_0); (try clear hfz86_1); (try clear hfz90_0); (try clear hfz90_1); (try clear hfz91_0); (try clear hfz91_1); (try clear hfz97_0); (try clear hfz97_1); obtain ⟨kq, x36_5, rfl, HA, HJ5, BK101, BK102, BK103, BK106, BK109, HB⟩ := hcut
  cases kq with
  | zero => exact absurd HA.out (by simp [oculuslaw02_LabelLattice.j0])
  | succ kj5 =>
   have H := HA.out; clear HA
   simp only [oculuslaw02_LabelLattice.j0] at H
   by_cases c103 : x36_5 = true
   ·subst c103
    have H1 : (none) = some r := by rw [if_pos rfl] at H; exact H
    clear H; have H := H1; clear H1
    exact absurd H (by simp)
   ·replace c103 := Bool.eq_false_iff.mpr c103; subst c103
    have H1 : ((label_Below.f a0_0 a0_1 a2_0 a2_1).bind fun t114 => (if t114 = true then ((label_Below.f a1_0 a1_1 a2_0 a2_1).bind fun t115 => ((label_Below.f t104 t105 a2_0 a2_1).bind fun t116 => (if (t115 != t116) = true then (oculuslaw02_LabelLattice.j1 kj5 true a0_0 a0_1 a1_0 a1_1 a2_0 a2_1 t104 t105 t107 t108) else ((label_Below.f a2_0 a2_1 a0_0 a0_1).bind fun t117 => (if t117 = true then ((label_Below.f a2_0 a2_1 a1_0 a1_1).bind fun t118 => ((label_Below.f a2_0 a2_1 t107 t108).bind fun t119 => (oculuslaw02_LabelLattice.j1 kj5 (t118 != t119) a0_0 a0_1 a1_0 a1_1 a2_0 a2_1 t104 t105 t107 t108))) else (oculuslaw02_LabelLattice.j1 kj5 false a0_0 a0_1 a1_0 a1_1 a2_0 a2_1 t104 t105 t107 t108)))))) else ((label_Below.f a2_0 a2_1 a0_0 a0_1).bind fun t120 => (if t120 = true then ((label_Below.f a2_0 a2_1 a1_0 a1_1).bind fun t121 => ((label_Below.f a2_0 a2_1 t107 t108).bind fun t122 => (oculuslaw02_LabelLattice.j1 kj5 (t121 != t122) a0_0 a0_1 a1_0 a1_1 a2_0 a2_1 t104 t105 t107 t108))) else (oculuslaw02_LabelLattice.j1 kj5 false a0_0 a0_1 a1_0 a1_1 a2_0 a2_1 t104 t105 t107 t108))))) = some r := by rw [if_neg (show ¬ (false = true) by decide)] at H; exact H
    clear H; have H := H1; clear H1; have HC104 := Aside0.mk H; clear H
    go_upto_region 5 with (fail)
    go_cut [62] (fun v62 wc => ∃ (kq : Nat) (x62_103 : Bool), v62 = .bool x62_103 ∧ Aside0 (oculuslaw02_LabelLattice.j1 kq x62_103 a0_0 a0_1 a1_0 a1_1 a2_0 a2_1 t104 t105 t107 t108 = some r) ∧ Aside0 (kq ≤ kj5) ∧ Aside0 (wc.heap[gb101]? = some (.cells #[.int .i64 a0_0, .int .u64 a0_1] 24 (0, 0))) ∧ Aside0 (wc.heap[gb102]? = some (.cells #[.int .i64 a1_0, .int .u64 a1_1] 24 (0, 0))) ∧ Aside0 (wc.heap[gb103]? = some (.cells #[.int .i64 a2_0, .int .u64 a2_1] 24 (0, 0))) ∧ Aside0 (wc.heap[gb106]? = some (.cells #[.int .i64 t104, .int .u64 t105] 24 (0, 0))) ∧ Aside0 (wc.heap[gb109]? = some (.cells #[.int .i64 t107, .int .u64 t108] 24 (0, 0))) ∧ Aside0 (Below w.heap.size w wc))
    case first =>
     have H := HC104.out; clear HC104; replace H := Option.bind_eq_some_iff.mp H; obtain ⟨t114, A1050, H⟩ := H
     replace H : (if t114 = true then ((label_Below.f a1_0 a1_1 a2_0 a2_1).bind fun t115 => ((label_Below.f t104 t105 a2_0 a2_1).bind fun t116 => (if (t115 != t116) = true then (oculuslaw02_LabelLattice.j1 kj5 true a0_0 a0_1 a1_0 a1_1 a2_0 a2_1 t104 t105 t107 t108) else ((label_Below.f a2_0 a2_1 a0_0 a0_1).bind fun t117 => (if t117 = true then ((label_Below.f a2_0 a2_1 a1_0 a1_1).bind fun t118 => ((label_Below.f a2_0 a2_1 t107 t108).bind fun t119 => (oculuslaw02_LabelLattice.j1 kj5 (t118 != t119) a0_0 a0_1 a1_0 a1_1 a2_0 a2_1 t104 t105 t107 t108))) else (oculuslaw02_LabelLattice.j1 kj5 false a0_0 a0_1 a1_0 a1_1 a2_0 a2_1 t104 t105 t107 t108)))))) else ((label_Below.f a2_0 a2_1 a0_0 a0_1).bind fun t120 => (if t120 = true then ((label_Below.f a2_0 a2_1 a1_0 a1_1).bind fun t121 => ((label_Below.f a2_0 a2_1 t107 t108).bind fun t122 => (oculuslaw02_LabelLattice.j1 kj5 (t121 != t122) a0_0 a0_1 a1_0 a1_1 a2_0 a2_1 t104 t105 t107 t108))) else (oculuslaw02_LabelLattice.j1 kj5 false a0_0 a0_1 a1_0 a1_1 a2_0 a2_1 t104 t105 t107 t108)))) = some r := H
     have A105 := Aside0.mk A1050; clear A1050
     by_cases c106 : t114 = true
     ·subst c106
      have H1 : ((label_Below.f a1_0 a1_1 a2_0 a2_1).bind fun t115 => ((label_Below.f t104 t105 a2_0 a2_1).bind fun t116 => (if (t115 != t116) = true then (oculuslaw02_LabelLattice.j1 kj5 true a0_0 a0_1 a1_0 a1_1 a2_0 a2_1 t104 t105 t107 t108) else ((label_Below.f a2_0 a2_1 a0_0 a0_1).bind fun t117 => (if t117 = true then ((label_Below.f a2_0 a2_1 a1_0 a1_1).bind fun t118 => ((label_Below.f a2_0 a2_1 t107 t108).bind fun t119 => (oculuslaw02_LabelLattice.j1 kj5 (t118 != t119) a0_0 a0_1 a1_0 a1_1 a2_0 a2_1 t104 t105 t107 t108))) else (oculuslaw02_LabelLattice.j1 kj5 false a0_0 a0_1 a1_0 a1_1 a2_0 a2_1 t104 t105 t107 t108)))))) = some r := by rw [if_pos rfl] at H; exact H
      clear H; have H := H1; clear H1; replace H := Option.bind_eq_some_iff.mp H; obtain ⟨t115, A1070, H⟩ := H
      replace H : ((label_Below.f t104 t105 a2_0 a2_1).bind fun t116 => (if (t115 != t116) = true then (oculuslaw02_LabelLattice.j1 kj5 true a0_0 a0_1 a1_0 a1_1 a2_0 a2_1 t104 t105 t107 t108) else ((label_Below.f a2_0 a2_1 a0_0 a0_1).bind fun t117 => (if t117 = true then ((label_Below.f a2_0 a2_1 a1_0 a1_1).bind fun t118 => ((label_Below.f a2_0 a2_1 t107 t108).bind fun t119 => (oculuslaw02_LabelLattice.j1 kj5 (t118 != t119) a0_0 a0_1 a1_0 a1_1 a2_0 a2_1 t104 t105 t107 t108))) else (oculuslaw02_LabelLattice.j1 kj5 false a0_0 a0_1 a1_0 a1_1 a2_0 a2_1 t104 t105 t107 t108))))) = some r := H
      have A107 := Aside0.mk A1070; clear A1070; replace H := Option.bind_eq_some_iff.mp H; obtain ⟨t116, A1080, H⟩ := H
      replace H : (if (t115 != t116) = true then (oculuslaw02_LabelLattice.j1 kj5 true a0_0 a0_1 a1_0 a1_1 a2_0 a2_1 t104 t105 t107 t108) else ((label_Below.f a2_0 a2_1 a0_0 a0_1).bind fun t117 => (if t117 = true then ((label_Below.f a2_0 a2_1 a1_0 a1_1).bind fun t118 => ((label_Below.f a2_0 a2_1 t107 t108).bind fun t119 => (oculuslaw02_LabelLattice.j1 kj5 (t118 != t119) a0_0 a0_1 a1_0 a1_1 a2_0 a2_1 t104 t105 t107 t108))) else (oculuslaw02_LabelLattice.j1 kj5 false a0_0 a0_1 a1_0 a1_1 a2_0 a2_1 t104 t105 t107 t108)))) = some r := H
      have A108 := Aside0.mk A1080; clear A1080
      by_cases c109 : (t115 != t116) = true
      ·rw [if_pos c109] at H
       have c109b0 : (t115 != t116) = true := c109
       (try (have c109b1 : decide (t115 = t116) = false := by simpa using c109)); (try (have c109b2 : (t115 == t116) = false := by simpa using c109)); (try (have c109b3 : ¬ (t115 = t116) := by simpa using c109)); clear c109; (first | rw [c109b0] | (simp only [i64_w, i32_w]; rw [c109b0]) | skip)
       have H' := Aside0.mk H
       clear H
       try go_wp2
       (try (rw [drewN_self wc]; generalize hq_ : World.drewN wc _ = wc; have n0_ : Aside0 (wc.heap[gb101]? = some (.cells #[.int .i64 a0_0, .int .u64 a0_1] 24 (0, 0))) := ⟨by rw [← hq_]; exact (pkx BK101)⟩; have n1_ : Aside0 (wc.heap[gb102]? = some (.cells #[.int .i64 a1_0, .int .u64 a1_1] 24 (0, 0))) := ⟨by rw [← hq_]; exact (pkx BK102)⟩; have n2_ : Aside0 (wc.heap[gb103]? = some (.cells #[.int .i64 a2_0, .int .u64 a2_1] 24 (0, 0))) := ⟨by rw [← hq_]; exact (pkx BK103)⟩; have n3_ : Aside0 (wc.heap[gb106]? = some (.cells #[.int .i64 t104, .int .u64 t105] 24 (0, 0))) := ⟨by rw [← hq_]; exact (pkx BK106)⟩; have n4_ : Aside0 (wc.heap[gb109]? = some (.cells #[.int .i64 t107, .int .u64 t108] 24 (0, 0))) := ⟨by rw [← hq_]; exact (pkx BK109)⟩; have n5_ : Aside0 (Below w.heap.size w wc) := ⟨by rw [← hq_]; exact (pbx HB)⟩; clear BK101 BK102 BK103 BK106 BK109 HB hq_; have BK101 := n0_; have BK102 := n1_; have BK103 := n2_; have BK106 := n3_; have BK109 := n4_; have HB := n5_; clear n0_ n1_ n2_ n3_ n4_ n5_))
       replace BK101 := Aside0.mk (blk_drew BK101.out); replace BK102 := Aside0.mk (blk_drew BK102.out); replace BK103 := Aside0.mk (blk_drew BK103.out); replace BK106 := Aside0.mk (blk_drew BK106.out); replace BK109 := Aside0.mk (blk_drew BK109.out); replace HB := Aside0.mk (below_drew1 HB.out)
       refine start_ (n:=26) (S := fun w' => w'.cell? ⟨gb101, 0, none⟩ = some (.int .i64 a0_0) ∧ w'.cell? ⟨gb101, 1, none⟩ = some (.int .u64 a0_1) ∧ w'.cell? ⟨gb103, 0, none⟩ = some (.int .i64 a2_0) ∧ w'.cell? ⟨gb103, 1, none⟩ = some (.int .u64 a2_1) ∧ w'.cell? ⟨gb102, 0, none⟩ = some (.int .i64 a1_0) ∧ w'.cell? ⟨gb102, 1, none⟩ = some (.int .u64 a1_1) ∧ w'.cell? ⟨gb106, 0, none⟩ = some (.int .i64 t104) ∧ w'.cell? ⟨gb106, 1, none⟩ = some (.int .u64 t105)) (ds := []) #[F,F,F,F,F,F,F,F,F,F,F,F,F,F,F,F,F,F,F,F,F,F,F,F,F,F] (by kernel_rfl) rfl rfl ⟨bc_ BK101 0 rfl, bc_ BK101 1 rfl, bc_ BK103 0 rfl, bc_ BK103 1 rfl, bc_ BK102 0 rfl, bc_ BK102 1 rfl, bc_ BK106 0 rfl, bc_ BK106 1 rfl⟩ (fun hHeld => ?_); refine with_tabW oculuslaw02_LabelLattice.tab5 oculuslaw02_LabelLattice.bits5 (fun HT_ HW_ => ?_)
       generalize wc.drew = w110 at BK101 BK102 BK103 BK106 BK109 HB hHeld ⊢; refine take_ (i:=0) (N:=some 37) (v:=?_) (a':=?_) ⟨m_ 26 1⟩ rfl rfl (take_ofW HT_.out HW_.out (by kernel_rfl)) (fun _ _ _ h=>h) (Or.inl ⟨rfl, ?_⟩) hHeld ?_ ?_; rotate_left
       ·rintro w' ⟨s0, s1, s2, s3, s4, s5, s6, s7⟩; go_simp; with_reducible rfl
       rotate_left
       ·simp only [q_, i64_w, i32_w]; rfl
       refine take_ (i:=1) (N:=some 38) (v:=?_) (a':=?_) ⟨m_ 26 3⟩ rfl rfl (take_ofW HT_.out HW_.out (by kernel_rfl)) (fun _ _ _ h=>h) (Or.inl ⟨rfl, ?_⟩) hHeld ?_ ?_; rotate_left
       ·rintro w' ⟨s0, s1, s2, s3, s4, s5, s6, s7⟩; go_simp; with_reducible rfl
       rotate_left
       ·simp only [q_, i64_w, i32_w]; rfl
       refine one_ (i:=2) (N:=some 39) ⟨m_ 26 7⟩ rfl rfl (one_of HT_.out (by kernel_rfl)) (by decide) (fun K hK => ?_); refine goes_ Tryd.func27 (by kernel_rfl) rfl #[.agg #[.int .i64 a0_0, .int .u64 a0_1], .agg #[.int .i64 a2_0, .int .u64 a2_1]] (by rfl) rfl rfl (by (try simp only [List.map_toArray, List.map_cons, List.map_nil]); first | done | rfl | (simp only [List.length_drop, List.length_take]; rfl)) ?_; with_reducible refine (label_Below.calls a0_0 a0_1 a2_0 a2_1 true _ A105.out).mono ?_; rintro e w111 ⟨rfl, hb⟩; refine ⟨_, rfl, ?_⟩
       replace BK101 := bb_ BK101 hb; replace BK102 := bb_ BK102 hb; replace BK103 := bb_ BK103 hb; replace BK106 := bb_ BK106 hb; replace BK109 := bb_ BK109 hb; replace HB := bs_ HB hb; (try clear hb); (try clear hb2); (try clear hk); (try clear hi); refine hK.out _ _ ⟨bc_ BK101 0 rfl, bc_ BK101 1 rfl, bc_ BK103 0 rfl, bc_ BK103 1 rfl, bc_ BK102 0 rfl, bc_ BK102 1 rfl, bc_ BK106 0 rfl, bc_ BK106 1 rfl⟩ (fun hHeld => ?_); clear hK K; refine norm_ (a':=?_) ?_ ?_; rotate_left
       ·show Act.put _ (some 39) _ = _; simp only [q_, i64_w, i32_w]; rfl
       refine pure_ (i:=3) (N:=some 40) (v:=?_) (a':=?_) ⟨m_ 26 15⟩ rfl rfl (any_of HT_.out (by kernel_rfl)) (fun _ _ _ h=>h) (Or.inl ⟨rfl, ?_⟩) ?_ ?_; rotate_left
       ·intro w'; go_simp; with_reducible rfl
       rotate_left
       ·simp only [q_, i64_w, i32_w]; rfl
       refine take_ (i:=4) (N:=some 41) (v:=?_) (a':=?_) ⟨m_ 26 31⟩ rfl rfl (take_ofW HT_.out HW_.out (by kernel_rfl)) (fun _ _ _ h=>h) (Or.inl ⟨rfl, ?_⟩) hHeld ?_ ?_; rotate_left
       ·rintro w' ⟨s0, s1, s2, s3, s4, s5, s6, s7⟩; go_simp; with_reducible rfl
       rotate_left
       ·simp only [q_, i64_w, i32_w]; rfl
       refine take_ (i:=5) (N:=some 42) (v:=?_) (a':=?_) ⟨m_ 26 63⟩ rfl rfl (take_ofW HT_.out HW_.out (by kernel_rfl)) (fun _ _ _ h=>h) (Or.inl ⟨rfl, ?_⟩) hHeld ?_ ?_; rotate_left
       ·rintro w' ⟨s0, s1, s2, s3, s4, s5, s6, s7⟩; go_simp; with_reducible rfl
       rotate_left
       ·simp only [q_, i64_w, i32_w]; rfl
       refine take_ (i:=7) (N:=some 44) (v:=?_) (a':=?_) ⟨m_ 26 191⟩ rfl rfl (take_ofW HT_.out HW_.out (by kernel_rfl)) (fun _ _ _ h=>h) (Or.inl ⟨rfl, ?_⟩) hHeld ?_ ?_; rotate_left
       ·rintro w' ⟨s0, s1, s2, s3, s4, s5, s6, s7⟩; go_simp; with_reducible rfl
       rotate_left
       ·simp only [q_, i64_w, i32_w]; rfl
       refine take_ (i:=8) (N:=some 45) (v:=?_) (a':=?_) ⟨m_ 26 447⟩ rfl rfl (take_ofW HT_.out HW_.out (by kernel_rfl)) (fun _ _ _ h=>h) (Or.inl ⟨rfl, ?_⟩) hHeld ?_ ?_; rotate_left
       ·rintro w' ⟨s0, s1, s2, s3, s4, s5, s6, s7⟩; go_simp; with_reducible rfl
       rotate_left
       ·simp only [q_, i64_w, i32_w]; rfl
       refine one_ (i:=6) (N:=some 43) ⟨m_ 26 511⟩ rfl rfl (one_of HT_.out (by kernel_rfl)) (by decide) (fun K hK => ?_); refine goes_ Tryd.func27 (by kernel_rfl) rfl #[.agg #[.int .i64 a1_0, .int .u64 a1_1], .agg #[.int .i64 a2_0, .int .u64 a2_1]] (by rfl) rfl rfl (by (try simp only [List.map_toArray, List.map_cons, List.map_nil]); first | done | rfl | (simp only [List.length_drop, List.length_take]; rfl)) ?_; with_reducible refine (label_Below.calls a1_0 a1_1 a2_0 a2_1 t115 _ A107.out).mono ?_; rintro e w112 ⟨rfl, hb⟩; refine ⟨_, rfl, ?_⟩
       replace BK101 := bb_ BK101 hb; replace BK102 := bb_ BK102 hb; replace BK103 := bb_ BK103 hb; replace BK106 := bb_ BK106 hb; replace BK109 := bb_ BK109 hb; replace HB := bs_ HB hb; (try clear hb); (try clear hb2); (try clear hk); (try clear hi); refine hK.out _ _ ⟨bc_ BK101 0 rfl, bc_ BK101 1 rfl, bc_ BK103 0 rfl, bc_ BK103 1 rfl, bc_ BK102 0 rfl, bc_ BK102 1 rfl, bc_ BK106 0 rfl, bc_ BK106 1 rfl⟩ (fun hHeld => ?_); clear hK K; refine norm_ (a':=?_) ?_ ?_; rotate_left
       ·show Act.put _ (some 43) _ = _; simp only [q_, i64_w, i32_w]; rfl
       refine one_ (i:=9) (N:=some 46) ⟨m_ 26 1023⟩ rfl rfl (one_of HT_.out (by kernel_rfl)) (by decide) (fun K hK => ?_); refine goes_ Tryd.func27 (by kernel_rfl) rfl #[.agg #[.int .i64 t104, .int .u64 t105], .agg #[.int .i64 a2_0, .int .u64 a2_1]] (by rfl) rfl rfl (by (try simp only [List.map_toArray, List.map_cons, List.map_nil]); first | done | rfl | (simp only [List.length_drop, List.length_take]; rfl)) ?_; with_reducible refine (label_Below.calls t104 t105 a2_0 a2_1 t116 _ A108.out).mono ?_; rintro e w113 ⟨rfl, hb⟩; refine ⟨_, rfl, ?_⟩
       replace BK101 := bb_ BK101 hb; replace BK102 := bb_ BK102 hb; replace BK103 := bb_ BK103 hb; replace BK106 := bb_ BK106 hb; replace BK109 := bb_ BK109 hb; replace HB := bs_ HB hb; (try clear hb); (try clear hb2); (try clear hk); (try clear hi); refine hK.out _ _ ⟨bc_ BK101 0 rfl, bc_ BK101 1 rfl, bc_ BK103 0 rfl, bc_ BK103 1 rfl, bc_ BK102 0 rfl, bc_ BK102 1 rfl, bc_ BK106 0 rfl, bc_ BK106 1 rfl⟩ (fun hHeld => ?_); clear hK K; refine norm_ (a':=?_) ?_ ?_; rotate_left
       ·show Act.put _ (some 46) _ = _; simp only [q_, i64_w, i32_w]; rfl
       refine pure_ (i:=10) (N:=some 47) (v:=?_) (a':=?_) ⟨m_ 26 2047⟩ rfl rfl (any_of HT_.out (by kernel_rfl)) (fun _ _ _ h=>h) (Or.inl ⟨rfl, ?_⟩) ?_ ?_; rotate_left
       ·intro w'; go_simp; with_reducible rfl
       rotate_left
       ·simp only [q_, i64_w, i32_w]; rfl
       refine pure_ (i:=11) (N:=some 48) (v:=?_) (a':=?_) ⟨m_ 26 4095⟩ rfl rfl (any_of HT_.out (by kernel_rfl)) (fun _ _ _ h=>h) (Or.inl ⟨rfl, ?_⟩) ?_ ?_; rotate_left
       ·intro w'; go_simp; with_reducible rfl
       rotate_left
       ·simp only [q_, i64_w, i32_w]; rfl
       refine pure_ (i:=12) (N:=some 49) (v:=?_) (a':=?_) ⟨m_ 26 8191⟩ rfl rfl (any_of HT_.out (by kernel_rfl)) (fun _ _ _ h=>h) (Or.inl ⟨rfl, ?_⟩) ?_ ?_; rotate_left
       ·intro w'; go_simp; with_reducible rfl
       rotate_left
       ·simp only [q_, i64_w, i32_w]; rfl
       refine pure_ (i:=13) (N:=some 50) (v:=undef) (a':=?_) ⟨m_ 26 16383⟩ rfl rfl (any_of HT_.out (by kernel_rfl)) (fun _ _ _ h=>h) (Or.inr ⟨by rfl, rfl⟩) ?_ ?_; rotate_left
       ·simp only [q_, i64_w, i32_w]; rfl
       refine pure_ (i:=14) (N:=some 51) (v:=undef) (a':=?_) ⟨m_ 26 32767⟩ rfl rfl (any_of HT_.out (by kernel_rfl)) (fun _ _ _ h=>h) (Or.inr ⟨by rfl, rfl⟩) ?_ ?_; rotate_left
       ·simp only [q_, i64_w, i32_w]; rfl
       refine pure_ (i:=15) (N:=some 52) (v:=undef) (a':=?_) ⟨m_ 26 65535⟩ rfl rfl (any_of HT_.out (by kernel_rfl)) (fun _ _ _ h=>h) (Or.inr ⟨by rfl, rfl⟩) ?_ ?_; rotate_left
       ·simp only [q_, i64_w, i32_w]; rfl
       refine pure_ (i:=16) (N:=some 53) (v:=undef) (a':=?_) ⟨m_ 26 131071⟩ rfl rfl (any_of HT_.out (by kernel_rfl)) (fun _ _ _ h=>h) (Or.inr ⟨by rfl, rfl⟩) ?_ ?_; rotate_left
       ·simp only [q_, i64_w, i32_w]; rfl
       refine pure_ (i:=17) (N:=some 54) (v:=undef) (a':=?_) ⟨m_ 26 262143⟩ rfl rfl (any_of HT_.out (by kernel_rfl)) (fun _ _ _ h=>h) (Or.inr ⟨by rfl, rfl⟩) ?_ ?_; rotate_left
       ·simp only [q_, i64_w, i32_w]; rfl
       refine pure_ (i:=18) (N:=some 55) (v:=undef) (a':=?_) ⟨m_ 26 524287⟩ rfl rfl (any_of HT_.out (by kernel_rfl)) (fun _ _ _ h=>h) (Or.inr ⟨by rfl, rfl⟩) ?_ ?_; rotate_left
       ·simp only [q_, i64_w, i32_w]; rfl
       refine pure_ (i:=19) (N:=some 56) (v:=undef) (a':=?_) ⟨m_ 26 1048575⟩ rfl rfl (any_of HT_.out (by kernel_rfl)) (fun _ _ _ h=>h) (Or.inr ⟨by rfl, rfl⟩) ?_ ?_; rotate_left
       ·simp only [q_, i64_w, i32_w]; rfl
       refine pure_ (i:=20) (N:=some 57) (v:=undef) (a':=?_) ⟨m_ 26 2097151⟩ rfl rfl (any_of HT_.out (by kernel_rfl)) (fun _ _ _ h=>h) (Or.inr ⟨by rfl, rfl⟩) ?_ ?_; rotate_left
       ·simp only [q_, i64_w, i32_w]; rfl
       refine pure_ (i:=21) (N:=some 58) (v:=undef) (a':=?_) ⟨m_ 26 4194303⟩ rfl rfl (any_of HT_.out (by kernel_rfl)) (fun _ _ _ h=>h) (Or.inr ⟨by rfl, rfl⟩) ?_ ?_; rotate_left
       ·simp only [q_, i64_w, i32_w]; rfl
       refine pure_ (i:=22) (N:=some 59) (v:=undef) (a':=?_) ⟨m_ 26 8388607⟩ rfl rfl (any_of HT_.out (by kernel_rfl)) (fun _ _ _ h=>h) (Or.inr ⟨by rfl, rfl⟩) ?_ ?_; rotate_left
       ·simp only [q_, i64_w, i32_w]; rfl
       refine pure_ (i:=23) (N:=some 60) (v:=undef) (a':=?_) ⟨m_ 26 16777215⟩ rfl rfl (any_of HT_.out (by kernel_rfl)) (fun _ _ _ h=>h) (Or.inr ⟨by rfl, rfl⟩) ?_ ?_; rotate_left
       ·simp only [q_, i64_w, i32_w]; rfl
       refine pure_ (i:=24) (N:=some 61) (v:=undef) (a':=?_) ⟨m_ 26 33554431⟩ rfl rfl (any_of HT_.out (by kernel_rfl)) (fun _ _ _ h=>h) (Or.inr ⟨by rfl, rfl⟩) ?_ ?_; rotate_left
       ·simp only [q_, i64_w, i32_w]; rfl
       refine pure_ (i:=25) (N:=some 62) (v:=?_) (a':=?_) ⟨m_ 26 67108863⟩ rfl rfl (any_of HT_.out (by kernel_rfl)) (fun _ _ _ h=>h) (Or.inl ⟨rfl, ?_⟩) ?_ ?_; rotate_left
       ·intro w'; go_simp; with_reducible rfl
       rotate_left
       ·simp only [q_, i64_w, i32_w]; rfl
       refine done_ (done_of HT_.out (by kernel_rfl)) ?_
       try go_wp2
       go_meet
       case rel => exact ⟨_, (true), (by first | rfl | (simp; done) | (simp [*]; done)), H', ⟨by have := HJ5.out; first | omega | exact Nat.le_refl _⟩, ⟨pkx BK101⟩, ⟨pkx BK102⟩, ⟨pkx BK103⟩, ⟨pkx BK106⟩, ⟨pkx BK109⟩, ⟨pbx HB⟩⟩
      ·rw [if_neg c109] at H
       have c109b0 : (t115 != t116) = false := by simpa using c109
       (try (have c109b1 : decide (t115 = t116) = true := by simpa using c109)); (try (have c109b2 : (t115 == t116) = true := by simpa using c109)); clear c109; (first | rw [c109b0] | (simp only [i64_w, i32_w]; rw [c109b0]) | skip)
       replace H := Option.bind_eq_some_iff.mp H; obtain ⟨t117, A1140, H⟩ := H
       replace H : (if t117 = true then ((label_Below.f a2_0 a2_1 a1_0 a1_1).bind fun t118 => ((label_Below.f a2_0 a2_1 t107 t108).bind fun t119 => (oculuslaw02_LabelLattice.j1 kj5 (t118 != t119) a0_0 a0_1 a1_0 a1_1 a2_0 a2_1 t104 t105 t107 t108))) else (oculuslaw02_LabelLattice.j1 kj5 false a0_0 a0_1 a1_0 a1_1 a2_0 a2_1 t104 t105 t107 t108)) = some r := H
       have A114 := Aside0.mk A1140; clear A1140
       by_cases c115 : t117 = true
       ·subst c115
        have H1 : ((label_Below.f a2_0 a2_1 a1_0 a1_1).bind fun t118 => ((label_Below.f a2_0 a2_1 t107 t108).bind fun t119 => (oculuslaw02_LabelLattice.j1 kj5 (t118 != t119) a0_0 a0_1 a1_0 a1_1 a2_0 a2_1 t104 t105 t107 t108))) = some r := by rw [if_pos rfl] at H; exact H
        clear H; have H := H1; clear H1; replace H := Option.bind_eq_some_iff.mp H; obtain ⟨t118, A1160, H⟩ := H
        replace H : ((label_Below.f a2_0 a2_1 t107 t108).bind fun t119 => (oculuslaw02_LabelLattice.j1 kj5 (t118 != t119) a0_0 a0_1 a1_0 a1_1 a2_0 a2_1 t104 t105 t107 t108)) = some r := H
        have A116 := Aside0.mk A1160; clear A1160; replace H := Option.bind_eq_some_iff.mp H; obtain ⟨t119, A1170, H⟩ := H
        replace H : (oculuslaw02_LabelLattice.j1 kj5 (t118 != t119) a0_0 a0_1 a1_0 a1_1 a2_0 a2_1 t104 t105 t107 t108) = some r := H
        have A117 := Aside0.mk A1170; clear A1170
        have H' := Aside0.mk H
        clear H
        try go_wp2
        (try (rw [drewN_self wc]; generalize hq_ : World.drewN wc _ = wc; have n0_ : Aside0 (wc.heap[gb101]? = some (.cells #[.int .i64 a0_0, .int .u64 a0_1] 24 (0, 0))) := ⟨by rw [← hq_]; exact (pkx BK101)⟩; have n1_ : Aside0 (wc.heap[gb102]? = some (.cells #[.int .i64 a1_0, .int .u64 a1_1] 24 (0, 0))) := ⟨by rw [← hq_]; exact (pkx BK102)⟩; have n2_ : Aside0 (wc.heap[gb103]? = some (.cells #[.int .i64 a2_0, .int .u64 a2_1] 24 (0, 0))) := ⟨by rw [← hq_]; exact (pkx BK103)⟩; have n3_ : Aside0 (wc.heap[gb106]? = some (.cells #[.int .i64 t104, .int .u64 t105] 24 (0, 0))) := ⟨by rw [← hq_]; exact (pkx BK106)⟩; have n4_ : Aside0 (wc.heap[gb109]? = some (.cells #[.int .i64 t107, .int .u64 t108] 24 (0, 0))) := ⟨by rw [← hq_]; exact (pkx BK109)⟩; have n5_ : Aside0 (Below w.heap.size w wc) := ⟨by rw [← hq_]; exact (pbx HB)⟩; clear BK101 BK102 BK103 BK106 BK109 HB hq_; have BK101 := n0_; have BK102 := n1_; have BK103 := n2_; have BK106 := n3_; have BK109 := n4_; have HB := n5_; clear n0_ n1_ n2_ n3_ n4_ n5_))
        replace BK101 := Aside0.mk (blk_drew BK101.out); replace BK102 := Aside0.mk (blk_drew BK102.out); replace BK103 := Aside0.mk (blk_drew BK103.out); replace BK106 := Aside0.mk (blk_drew BK106.out); replace BK109 := Aside0.mk (blk_drew BK109.out); replace HB := Aside0.mk (below_drew1 HB.out)
        refine start_ (n:=26) (S := fun w' => w'.cell? ⟨gb101, 0, none⟩ = some (.int .i64 a0_0) ∧ w'.cell? ⟨gb101, 1, none⟩ = some (.int .u64 a0_1) ∧ w'.cell? ⟨gb103, 0, none⟩ = some (.int .i64 a2_0) ∧ w'.cell? ⟨gb103, 1, none⟩ = some (.int .u64 a2_1) ∧ w'.cell? ⟨gb102, 0, none⟩ = some (.int .i64 a1_0) ∧ w'.cell? ⟨gb102, 1, none⟩ = some (.int .u64 a1_1) ∧ w'.cell? ⟨gb106, 0, none⟩ = some (.int .i64 t104) ∧ w'.cell? ⟨gb106, 1, none⟩ = some (.int .u64 t105) ∧ w'.cell? ⟨gb109, 0, none⟩ = some (.int .i64 t107) ∧ w'.cell? ⟨gb109, 1, none⟩ = some (.int .u64 t108)) (ds := []) #[F,F,F,F,F,F,F,F,F,F,F,F,F,F,F,F,F,F,F,F,F,F,F,F,F,F] (by kernel_rfl) rfl rfl ⟨bc_ BK101 0 rfl, bc_ BK101 1 rfl, bc_ BK103 0 rfl, bc_ BK103 1 rfl, bc_ BK102 0 rfl, bc_ BK102 1 rfl, bc_ BK106 0 rfl, bc_ BK106 1 rfl, bc_ BK109 0 rfl, bc_ BK109 1 rfl⟩ (fun hHeld => ?_); refine with_tabW oculuslaw02_LabelLattice.tab5 oculuslaw02_LabelLattice.bits5 (fun HT_ HW_ => ?_)
        generalize wc.drew = w118 at BK101 BK102 BK103 BK106 BK109 HB hHeld ⊢; refine take_ (i:=0) (N:=some 37) (v:=?_) (a':=?_) ⟨m_ 26 1⟩ rfl rfl (take_ofW HT_.out HW_.out (by kernel_rfl)) (fun _ _ _ h=>h) (Or.inl ⟨rfl, ?_⟩) hHeld ?_ ?_; rotate_left
        ·rintro w' ⟨s0, s1, s2, s3, s4, s5, s6, s7, s8, s9⟩; go_simp; with_reducible rfl
        rotate_left
        ·simp only [q_, i64_w, i32_w]; rfl
        refine take_ (i:=1) (N:=some 38) (v:=?_) (a':=?_) ⟨m_ 26 3⟩ rfl rfl (take_ofW HT_.out HW_.out (by kernel_rfl)) (fun _ _ _ h=>h) (Or.inl ⟨rfl, ?_⟩) hHeld ?_ ?_; rotate_left
        ·rintro w' ⟨s0, s1, s2, s3, s4, s5, s6, s7, s8, s9⟩; go_simp; with_reducible rfl
        rotate_left
        ·simp only [q_, i64_w, i32_w]; rfl
        refine one_ (i:=2) (N:=some 39) ⟨m_ 26 7⟩ rfl rfl (one_of HT_.out (by kernel_rfl)) (by decide) (fun K hK => ?_); refine goes_ Tryd.func27 (by kernel_rfl) rfl #[.agg #[.int .i64 a0_0, .int .u64 a0_1], .agg #[.int .i64 a2_0, .int .u64 a2_1]] (by rfl) rfl rfl (by (try simp only [List.map_toArray, List.map_cons, List.map_nil]); first | done | rfl | (simp only [List.length_drop, List.length_take]; rfl)) ?_; with_reducible refine (label_Below.calls a0_0 a0_1 a2_0 a2_1 true _ A105.out).mono ?_; rintro e w119 ⟨rfl, hb⟩; refine ⟨_, rfl, ?_⟩
        replace BK101 := bb_ BK101 hb; replace BK102 := bb_ BK102 hb; replace BK103 := bb_ BK103 hb; replace BK106 := bb_ BK106 hb; replace BK109 := bb_ BK109 hb; replace HB := bs_ HB hb; (try clear hb); (try clear hb2); (try clear hk); (try clear hi); refine hK.out _ _ ⟨bc_ BK101 0 rfl, bc_ BK101 1 rfl, bc_ BK103 0 rfl, bc_ BK103 1 rfl, bc_ BK102 0 rfl, bc_ BK102 1 rfl, bc_ BK106 0 rfl, bc_ BK106 1 rfl, bc_ BK109 0 rfl, bc_ BK109 1 rfl⟩ (fun hHeld => ?_); clear hK K; refine norm_ (a':=?_) ?_ ?_; rotate_left
        ·show Act.put _ (some 39) _ = _; simp only [q_, i64_w, i32_w]; rfl
        refine pure_ (i:=3) (N:=some 40) (v:=?_) (a':=?_) ⟨m_ 26 15⟩ rfl rfl (any_of HT_.out (by kernel_rfl)) (fun _ _ _ h=>h) (Or.inl ⟨rfl, ?_⟩) ?_ ?_; rotate_left
        ·intro w'; go_simp; with_reducible rfl
        rotate_left
        ·simp only [q_, i64_w, i32_w]; rfl
        refine take_ (i:=4) (N:=some 41) (v:=?_) (a':=?_) ⟨m_ 26 31⟩ rfl rfl (take_ofW HT_.out HW_.out (by kernel_rfl)) (fun _ _ _ h=>h) (Or.inl ⟨rfl, ?_⟩) hHeld ?_ ?_; rotate_left
        ·rintro w' ⟨s0, s1, s2, s3, s4, s5, s6, s7, s8, s9⟩; go_simp; with_reducible rfl
        rotate_left
        ·simp only [q_, i64_w, i32_w]; rfl
        refine take_ (i:=5) (N:=some 42) (v:=?_) (a':=?_) ⟨m_ 26 63⟩ rfl rfl (take_ofW HT_.out HW_.out (by kernel_rfl)) (fun _ _ _ h=>h) (Or.inl ⟨rfl, ?_⟩) hHeld ?_ ?_; rotate_left
        ·rintro w' ⟨s0, s1, s2, s3, s4, s5, s6, s7, s8, s9⟩; go_simp; with_reducible rfl
        rotate_left
        ·simp only [q_, i64_w, i32_w]; rfl
        refine take_ (i:=7) (N:=some 44) (v:=?_) (a':=?_) ⟨m_ 26 191⟩ rfl rfl (take_ofW HT_.out HW_.out (by kernel_rfl)) (fun _ _ _ h=>h) (Or.inl ⟨rfl, ?_⟩) hHeld ?_ ?_; rotate_left
        ·rintro w' ⟨s0, s1, s2, s3, s4, s5, s6, s7, s8, s9⟩; go_simp; with_reducible rfl
        rotate_left
        ·simp only [q_, i64_w, i32_w]; rfl
        refine take_ (i:=8) (N:=some 45) (v:=?_) (a':=?_) ⟨m_ 26 447⟩ rfl rfl (take_ofW HT_.out HW_.out (by kernel_rfl)) (fun _ _ _ h=>h) (Or.inl ⟨rfl, ?_⟩) hHeld ?_ ?_; rotate_left
        ·rintro w' ⟨s0, s1, s2, s3, s4, s5, s6, s7, s8, s9⟩; go_simp; with_reducible rfl
        rotate_left
        ·simp only [q_, i64_w, i32_w]; rfl
        refine one_ (i:=6) (N:=some 43) ⟨m_ 26 511⟩ rfl rfl (one_of HT_.out (by kernel_rfl)) (by decide) (fun K hK => ?_); refine goes_ Tryd.func27 (by kernel_rfl) rfl #[.agg #[.int .i64 a1_0, .int .u64 a1_1], .agg #[.int .i64 a2_0, .int .u64 a2_1]] (by rfl) rfl rfl (by (try simp only [List.map_toArray, List.map_cons, List.map_nil]); first | done | rfl | (simp only [List.length_drop, List.length_take]; rfl)) ?_; with_reducible refine (label_Below.calls a1_0 a1_1 a2_0 a2_1 t115 _ A107.out).mono ?_; rintro e w120 ⟨rfl, hb⟩; refine ⟨_, rfl, ?_⟩
        replace BK101 := bb_ BK101 hb; replace BK102 := bb_ BK102 hb; replace BK103 := bb_ BK103 hb; replace BK106 := bb_ BK106 hb; replace BK109 := bb_ BK109 hb; replace HB := bs_ HB hb; (try clear hb); (try clear hb2); (try clear hk); (try clear hi); refine hK.out _ _ ⟨bc_ BK101 0 rfl, bc_ BK101 1 rfl, bc_ BK103 0 rfl, bc_ BK103 1 rfl, bc_ BK102 0 rfl, bc_ BK102 1 rfl, bc_ BK106 0 rfl, bc_ BK106 1 rfl, bc_ BK109 0 rfl, bc_ BK109 1 rfl⟩ (fun hHeld => ?_); clear hK K; refine norm_ (a':=?_) ?_ ?_; rotate_left
        ·show Act.put _ (some 43) _ = _; simp only [q_, i64_w, i32_w]; rfl
        refine one_ (i:=9) (N:=some 46) ⟨m_ 26 1023⟩ rfl rfl (one_of HT_.out (by kernel_rfl)) (by decide) (fun K hK => ?_); refine goes_ Tryd.func27 (by kernel_rfl) rfl #[.agg #[.int .i64 t104, .int .u64 t105], .agg #[.int .i64 a2_0, .int .u64 a2_1]] (by rfl) rfl rfl (by (try simp only [List.map_toArray, List.map_cons, List.map_nil]); first | done | rfl | (simp only [List.length_drop, List.length_take]; rfl)) ?_; with_reducible refine (label_Below.calls t104 t105 a2_0 a2_1 t116 _ A108.out).mono ?_; rintro e w121 ⟨rfl, hb⟩; refine ⟨_, rfl, ?_⟩
        replace BK101 := bb_ BK101 hb; replace BK102 := bb_ BK102 hb; replace BK103 := bb_ BK103 hb; replace BK106 := bb_ BK106 hb; replace BK109 := bb_ BK109 hb; replace HB := bs_ HB hb; (try clear hb); (try clear hb2); (try clear hk); (try clear hi); refine hK.out _ _ ⟨bc_ BK101 0 rfl, bc_ BK101 1 rfl, bc_ BK103 0 rfl, bc_ BK103 1 rfl, bc_ BK102 0 rfl, bc_ BK102 1 rfl, bc_ BK106 0 rfl, bc_ BK106 1 rfl, bc_ BK109 0 rfl, bc_ BK109 1 rfl⟩ (fun hHeld => ?_); clear hK K; refine norm_ (a':=?_) ?_ ?_; rotate_left
        ·show Act.put _ (some 46) _ = _; simp only [q_, i64_w, i32_w]; rfl
        refine pure_ (i:=10) (N:=some 47) (v:=?_) (a':=?_) ⟨m_ 26 2047⟩ rfl rfl (any_of HT_.out (by kernel_rfl)) (fun _ _ _ h=>h) (Or.inl ⟨rfl, ?_⟩) ?_ ?_; rotate_left
        ·intro w'; go_simp; with_reducible rfl
        rotate_left
        ·simp only [q_, i64_w, i32_w]; rfl
        refine pure_ (i:=11) (N:=some 48) (v:=?_) (a':=?_) ⟨m_ 26 4095⟩ rfl rfl (any_of HT_.out (by kernel_rfl)) (fun _ _ _ h=>h) (Or.inl ⟨rfl, ?_⟩) ?_ ?_; rotate_left
        ·intro w'; go_simp; with_reducible rfl
        rotate_left
        ·simp only [q_, i64_w, i32_w]; rfl
        refine pure_ (i:=12) (N:=some 49) (v:=?_) (a':=?_) ⟨m_ 26 8191⟩ rfl rfl (any_of HT_.out (by kernel_rfl)) (fun _ _ _ h=>h) (Or.inl ⟨rfl, ?_⟩) ?_ ?_; rotate_left
        ·intro w'; go_simp; with_reducible rfl
        rotate_left
        ·simp only [q_, i64_w, i32_w]; rfl
        refine take_ (i:=13) (N:=some 50) (v:=?_) (a':=?_) ⟨m_ 26 16383⟩ rfl rfl (take_ofW HT_.out HW_.out (by kernel_rfl)) (fun _ _ _ h=>h) (Or.inl ⟨rfl, ?_⟩) hHeld ?_ ?_; rotate_left
        ·rintro w' ⟨s0, s1, s2, s3, s4, s5, s6, s7, s8, s9⟩; go_simp; with_reducible rfl
        rotate_left
        ·simp only [q_, i64_w, i32_w]; rfl
        refine take_ (i:=14) (N:=some 51) (v:=?_) (a':=?_) ⟨m_ 26 32767⟩ rfl rfl (take_ofW HT_.out HW_.out (by kernel_rfl)) (fun _ _ _ h=>h) (Or.inl ⟨rfl, ?_⟩) hHeld ?_ ?_; rotate_left
        ·rintro w' ⟨s0, s1, s2, s3, s4, s5, s6, s7, s8, s9⟩; go_simp; with_reducible rfl
        rotate_left
        ·simp only [q_, i64_w, i32_w]; rfl
        refine one_ (i:=15) (N:=some 52) ⟨m_ 26 65535⟩ rfl rfl (one_of HT_.out (by kernel_rfl)) (by decide) (fun K hK => ?_); refine goes_ Tryd.func27 (by kernel_rfl) rfl #[.agg #[.int .i64 a2_0, .int .u64 a2_1], .agg #[.int .i64 a0_0, .int .u64 a0_1]] (by rfl) rfl rfl (by (try simp only [List.map_toArray, List.map_cons, List.map_nil]); first | done | rfl | (simp only [List.length_drop, List.length_take]; rfl)) ?_; with_reducible refine (label_Below.calls a2_0 a2_1 a0_0 a0_1 true _ A114.out).mono ?_; rintro e w122 ⟨rfl, hb⟩; refine ⟨_, rfl, ?_⟩
        replace BK101 := bb_ BK101 hb; replace BK102 := bb_ BK102 hb; replace BK103 := bb_ BK103 hb; replace BK106 := bb_ BK106 hb; replace BK109 := bb_ BK109 hb; replace HB := bs_ HB hb; (try clear hb); (try clear hb2); (try clear hk); (try clear hi); refine hK.out _ _ ⟨bc_ BK101 0 rfl, bc_ BK101 1 rfl, bc_ BK103 0 rfl, bc_ BK103 1 rfl, bc_ BK102 0 rfl, bc_ BK102 1 rfl, bc_ BK106 0 rfl, bc_ BK106 1 rfl, bc_ BK109 0 rfl, bc_ BK109 1 rfl⟩ (fun hHeld => ?_); clear hK K; refine norm_ (a':=?_) ?_ ?_; rotate_left
        ·show Act.put _ (some 52) _ = _; simp only [q_, i64_w, i32_w]; rfl
        refine pure_ (i:=16) (N:=some 53) (v:=?_) (a':=?_) ⟨m_ 26 131071⟩ rfl rfl (any_of HT_.out (by kernel_rfl)) (fun _ _ _ h=>h) (Or.inl ⟨rfl, ?_⟩) ?_ ?_; rotate_left
        ·intro w'; go_simp; with_reducible rfl
        rotate_left
        ·simp only [q_, i64_w, i32_w]; rfl
        refine take_ (i:=17) (N:=some 54) (v:=?_) (a':=?_) ⟨m_ 26 262143⟩ rfl rfl (take_ofW HT_.out HW_.out (by kernel_rfl)) (fun _ _ _ h=>h) (Or.inl ⟨rfl, ?_⟩) hHeld ?_ ?_; rotate_left
        ·rintro w' ⟨s0, s1, s2, s3, s4, s5, s6, s7, s8, s9⟩; go_simp; with_reducible rfl
        rotate_left
        ·simp only [q_, i64_w, i32_w]; rfl
        refine take_ (i:=18) (N:=some 55) (v:=?_) (a':=?_) ⟨m_ 26 524287⟩ rfl rfl (take_ofW HT_.out HW_.out (by kernel_rfl)) (fun _ _ _ h=>h) (Or.inl ⟨rfl, ?_⟩) hHeld ?_ ?_; rotate_left
        ·rintro w' ⟨s0, s1, s2, s3, s4, s5, s6, s7, s8, s9⟩; go_simp; with_reducible rfl
        rotate_left
        ·simp only [q_, i64_w, i32_w]; rfl
        refine take_ (i:=20) (N:=some 57) (v:=?_) (a':=?_) ⟨m_ 26 1572863⟩ rfl rfl (take_ofW HT_.out HW_.out (by kernel_rfl)) (fun _ _ _ h=>h) (Or.inl ⟨rfl, ?_⟩) hHeld ?_ ?_; rotate_left
        ·rintro w' ⟨s0, s1, s2, s3, s4, s5, s6, s7, s8, s9⟩; go_simp; with_reducible rfl
        rotate_left
        ·simp only [q_, i64_w, i32_w]; rfl
        refine take_ (i:=21) (N:=some 58) (v:=?_) (a':=?_) ⟨m_ 26 3670015⟩ rfl rfl (take_ofW HT_.out HW_.out (by kernel_rfl)) (fun _ _ _ h=>h) (Or.inl ⟨rfl, ?_⟩) hHeld ?_ ?_; rotate_left
        ·rintro w' ⟨s0, s1, s2, s3, s4, s5, s6, s7, s8, s9⟩; go_simp; with_reducible rfl
        rotate_left
        ·simp only [q_, i64_w, i32_w]; rfl
        refine one_ (i:=19) (N:=some 56) ⟨m_ 26 4194303⟩ rfl rfl (one_of HT_.out (by kernel_rfl)) (by decide) (fun K hK => ?_); refine goes_ Tryd.func27 (by kernel_rfl) rfl #[.agg #[.int .i64 a2_0, .int .u64 a2_1], .agg #[.int .i64 a1_0, .int .u64 a1_1]] (by rfl) rfl rfl (by (try simp only [List.map_toArray, List.map_cons, List.map_nil]); first | done | rfl | (simp only [List.length_drop, List.length_take]; rfl)) ?_; with_reducible refine (label_Below.calls a2_0 a2_1 a1_0 a1_1 t118 _ A116.out).mono ?_; rintro e w123 ⟨rfl, hb⟩; refine ⟨_, rfl, ?_⟩
        replace BK101 := bb_ BK101 hb; replace BK102 := bb_ BK102 hb; replace BK103 := bb_ BK103 hb; replace BK106 := bb_ BK106 hb; replace BK109 := bb_ BK109 hb; replace HB := bs_ HB hb; (try clear hb); (try clear hb2); (try clear hk); (try clear hi); refine hK.out _ _ ⟨bc_ BK101 0 rfl, bc_ BK101 1 rfl, bc_ BK103 0 rfl, bc_ BK103 1 rfl, bc_ BK102 0 rfl, bc_ BK102 1 rfl, bc_ BK106 0 rfl, bc_ BK106 1 rfl, bc_ BK109 0 rfl, bc_ BK109 1 rfl⟩ (fun hHeld => ?_); clear hK K; refine norm_ (a':=?_) ?_ ?_; rotate_left
        ·show Act.put _ (some 56) _ = _; simp only [q_, i64_w, i32_w]; rfl
        refine one_ (i:=22) (N:=some 59) ⟨m_ 26 8388607⟩ rfl rfl (one_of HT_.out (by kernel_rfl)) (by decide) (fun K hK => ?_); refine goes_ Tryd.func27 (by kernel_rfl) rfl #[.agg #[.int .i64 a2_0, .int .u64 a2_1], .agg #[.int .i64 t107, .int .u64 t108]] (by rfl) rfl rfl (by (try simp only [List.map_toArray, List.map_cons, List.map_nil]); first | done | rfl | (simp only [List.length_drop, List.length_take]; rfl)) ?_; with_reducible refine (label_Below.calls a2_0 a2_1 t107 t108 t119 _ A117.out).mono ?_; rintro e w124 ⟨rfl, hb⟩; refine ⟨_, rfl, ?_⟩
        replace BK101 := bb_ BK101 hb; replace BK102 := bb_ BK102 hb; replace BK103 := bb_ BK103 hb; replace BK106 := bb_ BK106 hb; replace BK109 := bb_ BK109 hb; replace HB := bs_ HB hb; (try clear hb); (try clear hb2); (try clear hk); (try clear hi); refine hK.out _ _ ⟨bc_ BK101 0 rfl, bc_ BK101 1 rfl, bc_ BK103 0 rfl, bc_ BK103 1 rfl, bc_ BK102 0 rfl, bc_ BK102 1 rfl, bc_ BK106 0 rfl, bc_ BK106 1 rfl, bc_ BK109 0 rfl, bc_ BK109 1 rfl⟩ (fun hHeld => ?_); clear hK K; refine norm_ (a':=?_) ?_ ?_; rotate_left
        ·show Act.put _ (some 59) _ = _; simp only [q_, i64_w, i32_w]; rfl
        refine pure_ (i:=23) (N:=some 60) (v:=?_) (a':=?_) ⟨m_ 26 16777215⟩ rfl rfl (any_of HT_.out (by kernel_rfl)) (fun _ _ _ h=>h) (Or.inl ⟨rfl, ?_⟩) ?_ ?_; rotate_left
        ·intro w'; go_simp; with_reducible rfl
        rotate_left
        ·simp only [q_, i64_w, i32_w]; rfl
        refine pure_ (i:=24) (N:=some 61) (v:=?_) (a':=?_) ⟨m_ 26 33554431⟩ rfl rfl (any_of HT_.out (by kernel_rfl)) (fun _ _ _ h=>h) (Or.inl ⟨rfl, ?_⟩) ?_ ?_; rotate_left
        ·intro w'; go_simp; with_reducible rfl
        rotate_left
        ·simp only [q_, i64_w, i32_w]; rfl
        refine pure_ (i:=25) (N:=some 62) (v:=?_) (a':=?_) ⟨m_ 26 67108863⟩ rfl rfl (any_of HT_.out (by kernel_rfl)) (fun _ _ _ h=>h) (Or.inl ⟨rfl, ?_⟩) ?_ ?_; rotate_left
        ·intro w'; go_simp; with_reducible rfl
        rotate_left
        ·simp only [q_, i64_w, i32_w]; rfl
        refine done_ (done_of HT_.out (by kernel_rfl)) ?_
        try go_wp2
        go_meet
        case rel => exact ⟨_, ((t118 != t119)), (by first | rfl | (simp; done) | (simp [*]; done) | (cases t118 <;> simp; done) | (cases t119 <;> simp; done)), H', ⟨by have := HJ5.out; first | omega | exact Nat.le_refl _⟩, ⟨pkx BK101⟩, ⟨pkx BK102⟩, ⟨pkx BK103⟩, ⟨pkx BK106⟩, ⟨pkx BK109⟩, ⟨pbx HB⟩⟩
       ·replace c115 := Bool.eq_false_iff.mpr c115; subst c115
        have H1 : (oculuslaw02_LabelLattice.j1 kj5 false a0_0 a0_1 a1_0 a1_1 a2_0 a2_1 t104 t105 t107 t108) = some r := by rw [if_neg (show ¬ (false = true) by decide)] at H; exact H
        clear H; have H := H1; clear H1
        have H' := Aside0.mk H
        clear H
        try go_wp2
        (try (rw [drewN_self wc]; generalize hq_ : World.drewN wc _ = wc; have n0_ : Aside0 (wc.heap[gb101]? = some (.cells #[.int .i64 a0_0, .int .u64 a0_1] 24 (0, 0))) := ⟨by rw [← hq_]; exact (pkx BK101)⟩; have n1_ : Aside0 (wc.heap[gb102]? = some (.cells #[.int .i64 a1_0, .int .u64 a1_1] 24 (0, 0))) := ⟨by rw [← hq_]; exact (pkx BK102)⟩; have n2_ : Aside0 (wc.heap[gb103]? = some (.cells #[.int .i64 a2_0, .int .u64 a2_1] 24 (0, 0))) := ⟨by rw [← hq_]; exact (pkx BK103)⟩; have n3_ : Aside0 (wc.heap[gb106]? = some (.cells #[.int .i64 t104, .int .u64 t105] 24 (0, 0))) := ⟨by rw [← hq_]; exact (pkx BK106)⟩; have n4_ : Aside0 (wc.heap[gb109]? = some (.cells #[.int .i64 t107, .int .u64 t108] 24 (0, 0))) := ⟨by rw [← hq_]; exact (pkx BK109)⟩; have n5_ : Aside0 (Below w.heap.size w wc) := ⟨by rw [← hq_]; exact (pbx HB)⟩; clear BK101 BK102 BK103 BK106 BK109 HB hq_; have BK101 := n0_; have BK102 := n1_; have BK103 := n2_; have BK106 := n3_; have BK109 := n4_; have HB := n5_; clear n0_ n1_ n2_ n3_ n4_ n5_))
        replace BK101 := Aside0.mk (blk_drew BK101.out); replace BK102 := Aside0.mk (blk_drew BK102.out); replace BK103 := Aside0.mk (blk_drew BK103.out); replace BK106 := Aside0.mk (blk_drew BK106.out); replace BK109 := Aside0.mk (blk_drew BK109.out); replace HB := Aside0.mk (below_drew1 HB.out)
        refine start_ (n:=26) (S := fun w' => w'.cell? ⟨gb101, 0, none⟩ = some (.int .i64 a0_0) ∧ w'.cell? ⟨gb101, 1, none⟩ = some (.int .u64 a0_1) ∧ w'.cell? ⟨gb103, 0, none⟩ = some (.int .i64 a2_0) ∧ w'.cell? ⟨gb103, 1, none⟩ = some (.int .u64 a2_1) ∧ w'.cell? ⟨gb102, 0, none⟩ = some (.int .i64 a1_0) ∧ w'.cell? ⟨gb102, 1, none⟩ = some (.int .u64 a1_1) ∧ w'.cell? ⟨gb106, 0, none⟩ = some (.int .i64 t104) ∧ w'.cell? ⟨gb106, 1, none⟩ = some (.int .u64 t105)) (ds := []) #[F,F,F,F,F,F,F,F,F,F,F,F,F,F,F,F,F,F,F,F,F,F,F,F,F,F] (by kernel_rfl) rfl rfl ⟨bc_ BK101 0 rfl, bc_ BK101 1 rfl, bc_ BK103 0 rfl, bc_ BK103 1 rfl, bc_ BK102 0 rfl, bc_ BK102 1 rfl, bc_ BK106 0 rfl, bc_ BK106 1 rfl⟩ (fun hHeld => ?_); refine with_tabW oculuslaw02_LabelLattice.tab5 oculuslaw02_LabelLattice.bits5 (fun HT_ HW_ => ?_)
        generalize wc.drew = w125 at BK101 BK102 BK103 BK106 BK109 HB hHeld ⊢; refine take_ (i:=0) (N:=some 37) (v:=?_) (a':=?_) ⟨m_ 26 1⟩ rfl rfl (take_ofW HT_.out HW_.out (by kernel_rfl)) (fun _ _ _ h=>h) (Or.inl ⟨rfl, ?_⟩) hHeld ?_ ?_; rotate_left
        ·rintro w' ⟨s0, s1, s2, s3, s4, s5, s6, s7⟩; go_simp; with_reducible rfl
        rotate_left
        ·simp only [q_, i64_w, i32_w]; rfl
        refine take_ (i:=1) (N:=some 38) (v:=?_) (a':=?_) ⟨m_ 26 3⟩ rfl rfl (take_ofW HT_.out HW_.out (by kernel_rfl)) (fun _ _ _ h=>h) (Or.inl ⟨rfl, ?_⟩) hHeld ?_ ?_; rotate_left
        ·rintro w' ⟨s0, s1, s2, s3, s4, s5, s6, s7⟩; go_simp; with_reducible rfl
        rotate_left
        ·simp only [q_, i64_w, i32_w]; rfl
        refine one_ (i:=2) (N:=some 39) ⟨m_ 26 7⟩ rfl rfl (one_of HT_.out (by kernel_rfl)) (by decide) (fun K hK => ?_); refine goes_ Tryd.func27 (by kernel_rfl) rfl #[.agg #[.int .i64 a0_0, .int .u64 a0_1], .agg #[.int .i64 a2_0, .int .u64 a2_1]] (by rfl) rfl rfl (by (try simp only [List.map_toArray, List.map_cons, List.map_nil]); first | done | rfl | (simp only [List.length_drop, List.length_take]; rfl)) ?_; with_reducible refine (label_Below.calls a0_0 a0_1 a2_0 a2_1 true _ A105.out).mono ?_; rintro e w126 ⟨rfl, hb⟩; refine ⟨_, rfl, ?_⟩
        replace BK101 := bb_ BK101 hb; replace BK102 := bb_ BK102 hb; replace BK103 := bb_ BK103 hb; replace BK106 := bb_ BK106 hb; replace BK109 := bb_ BK109 hb; replace HB := bs_ HB hb; (try clear hb); (try clear hb2); (try clear hk); (try clear hi); refine hK.out _ _ ⟨bc_ BK101 0 rfl, bc_ BK101 1 rfl, bc_ BK103 0 rfl, bc_ BK103 1 rfl, bc_ BK102 0 rfl, bc_ BK102 1 rfl, bc_ BK106 0 rfl, bc_ BK106 1 rfl⟩ (fun hHeld => ?_); clear hK K; refine norm_ (a':=?_) ?_ ?_; rotate_left
        ·show Act.put _ (some 39) _ = _; simp only [q_, i64_w, i32_w]; rfl
        refine pure_ (i:=3) (N:=some 40) (v:=?_) (a':=?_) ⟨m_ 26 15⟩ rfl rfl (any_of HT_.out (by kernel_rfl)) (fun _ _ _ h=>h) (Or.inl ⟨rfl, ?_⟩) ?_ ?_; rotate_left
        ·intro w'; go_simp; with_reducible rfl
        rotate_left
        ·simp only [q_, i64_w, i32_w]; rfl
        refine take_ (i:=4) (N:=some 41) (v:=?_) (a':=?_) ⟨m_ 26 31⟩ rfl rfl (take_ofW HT_.out HW_.out (by kernel_rfl)) (fun _ _ _ h=>h) (Or.inl ⟨rfl, ?_⟩) hHeld ?_ ?_; rotate_left
        ·rintro w' ⟨s0, s1, s2, s3, s4, s5, s6, s7⟩; go_simp; with_reducible rfl
        rotate_left
        ·simp only [q_, i64_w, i32_w]; rfl
        refine take_ (i:=5) (N:=some 42) (v:=?_) (a':=?_) ⟨m_ 26 63⟩ rfl rfl (take_ofW HT_.out HW_.out (by kernel_rfl)) (fun _ _ _ h=>h) (Or.inl ⟨rfl, ?_⟩) hHeld ?_ ?_; rotate_left
        ·rintro w' ⟨s0, s1, s2, s3, s4, s5, s6, s7⟩; go_simp; with_reducible rfl
        rotate_left
        ·simp only [q_, i64_w, i32_w]; rfl
        refine take_ (i:=7) (N:=some 44) (v:=?_) (a':=?_) ⟨m_ 26 191⟩ rfl rfl (take_ofW HT_.out HW_.out (by kernel_rfl)) (fun _ _ _ h=>h) (Or.inl ⟨rfl, ?_⟩) hHeld ?_ ?_; rotate_left
        ·rintro w' ⟨s0, s1, s2, s3, s4, s5, s6, s7⟩; go_simp; with_reducible rfl
        rotate_left
        ·simp only [q_, i64_w, i32_w]; rfl
        refine take_ (i:=8) (N:=some 45) (v:=?_) (a':=?_) ⟨m_ 26 447⟩ rfl rfl (take_ofW HT_.out HW_.out (by kernel_rfl)) (fun _ _ _ h=>h) (Or.inl ⟨rfl, ?_⟩) hHeld ?_ ?_; rotate_left
        ·rintro w' ⟨s0, s1, s2, s3, s4, s5, s6, s7⟩; go_simp; with_reducible rfl
        rotate_left
        ·simp only [q_, i64_w, i32_w]; rfl
        refine one_ (i:=6) (N:=some 43) ⟨m_ 26 511⟩ rfl rfl (one_of HT_.out (by kernel_rfl)) (by decide) (fun K hK => ?_); refine goes_ Tryd.func27 (by kernel_rfl) rfl #[.agg #[.int .i64 a1_0, .int .u64 a1_1], .agg #[.int .i64 a2_0, .int .u64 a2_1]] (by rfl) rfl rfl (by (try simp only [List.map_toArray, List.map_cons, List.map_nil]); first | done | rfl | (simp only [List.length_drop, List.length_take]; rfl)) ?_; with_reducible refine (label_Below.calls a1_0 a1_1 a2_0 a2_1 t115 _ A107.out).mono ?_; rintro e w127 ⟨rfl, hb⟩; refine ⟨_, rfl, ?_⟩
        replace BK101 := bb_ BK101 hb; replace BK102 := bb_ BK102 hb; replace BK103 := bb_ BK103 hb; replace BK106 := bb_ BK106 hb; replace BK109 := bb_ BK109 hb; replace HB := bs_ HB hb; (try clear hb); (try clear hb2); (try clear hk); (try clear hi); refine hK.out _ _ ⟨bc_ BK101 0 rfl, bc_ BK101 1 rfl, bc_ BK103 0 rfl, bc_ BK103 1 rfl, bc_ BK102 0 rfl, bc_ BK102 1 rfl, bc_ BK106 0 rfl, bc_ BK106 1 rfl⟩ (fun hHeld => ?_); clear hK K; refine norm_ (a':=?_) ?_ ?_; rotate_left
        ·show Act.put _ (some 43) _ = _; simp only [q_, i64_w, i32_w]; rfl
        refine one_ (i:=9) (N:=some 46) ⟨m_ 26 1023⟩ rfl rfl (one_of HT_.out (by kernel_rfl)) (by decide) (fun K hK => ?_); refine goes_ Tryd.func27 (by kernel_rfl) rfl #[.agg #[.int .i64 t104, .int .u64 t105], .agg #[.int .i64 a2_0, .int .u64 a2_1]] (by rfl) rfl rfl (by (try simp only [List.map_toArray, List.map_cons, List.map_nil]); first | done | rfl | (simp only [List.length_drop, List.length_take]; rfl)) ?_; with_reducible refine (label_Below.calls t104 t105 a2_0 a2_1 t116 _ A108.out).mono ?_; rintro e w128 ⟨rfl, hb⟩; refine ⟨_, rfl, ?_⟩
        replace BK101 := bb_ BK101 hb; replace BK102 := bb_ BK102 hb; replace BK103 := bb_ BK103 hb; replace BK106 := bb_ BK106 hb; replace BK109 := bb_ BK109 hb; replace HB := bs_ HB hb; (try clear hb); (try clear hb2); (try clear hk); (try clear hi); refine hK.out _ _ ⟨bc_ BK101 0 rfl, bc_ BK101 1 rfl, bc_ BK103 0 rfl, bc_ BK103 1 rfl, bc_ BK102 0 rfl, bc_ BK102 1 rfl, bc_ BK106 0 rfl, bc_ BK106 1 rfl⟩ (fun hHeld => ?_); clear hK K; refine norm_ (a':=?_) ?_ ?_; rotate_left
        ·show Act.put _ (some 46) _ = _; simp only [q_, i64_w, i32_w]; rfl
        refine pure_ (i:=10) (N:=some 47) (v:=?_) (a':=?_) ⟨m_ 26 2047⟩ rfl rfl (any_of HT_.out (by kernel_rfl)) (fun _ _ _ h=>h) (Or.inl ⟨rfl, ?_⟩) ?_ ?_; rotate_left
        ·intro w'; go_simp; with_reducible rfl
        rotate_left
        ·simp only [q_, i64_w, i32_w]; rfl
        refine pure_ (i:=11) (N:=some 48) (v:=?_) (a':=?_) ⟨m_ 26 4095⟩ rfl rfl (any_of HT_.out (by kernel_rfl)) (fun _ _ _ h=>h) (Or.inl ⟨rfl, ?_⟩) ?_ ?_; rotate_left
        ·intro w'; go_simp; with_reducible rfl
        rotate_left
        ·simp only [q_, i64_w, i32_w]; rfl
        refine pure_ (i:=12) (N:=some 49) (v:=?_) (a':=?_) ⟨m_ 26 8191⟩ rfl rfl (any_of HT_.out (by kernel_rfl)) (fun _ _ _ h=>h) (Or.inl ⟨rfl, ?_⟩) ?_ ?_; rotate_left
        ·intro w'; go_simp; with_reducible rfl
        rotate_left
        ·simp only [q_, i64_w, i32_w]; rfl
        refine take_ (i:=13) (N:=some 50) (v:=?_) (a':=?_) ⟨m_ 26 16383⟩ rfl rfl (take_ofW HT_.out HW_.out (by kernel_rfl)) (fun _ _ _ h=>h) (Or.inl ⟨rfl, ?_⟩) hHeld ?_ ?_; rotate_left
        ·rintro w' ⟨s0, s1, s2, s3, s4, s5, s6, s7⟩; go_simp; with_reducible rfl
        rotate_left
        ·simp only [q_, i64_w, i32_w]; rfl
        refine take_ (i:=14) (N:=some 51) (v:=?_) (a':=?_) ⟨m_ 26 32767⟩ rfl rfl (take_ofW HT_.out HW_.out (by kernel_rfl)) (fun _ _ _ h=>h) (Or.inl ⟨rfl, ?_⟩) hHeld ?_ ?_; rotate_left
        ·rintro w' ⟨s0, s1, s2, s3, s4, s5, s6, s7⟩; go_simp; with_reducible rfl
        rotate_left
        ·simp only [q_, i64_w, i32_w]; rfl
        refine one_ (i:=15) (N:=some 52) ⟨m_ 26 65535⟩ rfl rfl (one_of HT_.out (by kernel_rfl)) (by decide) (fun K hK => ?_); refine goes_ Tryd.func27 (by kernel_rfl) rfl #[.agg #[.int .i64 a2_0, .int .u64 a2_1], .agg #[.int .i64 a0_0, .int .u64 a0_1]] (by rfl) rfl rfl (by (try simp only [List.map_toArray, List.map_cons, List.map_nil]); first | done | rfl | (simp only [List.length_drop, List.length_take]; rfl)) ?_; with_reducible refine (label_Below.calls a2_0 a2_1 a0_0 a0_1 false _ A114.out).mono ?_; rintro e w129 ⟨rfl, hb⟩; refine ⟨_, rfl, ?_⟩
        replace BK101 := bb_ BK101 hb; replace BK102 := bb_ BK102 hb; replace BK103 := bb_ BK103 hb; replace BK106 := bb_ BK106 hb; replace BK109 := bb_ BK109 hb; replace HB := bs_ HB hb; (try clear hb); (try clear hb2); (try clear hk); (try clear hi); refine hK.out _ _ ⟨bc_ BK101 0 rfl, bc_ BK101 1 rfl, bc_ BK103 0 rfl, bc_ BK103 1 rfl, bc_ BK102 0 rfl, bc_ BK102 1 rfl, bc_ BK106 0 rfl, bc_ BK106 1 rfl⟩ (fun hHeld => ?_); clear hK K; refine norm_ (a':=?_) ?_ ?_; rotate_left
        ·show Act.put _ (some 52) _ = _; simp only [q_, i64_w, i32_w]; rfl
        refine pure_ (i:=16) (N:=some 53) (v:=?_) (a':=?_) ⟨m_ 26 131071⟩ rfl rfl (any_of HT_.out (by kernel_rfl)) (fun _ _ _ h=>h) (Or.inl ⟨rfl, ?_⟩) ?_ ?_; rotate_left
        ·intro w'; go_simp; with_reducible rfl
        rotate_left
        ·simp only [q_, i64_w, i32_w]; rfl
        refine pure_ (i:=17) (N:=some 54) (v:=undef) (a':=?_) ⟨m_ 26 262143⟩ rfl rfl (any_of HT_.out (by kernel_rfl)) (fun _ _ _ h=>h) (Or.inr ⟨by rfl, rfl⟩) ?_ ?_; rotate_left
        ·simp only [q_, i64_w, i32_w]; rfl
        refine pure_ (i:=18) (N:=some 55) (v:=undef) (a':=?_) ⟨m_ 26 524287⟩ rfl rfl (any_of HT_.out (by kernel_rfl)) (fun _ _ _ h=>h) (Or.inr ⟨by rfl, rfl⟩) ?_ ?_; rotate_left
        ·simp only [q_, i64_w, i32_w]; rfl
        refine pure_ (i:=19) (N:=some 56) (v:=undef) (a':=?_) ⟨m_ 26 1048575⟩ rfl rfl (any_of HT_.out (by kernel_rfl)) (fun _ _ _ h=>h) (Or.inr ⟨by rfl, rfl⟩) ?_ ?_; rotate_left
        ·simp only [q_, i64_w, i32_w]; rfl
        refine pure_ (i:=20) (N:=some 57) (v:=undef) (a':=?_) ⟨m_ 26 2097151⟩ rfl rfl (any_of HT_.out (by kernel_rfl)) (fun _ _ _ h=>h) (Or.inr ⟨by rfl, rfl⟩) ?_ ?_; rotate_left
        ·simp only [q_, i64_w, i32_w]; rfl
        refine pure_ (i:=21) (N:=some 58) (v:=undef) (a':=?_) ⟨m_ 26 4194303⟩ rfl rfl (any_of HT_.out (by kernel_rfl)) (fun _ _ _ h=>h) (Or.inr ⟨by rfl, rfl⟩) ?_ ?_; rotate_left
        ·simp only [q_, i64_w, i32_w]; rfl
        refine pure_ (i:=22) (N:=some 59) (v:=undef) (a':=?_) ⟨m_ 26 8388607⟩ rfl rfl (any_of HT_.out (by kernel_rfl)) (fun _ _ _ h=>h) (Or.inr ⟨by rfl, rfl⟩) ?_ ?_; rotate_left
        ·simp only [q_, i64_w, i32_w]; rfl
        refine pure_ (i:=23) (N:=some 60) (v:=undef) (a':=?_) ⟨m_ 26 16777215⟩ rfl rfl (any_of HT_.out (by kernel_rfl)) (fun _ _ _ h=>h) (Or.inr ⟨by rfl, rfl⟩) ?_ ?_; rotate_left
        ·simp only [q_, i64_w, i32_w]; rfl
        refine pure_ (i:=24) (N:=some 61) (v:=?_) (a':=?_) ⟨m_ 26 33554431⟩ rfl rfl (any_of HT_.out (by kernel_rfl)) (fun _ _ _ h=>h) (Or.inl ⟨rfl, ?_⟩) ?_ ?_; rotate_left
        ·intro w'; go_simp; with_reducible rfl
        rotate_left
        ·simp only [q_, i64_w, i32_w]; rfl
        refine pure_ (i:=25) (N:=some 62) (v:=?_) (a':=?_) ⟨m_ 26 67108863⟩ rfl rfl (any_of HT_.out (by kernel_rfl)) (fun _ _ _ h=>h) (Or.inl ⟨rfl, ?_⟩) ?_ ?_; rotate_left
        ·intro w'; go_simp; with_reducible rfl
        rotate_left
        ·simp only [q_, i64_w, i32_w]; rfl
        refine done_ (done_of HT_.out (by kernel_rfl)) ?_
        try go_wp2
        go_meet
        case rel => exact ⟨_, (false), (by first | rfl | (simp; done) | (simp [*]; done)), H', ⟨by have := HJ5.out; first | omega | exact Nat.le_refl _⟩, ⟨pkx BK101⟩, ⟨pkx BK102⟩, ⟨pkx BK103⟩, ⟨pkx BK106⟩, ⟨pkx BK109⟩, ⟨pbx HB⟩⟩
     ·replace c106 := Bool.eq_false_iff.mpr c106; subst c106
      have H1 : ((label_Below.f a2_0 a2_1 a0_0 a0_1).bind fun t120 => (if t120 = true then ((label_Below.f a2_0 a2_1 a1_0 a1_1).bind fun t121 => ((label_Below.f a2_0 a2_1 t107 t108).bind fun t122 => (oculuslaw02_LabelLattice.j1 kj5 (t121 != t122) a0_0 a0_1 a1_0 a1_1 a2_0 a2_1 t104 t105 t107 t108))) else (oculuslaw02_LabelLattice.j1 kj5 false a0_0 a0_1 a1_0 a1_1 a2_0 a2_1 t104 t105 t107 t108))) = some r := by rw [if_neg (show ¬ (false = true) by decide)] at H; exact H
      clear H; have H := H1; clear H1; replace H := Option.bind_eq_some_iff.mp H; obtain ⟨t120, A1300, H⟩ := H
      replace H : (if t120 = true then ((label_Below.f a2_0 a2_1 a1_0 a1_1).bind fun t121 => ((label_Below.f a2_0 a2_1 t107 t108).bind fun t122 => (oculuslaw02_LabelLattice.j1 kj5 (t121 != t122) a0_0 a0_1 a1_0 a1_1 a2_0 a2_1 t104 t105 t107 t108))) else (oculuslaw02_LabelLattice.j1 kj5 false a0_0 a0_1 a1_0 a1_1 a2_0 a2_1 t104 t105 t107 t108)) = some r := H
      have A130 := Aside0.mk A1300; clear A1300
      by_cases c131 : t120 = true
      ·subst c131
       have H1 : ((label_Below.f a2_0 a2_1 a1_0 a1_1).bind fun t121 => ((label_Below.f a2_0 a2_1 t107 t108).bind fun t122 => (oculuslaw02_LabelLattice.j1 kj5 (t121 != t122) a0_0 a0_1 a1_0 a1_1 a2_0 a2_1 t104 t105 t107 t108))) = some r := by rw [if_pos rfl] at H; exact H
       clear H; have H := H1; clear H1; replace H := Option.bind_eq_some_iff.mp H; obtain ⟨t121, A1320, H⟩ := H
       replace H : ((label_Below.f a2_0 a2_1 t107 t108).bind fun t122 => (oculuslaw02_LabelLattice.j1 kj5 (t121 != t122) a0_0 a0_1 a1_0 a1_1 a2_0 a2_1 t104 t105 t107 t108)) = some r := H
       have A132 := Aside0.mk A1320; clear A1320; replace H := Option.bind_eq_some_iff.mp H; obtain ⟨t122, A1330, H⟩ := H
       replace H : (oculuslaw02_LabelLattice.j1 kj5 (t121 != t122) a0_0 a0_1 a1_0 a1_1 a2_0 a2_1 t104 t105 t107 t108) = some r := H
       have A133 := Aside0.mk A1330; clear A1330
       have H' := Aside0.mk H
       clear H
       try go_wp2
       (try (rw [drewN_self wc]; generalize hq_ : World.drewN wc _ = wc; have n0_ : Aside0 (wc.heap[gb101]? = some (.cells #[.int .i64 a0_0, .int .u64 a0_1] 24 (0, 0))) := ⟨by rw [← hq_]; exact (pkx BK101)⟩; have n1_ : Aside0 (wc.heap[gb102]? = some (.cells #[.int .i64 a1_0, .int .u64 a1_1] 24 (0, 0))) := ⟨by rw [← hq_]; exact (pkx BK102)⟩; have n2_ : Aside0 (wc.heap[gb103]? = some (.cells #[.int .i64 a2_0, .int .u64 a2_1] 24 (0, 0))) := ⟨by rw [← hq_]; exact (pkx BK103)⟩; have n3_ : Aside0 (wc.heap[gb106]? = some (.cells #[.int .i64 t104, .int .u64 t105] 24 (0, 0))) := ⟨by rw [← hq_]; exact (pkx BK106)⟩; have n4_ : Aside0 (wc.heap[gb109]? = some (.cells #[.int .i64 t107, .int .u64 t108] 24 (0, 0))) := ⟨by rw [← hq_]; exact (pkx BK109)⟩; have n5_ : Aside0 (Below w.heap.size w wc) := ⟨by rw [← hq_]; exact (pbx HB)⟩; clear BK101 BK102 BK103 BK106 BK109 HB hq_; have BK101 := n0_; have BK102 := n1_; have BK103 := n2_; have BK106 := n3_; have BK109 := n4_; have HB := n5_; clear n0_ n1_ n2_ n3_ n4_ n5_))
       replace BK101 := Aside0.mk (blk_drew BK101.out); replace BK102 := Aside0.mk (blk_drew BK102.out); replace BK103 := Aside0.mk (blk_drew BK103.out); replace BK106 := Aside0.mk (blk_drew BK106.out); replace BK109 := Aside0.mk (blk_drew BK109.out); replace HB := Aside0.mk (below_drew1 HB.out)
       refine start_ (n:=26) (S := fun w' => w'.cell? ⟨gb101, 0, none⟩ = some (.int .i64 a0_0) ∧ w'.cell? ⟨gb101, 1, none⟩ = some (.int .u64 a0_1) ∧ w'.cell? ⟨gb103, 0, none⟩ = some (.int .i64 a2_0) ∧ w'.cell? ⟨gb103, 1, none⟩ = some (.int .u64 a2_1) ∧ w'.cell? ⟨gb102, 0, none⟩ = some (.int .i64 a1_0) ∧ w'.cell? ⟨gb102, 1, none⟩ = some (.int .u64 a1_1) ∧ w'.cell? ⟨gb109, 0, none⟩ = some (.int .i64 t107) ∧ w'.cell? ⟨gb109, 1, none⟩ = some (.int .u64 t108)) (ds := []) #[F,F,F,F,F,F,F,F,F,F,F,F,F,F,F,F,F,F,F,F,F,F,F,F,F,F] (by kernel_rfl) rfl rfl ⟨bc_ BK101 0 rfl, bc_ BK101 1 rfl, bc_ BK103 0 rfl, bc_ BK103 1 rfl, bc_ BK102 0 rfl, bc_ BK102 1 rfl, bc_ BK109 0 rfl, bc_ BK109 1 rfl⟩ (fun hHeld => ?_); refine with_tabW oculuslaw02_LabelLattice.tab5 oculuslaw02_LabelLattice.bits5 (fun HT_ HW_ => ?_)
       generalize wc.drew = w134 at BK101 BK102 BK103 BK106 BK109 HB hHeld ⊢; refine take_ (i:=0) (N:=some 37) (v:=?_) (a':=?_) ⟨m_ 26 1⟩ rfl rfl (take_ofW HT_.out HW_.out (by kernel_rfl)) (fun _ _ _ h=>h) (Or.inl ⟨rfl, ?_⟩) hHeld ?_ ?_; rotate_left
       ·rintro w' ⟨s0, s1, s2, s3, s4, s5, s6, s7⟩; go_simp; with_reducible rfl
       rotate_left
       ·simp only [q_, i64_w, i32_w]; rfl
       refine take_ (i:=1) (N:=some 38) (v:=?_) (a':=?_) ⟨m_ 26 3⟩ rfl rfl (take_ofW HT_.out HW_.out (by kernel_rfl)) (fun _ _ _ h=>h) (Or.inl ⟨rfl, ?_⟩) hHeld ?_ ?_; rotate_left
       ·rintro w' ⟨s0, s1, s2, s3, s4, s5, s6, s7⟩; go_simp; with_reducible rfl
       rotate_left
       ·simp only [q_, i64_w, i32_w]; rfl
       refine one_ (i:=2) (N:=some 39) ⟨m_ 26 7⟩ rfl rfl (one_of HT_.out (by kernel_rfl)) (by decide) (fun K hK => ?_); refine goes_ Tryd.func27 (by kernel_rfl) rfl #[.agg #[.int .i64 a0_0, .int .u64 a0_1], .agg #[.int .i64 a2_0, .int .u64 a2_1]] (by rfl) rfl rfl (by (try simp only [List.map_toArray, List.map_cons, List.map_nil]); first | done | rfl | (simp only [List.length_drop, List.length_take]; rfl)) ?_; with_reducible refine (label_Below.calls a0_0 a0_1 a2_0 a2_1 false _ A105.out).mono ?_; rintro e w135 ⟨rfl, hb⟩; refine ⟨_, rfl, ?_⟩
       replace BK101 := bb_ BK101 hb; replace BK102 := bb_ BK102 hb; replace BK103 := bb_ BK103 hb; replace BK106 := bb_ BK106 hb; replace BK109 := bb_ BK109 hb; replace HB := bs_ HB hb; (try clear hb); (try clear hb2); (try clear hk); (try clear hi); refine hK.out _ _ ⟨bc_ BK101 0 rfl, bc_ BK101 1 rfl, bc_ BK103 0 rfl, bc_ BK103 1 rfl, bc_ BK102 0 rfl, bc_ BK102 1 rfl, bc_ BK109 0 rfl, bc_ BK109 1 rfl⟩ (fun hHeld => ?_); clear hK K; refine norm_ (a':=?_) ?_ ?_; rotate_left
       ·show Act.put _ (some 39) _ = _; simp only [q_, i64_w, i32_w]; rfl
       refine pure_ (i:=3) (N:=some 40) (v:=?_) (a':=?_) ⟨m_ 26 15⟩ rfl rfl (any_of HT_.out (by kernel_rfl)) (fun _ _ _ h=>h) (Or.inl ⟨rfl, ?_⟩) ?_ ?_; rotate_left
       ·intro w'; go_simp; with_reducible rfl
       rotate_left
       ·simp only [q_, i64_w, i32_w]; rfl
       refine pure_ (i:=4) (N:=some 41) (v:=undef) (a':=?_) ⟨m_ 26 31⟩ rfl rfl (any_of HT_.out (by kernel_rfl)) (fun _ _ _ h=>h) (Or.inr ⟨by rfl, rfl⟩) ?_ ?_; rotate_left
       ·simp only [q_, i64_w, i32_w]; rfl
       refine pure_ (i:=5) (N:=some 42) (v:=undef) (a':=?_) ⟨m_ 26 63⟩ rfl rfl (any_of HT_.out (by kernel_rfl)) (fun _ _ _ h=>h) (Or.inr ⟨by rfl, rfl⟩) ?_ ?_; rotate_left
       ·simp only [q_, i64_w, i32_w]; rfl
       refine pure_ (i:=6) (N:=some 43) (v:=undef) (a':=?_) ⟨m_ 26 127⟩ rfl rfl (any_of HT_.out (by kernel_rfl)) (fun _ _ _ h=>h) (Or.inr ⟨by rfl, rfl⟩) ?_ ?_; rotate_left
       ·simp only [q_, i64_w, i32_w]; rfl
       refine pure_ (i:=7) (N:=some 44) (v:=undef) (a':=?_) ⟨m_ 26 255⟩ rfl rfl (any_of HT_.out (by kernel_rfl)) (fun _ _ _ h=>h) (Or.inr ⟨by rfl, rfl⟩) ?_ ?_; rotate_left
       ·simp only [q_, i64_w, i32_w]; rfl
       refine pure_ (i:=8) (N:=some 45) (v:=undef) (a':=?_) ⟨m_ 26 511⟩ rfl rfl (any_of HT_.out (by kernel_rfl)) (fun _ _ _ h=>h) (Or.inr ⟨by rfl, rfl⟩) ?_ ?_; rotate_left
       ·simp only [q_, i64_w, i32_w]; rfl
       refine pure_ (i:=9) (N:=some 46) (v:=undef) (a':=?_) ⟨m_ 26 1023⟩ rfl rfl (any_of HT_.out (by kernel_rfl)) (fun _ _ _ h=>h) (Or.inr ⟨by rfl, rfl⟩) ?_ ?_; rotate_left
       ·simp only [q_, i64_w, i32_w]; rfl
       refine pure_ (i:=10) (N:=some 47) (v:=undef) (a':=?_) ⟨m_ 26 2047⟩ rfl rfl (any_of HT_.out (by kernel_rfl)) (fun _ _ _ h=>h) (Or.inr ⟨by rfl, rfl⟩) ?_ ?_; rotate_left
       ·simp only [q_, i64_w, i32_w]; rfl
       refine pure_ (i:=11) (N:=some 48) (v:=?_) (a':=?_) ⟨m_ 26 4095⟩ rfl rfl (any_of HT_.out (by kernel_rfl)) (fun _ _ _ h=>h) (Or.inl ⟨rfl, ?_⟩) ?_ ?_; rotate_left
       ·intro w'; go_simp; with_reducible rfl
       rotate_left
       ·simp only [q_, i64_w, i32_w]; rfl
       refine pure_ (i:=12) (N:=some 49) (v:=?_) (a':=?_) ⟨m_ 26 8191⟩ rfl rfl (any_of HT_.out (by kernel_rfl)) (fun _ _ _ h=>h) (Or.inl ⟨rfl, ?_⟩) ?_ ?_; rotate_left
       ·intro w'; go_simp; with_reducible rfl
       rotate_left
       ·simp only [q_, i64_w, i32_w]; rfl
       refine take_ (i:=13) (N:=some 50) (v:=?_) (a':=?_) ⟨m_ 26 16383⟩ rfl rfl (take_ofW HT_.out HW_.out (by kernel_rfl)) (fun _ _ _ h=>h) (Or.inl ⟨rfl, ?_⟩) hHeld ?_ ?_; rotate_left
       ·rintro w' ⟨s0, s1, s2, s3, s4, s5, s6, s7⟩; go_simp; with_reducible rfl
       rotate_left
       ·simp only [q_, i64_w, i32_w]; rfl
       refine take_ (i:=14) (N:=some 51) (v:=?_) (a':=?_) ⟨m_ 26 32767⟩ rfl rfl (take_ofW HT_.out HW_.out (by kernel_rfl)) (fun _ _ _ h=>h) (Or.inl ⟨rfl, ?_⟩) hHeld ?_ ?_; rotate_left
       ·rintro w' ⟨s0, s1, s2, s3, s4, s5, s6, s7⟩; go_simp; with_reducible rfl
       rotate_left
       ·simp only [q_, i64_w, i32_w]; rfl
       refine one_ (i:=15) (N:=some 52) ⟨m_ 26 65535⟩ rfl rfl (one_of HT_.out (by kernel_rfl)) (by decide) (fun K hK => ?_); refine goes_ Tryd.func27 (by kernel_rfl) rfl #[.agg #[.int .i64 a2_0, .int .u64 a2_1], .agg #[.int .i64 a0_0, .int .u64 a0_1]] (by rfl) rfl rfl (by (try simp only [List.map_toArray, List.map_cons, List.map_nil]); first | done | rfl | (simp only [List.length_drop, List.length_take]; rfl)) ?_; with_reducible refine (label_Below.calls a2_0 a2_1 a0_0 a0_1 true _ A130.out).mono ?_; rintro e w136 ⟨rfl, hb⟩; refine ⟨_, rfl, ?_⟩
       replace BK101 := bb_ BK101 hb; replace BK102 := bb_ BK102 hb; replace BK103 := bb_ BK103 hb; replace BK106 := bb_ BK106 hb; replace BK109 := bb_ BK109 hb; replace HB := bs_ HB hb; (try clear hb); (try clear hb2); (try clear hk); (try clear hi); refine hK.out _ _ ⟨bc_ BK101 0 rfl, bc_ BK101 1 rfl, bc_ BK103 0 rfl, bc_ BK103 1 rfl, bc_ BK102 0 rfl, bc_ BK102 1 rfl, bc_ BK109 0 rfl, bc_ BK109 1 rfl⟩ (fun hHeld => ?_); clear hK K; refine norm_ (a':=?_) ?_ ?_; rotate_left
       ·show Act.put _ (some 52) _ = _; simp only [q_, i64_w, i32_w]; rfl
       refine pure_ (i:=16) (N:=some 53) (v:=?_) (a':=?_) ⟨m_ 26 131071⟩ rfl rfl (any_of HT_.out (by kernel_rfl)) (fun _ _ _ h=>h) (Or.inl ⟨rfl, ?_⟩) ?_ ?_; rotate_left
       ·intro w'; go_simp; with_reducible rfl
       rotate_left
       ·simp only [q_, i64_w, i32_w]; rfl
       refine take_ (i:=17) (N:=some 54) (v:=?_) (a':=?_) ⟨m_ 26 262143⟩ rfl rfl (take_ofW HT_.out HW_.out (by kernel_rfl)) (fun _ _ _ h=>h) (Or.inl ⟨rfl, ?_⟩) hHeld ?_ ?_; rotate_left
       ·rintro w' ⟨s0, s1, s2, s3, s4, s5, s6, s7⟩; go_simp; with_reducible rfl
       rotate_left
       ·simp only [q_, i64_w, i32_w]; rfl
       refine take_ (i:=18) (N:=some 55) (v:=?_) (a':=?_) ⟨m_ 26 524287⟩ rfl rfl (take_ofW HT_.out HW_.out (by kernel_rfl)) (fun _ _ _ h=>h) (Or.inl ⟨rfl, ?_⟩) hHeld ?_ ?_; rotate_left
       ·rintro w' ⟨s0, s1, s2, s3, s4, s5, s6, s7⟩; go_simp; with_reducible rfl
       rotate_left
       ·simp only [q_, i64_w, i32_w]; rfl
       refine take_ (i:=20) (N:=some 57) (v:=?_) (a':=?_) ⟨m_ 26 1572863⟩ rfl rfl (take_ofW HT_.out HW_.out (by kernel_rfl)) (fun _ _ _ h=>h) (Or.inl ⟨rfl, ?_⟩) hHeld ?_ ?_; rotate_left
       ·rintro w' ⟨s0, s1, s2, s3, s4, s5, s6, s7⟩; go_simp; with_reducible rfl
       rotate_left
       ·simp only [q_, i64_w, i32_w]; rfl
       refine take_ (i:=21) (N:=some 58) (v:=?_) (a':=?_) ⟨m_ 26 3670015⟩ rfl rfl (take_ofW HT_.out HW_.out (by kernel_rfl)) (fun _ _ _ h=>h) (Or.inl ⟨rfl, ?_⟩) hHeld ?_ ?_; rotate_left
       ·rintro w' ⟨s0, s1, s2, s3, s4, s5, s6, s7⟩; go_simp; with_reducible rfl
       rotate_left
       ·simp only [q_, i64_w, i32_w]; rfl
       refine one_ (i:=19) (N:=some 56) ⟨m_ 26 4194303⟩ rfl rfl (one_of HT_.out (by kernel_rfl)) (by decide) (fun K hK => ?_); refine goes_ Tryd.func27 (by kernel_rfl) rfl #[.agg #[.int .i64 a2_0, .int .u64 a2_1], .agg #[.int .i64 a1_0, .int .u64 a1_1]] (by rfl) rfl rfl (by (try simp only [List.map_toArray, List.map_cons, List.map_nil]); first | done | rfl | (simp only [List.length_drop, List.length_take]; rfl)) ?_; with_reducible refine (label_Below.calls a2_0 a2_1 a1_0 a1_1 t121 _ A132.out).mono ?_; rintro e w137 ⟨rfl, hb⟩; refine ⟨_, rfl, ?_⟩
       replace BK101 := bb_ BK101 hb; replace BK102 := bb_ BK102 hb; replace BK103 := bb_ BK103 hb; replace BK106 := bb_ BK106 hb; replace BK109 := bb_ BK109 hb; replace HB := bs_ HB hb; (try clear hb); (try clear hb2); (try clear hk); (try clear hi); refine hK.out _ _ ⟨bc_ BK101 0 rfl, bc_ BK101 1 rfl, bc_ BK103 0 rfl, bc_ BK103 1 rfl, bc_ BK102 0 rfl, bc_ BK102 1 rfl, bc_ BK109 0 rfl, bc_ BK109 1 rfl⟩ (fun hHeld => ?_); clear hK K; refine norm_ (a':=?_) ?_ ?_; rotate_left
       ·show Act.put _ (some 56) _ = _; simp only [q_, i64_w, i32_w]; rfl
       refine one_ (i:=22) (N:=some 59) ⟨m_ 26 8388607⟩ rfl rfl (one_of HT_.out (by kernel_rfl)) (by decide) (fun K hK => ?_); refine goes_ Tryd.func27 (by kernel_rfl) rfl #[.agg #[.int .i64 a2_0, .int .u64 a2_1], .agg #[.int .i64 t107, .int .u64 t108]] (by rfl) rfl rfl (by (try simp only [List.map_toArray, List.map_cons, List.map_nil]); first | done | rfl | (simp only [List.length_drop, List.length_take]; rfl)) ?_; with_reducible refine (label_Below.calls a2_0 a2_1 t107 t108 t122 _ A133.out).mono ?_; rintro e w138 ⟨rfl, hb⟩; refine ⟨_, rfl, ?_⟩
       replace BK101 := bb_ BK101 hb; replace BK102 := bb_ BK102 hb; replace BK103 := bb_ BK103 hb; replace BK106 := bb_ BK106 hb; replace BK109 := bb_ BK109 hb; replace HB := bs_ HB hb; (try clear hb); (try clear hb2); (try clear hk); (try clear hi); refine hK.out _ _ ⟨bc_ BK101 0 rfl, bc_ BK101 1 rfl, bc_ BK103 0 rfl, bc_ BK103 1 rfl, bc_ BK102 0 rfl, bc_ BK102 1 rfl, bc_ BK109 0 rfl, bc_ BK109 1 rfl⟩ (fun hHeld => ?_); clear hK K; refine norm_ (a':=?_) ?_ ?_; rotate_left
       ·show Act.put _ (some 59) _ = _; simp only [q_, i64_w, i32_w]; rfl
       refine pure_ (i:=23) (N:=some 60) (v:=?_) (a':=?_) ⟨m_ 26 16777215⟩ rfl rfl (any_of HT_.out (by kernel_rfl)) (fun _ _ _ h=>h) (Or.inl ⟨rfl, ?_⟩) ?_ ?_; rotate_left
       ·intro w'; go_simp; with_reducible rfl
       rotate_left
       ·simp only [q_, i64_w, i32_w]; rfl
       refine pure_ (i:=24) (N:=some 61) (v:=?_) (a':=?_) ⟨m_ 26 33554431⟩ rfl rfl (any_of HT_.out (by kernel_rfl)) (fun _ _ _ h=>h) (Or.inl ⟨rfl, ?_⟩) ?_ ?_; rotate_left
       ·intro w'; go_simp; with_reducible rfl
       rotate_left
       ·simp only [q_, i64_w, i32_w]; rfl
       refine pure_ (i:=25) (N:=some 62) (v:=?_) (a':=?_) ⟨m_ 26 67108863⟩ rfl rfl (any_of HT_.out (by kernel_rfl)) (fun _ _ _ h=>h) (Or.inl ⟨rfl, ?_⟩) ?_ ?_; rotate_left
       ·intro w'; go_simp; with_reducible rfl
       rotate_left
       ·simp only [q_, i64_w, i32_w]; rfl
       refine done_ (done_of HT_.out (by kernel_rfl)) ?_
       try go_wp2
       go_meet
       case rel => exact ⟨_, ((t121 != t122)), (by first | rfl | (simp; done) | (simp [*]; done) | (cases t121 <;> simp; done) | (cases t122 <;> simp; done)), H', ⟨by have := HJ5.out; first | omega | exact Nat.le_refl _⟩, ⟨pkx BK101⟩, ⟨pkx BK102⟩, ⟨pkx BK103⟩, ⟨pkx BK106⟩, ⟨pkx BK109⟩, ⟨pbx HB⟩⟩
      ·replace c131 := Bool.eq_false_iff.mpr c131; subst c131
       have H1 : (oculuslaw02_LabelLattice.j1 kj5 false a0_0 a0_1 a1_0 a1_1 a2_0 a2_1 t104 t105 t107 t108) = some r := by rw [if_neg (show ¬ (false = true) by decide)] at H; exact H
       clear H; have H := H1; clear H1
       have H' := Aside0.mk H
       clear H
       try go_wp2
       (try (rw [drewN_self wc]; generalize hq_ : World.drewN wc _ = wc; have n0_ : Aside0 (wc.heap[gb101]? = some (.cells #[.int .i64 a0_0, .int .u64 a0_1] 24 (0, 0))) := ⟨by rw [← hq_]; exact (pkx BK101)⟩; have n1_ : Aside0 (wc.heap[gb102]? = some (.cells #[.int .i64 a1_0, .int .u64 a1_1] 24 (0, 0))) := ⟨by rw [← hq_]; exact (pkx BK102)⟩; have n2_ : Aside0 (wc.heap[gb103]? = some (.cells #[.int .i64 a2_0, .int .u64 a2_1] 24 (0, 0))) := ⟨by rw [← hq_]; exact (pkx BK103)⟩; have n3_ : Aside0 (wc.heap[gb106]? = some (.cells #[.int .i64 t104, .int .u64 t105] 24 (0, 0))) := ⟨by rw [← hq_]; exact (pkx BK106)⟩; have n4_ : Aside0 (wc.heap[gb109]? = some (.cells #[.int .i64 t107, .int .u64 t108] 24 (0, 0))) := ⟨by rw [← hq_]; exact (pkx BK109)⟩; have n5_ : Aside0 (Below w.heap.size w wc) := ⟨by rw [← hq_]; exact (pbx HB)⟩; clear BK101 BK102 BK103 BK106 BK109 HB hq_; have BK101 := n0_; have BK102 := n1_; have BK103 := n2_; have BK106 := n3_; have BK109 := n4_; have HB := n5_; clear n0_ n1_ n2_ n3_ n4_ n5_))
       replace BK101 := Aside0.mk (blk_drew BK101.out); replace BK102 := Aside0.mk (blk_drew BK102.out); replace BK103 := Aside0.mk (blk_drew BK103.out); replace BK106 := Aside0.mk (blk_drew BK106.out); replace BK109 := Aside0.mk (blk_drew BK109.out); replace HB := Aside0.mk (below_drew1 HB.out)
       refine start_ (n:=26) (S := fun w' => w'.cell? ⟨gb101, 0, none⟩ = some (.int .i64 a0_0) ∧ w'.cell? ⟨gb101, 1, none⟩ = some (.int .u64 a0_1) ∧ w'.cell? ⟨gb103, 0, none⟩ = some (.int .i64 a2_0) ∧ w'.cell? ⟨gb103, 1, none⟩ = some (.int .u64 a2_1)) (ds := []) #[F,F,F,F,F,F,F,F,F,F,F,F,F,F,F,F,F,F,F,F,F,F,F,F,F,F] (by kernel_rfl) rfl rfl ⟨bc_ BK101 0 rfl, bc_ BK101 1 rfl, bc_ BK103 0 rfl, bc_ BK103 1 rfl⟩ (fun hHeld => ?_); refine with_tabW oculuslaw02_LabelLattice.tab5 oculuslaw02_LabelLattice.bits5 (fun HT_ HW_ => ?_)
       generalize wc.drew = w139 at BK101 BK102 BK103 BK106 BK109 HB hHeld ⊢; refine take_ (i:=0) (N:=some 37) (v:=?_) (a':=?_) ⟨m_ 26 1⟩ rfl rfl (take_ofW HT_.out HW_.out (by kernel_rfl)) (fun _ _ _ h=>h) (Or.inl ⟨rfl, ?_⟩) hHeld ?_ ?_; rotate_left
       ·rintro w' ⟨s0, s1, s2, s3⟩; go_simp; with_reducible rfl
       rotate_left
       ·simp only [q_, i64_w, i32_w]; rfl
       refine take_ (i:=1) (N:=some 38) (v:=?_) (a':=?_) ⟨m_ 26 3⟩ rfl rfl (take_ofW HT_.out HW_.out (by kernel_rfl)) (fun _ _ _ h=>h) (Or.inl ⟨rfl, ?_⟩) hHeld ?_ ?_; rotate_left
       ·rintro w' ⟨s0, s1, s2, s3⟩; go_simp; with_reducible rfl
       rotate_left
       ·simp only [q_, i64_w, i32_w]; rfl
       refine one_ (i:=2) (N:=some 39) ⟨m_ 26 7⟩ rfl rfl (one_of HT_.out (by kernel_rfl)) (by decide) (fun K hK => ?_); refine goes_ Tryd.func27 (by kernel_rfl) rfl #[.agg #[.int .i64 a0_0, .int .u64 a0_1], .agg #[.int .i64 a2_0, .int .u64 a2_1]] (by rfl) rfl rfl (by (try simp only [List.map_toArray, List.map_cons, List.map_nil]); first | done | rfl | (simp only [List.length_drop, List.length_take]; rfl)) ?_; with_reducible refine (label_Below.calls a0_0 a0_1 a2_0 a2_1 false _ A105.out).mono ?_; rintro e w140 ⟨rfl, hb⟩; refine ⟨_, rfl, ?_⟩
       replace BK101 := bb_ BK101 hb; replace BK102 := bb_ BK102 hb; replace BK103 := bb_ BK103 hb; replace BK106 := bb_ BK106 hb; replace BK109 := bb_ BK109 hb; replace HB := bs_ HB hb; (try clear hb); (try clear hb2); (try clear hk); (try clear hi); refine hK.out _ _ ⟨bc_ BK101 0 rfl, bc_ BK101 1 rfl, bc_ BK103 0 rfl, bc_ BK103 1 rfl⟩ (fun hHeld => ?_); clear hK K; refine norm_ (a':=?_) ?_ ?_; rotate_left
       ·show Act.put _ (some 39) _ = _; simp only [q_, i64_w, i32_w]; rfl
       refine pure_ (i:=3) (N:=some 40) (v:=?_) (a':=?_) ⟨m_ 26 15⟩ rfl rfl (any_of HT_.out (by kernel_rfl)) (fun _ _ _ h=>h) (Or.inl ⟨rfl, ?_⟩) ?_ ?_; rotate_left
       ·intro w'; go_simp; with_reducible rfl
       rotate_left
       ·simp only [q_, i64_w, i32_w]; rfl
       refine pure_ (i:=4) (N:=some 41) (v:=undef) (a':=?_) ⟨m_ 26 31⟩ rfl rfl (any_of HT_.out (by kernel_rfl)) (fun _ _ _ h=>h) (Or.inr ⟨by rfl, rfl⟩) ?_ ?_; rotate_left
       ·simp only [q_, i64_w, i32_w]; rfl
       refine pure_ (i:=5) (N:=some 42) (v:=undef) (a':=?_) ⟨m_ 26 63⟩ rfl rfl (any_of HT_.out (by kernel_rfl)) (fun _ _ _ h=>h) (Or.inr ⟨by rfl, rfl⟩) ?_ ?_; rotate_left
       ·simp only [q_, i64_w, i32_w]; rfl
       refine pure_ (i:=6) (N:=some 43) (v:=undef) (a':=?_) ⟨m_ 26 127⟩ rfl rfl (any_of HT_.out (by kernel_rfl)) (fun _ _ _ h=>h) (Or.inr ⟨by rfl, rfl⟩) ?_ ?_; rotate_left
       ·simp only [q_, i64_w, i32_w]; rfl
       refine pure_ (i:=7) (N:=some 44) (v:=undef) (a':=?_) ⟨m_ 26 255⟩ rfl rfl (any_of HT_.out (by kernel_rfl)) (fun _ _ _ h=>h) (Or.inr ⟨by rfl, rfl⟩) ?_ ?_; rotate_left
       ·simp only [q_, i64_w, i32_w]; rfl
       refine pure_ (i:=8) (N:=some 45) (v:=undef) (a':=?_) ⟨m_ 26 511⟩ rfl rfl (any_of HT_.out (by kernel_rfl)) (fun _ _ _ h=>h) (Or.inr ⟨by rfl, rfl⟩) ?_ ?_; rotate_left
       ·simp only [q_, i64_w, i32_w]; rfl
       refine pure_ (i:=9) (N:=some 46) (v:=undef) (a':=?_) ⟨m_ 26 1023⟩ rfl rfl (any_of HT_.out (by kernel_rfl)) (fun _ _ _ h=>h) (Or.inr ⟨by rfl, rfl⟩) ?_ ?_; rotate_left
       ·simp only [q_, i64_w, i32_w]; rfl
       refine pure_ (i:=10) (N:=some 47) (v:=undef) (a':=?_) ⟨m_ 26 2047⟩ rfl rfl (any_of HT_.out (by kernel_rfl)) (fun _ _ _ h=>h) (Or.inr ⟨by rfl, rfl⟩) ?_ ?_; rotate_left
       ·simp only [q_, i64_w, i32_w]; rfl
       refine pure_ (i:=11) (N:=some 48) (v:=?_) (a':=?_) ⟨m_ 26 4095⟩ rfl rfl (any_of HT_.out (by kernel_rfl)) (fun _ _ _ h=>h) (Or.inl ⟨rfl, ?_⟩) ?_ ?_; rotate_left
       ·intro w'; go_simp; with_reducible rfl
       rotate_left
       ·simp only [q_, i64_w, i32_w]; rfl
       refine pure_ (i:=12) (N:=some 49) (v:=?_) (a':=?_) ⟨m_ 26 8191⟩ rfl rfl (any_of HT_.out (by kernel_rfl)) (fun _ _ _ h=>h) (Or.inl ⟨rfl, ?_⟩) ?_ ?_; rotate_left
       ·intro w'; go_simp; with_reducible rfl
       rotate_left
       ·simp only [q_, i64_w, i32_w]; rfl
       refine take_ (i:=13) (N:=some 50) (v:=?_) (a':=?_) ⟨m_ 26 16383⟩ rfl rfl (take_ofW HT_.out HW_.out (by kernel_rfl)) (fun _ _ _ h=>h) (Or.inl ⟨rfl, ?_⟩) hHeld ?_ ?_; rotate_left
       ·rintro w' ⟨s0, s1, s2, s3⟩; go_simp; with_reducible rfl
       rotate_left
       ·simp only [q_, i64_w, i32_w]; rfl
       refine take_ (i:=14) (N:=some 51) (v:=?_) (a':=?_) ⟨m_ 26 32767⟩ rfl rfl (take_ofW HT_.out HW_.out (by kernel_rfl)) (fun _ _ _ h=>h) (Or.inl ⟨rfl, ?_⟩) hHeld ?_ ?_; rotate_left
       ·rintro w' ⟨s0, s1, s2, s3⟩; go_simp; with_reducible rfl
       rotate_left
       ·simp only [q_, i64_w, i32_w]; rfl
       refine one_ (i:=15) (N:=some 52) ⟨m_ 26 65535⟩ rfl rfl (one_of HT_.out (by kernel_rfl)) (by decide) (fun K hK => ?_); refine goes_ Tryd.func27 (by kernel_rfl) rfl #[.agg #[.int .i64 a2_0, .int .u64 a2_1], .agg #[.int .i64 a0_0, .int .u64 a0_1]] (by rfl) rfl rfl (by (try simp only [List.map_toArray, List.map_cons, List.map_nil]); first | done | rfl | (simp only [List.length_drop, List.length_take]; rfl)) ?_; with_reducible refine (label_Below.calls a2_0 a2_1 a0_0 a0_1 false _ A130.out).mono ?_; rintro e w141 ⟨rfl, hb⟩; refine ⟨_, rfl, ?_⟩
       replace BK101 := bb_ BK101 hb; replace BK102 := bb_ BK102 hb; replace BK103 := bb_ BK103 hb; replace BK106 := bb_ BK106 hb; replace BK109 := bb_ BK109 hb; replace HB := bs_ HB hb; (try clear hb); (try clear hb2); (try clear hk); (try clear hi); refine hK.out _ _ ⟨bc_ BK101 0 rfl, bc_ BK101 1 rfl, bc_ BK103 0 rfl, bc_ BK103 1 rfl⟩ (fun hHeld => ?_); clear hK K; refine norm_ (a':=?_) ?_ ?_; rotate_left
       ·show Act.put _ (some 52) _ = _; simp only [q_, i64_w, i32_w]; rfl
       refine pure_ (i:=16) (N:=some 53) (v:=?_) (a':=?_) ⟨m_ 26 131071⟩ rfl rfl (any_of HT_.out (by kernel_rfl)) (fun _ _ _ h=>h) (Or.inl ⟨rfl, ?_⟩) ?_ ?_; rotate_left
       ·intro w'; go_simp; with_reducible rfl
       rotate_left
       ·simp only [q_, i64_w, i32_w]; rfl
       refine pure_ (i:=17) (N:=some 54) (v:=undef) (a':=?_) ⟨m_ 26 262143⟩ rfl rfl (any_of HT_.out (by kernel_rfl)) (fun _ _ _ h=>h) (Or.inr ⟨by rfl, rfl⟩) ?_ ?_; rotate_left
       ·simp only [q_, i64_w, i32_w]; rfl
       refine pure_ (i:=18) (N:=some 55) (v:=undef) (a':=?_) ⟨m_ 26 524287⟩ rfl rfl (any_of HT_.out (by kernel_rfl)) (fun _ _ _ h=>h) (Or.inr ⟨by rfl, rfl⟩) ?_ ?_; rotate_left
       ·simp only [q_, i64_w, i32_w]; rfl
       refine pure_ (i:=19) (N:=some 56) (v:=undef) (a':=?_) ⟨m_ 26 1048575⟩ rfl rfl (any_of HT_.out (by kernel_rfl)) (fun _ _ _ h=>h) (Or.inr ⟨by rfl, rfl⟩) ?_ ?_; rotate_left
       ·simp only [q_, i64_w, i32_w]; rfl
       refine pure_ (i:=20) (N:=some 57) (v:=undef) (a':=?_) ⟨m_ 26 2097151⟩ rfl rfl (any_of HT_.out (by kernel_rfl)) (fun _ _ _ h=>h) (Or.inr ⟨by rfl, rfl⟩) ?_ ?_; rotate_left
       ·simp only [q_, i64_w, i32_w]; rfl
       refine pure_ (i:=21) (N:=some 58) (v:=undef) (a':=?_) ⟨m_ 26 4194303⟩ rfl rfl (any_of HT_.out (by kernel_rfl)) (fun _ _ _ h=>h) (Or.inr ⟨by rfl, rfl⟩) ?_ ?_; rotate_left
       ·simp only [q_, i64_w, i32_w]; rfl
       refine pure_ (i:=22) (N:=some 59) (v:=undef) (a':=?_) ⟨m_ 26 8388607⟩ rfl rfl (any_of HT_.out (by kernel_rfl)) (fun _ _ _ h=>h) (Or.inr ⟨by rfl, rfl⟩) ?_ ?_; rotate_left
       ·simp only [q_, i64_w, i32_w]; rfl
       refine pure_ (i:=23) (N:=some 60) (v:=undef) (a':=?_) ⟨m_ 26 16777215⟩ rfl rfl (any_of HT_.out (by kernel_rfl)) (fun _ _ _ h=>h) (Or.inr ⟨by rfl, rfl⟩) ?_ ?_; rotate_left
       ·simp only [q_, i64_w, i32_w]; rfl
       refine pure_ (i:=24) (N:=some 61) (v:=?_) (a':=?_) ⟨m_ 26 33554431⟩ rfl rfl (any_of HT_.out (by kernel_rfl)) (fun _ _ _ h=>h) (Or.inl ⟨rfl, ?_⟩) ?_ ?_; rotate_left
       ·intro w'; go_simp; with_reducible rfl
       rotate_left
       ·simp only [q_, i64_w, i32_w]; rfl
       refine pure_ (i:=25) (N:=some 62) (v:=?_) (a':=?_) ⟨m_ 26 67108863⟩ rfl rfl (any_of HT_.out (by kernel_rfl)) (fun _ _ _ h=>h) (Or.inl ⟨rfl, ?_⟩) ?_ ?_; rotate_left
       ·intro w'; go_simp; with_reducible rfl
       rotate_left
       ·simp only [q_, i64_w, i32_w]; rfl
       refine done_ (done_of HT_.out (by kernel_rfl)) ?_
       try go_wp2
       go_meet
       case rel => exact ⟨_, (false), (by first | rfl | (simp; done) | (simp [*]; done)), H', ⟨by have := HJ5.out; first | omega | exact Nat.le_refl _⟩, ⟨pkx BK101⟩, ⟨pkx BK102⟩, ⟨pkx BK103⟩, ⟨pkx BK106⟩, ⟨pkx BK109⟩, ⟨pbx HB⟩⟩
    case rest =>
     clear HC104; (try clear c1); (try clear c2); (try clear p2); (try clear c10); (try clear c13); (try clear c27); (try clear c106); (try clear c131); obtain ⟨kq, x62_103, rfl, HA, HJ103, BK101, BK102, BK103, BK106, BK109, HB⟩ := hcut
     cases kq with
     | zero => exact absurd HA.out (by simp [oculuslaw02_LabelLattice.j1])
     | succ kj103 =>
      have H := HA.out; clear HA
      simp only [oculuslaw02_LabelLattice.j1] at H
      by_cases c142 : x62_103 = true
      ·subst c142
       have H1 : (none) = some r := by rw [if_pos rfl] at H; exact H
       clear H; have H := H1; clear H1
       exact absurd H (by simp)
      ·replace c142 := Bool.eq_false_iff.mpr c142; subst c142
       have H1 : ((label_Join.f a1_0 a1_1 a0_0 a0_1).bind fun bt123 => (if (!(bt123.1 == t104) || (!(bt123.2 == t105))) = true then (oculuslaw02_LabelLattice.j2 kj103 true a0_0 a0_1 a1_0 a1_1 t104 t105 t107 t108) else ((label_Meet.f a1_0 a1_1 a0_0 a0_1).bind fun bt125 => (if (!(bt125.1 == t107) || (!(bt125.2 == t108))) = true then (oculuslaw02_LabelLattice.j2 kj103 true a0_0 a0_1 a1_0 a1_1 t104 t105 t107 t108) else ((label_Join.f t104 t105 a2_0 a2_1).bind fun bt127 => ((label_Join.f a1_0 a1_1 a2_0 a2_1).bind fun bt129 => ((label_Join.f a0_0 a0_1 bt129.1 bt129.2).bind fun bt131 => (if (!(bt127.1 == bt131.1) || (!(bt127.2 == bt131.2))) = true then (oculuslaw02_LabelLattice.j2 kj103 true a0_0 a0_1 a1_0 a1_1 t104 t105 t107 t108) else ((label_Meet.f t107 t108 a2_0 a2_1).bind fun bt133 => ((label_Meet.f a1_0 a1_1 a2_0 a2_1).bind fun bt135 => ((label_Meet.f a0_0 a0_1 bt135.1 bt135.2).bind fun bt137 => (oculuslaw02_LabelLattice.j2 kj103 (!(bt133.1 == bt137.1) || (!(bt133.2 == bt137.2))) a0_0 a0_1 a1_0 a1_1 t104 t105 t107 t108)))))))))))) = some r := by rw [if_neg (show ¬ (false = true) by decide)] at H; exact H
       clear H; have H := H1; clear H1; have HC143 := Aside0.mk H; clear H
       go_upto_region 7 with (fail)
       go_cut [96] (fun v96 wc => ∃ (kq : Nat) (x96_142 : Bool), v96 = .bool x96_142 ∧ Aside0 (oculuslaw02_LabelLattice.j2 kq x96_142 a0_0 a0_1 a1_0 a1_1 t104 t105 t107 t108 = some r) ∧ Aside0 (kq ≤ kj103) ∧ Aside0 (wc.heap[gb101]? = some (.cells #[.int .i64 a0_0, .int .u64 a0_1] 24 (0, 0))) ∧ Aside0 (wc.heap[gb102]? = some (.cells #[.int .i64 a1_0, .int .u64 a1_1] 24 (0, 0))) ∧ Aside0 (wc.heap[gb103]? = some (.cells #[.int .i64 a2_0, .int .u64 a2_1] 24 (0, 0))) ∧ Aside0 (wc.heap[gb106]? = some (.cells #[.int .i64 t104, .int .u64 t105] 24 (0, 0))) ∧ Aside0 (wc.heap[gb109]? = some (.cells #[.int .i64 t107, .int .u64 t108] 24 (0, 0))) ∧ Aside0 (Below w.heap.size w wc))
       case first =>
        have H := HC143.out; clear HC143; replace H := Option.bind_eq_some_iff.mp H; obtain ⟨⟨t123, t124⟩, A1440, H⟩ := H
        replace H : (if (!(t123 == t104) || (!(t124 == t105))) = true then (oculuslaw02_LabelLattice.j2 kj103 true a0_0 a0_1 a1_0 a1_1 t104 t105 t107 t108) else ((label_Meet.f a1_0 a1_1 a0_0 a0_1).bind fun bt125 => (if (!(bt125.1 == t107) || (!(bt125.2 == t108))) = true then (oculuslaw02_LabelLattice.j2 kj103 true a0_0 a0_1 a1_0 a1_1 t104 t105 t107 t108) else ((label_Join.f t104 t105 a2_0 a2_1).bind fun bt127 => ((label_Join.f a1_0 a1_1 a2_0 a2_1).bind fun bt129 => ((label_Join.f a0_0 a0_1 bt129.1 bt129.2).bind fun bt131 => (if (!(bt127.1 == bt131.1) || (!(bt127.2 == bt131.2))) = true then (oculuslaw02_LabelLattice.j2 kj103 true a0_0 a0_1 a1_0 a1_1 t104 t105 t107 t108) else ((label_Meet.f t107 t108 a2_0 a2_1).bind fun bt133 => ((label_Meet.f a1_0 a1_1 a2_0 a2_1).bind fun bt135 => ((label_Meet.f a0_0 a0_1 bt135.1 bt135.2).bind fun bt137 => (oculuslaw02_LabelLattice.j2 kj103 (!(bt133.1 == bt137.1) || (!(bt133.2 == bt137.2))) a0_0 a0_1 a1_0 a1_1 t104 t105 t107 t108))))))))))) = some r := H
        have A144 := Aside0.mk A1440; clear A1440
        by_cases c145 : (!(t123 == t104) || (!(t124 == t105))) = true
        ·rw [if_pos c145] at H
         have c145b0 : (!(t123 == t104) || (!(t124 == t105))) = true := c145
         clear c145; (first | rw [c145b0] | (simp only [i64_w, i32_w]; rw [c145b0]) | skip)
         have H' := Aside0.mk H
         clear H
         try go_wp2
         (try (rw [drewN_self wc]; generalize hq_ : World.drewN wc _ = wc; have n0_ : Aside0 (wc.heap[gb101]? = some (.cells #[.int .i64 a0_0, .int .u64 a0_1] 24 (0, 0))) := ⟨by rw [← hq_]; exact (pkx BK101)⟩; have n1_ : Aside0 (wc.heap[gb102]? = some (.cells #[.int .i64 a1_0, .int .u64 a1_1] 24 (0, 0))) := ⟨by rw [← hq_]; exact (pkx BK102)⟩; have n2_ : Aside0 (wc.heap[gb103]? = some (.cells #[.int .i64 a2_0, .int .u64 a2_1] 24 (0, 0))) := ⟨by rw [← hq_]; exact (pkx BK103)⟩; have n3_ : Aside0 (wc.heap[gb106]? = some (.cells #[.int .i64 t104, .int .u64 t105] 24 (0, 0))) := ⟨by rw [← hq_]; exact (pkx BK106)⟩; have n4_ : Aside0 (wc.heap[gb109]? = some (.cells #[.int .i64 t107, .int .u64 t108] 24 (0, 0))) := ⟨by rw [← hq_]; exact (pkx BK109)⟩; have n5_ : Aside0 (Below w.heap.size w wc) := ⟨by rw [← hq_]; exact (pbx HB)⟩; clear BK101 BK102 BK103 BK106 BK109 HB hq_; have BK101 := n0_; have BK102 := n1_; have BK103 := n2_; have BK106 := n3_; have BK109 := n4_; have HB := n5_; clear n0_ n1_ n2_ n3_ n4_ n5_))
         replace BK101 := Aside0.mk (blk_drew BK101.out); replace BK102 := Aside0.mk (blk_drew BK102.out); replace BK103 := Aside0.mk (blk_drew BK103.out); replace BK106 := Aside0.mk (blk_drew BK106.out); replace BK109 := Aside0.mk (blk_drew BK109.out); replace HB := Aside0.mk (below_drew1 HB.out)
         refine start_ (n:=34) (S := fun w' => w'.cell? ⟨gb102, 0, none⟩ = some (.int .i64 a1_0) ∧ w'.cell? ⟨gb102, 1, none⟩ = some (.int .u64 a1_1) ∧ w'.cell? ⟨gb101, 0, none⟩ = some (.int .i64 a0_0) ∧ w'.cell? ⟨gb101, 1, none⟩ = some (.int .u64 a0_1) ∧ w'.cell? ⟨gb106, 0, none⟩ = some (.int .i64 t104) ∧ w'.cell? ⟨gb106, 1, none⟩ = some (.int .u64 t105)) (ds := []) #[F,F,F,F,F,F,F,F,F,F,F,F,F,F,F,F,F,F,F,F,F,F,F,F,F,F,F,F,F,F,F,F,F,F] (by kernel_rfl) rfl rfl ⟨bc_ BK102 0 rfl, bc_ BK102 1 rfl, bc_ BK101 0 rfl, bc_ BK101 1 rfl, bc_ BK106 0 rfl, bc_ BK106 1 rfl⟩ (fun hHeld => ?_); refine with_tabW oculuslaw02_LabelLattice.tab7 oculuslaw02_LabelLattice.bits7 (fun HT_ HW_ => ?_)
         generalize wc.drew = w146 at BK101 BK102 BK103 BK106 BK109 HB hHeld ⊢; refine take_ (i:=0) (N:=some 63) (v:=?_) (a':=?_) ⟨m_ 34 1⟩ rfl rfl (take_ofW HT_.out HW_.out (by kernel_rfl)) (fun _ _ _ h=>h) (Or.inl ⟨rfl, ?_⟩) hHeld ?_ ?_; rotate_left
         ·rintro w' ⟨s0, s1, s2, s3, s4, s5⟩; go_simp; with_reducible rfl
         rotate_left
         ·simp only [q_, i64_w, i32_w]; rfl
         refine take_ (i:=1) (N:=some 64) (v:=?_) (a':=?_) ⟨m_ 34 3⟩ rfl rfl (take_ofW HT_.out HW_.out (by kernel_rfl)) (fun _ _ _ h=>h) (Or.inl ⟨rfl, ?_⟩) hHeld ?_ ?_; rotate_left
         ·rintro w' ⟨s0, s1, s2, s3, s4, s5⟩; go_simp; with_reducible rfl
         rotate_left
         ·simp only [q_, i64_w, i32_w]; rfl
         refine take_ (i:=3) (N:=some 66) (v:=?_) (a':=?_) ⟨m_ 34 11⟩ rfl rfl (take_ofW HT_.out HW_.out (by kernel_rfl)) (fun _ _ _ h=>h) (Or.inl ⟨rfl, ?_⟩) hHeld ?_ ?_; rotate_left
         ·rintro w' ⟨s0, s1, s2, s3, s4, s5⟩; go_simp; with_reducible rfl
         rotate_left
         ·simp only [q_, i64_w, i32_w]; rfl
         refine one_ (i:=2) (N:=some 65) ⟨m_ 34 15⟩ rfl rfl (one_of HT_.out (by kernel_rfl)) (by decide) (fun K hK => ?_); refine goes_ Tryd.func25 (by kernel_rfl) rfl #[.agg #[.int .i64 a1_0, .int .u64 a1_1], .agg #[.int .i64 a0_0, .int .u64 a0_1]] (by rfl) rfl rfl (by (try simp only [List.map_toArray, List.map_cons, List.map_nil]); first | done | rfl | (simp only [List.length_drop, List.length_take]; rfl)) ?_; with_reducible refine (label_Join.calls a1_0 a1_1 a0_0 a0_1 t123 t124 _ A144.out).mono ?_; rintro e w147 ⟨rfl, hb⟩; refine ⟨_, rfl, ?_⟩
         replace BK101 := bb_ BK101 hb; replace BK102 := bb_ BK102 hb; replace BK103 := bb_ BK103 hb; replace BK106 := bb_ BK106 hb; replace BK109 := bb_ BK109 hb; replace HB := bs_ HB hb; (try clear hb); (try clear hb2); (try clear hk); (try clear hi); refine hK.out _ _ ⟨bc_ BK102 0 rfl, bc_ BK102 1 rfl, bc_ BK101 0 rfl, bc_ BK101 1 rfl, bc_ BK106 0 rfl, bc_ BK106 1 rfl⟩ (fun hHeld => ?_); clear hK K; refine norm_ (a':=?_) ?_ ?_; rotate_left
         ·show Act.put _ (some 65) _ = _; simp only [q_, i64_w, i32_w]; rfl
         refine pure_ (i:=4) (N:=some 67) (v:=?_) (a':=?_) ⟨m_ 34 31⟩ rfl rfl (any_of HT_.out (by kernel_rfl)) (fun _ _ _ h=>h) (Or.inl ⟨rfl, ?_⟩) ?_ ?_; rotate_left
         ·intro w'; go_simp; with_reducible rfl
         rotate_left
         ·simp only [q_, i64_w, i32_w]; rfl
         refine pure_ (i:=5) (N:=some 68) (v:=?_) (a':=?_) ⟨m_ 34 63⟩ rfl rfl (any_of HT_.out (by kernel_rfl)) (fun _ _ _ h=>h) (Or.inl ⟨rfl, ?_⟩) ?_ ?_; rotate_left
         ·intro w'; go_simp; with_reducible rfl
         rotate_left
         ·simp only [q_, i64_w, i32_w]; rfl
         refine pure_ (i:=6) (N:=some 69) (v:=undef) (a':=?_) ⟨m_ 34 127⟩ rfl rfl (any_of HT_.out (by kernel_rfl)) (fun _ _ _ h=>h) (Or.inr ⟨by rfl, rfl⟩) ?_ ?_; rotate_left
         ·simp only [q_, i64_w, i32_w]; rfl
         refine pure_ (i:=7) (N:=some 70) (v:=undef) (a':=?_) ⟨m_ 34 255⟩ rfl rfl (any_of HT_.out (by kernel_rfl)) (fun _ _ _ h=>h) (Or.inr ⟨by rfl, rfl⟩) ?_ ?_; rotate_left
         ·simp only [q_, i64_w, i32_w]; rfl
         refine pure_ (i:=8) (N:=some 71) (v:=undef) (a':=?_) ⟨m_ 34 511⟩ rfl rfl (any_of HT_.out (by kernel_rfl)) (fun _ _ _ h=>h) (Or.inr ⟨by rfl, rfl⟩) ?_ ?_; rotate_left
         ·simp only [q_, i64_w, i32_w]; rfl
         refine pure_ (i:=9) (N:=some 72) (v:=undef) (a':=?_) ⟨m_ 34 1023⟩ rfl rfl (any_of HT_.out (by kernel_rfl)) (fun _ _ _ h=>h) (Or.inr ⟨by rfl, rfl⟩) ?_ ?_; rotate_left
         ·simp only [q_, i64_w, i32_w]; rfl
         refine pure_ (i:=10) (N:=some 73) (v:=undef) (a':=?_) ⟨m_ 34 2047⟩ rfl rfl (any_of HT_.out (by kernel_rfl)) (fun _ _ _ h=>h) (Or.inr ⟨by rfl, rfl⟩) ?_ ?_; rotate_left
         ·simp only [q_, i64_w, i32_w]; rfl
         refine pure_ (i:=11) (N:=some 74) (v:=?_) (a':=?_) ⟨m_ 34 4095⟩ rfl rfl (any_of HT_.out (by kernel_rfl)) (fun _ _ _ h=>h) (Or.inl ⟨rfl, ?_⟩) ?_ ?_; rotate_left
         ·intro w'; go_simp; with_reducible rfl
         rotate_left
         ·simp only [q_, i64_w, i32_w]; rfl
         refine pure_ (i:=12) (N:=some 75) (v:=?_) (a':=?_) ⟨m_ 34 8191⟩ rfl rfl (any_of HT_.out (by kernel_rfl)) (fun _ _ _ h=>h) (Or.inl ⟨rfl, ?_⟩) ?_ ?_; rotate_left
         ·intro w'; go_simp; with_reducible rfl
         rotate_left
         ·simp only [q_, i64_w, i32_w]; rfl
         refine pure_ (i:=13) (N:=some 76) (v:=undef) (a':=?_) ⟨m_ 34 16383⟩ rfl rfl (any_of HT_.out (by kernel_rfl)) (fun _ _ _ h=>h) (Or.inr ⟨by rfl, rfl⟩) ?_ ?_; rotate_left
         ·simp only [q_, i64_w, i32_w]; rfl
         refine pure_ (i:=14) (N:=some 77) (v:=undef) (a':=?_) ⟨m_ 34 32767⟩ rfl rfl (any_of HT_.out (by kernel_rfl)) (fun _ _ _ h=>h) (Or.inr ⟨by rfl, rfl⟩) ?_ ?_; rotate_left
         ·simp only [q_, i64_w, i32_w]; rfl
         refine pure_ (i:=15) (N:=some 78) (v:=undef) (a':=?_) ⟨m_ 34 65535⟩ rfl rfl (any_of HT_.out (by kernel_rfl)) (fun _ _ _ h=>h) (Or.inr ⟨by rfl, rfl⟩) ?_ ?_; rotate_left
         ·simp only [q_, i64_w, i32_w]; rfl
         refine pure_ (i:=16) (N:=some 79) (v:=undef) (a':=?_) ⟨m_ 34 131071⟩ rfl rfl (any_of HT_.out (by kernel_rfl)) (fun _ _ _ h=>h) (Or.inr ⟨by rfl, rfl⟩) ?_ ?_; rotate_left
         ·simp only [q_, i64_w, i32_w]; rfl
         refine pure_ (i:=17) (N:=some 80) (v:=undef) (a':=?_) ⟨m_ 34 262143⟩ rfl rfl (any_of HT_.out (by kernel_rfl)) (fun _ _ _ h=>h) (Or.inr ⟨by rfl, rfl⟩) ?_ ?_; rotate_left
         ·simp only [q_, i64_w, i32_w]; rfl
         refine pure_ (i:=18) (N:=some 81) (v:=undef) (a':=?_) ⟨m_ 34 524287⟩ rfl rfl (any_of HT_.out (by kernel_rfl)) (fun _ _ _ h=>h) (Or.inr ⟨by rfl, rfl⟩) ?_ ?_; rotate_left
         ·simp only [q_, i64_w, i32_w]; rfl
         refine pure_ (i:=19) (N:=some 82) (v:=undef) (a':=?_) ⟨m_ 34 1048575⟩ rfl rfl (any_of HT_.out (by kernel_rfl)) (fun _ _ _ h=>h) (Or.inr ⟨by rfl, rfl⟩) ?_ ?_; rotate_left
         ·simp only [q_, i64_w, i32_w]; rfl
         refine pure_ (i:=20) (N:=some 83) (v:=undef) (a':=?_) ⟨m_ 34 2097151⟩ rfl rfl (any_of HT_.out (by kernel_rfl)) (fun _ _ _ h=>h) (Or.inr ⟨by rfl, rfl⟩) ?_ ?_; rotate_left
         ·simp only [q_, i64_w, i32_w]; rfl
         refine pure_ (i:=21) (N:=some 84) (v:=undef) (a':=?_) ⟨m_ 34 4194303⟩ rfl rfl (any_of HT_.out (by kernel_rfl)) (fun _ _ _ h=>h) (Or.inr ⟨by rfl, rfl⟩) ?_ ?_; rotate_left
         ·simp only [q_, i64_w, i32_w]; rfl
         refine pure_ (i:=22) (N:=some 85) (v:=?_) (a':=?_) ⟨m_ 34 8388607⟩ rfl rfl (any_of HT_.out (by kernel_rfl)) (fun _ _ _ h=>h) (Or.inl ⟨rfl, ?_⟩) ?_ ?_; rotate_left
         ·intro w'; go_simp; with_reducible rfl
         rotate_left
         ·simp only [q_, i64_w, i32_w]; rfl
         refine pure_ (i:=23) (N:=some 86) (v:=?_) (a':=?_) ⟨m_ 34 16777215⟩ rfl rfl (any_of HT_.out (by kernel_rfl)) (fun _ _ _ h=>h) (Or.inl ⟨rfl, ?_⟩) ?_ ?_; rotate_left
         ·intro w'; go_simp; with_reducible rfl
         rotate_left
         ·simp only [q_, i64_w, i32_w]; rfl
         refine pure_ (i:=24) (N:=some 87) (v:=undef) (a':=?_) ⟨m_ 34 33554431⟩ rfl rfl (any_of HT_.out (by kernel_rfl)) (fun _ _ _ h=>h) (Or.inr ⟨by rfl, rfl⟩) ?_ ?_; rotate_left
         ·simp only [q_, i64_w, i32_w]; rfl
         refine pure_ (i:=25) (N:=some 88) (v:=undef) (a':=?_) ⟨m_ 34 67108863⟩ rfl rfl (any_of HT_.out (by kernel_rfl)) (fun _ _ _ h=>h) (Or.inr ⟨by rfl, rfl⟩) ?_ ?_; rotate_left
         ·simp only [q_, i64_w, i32_w]; rfl
         refine pure_ (i:=26) (N:=some 89) (v:=undef) (a':=?_) ⟨m_ 34 134217727⟩ rfl rfl (any_of HT_.out (by kernel_rfl)) (fun _ _ _ h=>h) (Or.inr ⟨by rfl, rfl⟩) ?_ ?_; rotate_left
         ·simp only [q_, i64_w, i32_w]; rfl
         refine pure_ (i:=27) (N:=some 90) (v:=undef) (a':=?_) ⟨m_ 34 268435455⟩ rfl rfl (any_of HT_.out (by kernel_rfl)) (fun _ _ _ h=>h) (Or.inr ⟨by rfl, rfl⟩) ?_ ?_; rotate_left
         ·simp only [q_, i64_w, i32_w]; rfl
         refine pure_ (i:=28) (N:=some 91) (v:=undef) (a':=?_) ⟨m_ 34 536870911⟩ rfl rfl (any_of HT_.out (by kernel_rfl)) (fun _ _ _ h=>h) (Or.inr ⟨by rfl, rfl⟩) ?_ ?_; rotate_left
         ·simp only [q_, i64_w, i32_w]; rfl
         refine pure_ (i:=29) (N:=some 92) (v:=undef) (a':=?_) ⟨m_ 34 1073741823⟩ rfl rfl (any_of HT_.out (by kernel_rfl)) (fun _ _ _ h=>h) (Or.inr ⟨by rfl, rfl⟩) ?_ ?_; rotate_left
         ·simp only [q_, i64_w, i32_w]; rfl
         refine pure_ (i:=30) (N:=some 93) (v:=undef) (a':=?_) ⟨m_ 34 2147483647⟩ rfl rfl (any_of HT_.out (by kernel_rfl)) (fun _ _ _ h=>h) (Or.inr ⟨by rfl, rfl⟩) ?_ ?_; rotate_left
         ·simp only [q_, i64_w, i32_w]; rfl
         refine pure_ (i:=31) (N:=some 94) (v:=undef) (a':=?_) ⟨m_ 34 4294967295⟩ rfl rfl (any_of HT_.out (by kernel_rfl)) (fun _ _ _ h=>h) (Or.inr ⟨by rfl, rfl⟩) ?_ ?_; rotate_left
         ·simp only [q_, i64_w, i32_w]; rfl
         refine pure_ (i:=32) (N:=some 95) (v:=undef) (a':=?_) ⟨m_ 34 8589934591⟩ rfl rfl (any_of HT_.out (by kernel_rfl)) (fun _ _ _ h=>h) (Or.inr ⟨by rfl, rfl⟩) ?_ ?_; rotate_left
         ·simp only [q_, i64_w, i32_w]; rfl
         refine pure_ (i:=33) (N:=some 96) (v:=?_) (a':=?_) ⟨m_ 34 17179869183⟩ rfl rfl (any_of HT_.out (by kernel_rfl)) (fun _ _ _ h=>h) (Or.inl ⟨rfl, ?_⟩) ?_ ?_; rotate_left
         ·intro w'; go_simp; with_reducible rfl
         rotate_left
         ·simp only [q_, i64_w, i32_w]; rfl
         refine done_ (done_of HT_.out (by kernel_rfl)) ?_
         try go_wp2
         go_meet
         case rel => exact ⟨_, (true), (by first | rfl | (simp; done) | (simp [*]; done)), H', ⟨by have := HJ5.out; have := HJ103.out; first | omega | exact Nat.le_refl _⟩, ⟨pkx BK101⟩, ⟨pkx BK102⟩, ⟨pkx BK103⟩, ⟨pkx BK106⟩, ⟨pkx BK109⟩, ⟨pbx HB⟩⟩
        ·rw [if_neg c145] at H
         have c145b0 : (!(t123 == t104) || (!(t124 == t105))) = false := by simpa using c145
         clear c145; (first | rw [c145b0] | (simp only [i64_w, i32_w]; rw [c145b0]) | skip)
         replace H := Option.bind_eq_some_iff.mp H; obtain ⟨⟨t125, t126⟩, A1480, H⟩ := H
         replace H : (if (!(t125 == t107) || (!(t126 == t108))) = true then (oculuslaw02_LabelLattice.j2 kj103 true a0_0 a0_1 a1_0 a1_1 t104 t105 t107 t108) else ((label_Join.f t104 t105 a2_0 a2_1).bind fun bt127 => ((label_Join.f a1_0 a1_1 a2_0 a2_1).bind fun bt129 => ((label_Join.f a0_0 a0_1 bt129.1 bt129.2).bind fun bt131 => (if (!(bt127.1 == bt131.1) || (!(bt127.2 == bt131.2))) = true then (oculuslaw02_LabelLattice.j2 kj103 true a0_0 a0_1 a1_0 a1_1 t104 t105 t107 t108) else ((label_Meet.f t107 t108 a2_0 a2_1).bind fun bt133 => ((label_Meet.f a1_0 a1_1 a2_0 a2_1).bind fun bt135 => ((label_Meet.f a0_0 a0_1 bt135.1 bt135.2).bind fun bt137 => (oculuslaw02_LabelLattice.j2 kj103 (!(bt133.1 == bt137.1) || (!(bt133.2 == bt137.2))) a0_0 a0_1 a1_0 a1_1 t104 t105 t107 t108))))))))) = some r := H
         have A148 := Aside0.mk A1480; clear A1480
         by_cases c149 : (!(t125 == t107) || (!(t126 == t108))) = true
         ·rw [if_pos c149] at H
          have c149b0 : (!(t125 == t107) || (!(t126 == t108))) = true := c149
          clear c149
          have H' := Aside0.mk H
          clear H
          try go_wp2
          (try (rw [drewN_self wc]; generalize hq_ : World.drewN wc _ = wc; have n0_ : Aside0 (wc.heap[gb101]? = some (.cells #[.int .i64 a0_0, .int .u64 a0_1] 24 (0, 0))) := ⟨by rw [← hq_]; exact (pkx BK101)⟩; have n1_ : Aside0 (wc.heap[gb102]? = some (.cells #[.int .i64 a1_0, .int .u64 a1_1] 24 (0, 0))) := ⟨by rw [← hq_]; exact (pkx BK102)⟩; have n2_ : Aside0 (wc.heap[gb103]? = some (.cells #[.int .i64 a2_0, .int .u64 a2_1] 24 (0, 0))) := ⟨by rw [← hq_]; exact (pkx BK103)⟩; have n3_ : Aside0 (wc.heap[gb106]? = some (.cells #[.int .i64 t104, .int .u64 t105] 24 (0, 0))) := ⟨by rw [← hq_]; exact (pkx BK106)⟩; have n4_ : Aside0 (wc.heap[gb109]? = some (.cells #[.int .i64 t107, .int .u64 t108] 24 (0, 0))) := ⟨by rw [← hq_]; exact (pkx BK109)⟩; have n5_ : Aside0 (Below w.heap.size w wc) := ⟨by rw [← hq_]; exact (pbx HB)⟩; clear BK101 BK102 BK103 BK106 BK109 HB hq_; have BK101 := n0_; have BK102 := n1_; have BK103 := n2_; have BK106 := n3_; have BK109 := n4_; have HB := n5_; clear n0_ n1_ n2_ n3_ n4_ n5_))
          replace BK101 := Aside0.mk (blk_drew BK101.out); replace BK102 := Aside0.mk (blk_drew BK102.out); replace BK103 := Aside0.mk (blk_drew BK103.out); replace BK106 := Aside0.mk (blk_drew BK106.out); replace BK109 := Aside0.mk (blk_drew BK109.out); replace HB := Aside0.mk (below_drew1 HB.out)
          refine start_ (n:=34) (S := fun w' => w'.cell? ⟨gb102, 0, none⟩ = some (.int .i64 a1_0) ∧ w'.cell? ⟨gb102, 1, none⟩ = some (.int .u64 a1_1) ∧ w'.cell? ⟨gb101, 0, none⟩ = some (.int .i64 a0_0) ∧ w'.cell? ⟨gb101, 1, none⟩ = some (.int .u64 a0_1) ∧ w'.cell? ⟨gb106, 0, none⟩ = some (.int .i64 t104) ∧ w'.cell? ⟨gb106, 1, none⟩ = some (.int .u64 t105) ∧ w'.cell? ⟨gb109, 0, none⟩ = some (.int .i64 t107) ∧ w'.cell? ⟨gb109, 1, none⟩ = some (.int .u64 t108)) (ds := []) #[F,F,F,F,F,F,F,F,F,F,F,F,F,F,F,F,F,F,F,F,F,F,F,F,F,F,F,F,F,F,F,F,F,F] (by kernel_rfl) rfl rfl ⟨bc_ BK102 0 rfl, bc_ BK102 1 rfl, bc_ BK101 0 rfl, bc_ BK101 1 rfl, bc_ BK106 0 rfl, bc_ BK106 1 rfl, bc_ BK109 0 rfl, bc_ BK109 1 rfl⟩ (fun hHeld => ?_); refine with_tabW oculuslaw02_LabelLattice.tab7 oculuslaw02_LabelLattice.bits7 (fun HT_ HW_ => ?_)
          generalize wc.drew = w150 at BK101 BK102 BK103 BK106 BK109 HB hHeld ⊢; refine take_ (i:=0) (N:=some 63) (v:=?_) (a':=?_) ⟨m_ 34 1⟩ rfl rfl (take_ofW HT_.out HW_.out (by kernel_rfl)) (fun _ _ _ h=>h) (Or.inl ⟨rfl, ?_⟩) hHeld ?_ ?_; rotate_left
          ·rintro w' ⟨s0, s1, s2, s3, s4, s5, s6, s7⟩; go_simp; with_reducible rfl
          rotate_left
          ·simp only [q_, i64_w, i32_w]; rfl
          refine take_ (i:=1) (N:=some 64) (v:=?_) (a':=?_) ⟨m_ 34 3⟩ rfl rfl (take_ofW HT_.out HW_.out (by kernel_rfl)) (fun _ _ _ h=>h) (Or.inl ⟨rfl, ?_⟩) hHeld ?_ ?_; rotate_left
          ·rintro w' ⟨s0, s1, s2, s3, s4, s5, s6, s7⟩; go_simp; with_reducible rfl
          rotate_left
          ·simp only [q_, i64_w, i32_w]; rfl
          refine take_ (i:=3) (N:=some 66) (v:=?_) (a':=?_) ⟨m_ 34 11⟩ rfl rfl (take_ofW HT_.out HW_.out (by kernel_rfl)) (fun _ _ _ h=>h) (Or.inl ⟨rfl, ?_⟩) hHeld ?_ ?_; rotate_left
          ·rintro w' ⟨s0, s1, s2, s3, s4, s5, s6, s7⟩; go_simp; with_reducible rfl
          rotate_left
          ·simp only [q_, i64_w, i32_w]; rfl
          refine one_ (i:=2) (N:=some 65) ⟨m_ 34 15⟩ rfl rfl (one_of HT_.out (by kernel_rfl)) (by decide) (fun K hK => ?_); refine goes_ Tryd.func25 (by kernel_rfl) rfl #[.agg #[.int .i64 a1_0, .int .u64 a1_1], .agg #[.int .i64 a0_0, .int .u64 a0_1]] (by rfl) rfl rfl (by (try simp only [List.map_toArray, List.map_cons, List.map_nil]); first | done | rfl | (simp only [List.length_drop, List.length_take]; rfl)) ?_; with_reducible refine (label_Join.calls a1_0 a1_1 a0_0 a0_1 t123 t124 _ A144.out).mono ?_; rintro e w151 ⟨rfl, hb⟩; refine ⟨_, rfl, ?_⟩
          replace BK101 := bb_ BK101 hb; replace BK102 := bb_ BK102 hb; replace BK103 := bb_ BK103 hb; replace BK106 := bb_ BK106 hb; replace BK109 := bb_ BK109 hb; replace HB := bs_ HB hb; (try clear hb); (try clear hb2); (try clear hk); (try clear hi); refine hK.out _ _ ⟨bc_ BK102 0 rfl, bc_ BK102 1 rfl, bc_ BK101 0 rfl, bc_ BK101 1 rfl, bc_ BK106 0 rfl, bc_ BK106 1 rfl, bc_ BK109 0 rfl, bc_ BK109 1 rfl⟩ (fun hHeld => ?_); clear hK K; refine norm_ (a':=?_) ?_ ?_; rotate_left
          ·show Act.put _ (some 65) _ = _; simp only [q_, i64_w, i32_w]; rfl
          refine pure_ (i:=4) (N:=some 67) (v:=?_) (a':=?_) ⟨m_ 34 31⟩ rfl rfl (any_of HT_.out (by kernel_rfl)) (fun _ _ _ h=>h) (Or.inl ⟨rfl, ?_⟩) ?_ ?_; rotate_left
          ·intro w'; go_simp; with_reducible rfl
          rotate_left
          ·simp only [q_, i64_w, i32_w]; rfl
          refine pure_ (i:=5) (N:=some 68) (v:=?_) (a':=?_) ⟨m_ 34 63⟩ rfl rfl (any_of HT_.out (by kernel_rfl)) (fun _ _ _ h=>h) (Or.inl ⟨rfl, ?_⟩) ?_ ?_; rotate_left
          ·intro w'; go_simp; with_reducible rfl
          rotate_left
          ·simp only [q_, i64_w, i32_w]; rfl
          refine take_ (i:=6) (N:=some 69) (v:=?_) (a':=?_) ⟨m_ 34 127⟩ rfl rfl (take_ofW HT_.out HW_.out (by kernel_rfl)) (fun _ _ _ h=>h) (Or.inl ⟨rfl, ?_⟩) hHeld ?_ ?_; rotate_left
          ·rintro w' ⟨s0, s1, s2, s3, s4, s5, s6, s7⟩; go_simp; with_reducible rfl
          rotate_left
          ·simp only [q_, i64_w, i32_w]; rfl
          refine take_ (i:=7) (N:=some 70) (v:=?_) (a':=?_) ⟨m_ 34 255⟩ rfl rfl (take_ofW HT_.out HW_.out (by kernel_rfl)) (fun _ _ _ h=>h) (Or.inl ⟨rfl, ?_⟩) hHeld ?_ ?_; rotate_left
          ·rintro w' ⟨s0, s1, s2, s3, s4, s5, s6, s7⟩; go_simp; with_reducible rfl
          rotate_left
          ·simp only [q_, i64_w, i32_w]; rfl
          refine take_ (i:=9) (N:=some 72) (v:=?_) (a':=?_) ⟨m_ 34 767⟩ rfl rfl (take_ofW HT_.out HW_.out (by kernel_rfl)) (fun _ _ _ h=>h) (Or.inl ⟨rfl, ?_⟩) hHeld ?_ ?_; rotate_left
          ·rintro w' ⟨s0, s1, s2, s3, s4, s5, s6, s7⟩; go_simp; with_reducible rfl
          rotate_left
          ·simp only [q_, i64_w, i32_w]; rfl
          refine one_ (i:=8) (N:=some 71) ⟨m_ 34 1023⟩ rfl rfl (one_of HT_.out (by kernel_rfl)) (by decide) (fun K hK => ?_); refine goes_ Tryd.func26 (by kernel_rfl) rfl #[.agg #[.int .i64 a1_0, .int .u64 a1_1], .agg #[.int .i64 a0_0, .int .u64 a0_1]] (by rfl) rfl rfl (by (try simp only [List.map_toArray, List.map_cons, List.map_nil]); first | done | rfl | (simp only [List.length_drop, List.length_take]; rfl)) ?_; with_reducible refine (label_Meet.calls a1_0 a1_1 a0_0 a0_1 t125 t126 _ A148.out).mono ?_; rintro e w152 ⟨rfl, hb⟩; refine ⟨_, rfl, ?_⟩
          replace BK101 := bb_ BK101 hb; replace BK102 := bb_ BK102 hb; replace BK103 := bb_ BK103 hb; replace BK106 := bb_ BK106 hb; replace BK109 := bb_ BK109 hb; replace HB := bs_ HB hb; (try clear hb); (try clear hb2); (try clear hk); (try clear hi); refine hK.out _ _ ⟨bc_ BK102 0 rfl, bc_ BK102 1 rfl, bc_ BK101 0 rfl, bc_ BK101 1 rfl, bc_ BK106 0 rfl, bc_ BK106 1 rfl, bc_ BK109 0 rfl, bc_ BK109 1 rfl⟩ (fun hHeld => ?_); clear hK K; refine norm_ (a':=?_) ?_ ?_; rotate_left
          ·show Act.put _ (some 71) _ = _; simp only [q_, i64_w, i32_w]; rfl
          refine pure_ (i:=10) (N:=some 73) (v:=?_) (a':=?_) ⟨m_ 34 2047⟩ rfl rfl (any_of HT_.out (by kernel_rfl)) (fun _ _ _ h=>h) (Or.inl ⟨rfl, ?_⟩) ?_ ?_; rotate_left
          ·intro w'; go_simp; with_reducible rfl
          rotate_left
          ·simp only [q_, i64_w, i32_w]; rfl
          refine pure_ (i:=11) (N:=some 74) (v:=?_) (a':=?_) ⟨m_ 34 4095⟩ rfl rfl (any_of HT_.out (by kernel_rfl)) (fun _ _ _ h=>h) (Or.inl ⟨rfl, ?_⟩) ?_ ?_; rotate_left
          ·intro w'; go_simp; with_reducible rfl
          rotate_left
          ·simp only [q_, i64_w, i32_w]; rfl
          refine pure_ (i:=12) (N:=some 75) (v:=?_) (a':=?_) ⟨m_ 34 8191⟩ rfl rfl (any_of HT_.out (by kernel_rfl)) (fun _ _ _ h=>h) (Or.inl ⟨rfl, ?_⟩) ?_ ?_; rotate_left
          ·intro w'; go_simp; with_reducible rfl
          rotate_left
          ·simp only [q_, i64_w, i32_w]; rfl
          refine pure_ (i:=13) (N:=some 76) (v:=undef) (a':=?_) ⟨m_ 34 16383⟩ rfl rfl (any_of HT_.out (by kernel_rfl)) (fun _ _ _ h=>h) (Or.inr ⟨by rfl, rfl⟩) ?_ ?_; rotate_left
          ·simp only [q_, i64_w, i32_w]; rfl
          refine pure_ (i:=14) (N:=some 77) (v:=undef) (a':=?_) ⟨m_ 34 32767⟩ rfl rfl (any_of HT_.out (by kernel_rfl)) (fun _ _ _ h=>h) (Or.inr ⟨by rfl, rfl⟩) ?_ ?_; rotate_left
          ·simp only [q_, i64_w, i32_w]; rfl
          refine pure_ (i:=15) (N:=some 78) (v:=undef) (a':=?_) ⟨m_ 34 65535⟩ rfl rfl (any_of HT_.out (by kernel_rfl)) (fun _ _ _ h=>h) (Or.inr ⟨by rfl, rfl⟩) ?_ ?_; rotate_left
          ·simp only [q_, i64_w, i32_w]; rfl
          refine pure_ (i:=16) (N:=some 79) (v:=undef) (a':=?_) ⟨m_ 34 131071⟩ rfl rfl (any_of HT_.out (by kernel_rfl)) (fun _ _ _ h=>h) (Or.inr ⟨by rfl, rfl⟩) ?_ ?_; rotate_left
          ·simp only [q_, i64_w, i32_w]; rfl
          refine pure_ (i:=17) (N:=some 80) (v:=undef) (a':=?_) ⟨m_ 34 262143⟩ rfl rfl (any_of HT_.out (by kernel_rfl)) (fun _ _ _ h=>h) (Or.inr ⟨by rfl, rfl⟩) ?_ ?_; rotate_left
          ·simp only [q_, i64_w, i32_w]; rfl
          refine pure_ (i:=18) (N:=some 81) (v:=undef) (a':=?_) ⟨m_ 34 524287⟩ rfl rfl (any_of HT_.out (by kernel_rfl)) (fun _ _ _ h=>h) (Or.inr ⟨by rfl, rfl⟩) ?_ ?_; rotate_left
          ·simp only [q_, i64_w, i32_w]; rfl
          refine pure_ (i:=19) (N:=some 82) (v:=undef) (a':=?_) ⟨m_ 34 1048575⟩ rfl rfl (any_of HT_.out (by kernel_rfl)) (fun _ _ _ h=>h) (Or.inr ⟨by rfl, rfl⟩) ?_ ?_; rotate_left
          ·simp only [q_, i64_w, i32_w]; rfl
          refine pure_ (i:=20) (N:=some 83) (v:=undef) (a':=?_) ⟨m_ 34 2097151⟩ rfl rfl (any_of HT_.out (by kernel_rfl)) (fun _ _ _ h=>h) (Or.inr ⟨by rfl, rfl⟩) ?_ ?_; rotate_left
          ·simp only [q_, i64_w, i32_w]; rfl
          refine pure_ (i:=21) (N:=some 84) (v:=undef) (a':=?_) ⟨m_ 34 4194303⟩ rfl rfl (any_of HT_.out (by kernel_rfl)) (fun _ _ _ h=>h) (Or.inr ⟨by rfl, rfl⟩) ?_ ?_; rotate_left
          ·simp only [q_, i64_w, i32_w]; rfl
          refine pure_ (i:=22) (N:=some 85) (v:=?_) (a':=?_) ⟨m_ 34 8388607⟩ rfl rfl (any_of HT_.out (by kernel_rfl)) (fun _ _ _ h=>h) (Or.inl ⟨rfl, ?_⟩) ?_ ?_; rotate_left
          ·intro w'; go_simp; with_reducible rfl
          rotate_left
          ·simp only [q_, i64_w, i32_w]; rfl
          refine pure_ (i:=23) (N:=some 86) (v:=?_) (a':=?_) ⟨m_ 34 16777215⟩ rfl rfl (any_of HT_.out (by kernel_rfl)) (fun _ _ _ h=>h) (Or.inl ⟨rfl, ?_⟩) ?_ ?_; rotate_left
          ·intro w'; go_simp; with_reducible rfl
          rotate_left
          ·simp only [q_, i64_w, i32_w]; rfl
          refine pure_ (i:=24) (N:=some 87) (v:=undef) (a':=?_) ⟨m_ 34 33554431⟩ rfl rfl (any_of HT_.out (by kernel_rfl)) (fun _ _ _ h=>h) (Or.inr ⟨by rfl, rfl⟩) ?_ ?_; rotate_left
          ·simp only [q_, i64_w, i32_w]; rfl
          refine pure_ (i:=25) (N:=some 88) (v:=undef) (a':=?_) ⟨m_ 34 67108863⟩ rfl rfl (any_of HT_.out (by kernel_rfl)) (fun _ _ _ h=>h) (Or.inr ⟨by rfl, rfl⟩) ?_ ?_; rotate_left
          ·simp only [q_, i64_w, i32_w]; rfl
          refine pure_ (i:=26) (N:=some 89) (v:=undef) (a':=?_) ⟨m_ 34 134217727⟩ rfl rfl (any_of HT_.out (by kernel_rfl)) (fun _ _ _ h=>h) (Or.inr ⟨by rfl, rfl⟩) ?_ ?_; rotate_left
          ·simp only [q_, i64_w, i32_w]; rfl
          refine pure_ (i:=27) (N:=some 90) (v:=undef) (a':=?_) ⟨m_ 34 268435455⟩ rfl rfl (any_of HT_.out (by kernel_rfl)) (fun _ _ _ h=>h) (Or.inr ⟨by rfl, rfl⟩) ?_ ?_; rotate_left
          ·simp only [q_, i64_w, i32_w]; rfl
          refine pure_ (i:=28) (N:=some 91) (v:=undef) (a':=?_) ⟨m_ 34 536870911⟩ rfl rfl (any_of HT_.out (by kernel_rfl)) (fun _ _ _ h=>h) (Or.inr ⟨by rfl, rfl⟩) ?_ ?_; rotate_left
          ·simp only [q_, i64_w, i32_w]; rfl
          refine pure_ (i:=29) (N:=some 92) (v:=undef) (a':=?_) ⟨m_ 34 1073741823⟩ rfl rfl (any_of HT_.out (by kernel_rfl)) (fun _ _ _ h=>h) (Or.inr ⟨by rfl, rfl⟩) ?_ ?_; rotate_left
          ·simp only [q_, i64_w, i32_w]; rfl
          refine pure_ (i:=30) (N:=some 93) (v:=undef) (a':=?_) ⟨m_ 34 2147483647⟩ rfl rfl (any_of HT_.out (by kernel_rfl)) (fun _ _ _ h=>h) (Or.inr ⟨by rfl, rfl⟩) ?_ ?_; rotate_left
          ·simp only [q_, i64_w, i32_w]; rfl
          refine pure_ (i:=31) (N:=some 94) (v:=undef) (a':=?_) ⟨m_ 34 4294967295⟩ rfl rfl (any_of HT_.out (by kernel_rfl)) (fun _ _ _ h=>h) (Or.inr ⟨by rfl, rfl⟩) ?_ ?_; rotate_left
          ·simp only [q_, i64_w, i32_w]; rfl
          refine pure_ (i:=32) (N:=some 95) (v:=undef) (a':=?_) ⟨m_ 34 8589934591⟩ rfl rfl (any_of HT_.out (by kernel_rfl)) (fun _ _ _ h=>h) (Or.inr ⟨by rfl, rfl⟩) ?_ ?_; rotate_left
          ·simp only [q_, i64_w, i32_w]; rfl
          refine pure_ (i:=33) (N:=some 96) (v:=?_) (a':=?_) ⟨m_ 34 17179869183⟩ rfl rfl (any_of HT_.out (by kernel_rfl)) (fun _ _ _ h=>h) (Or.inl ⟨rfl, ?_⟩) ?_ ?_; rotate_left
          ·intro w'; go_simp; with_reducible rfl
          rotate_left
          ·simp only [q_, i64_w, i32_w]; rfl
          refine done_ (done_of HT_.out (by kernel_rfl)) ?_
          try go_wp2
          go_meet
          case rel => exact ⟨_, (true), (by first | rfl | (simp; done) | (simp [*]; done)), H', ⟨by have := HJ5.out; have := HJ103.out; first | omega | exact Nat.le_refl _⟩, ⟨pkx BK101⟩, ⟨pkx BK102⟩, ⟨pkx BK103⟩, ⟨pkx BK106⟩, ⟨pkx BK109⟩, ⟨pbx HB⟩⟩
         ·rw [if_neg c149] at H
          have c149b0 : (!(t125 == t107) || (!(t126 == t108))) = false := by simpa using c149
          clear c149; replace H := Option.bind_eq_some_iff.mp H; obtain ⟨⟨t127, t128⟩, A1530, H⟩ := H
          replace H : ((label_Join.f a1_0 a1_1 a2_0 a2_1).bind fun bt129 => ((label_Join.f a0_0 a0_1 bt129.1 bt129.2).bind fun bt131 => (if (!(t127 == bt131.1) || (!(t128 == bt131.2))) = true then (oculuslaw02_LabelLattice.j2 kj103 true a0_0 a0_1 a1_0 a1_1 t104 t105 t107 t108) else ((label_Meet.f t107 t108 a2_0 a2_1).bind fun bt133 => ((label_Meet.f a1_0 a1_1 a2_0 a2_1).bind fun bt135 => ((label_Meet.f a0_0 a0_1 bt135.1 bt135.2).bind fun bt137 => (oculuslaw02_LabelLattice.j2 kj103 (!(bt133.1 == bt137.1) || (!(bt133.2 == bt137.2))) a0_0 a0_1 a1_0 a1_1 t104 t105 t107 t108))))))) = some r := H
          have A153 := Aside0.mk A1530; clear A1530; replace H := Option.bind_eq_some_iff.mp H; obtain ⟨⟨t129, t130⟩, A1540, H⟩ := H
          replace H : ((label_Join.f a0_0 a0_1 t129 t130).bind fun bt131 => (if (!(t127 == bt131.1) || (!(t128 == bt131.2))) = true then (oculuslaw02_LabelLattice.j2 kj103 true a0_0 a0_1 a1_0 a1_1 t104 t105 t107 t108) else ((label_Meet.f t107 t108 a2_0 a2_1).bind fun bt133 => ((label_Meet.f a1_0 a1_1 a2_0 a2_1).bind fun bt135 => ((label_Meet.f a0_0 a0_1 bt135.1 bt135.2).bind fun bt137 => (oculuslaw02_LabelLattice.j2 kj103 (!(bt133.1 == bt137.1) || (!(bt133.2 == bt137.2))) a0_0 a0_1 a1_0 a1_1 t104 t105 t107 t108)))))) = some r := H
          have A154 := Aside0.mk A1540; clear A1540; replace H := Option.bind_eq_some_iff.mp H; obtain ⟨⟨t131, t132⟩, A1550, H⟩ := H
          replace H : (if (!(t127 == t131) || (!(t128 == t132))) = true then (oculuslaw02_LabelLattice.j2 kj103 true a0_0 a0_1 a1_0 a1_1 t104 t105 t107 t108) else ((label_Meet.f t107 t108 a2_0 a2_1).bind fun bt133 => ((label_Meet.f a1_0 a1_1 a2_0 a2_1).bind fun bt135 => ((label_Meet.f a0_0 a0_1 bt135.1 bt135.2).bind fun bt137 => (oculuslaw02_LabelLattice.j2 kj103 (!(bt133.1 == bt137.1) || (!(bt133.2 == bt137.2))) a0_0 a0_1 a1_0 a1_1 t104 t105 t107 t108))))) = some r := H
          have A155 := Aside0.mk A1550; clear A1550
          by_cases c156 : (!(t127 == t131) || (!(t128 == t132))) = true
          ·rw [if_pos c156] at H
           have c156b0 : (!(t127 == t131) || (!(t128 == t132))) = true := c156
           clear c156
           have H' := Aside0.mk H
           clear H
           try go_wp2
           (try (rw [drewN_self wc]; generalize hq_ : World.drewN wc _ = wc; have n0_ : Aside0 (wc.heap[gb101]? = some (.cells #[.int .i64 a0_0, .int .u64 a0_1] 24 (0, 0))) := ⟨by rw [← hq_]; exact (pkx BK101)⟩; have n1_ : Aside0 (wc.heap[gb102]? = some (.cells #[.int .i64 a1_0, .int .u64 a1_1] 24 (0, 0))) := ⟨by rw [← hq_]; exact (pkx BK102)⟩; have n2_ : Aside0 (wc.heap[gb103]? = some (.cells #[.int .i64 a2_0, .int .u64 a2_1] 24 (0, 0))) := ⟨by rw [← hq_]; exact (pkx BK103)⟩; have n3_ : Aside0 (wc.heap[gb106]? = some (.cells #[.int .i64 t104, .int .u64 t105] 24 (0, 0))) := ⟨by rw [← hq_]; exact (pkx BK106)⟩; have n4_ : Aside0 (wc.heap[gb109]? = some (.cells #[.int .i64 t107, .int .u64 t108] 24 (0, 0))) := ⟨by rw [← hq_]; exact (pkx BK109)⟩; have n5_ : Aside0 (Below w.heap.size w wc) := ⟨by rw [← hq_]; exact (pbx HB)⟩; clear BK101 BK102 BK103 BK106 BK109 HB hq_; have BK101 := n0_; have BK102 := n1_; have BK103 := n2_; have BK106 := n3_; have BK109 := n4_; have HB := n5_; clear n0_ n1_ n2_ n3_ n4_ n5_))
           replace BK101 := Aside0.mk (blk_drew BK101.out); replace BK102 := Aside0.mk (blk_drew BK102.out); replace BK103 := Aside0.mk (blk_drew BK103.out); replace BK106 := Aside0.mk (blk_drew BK106.out); replace BK109 := Aside0.mk (blk_drew BK109.out); replace HB := Aside0.mk (below_drew1 HB.out)
           refine start_ (n:=34) (S := fun w' => w'.cell? ⟨gb102, 0, none⟩ = some (.int .i64 a1_0) ∧ w'.cell? ⟨gb102, 1, none⟩ = some (.int .u64 a1_1) ∧ w'.cell? ⟨gb101, 0, none⟩ = some (.int .i64 a0_0) ∧ w'.cell? ⟨gb101, 1, none⟩ = some (.int .u64 a0_1) ∧ w'.cell? ⟨gb106, 0, none⟩ = some (.int .i64 t104) ∧ w'.cell? ⟨gb106, 1, none⟩ = some (.int .u64 t105) ∧ w'.cell? ⟨gb109, 0, none⟩ = some (.int .i64 t107) ∧ w'.cell? ⟨gb109, 1, none⟩ = some (.int .u64 t108) ∧ w'.cell? ⟨gb103, 0, none⟩ = some (.int .i64 a2_0) ∧ w'.cell? ⟨gb103, 1, none⟩ = some (.int .u64 a2_1)) (ds := []) #[F,F,F,F,F,F,F,F,F,F,F,F,F,F,F,F,F,F,F,F,F,F,F,F,F,F,F,F,F,F,F,F,F,F] (by kernel_rfl) rfl rfl ⟨bc_ BK102 0 rfl, bc_ BK102 1 rfl, bc_ BK101 0 rfl, bc_ BK101 1 rfl, bc_ BK106 0 rfl, bc_ BK106 1 rfl, bc_ BK109 0 rfl, bc_ BK109 1 rfl, bc_ BK103 0 rfl, bc_ BK103 1 rfl⟩ (fun hHeld => ?_); refine with_tabW oculuslaw02_LabelLattice.tab7 oculuslaw02_LabelLattice.bits7 (fun HT_ HW_ => ?_)
           generalize wc.drew = w157 at BK101 BK102 BK103 BK106 BK109 HB hHeld ⊢; refine take_ (i:=0) (N:=some 63) (v:=?_) (a':=?_) ⟨m_ 34 1⟩ rfl rfl (take_ofW HT_.out HW_.out (by kernel_rfl)) (fun _ _ _ h=>h) (Or.inl ⟨rfl, ?_⟩) hHeld ?_ ?_; rotate_left
           ·rintro w' ⟨s0, s1, s2, s3, s4, s5, s6, s7, s8, s9⟩; go_simp; with_reducible rfl
           rotate_left
           ·simp only [q_, i64_w, i32_w]; rfl
           refine take_ (i:=1) (N:=some 64) (v:=?_) (a':=?_) ⟨m_ 34 3⟩ rfl rfl (take_ofW HT_.out HW_.out (by kernel_rfl)) (fun _ _ _ h=>h) (Or.inl ⟨rfl, ?_⟩) hHeld ?_ ?_; rotate_left
           ·rintro w' ⟨s0, s1, s2, s3, s4, s5, s6, s7, s8, s9⟩; go_simp; with_reducible rfl
           rotate_left
           ·simp only [q_, i64_w, i32_w]; rfl
           refine take_ (i:=3) (N:=some 66) (v:=?_) (a':=?_) ⟨m_ 34 11⟩ rfl rfl (take_ofW HT_.out HW_.out (by kernel_rfl)) (fun _ _ _ h=>h) (Or.inl ⟨rfl, ?_⟩) hHeld ?_ ?_; rotate_left
           ·rintro w' ⟨s0, s1, s2, s3, s4, s5, s6, s7, s8, s9⟩; go_simp; with_reducible rfl
           rotate_left
           ·simp only [q_, i64_w, i32_w]; rfl
           refine one_ (i:=2) (N:=some 65) ⟨m_ 34 15⟩ rfl rfl (one_of HT_.out (by kernel_rfl)) (by decide) (fun K hK => ?_); refine goes_ Tryd.func25 (by kernel_rfl) rfl #[.agg #[.int .i64 a1_0, .int .u64 a1_1], .agg #[.int .i64 a0_0, .int .u64 a0_1]] (by rfl) rfl rfl (by (try simp only [List.map_toArray, List.map_cons, List.map_nil]); first | done | rfl | (simp only [List.length_drop, List.length_take]; rfl)) ?_; with_reducible refine (label_Join.calls a1_0 a1_1 a0_0 a0_1 t123 t124 _ A144.out).mono ?_; rintro e w158 ⟨rfl, hb⟩; refine ⟨_, rfl, ?_⟩
           replace BK101 := bb_ BK101 hb; replace BK102 := bb_ BK102 hb; replace BK103 := bb_ BK103 hb; replace BK106 := bb_ BK106 hb; replace BK109 := bb_ BK109 hb; replace HB := bs_ HB hb; (try clear hb); (try clear hb2); (try clear hk); (try clear hi); refine hK.out _ _ ⟨bc_ BK102 0 rfl, bc_ BK102 1 rfl, bc_ BK101 0 rfl, bc_ BK101 1 rfl, bc_ BK106 0 rfl, bc_ BK106 1 rfl, bc_ BK109 0 rfl, bc_ BK109 1 rfl, bc_ BK103 0 rfl, bc_ BK103 1 rfl⟩ (fun hHeld => ?_); clear hK K; refine norm_ (a':=?_) ?_ ?_; rotate_left
           ·show Act.put _ (some 65) _ = _; simp only [q_, i64_w, i32_w]; rfl
           refine pure_ (i:=4) (N:=some 67) (v:=?_) (a':=?_) ⟨m_ 34 31⟩ rfl rfl (any_of HT_.out (by kernel_rfl)) (fun _ _ _ h=>h) (Or.inl ⟨rfl, ?_⟩) ?_ ?_; rotate_left
           ·intro w'; go_simp; with_reducible rfl
           rotate_left
           ·simp only [q_, i64_w, i32_w]; rfl
           refine pure_ (i:=5) (N:=some 68) (v:=?_) (a':=?_) ⟨m_ 34 63⟩ rfl rfl (any_of HT_.out (by kernel_rfl)) (fun _ _ _ h=>h) (Or.inl ⟨rfl, ?_⟩) ?_ ?_; rotate_left
           ·intro w'; go_simp; with_reducible rfl
           rotate_left
           ·simp only [q_, i64_w, i32_w]; rfl
           refine take_ (i:=6) (N:=some 69) (v:=?_) (a':=?_) ⟨m_ 34 127⟩ rfl rfl (take_ofW HT_.out HW_.out (by kernel_rfl)) (fun _ _ _ h=>h) (Or.inl ⟨rfl, ?_⟩) hHeld ?_ ?_; rotate_left
           ·rintro w' ⟨s0, s1, s2, s3, s4, s5, s6, s7, s8, s9⟩; go_simp; with_reducible rfl
           rotate_left
           ·simp only [q_, i64_w, i32_w]; rfl
           refine take_ (i:=7) (N:=some 70) (v:=?_) (a':=?_) ⟨m_ 34 255⟩ rfl rfl (take_ofW HT_.out HW_.out (by kernel_rfl)) (fun _ _ _ h=>h) (Or.inl ⟨rfl, ?_⟩) hHeld ?_ ?_; rotate_left
           ·rintro w' ⟨s0, s1, s2, s3, s4, s5, s6, s7, s8, s9⟩; go_simp; with_reducible rfl
           rotate_left
           ·simp only [q_, i64_w, i32_w]; rfl
           refine take_ (i:=9) (N:=some 72) (v:=?_) (a':=?_) ⟨m_ 34 767⟩ rfl rfl (take_ofW HT_.out HW_.out (by kernel_rfl)) (fun _ _ _ h=>h) (Or.inl ⟨rfl, ?_⟩) hHeld ?_ ?_; rotate_left
           ·rintro w' ⟨s0, s1, s2, s3, s4, s5, s6, s7, s8, s9⟩; go_simp; with_reducible rfl
           rotate_left
           ·simp only [q_, i64_w, i32_w]; rfl
           refine one_ (i:=8) (N:=some 71) ⟨m_ 34 1023⟩ rfl rfl (one_of HT_.out (by kernel_rfl)) (by decide) (fun K hK => ?_); refine goes_ Tryd.func26 (by kernel_rfl) rfl #[.agg #[.int .i64 a1_0, .int .u64 a1_1], .agg #[.int .i64 a0_0, .int .u64 a0_1]] (by rfl) rfl rfl (by (try simp only [List.map_toArray, List.map_cons, List.map_nil]); first | done | rfl | (simp only [List.length_drop, List.length_take]; rfl)) ?_; with_reducible refine (label_Meet.calls a1_0 a1_1 a0_0 a0_1 t125 t126 _ A148.out).mono ?_; rintro e w159 ⟨rfl, hb⟩; refine ⟨_, rfl, ?_⟩
           replace BK101 := bb_ BK101 hb; replace BK102 := bb_ BK102 hb; replace BK103 := bb_ BK103 hb; replace BK106 := bb_ BK106 hb; replace BK109 := bb_ BK109 hb; replace HB := bs_ HB hb; (try clear hb); (try clear hb2); (try clear hk); (try clear hi); refine hK.out _ _ ⟨bc_ BK102 0 rfl, bc_ BK102 1 rfl, bc_ BK101 0 rfl, bc_ BK101 1 rfl, bc_ BK106 0 rfl, bc_ BK106 1 rfl, bc_ BK109 0 rfl, bc_ BK109 1 rfl, bc_ BK103 0 rfl, bc_ BK103 1 rfl⟩ (fun hHeld => ?_); clear hK K; refine norm_ (a':=?_) ?_ ?_; rotate_left
           ·show Act.put _ (some 71) _ = _; simp only [q_, i64_w, i32_w]; rfl
           refine pure_ (i:=10) (N:=some 73) (v:=?_) (a':=?_) ⟨m_ 34 2047⟩ rfl rfl (any_of HT_.out (by kernel_rfl)) (fun _ _ _ h=>h) (Or.inl ⟨rfl, ?_⟩) ?_ ?_; rotate_left
           ·intro w'; go_simp; with_reducible rfl
           rotate_left
           ·simp only [q_, i64_w, i32_w]; rfl
           refine pure_ (i:=11) (N:=some 74) (v:=?_) (a':=?_) ⟨m_ 34 4095⟩ rfl rfl (any_of HT_.out (by kernel_rfl)) (fun _ _ _ h=>h) (Or.inl ⟨rfl, ?_⟩) ?_ ?_; rotate_left
           ·intro w'; go_simp; with_reducible rfl
           rotate_left
           ·simp only [q_, i64_w, i32_w]; rfl
           refine pure_ (i:=12) (N:=some 75) (v:=?_) (a':=?_) ⟨m_ 34 8191⟩ rfl rfl (any_of HT_.out (by kernel_rfl)) (fun _ _ _ h=>h) (Or.inl ⟨rfl, ?_⟩) ?_ ?_; rotate_left
           ·intro w'; go_simp; with_reducible rfl
           rotate_left
           ·simp only [q_, i64_w, i32_w]; rfl
           refine take_ (i:=13) (N:=some 76) (v:=?_) (a':=?_) ⟨m_ 34 16383⟩ rfl rfl (take_ofW HT_.out HW_.out (by kernel_rfl)) (fun _ _ _ h=>h) (Or.inl ⟨rfl, ?_⟩) hHeld ?_ ?_; rotate_left
           ·rintro w' ⟨s0, s1, s2, s3, s4, s5, s6, s7, s8, s9⟩; go_simp; with_reducible rfl
           rotate_left
           ·simp only [q_, i64_w, i32_w]; rfl
           refine take_ (i:=14) (N:=some 77) (v:=?_) (a':=?_) ⟨m_ 34 32767⟩ rfl rfl (take_ofW HT_.out HW_.out (by kernel_rfl)) (fun _ _ _ h=>h) (Or.inl ⟨rfl, ?_⟩) hHeld ?_ ?_; rotate_left
           ·rintro w' ⟨s0, s1, s2, s3, s4, s5, s6, s7, s8, s9⟩; go_simp; with_reducible rfl
           rotate_left
           ·simp only [q_, i64_w, i32_w]; rfl
           refine take_ (i:=16) (N:=some 79) (v:=?_) (a':=?_) ⟨m_ 34 98303⟩ rfl rfl (take_ofW HT_.out HW_.out (by kernel_rfl)) (fun _ _ _ h=>h) (Or.inl ⟨rfl, ?_⟩) hHeld ?_ ?_; rotate_left
           ·rintro w' ⟨s0, s1, s2, s3, s4, s5, s6, s7, s8, s9⟩; go_simp; with_reducible rfl
           rotate_left
           ·simp only [q_, i64_w, i32_w]; rfl
           refine take_ (i:=17) (N:=some 80) (v:=?_) (a':=?_) ⟨m_ 34 229375⟩ rfl rfl (take_ofW HT_.out HW_.out (by kernel_rfl)) (fun _ _ _ h=>h) (Or.inl ⟨rfl, ?_⟩) hHeld ?_ ?_; rotate_left
           ·rintro w' ⟨s0, s1, s2, s3, s4, s5, s6, s7, s8, s9⟩; go_simp; with_reducible rfl
           rotate_left
           ·simp only [q_, i64_w, i32_w]; rfl
           refine take_ (i:=18) (N:=some 81) (v:=?_) (a':=?_) ⟨m_ 34 491519⟩ rfl rfl (take_ofW HT_.out HW_.out (by kernel_rfl)) (fun _ _ _ h=>h) (Or.inl ⟨rfl, ?_⟩) hHeld ?_ ?_; rotate_left
           ·rintro w' ⟨s0, s1, s2, s3, s4, s5, s6, s7, s8, s9⟩; go_simp; with_reducible rfl
           rotate_left
           ·simp only [q_, i64_w, i32_w]; rfl
           refine one_ (i:=15) (N:=some 78) ⟨m_ 34 524287⟩ rfl rfl (one_of HT_.out (by kernel_rfl)) (by decide) (fun K hK => ?_); refine goes_ Tryd.func25 (by kernel_rfl) rfl #[.agg #[.int .i64 t104, .int .u64 t105], .agg #[.int .i64 a2_0, .int .u64 a2_1]] (by rfl) rfl rfl (by (try simp only [List.map_toArray, List.map_cons, List.map_nil]); first | done | rfl | (simp only [List.length_drop, List.length_take]; rfl)) ?_; with_reducible refine (label_Join.calls t104 t105 a2_0 a2_1 t127 t128 _ A153.out).mono ?_; rintro e w160 ⟨rfl, hb⟩; refine ⟨_, rfl, ?_⟩
           replace BK101 := bb_ BK101 hb; replace BK102 := bb_ BK102 hb; replace BK103 := bb_ BK103 hb; replace BK106 := bb_ BK106 hb; replace BK109 := bb_ BK109 hb; replace HB := bs_ HB hb; (try clear hb); (try clear hb2); (try clear hk); (try clear hi); refine hK.out _ _ ⟨bc_ BK102 0 rfl, bc_ BK102 1 rfl, bc_ BK101 0 rfl, bc_ BK101 1 rfl, bc_ BK106 0 rfl, bc_ BK106 1 rfl, bc_ BK109 0 rfl, bc_ BK109 1 rfl, bc_ BK103 0 rfl, bc_ BK103 1 rfl⟩ (fun hHeld => ?_); clear hK K; refine norm_ (a':=?_) ?_ ?_; rotate_left
           ·show Act.put _ (some 78) _ = _; simp only [q_, i64_w, i32_w]; rfl
           refine one_ (i:=19) (N:=some 82) ⟨m_ 34 1048575⟩ rfl rfl (one_of HT_.out (by kernel_rfl)) (by decide) (fun K hK => ?_); refine goes_ Tryd.func25 (by kernel_rfl) rfl #[.agg #[.int .i64 a1_0, .int .u64 a1_1], .agg #[.int .i64 a2_0, .int .u64 a2_1]] (by rfl) rfl rfl (by (try simp only [List.map_toArray, List.map_cons, List.map_nil]); first | done | rfl | (simp only [List.length_drop, List.length_take]; rfl)) ?_; with_reducible refine (label_Join.calls a1_0 a1_1 a2_0 a2_1 t129 t130 _ A154.out).mono ?_; rintro e w161 ⟨rfl, hb⟩; refine ⟨_, rfl, ?_⟩
           replace BK101 := bb_ BK101 hb; replace BK102 := bb_ BK102 hb; replace BK103 := bb_ BK103 hb; replace BK106 := bb_ BK106 hb; replace BK109 := bb_ BK109 hb; replace HB := bs_ HB hb; (try clear hb); (try clear hb2); (try clear hk); (try clear hi); refine hK.out _ _ ⟨bc_ BK102 0 rfl, bc_ BK102 1 rfl, bc_ BK101 0 rfl, bc_ BK101 1 rfl, bc_ BK106 0 rfl, bc_ BK106 1 rfl, bc_ BK109 0 rfl, bc_ BK109 1 rfl, bc_ BK103 0 rfl, bc_ BK103 1 rfl⟩ (fun hHeld => ?_); clear hK K; refine norm_ (a':=?_) ?_ ?_; rotate_left
           ·show Act.put _ (some 82) _ = _; simp only [q_, i64_w, i32_w]; rfl
           refine one_ (i:=20) (N:=some 83) ⟨m_ 34 2097151⟩ rfl rfl (one_of HT_.out (by kernel_rfl)) (by decide) (fun K hK => ?_); refine goes_ Tryd.func25 (by kernel_rfl) rfl #[.agg #[.int .i64 a0_0, .int .u64 a0_1], .agg #[.int .i64 t129, .int .u64 t130]] (by rfl) rfl rfl (by (try simp only [List.map_toArray, List.map_cons, List.map_nil]); first | done | rfl | (simp only [List.length_drop, List.length_take]; rfl)) ?_; with_reducible refine (label_Join.calls a0_0 a0_1 t129 t130 t131 t132 _ A155.out).mono ?_; rintro e w162 ⟨rfl, hb⟩; refine ⟨_, rfl, ?_⟩
           replace BK101 := bb_ BK101 hb; replace BK102 := bb_ BK102 hb; replace BK103 := bb_ BK103 hb; replace BK106 := bb_ BK106 hb; replace BK109 := bb_ BK109 hb; replace HB := bs_ HB hb; (try clear hb); (try clear hb2); (try clear hk); (try clear hi); refine hK.out _ _ ⟨bc_ BK102 0 rfl, bc_ BK102 1 rfl, bc_ BK101 0 rfl, bc_ BK101 1 rfl, bc_ BK106 0 rfl, bc_ BK106 1 rfl, bc_ BK109 0 rfl, bc_ BK109 1 rfl, bc_ BK103 0 rfl, bc_ BK103 1 rfl⟩ (fun hHeld => ?_); clear hK K; refine norm_ (a':=?_) ?_ ?_; rotate_left
           ·show Act.put _ (some 83) _ = _; simp only [q_, i64_w, i32_w]; rfl
           refine pure_ (i:=21) (N:=some 84) (v:=?_) (a':=?_) ⟨m_ 34 4194303⟩ rfl rfl (any_of HT_.out (by kernel_rfl)) (fun _ _ _ h=>h) (Or.inl ⟨rfl, ?_⟩) ?_ ?_; rotate_left
           ·intro w'; go_simp; with_reducible rfl
           rotate_left
           ·simp only [q_, i64_w, i32_w]; rfl
           refine pure_ (i:=22) (N:=some 85) (v:=?_) (a':=?_) ⟨m_ 34 8388607⟩ rfl rfl (any_of HT_.out (by kernel_rfl)) (fun _ _ _ h=>h) (Or.inl ⟨rfl, ?_⟩) ?_ ?_; rotate_left
           ·intro w'; go_simp; with_reducible rfl
           rotate_left
           ·simp only [q_, i64_w, i32_w]; rfl
           refine pure_ (i:=23) (N:=some 86) (v:=?_) (a':=?_) ⟨m_ 34 16777215⟩ rfl rfl (any_of HT_.out (by kernel_rfl)) (fun _ _ _ h=>h) (Or.inl ⟨rfl, ?_⟩) ?_ ?_; rotate_left
           ·intro w'; go_simp; with_reducible rfl
           rotate_left
           ·simp only [q_, i64_w, i32_w]; rfl
           refine pure_ (i:=24) (N:=some 87) (v:=undef) (a':=?_) ⟨m_ 34 33554431⟩ rfl rfl (any_of HT_.out (by kernel_rfl)) (fun _ _ _ h=>h) (Or.inr ⟨by rfl, rfl⟩) ?_ ?_; rotate_left
           ·simp only [q_, i64_w, i32_w]; rfl
           refine pure_ (i:=25) (N:=some 88) (v:=undef) (a':=?_) ⟨m_ 34 67108863⟩ rfl rfl (any_of HT_.out (by kernel_rfl)) (fun _ _ _ h=>h) (Or.inr ⟨by rfl, rfl⟩) ?_ ?_; rotate_left
           ·simp only [q_, i64_w, i32_w]; rfl
           refine pure_ (i:=26) (N:=some 89) (v:=undef) (a':=?_) ⟨m_ 34 134217727⟩ rfl rfl (any_of HT_.out (by kernel_rfl)) (fun _ _ _ h=>h) (Or.inr ⟨by rfl, rfl⟩) ?_ ?_; rotate_left
           ·simp only [q_, i64_w, i32_w]; rfl
           refine pure_ (i:=27) (N:=some 90) (v:=undef) (a':=?_) ⟨m_ 34 268435455⟩ rfl rfl (any_of HT_.out (by kernel_rfl)) (fun _ _ _ h=>h) (Or.inr ⟨by rfl, rfl⟩) ?_ ?_; rotate_left
           ·simp only [q_, i64_w, i32_w]; rfl
           refine pure_ (i:=28) (N:=some 91) (v:=undef) (a':=?_) ⟨m_ 34 536870911⟩ rfl rfl (any_of HT_.out (by kernel_rfl)) (fun _ _ _ h=>h) (Or.inr ⟨by rfl, rfl⟩) ?_ ?_; rotate_left
           ·simp only [q_, i64_w, i32_w]; rfl
           refine pure_ (i:=29) (N:=some 92) (v:=undef) (a':=?_) ⟨m_ 34 1073741823⟩ rfl rfl (any_of HT_.out (by kernel_rfl)) (fun _ _ _ h=>h) (Or.inr ⟨by rfl, rfl⟩) ?_ ?_; rotate_left
           ·simp only [q_, i64_w, i32_w]; rfl
           refine pure_ (i:=30) (N:=some 93) (v:=undef) (a':=?_) ⟨m_ 34 2147483647⟩ rfl rfl (any_of HT_.out (by kernel_rfl)) (fun _ _ _ h=>h) (Or.inr ⟨by rfl, rfl⟩) ?_ ?_; rotate_left
           ·simp only [q_, i64_w, i32_w]; rfl
           refine pure_ (i:=31) (N:=some 94) (v:=undef) (a':=?_) ⟨m_ 34 4294967295⟩ rfl rfl (any_of HT_.out (by kernel_rfl)) (fun _ _ _ h=>h) (Or.inr ⟨by rfl, rfl⟩) ?_ ?_; rotate_left
           ·simp only [q_, i64_w, i32_w]; rfl
           refine pure_ (i:=32) (N:=some 95) (v:=undef) (a':=?_) ⟨m_ 34 8589934591⟩ rfl rfl (any_of HT_.out (by kernel_rfl)) (fun _ _ _ h=>h) (Or.inr ⟨by rfl, rfl⟩) ?_ ?_; rotate_left
           ·simp only [q_, i64_w, i32_w]; rfl
           refine pure_ (i:=33) (N:=some 96) (v:=?_) (a':=?_) ⟨m_ 34 17179869183⟩ rfl rfl (any_of HT_.out (by kernel_rfl)) (fun _ _ _ h=>h) (Or.inl ⟨rfl, ?_⟩) ?_ ?_; rotate_left
           ·intro w'; go_simp; with_reducible rfl
           rotate_left
           ·simp only [q_, i64_w, i32_w]; rfl
           refine done_ (done_of HT_.out (by kernel_rfl)) ?_
           try go_wp2
           go_meet
           case rel => exact ⟨_, (true), (by first | rfl | (simp; done) | (simp [*]; done)), H', ⟨by have := HJ5.out; have := HJ103.out; first | omega | exact Nat.le_refl _⟩, ⟨pkx BK101⟩, ⟨pkx BK102⟩, ⟨pkx BK103⟩, ⟨pkx BK106⟩, ⟨pkx BK109⟩, ⟨pbx HB⟩⟩
          ·rw [if_neg c156] at H
           have c156b0 : (!(t127 == t131) || (!(t128 == t132))) = false := by simpa using c156
           clear c156; replace H := Option.bind_eq_some_iff.mp H; obtain ⟨⟨t133, t134⟩, A1630, H⟩ := H
           replace H : ((label_Meet.f a1_0 a1_1 a2_0 a2_1).bind fun bt135 => ((label_Meet.f a0_0 a0_1 bt135.1 bt135.2).bind fun bt137 => (oculuslaw02_LabelLattice.j2 kj103 (!(t133 == bt137.1) || (!(t134 == bt137.2))) a0_0 a0_1 a1_0 a1_1 t104 t105 t107 t108))) = some r := H
           have A163 := Aside0.mk A1630; clear A1630; replace H := Option.bind_eq_some_iff.mp H; obtain ⟨⟨t135, t136⟩, A1640, H⟩ := H
           replace H : ((label_Meet.f a0_0 a0_1 t135 t136).bind fun bt137 => (oculuslaw02_LabelLattice.j2 kj103 (!(t133 == bt137.1) || (!(t134 == bt137.2))) a0_0 a0_1 a1_0 a1_1 t104 t105 t107 t108)) = some r := H
           have A164 := Aside0.mk A1640; clear A1640; replace H := Option.bind_eq_some_iff.mp H; obtain ⟨⟨t137, t138⟩, A1650, H⟩ := H
           replace H : (oculuslaw02_LabelLattice.j2 kj103 (!(t133 == t137) || (!(t134 == t138))) a0_0 a0_1 a1_0 a1_1 t104 t105 t107 t108) = some r := H
           have A165 := Aside0.mk A1650; clear A1650
           have H' := Aside0.mk H
           clear H
           try go_wp2
           (try (rw [drewN_self wc]; generalize hq_ : World.drewN wc _ = wc; have n0_ : Aside0 (wc.heap[gb101]? = some (.cells #[.int .i64 a0_0, .int .u64 a0_1] 24 (0, 0))) := ⟨by rw [← hq_]; exact (pkx BK101)⟩; have n1_ : Aside0 (wc.heap[gb102]? = some (.cells #[.int .i64 a1_0, .int .u64 a1_1] 24 (0, 0))) := ⟨by rw [← hq_]; exact (pkx BK102)⟩; have n2_ : Aside0 (wc.heap[gb103]? = some (.cells #[.int .i64 a2_0, .int .u64 a2_1] 24 (0, 0))) := ⟨by rw [← hq_]; exact (pkx BK103)⟩; have n3_ : Aside0 (wc.heap[gb106]? = some (.cells #[.int .i64 t104, .int .u64 t105] 24 (0, 0))) := ⟨by rw [← hq_]; exact (pkx BK106)⟩; have n4_ : Aside0 (wc.heap[gb109]? = some (.cells #[.int .i64 t107, .int .u64 t108] 24 (0, 0))) := ⟨by rw [← hq_]; exact (pkx BK109)⟩; have n5_ : Aside0 (Below w.heap.size w wc) := ⟨by rw [← hq_]; exact (pbx HB)⟩; clear BK101 BK102 BK103 BK106 BK109 HB hq_; have BK101 := n0_; have BK102 := n1_; have BK103 := n2_; have BK106 := n3_; have BK109 := n4_; have HB := n5_; clear n0_ n1_ n2_ n3_ n4_ n5_))
           replace BK101 := Aside0.mk (blk_drew BK101.out); replace BK102 := Aside0.mk (blk_drew BK102.out); replace BK103 := Aside0.mk (blk_drew BK103.out); replace BK106 := Aside0.mk (blk_drew BK106.out); replace BK109 := Aside0.mk (blk_drew BK109.out); replace HB := Aside0.mk (below_drew1 HB.out)
           refine start_ (n:=34) (S := fun w' => w'.cell? ⟨gb102, 0, none⟩ = some (.int .i64 a1_0) ∧ w'.cell? ⟨gb102, 1, none⟩ = some (.int .u64 a1_1) ∧ w'.cell? ⟨gb101, 0, none⟩ = some (.int .i64 a0_0) ∧ w'.cell? ⟨gb101, 1, none⟩ = some (.int .u64 a0_1) ∧ w'.cell? ⟨gb106, 0, none⟩ = some (.int .i64 t104) ∧ w'.cell? ⟨gb106, 1, none⟩ = some (.int .u64 t105) ∧ w'.cell? ⟨gb109, 0, none⟩ = some (.int .i64 t107) ∧ w'.cell? ⟨gb109, 1, none⟩ = some (.int .u64 t108) ∧ w'.cell? ⟨gb103, 0, none⟩ = some (.int .i64 a2_0) ∧ w'.cell? ⟨gb103, 1, none⟩ = some (.int .u64 a2_1)) (ds := []) #[F,F,F,F,F,F,F,F,F,F,F,F,F,F,F,F,F,F,F,F,F,F,F,F,F,F,F,F,F,F,F,F,F,F] (by kernel_rfl) rfl rfl ⟨bc_ BK102 0 rfl, bc_ BK102 1 rfl, bc_ BK101 0 rfl, bc_ BK101 1 rfl, bc_ BK106 0 rfl, bc_ BK106 1 rfl, bc_ BK109 0 rfl, bc_ BK109 1 rfl, bc_ BK103 0 rfl, bc_ BK103 1 rfl⟩ (fun hHeld => ?_); refine with_tabW oculuslaw02_LabelLattice.tab7 oculuslaw02_LabelLattice.bits7 (fun HT_ HW_ => ?_)
           generalize wc.drew = w166 at BK101 BK102 BK103 BK106 BK109 HB hHeld ⊢; refine take_ (i:=0) (N:=some 63) (v:=?_) (a':=?_) ⟨m_ 34 1⟩ rfl rfl (take_ofW HT_.out HW_.out (by kernel_rfl)) (fun _ _ _ h=>h) (Or.inl ⟨rfl, ?_⟩) hHeld ?_ ?_; rotate_left
           ·rintro w' ⟨s0, s1, s2, s3, s4, s5, s6, s7, s8, s9⟩; go_simp; with_reducible rfl
           rotate_left
           ·simp only [q_, i64_w, i32_w]; rfl
           refine take_ (i:=1) (N:=some 64) (v:=?_) (a':=?_) ⟨m_ 34 3⟩ rfl rfl (take_ofW HT_.out HW_.out (by kernel_rfl)) (fun _ _ _ h=>h) (Or.inl ⟨rfl, ?_⟩) hHeld ?_ ?_; rotate_left
           ·rintro w' ⟨s0, s1, s2, s3, s4, s5, s6, s7, s8, s9⟩; go_simp; with_reducible rfl
           rotate_left
           ·simp only [q_, i64_w, i32_w]; rfl
           refine take_ (i:=3) (N:=some 66) (v:=?_) (a':=?_) ⟨m_ 34 11⟩ rfl rfl (take_ofW HT_.out HW_.out (by kernel_rfl)) (fun _ _ _ h=>h) (Or.inl ⟨rfl, ?_⟩) hHeld ?_ ?_; rotate_left
           ·rintro w' ⟨s0, s1, s2, s3, s4, s5, s6, s7, s8, s9⟩; go_simp; with_reducible rfl
           rotate_left
           ·simp only [q_, i64_w, i32_w]; rfl
           refine one_ (i:=2) (N:=some 65) ⟨m_ 34 15⟩ rfl rfl (one_of HT_.out (by kernel_rfl)) (by decide) (fun K hK => ?_); refine goes_ Tryd.func25 (by kernel_rfl) rfl #[.agg #[.int .i64 a1_0, .int .u64 a1_1], .agg #[.int .i64 a0_0, .int .u64 a0_1]] (by rfl) rfl rfl (by (try simp only [List.map_toArray, List.map_cons, List.map_nil]); first | done | rfl | (simp only [List.length_drop, List.length_take]; rfl)) ?_; with_reducible refine (label_Join.calls a1_0 a1_1 a0_0 a0_1 t123 t124 _ A144.out).mono ?_; rintro e w167 ⟨rfl, hb⟩; refine ⟨_, rfl, ?_⟩
           replace BK101 := bb_ BK101 hb; replace BK102 := bb_ BK102 hb; replace BK103 := bb_ BK103 hb; replace BK106 := bb_ BK106 hb; replace BK109 := bb_ BK109 hb; replace HB := bs_ HB hb; (try clear hb); (try clear hb2); (try clear hk); (try clear hi); refine hK.out _ _ ⟨bc_ BK102 0 rfl, bc_ BK102 1 rfl, bc_ BK101 0 rfl, bc_ BK101 1 rfl, bc_ BK106 0 rfl, bc_ BK106 1 rfl, bc_ BK109 0 rfl, bc_ BK109 1 rfl, bc_ BK103 0 rfl, bc_ BK103 1 rfl⟩ (fun hHeld => ?_); clear hK K; refine norm_ (a':=?_) ?_ ?_; rotate_left
           ·show Act.put _ (some 65) _ = _; simp only [q_, i64_w, i32_w]; rfl
           refine pure_ (i:=4) (N:=some 67) (v:=?_) (a':=?_) ⟨m_ 34 31⟩ rfl rfl (any_of HT_.out (by kernel_rfl)) (fun _ _ _ h=>h) (Or.inl ⟨rfl, ?_⟩) ?_ ?_; rotate_left
           ·intro w'; go_simp; with_reducible rfl
           rotate_left
           ·simp only [q_, i64_w, i32_w]; rfl
           refine pure_ (i:=5) (N:=some 68) (v:=?_) (a':=?_) ⟨m_ 34 63⟩ rfl rfl (any_of HT_.out (by kernel_rfl)) (fun _ _ _ h=>h) (Or.inl ⟨rfl, ?_⟩) ?_ ?_; rotate_left
           ·intro w'; go_simp; with_reducible rfl
           rotate_left
           ·simp only [q_, i64_w, i32_w]; rfl
           refine take_ (i:=6) (N:=some 69) (v:=?_) (a':=?_) ⟨m_ 34 127⟩ rfl rfl (take_ofW HT_.out HW_.out (by kernel_rfl)) (fun _ _ _ h=>h) (Or.inl ⟨rfl, ?_⟩) hHeld ?_ ?_; rotate_left
           ·rintro w' ⟨s0, s1, s2, s3, s4, s5, s6, s7, s8, s9⟩; go_simp; with_reducible rfl
           rotate_left
           ·simp only [q_, i64_w, i32_w]; rfl
           refine take_ (i:=7) (N:=some 70) (v:=?_) (a':=?_) ⟨m_ 34 255⟩ rfl rfl (take_ofW HT_.out HW_.out (by kernel_rfl)) (fun _ _ _ h=>h) (Or.inl ⟨rfl, ?_⟩) hHeld ?_ ?_; rotate_left
           ·rintro w' ⟨s0, s1, s2, s3, s4, s5, s6, s7, s8, s9⟩; go_simp; with_reducible rfl
           rotate_left
           ·simp only [q_, i64_w, i32_w]; rfl
           refine take_ (i:=9) (N:=some 72) (v:=?_) (a':=?_) ⟨m_ 34 767⟩ rfl rfl (take_ofW HT_.out HW_.out (by kernel_rfl)) (fun _ _ _ h=>h) (Or.inl ⟨rfl, ?_⟩) hHeld ?_ ?_; rotate_left
           ·rintro w' ⟨s0, s1, s2, s3, s4, s5, s6, s7, s8, s9⟩; go_simp; with_reducible rfl
           rotate_left
           ·simp only [q_, i64_w, i32_w]; rfl
           refine one_ (i:=8) (N:=some 71) ⟨m_ 34 1023⟩ rfl rfl (one_of HT_.out (by kernel_rfl)) (by decide) (fun K hK => ?_); refine goes_ Tryd.func26 (by kernel_rfl) rfl #[.agg #[.int .i64 a1_0, .int .u64 a1_1], .agg #[.int .i64 a0_0, .int .u64 a0_1]] (by rfl) rfl rfl (by (try simp only [List.map_toArray, List.map_cons, List.map_nil]); first | done | rfl | (simp only [List.length_drop, List.length_take]; rfl)) ?_; with_reducible refine (label_Meet.calls a1_0 a1_1 a0_0 a0_1 t125 t126 _ A148.out).mono ?_; rintro e w168 ⟨rfl, hb⟩; refine ⟨_, rfl, ?_⟩
           replace BK101 := bb_ BK101 hb; replace BK102 := bb_ BK102 hb; replace BK103 := bb_ BK103 hb; replace BK106 := bb_ BK106 hb; replace BK109 := bb_ BK109 hb; replace HB := bs_ HB hb; (try clear hb); (try clear hb2); (try clear hk); (try clear hi); refine hK.out _ _ ⟨bc_ BK102 0 rfl, bc_ BK102 1 rfl, bc_ BK101 0 rfl, bc_ BK101 1 rfl, bc_ BK106 0 rfl, bc_ BK106 1 rfl, bc_ BK109 0 rfl, bc_ BK109 1 rfl, bc_ BK103 0 rfl, bc_ BK103 1 rfl⟩ (fun hHeld => ?_); clear hK K; refine norm_ (a':=?_) ?_ ?_; rotate_left
           ·show Act.put _ (some 71) _ = _; simp only [q_, i64_w, i32_w]; rfl
           refine pure_ (i:=10) (N:=some 73) (v:=?_) (a':=?_) ⟨m_ 34 2047⟩ rfl rfl (any_of HT_.out (by kernel_rfl)) (fun _ _ _ h=>h) (Or.inl ⟨rfl, ?_⟩) ?_ ?_; rotate_left
           ·intro w'; go_simp; with_reducible rfl
           rotate_left
           ·simp only [q_, i64_w, i32_w]; rfl
           refine pure_ (i:=11) (N:=some 74) (v:=?_) (a':=?_) ⟨m_ 34 4095⟩ rfl rfl (any_of HT_.out (by kernel_rfl)) (fun _ _ _ h=>h) (Or.inl ⟨rfl, ?_⟩) ?_ ?_; rotate_left
           ·intro w'; go_simp; with_reducible rfl
           rotate_left
           ·simp only [q_, i64_w, i32_w]; rfl
           refine pure_ (i:=12) (N:=some 75) (v:=?_) (a':=?_) ⟨m_ 34 8191⟩ rfl rfl (any_of HT_.out (by kernel_rfl)) (fun _ _ _ h=>h) (Or.inl ⟨rfl, ?_⟩) ?_ ?_; rotate_left
           ·intro w'; go_simp; with_reducible rfl
           rotate_left
           ·simp only [q_, i64_w, i32_w]; rfl
           refine take_ (i:=13) (N:=some 76) (v:=?_) (a':=?_) ⟨m_ 34 16383⟩ rfl rfl (take_ofW HT_.out HW_.out (by kernel_rfl)) (fun _ _ _ h=>h) (Or.inl ⟨rfl, ?_⟩) hHeld ?_ ?_; rotate_left
           ·rintro w' ⟨s0, s1, s2, s3, s4, s5, s6, s7, s8, s9⟩; go_simp; with_reducible rfl
           rotate_left
           ·simp only [q_, i64_w, i32_w]; rfl
           refine take_ (i:=14) (N:=some 77) (v:=?_) (a':=?_) ⟨m_ 34 32767⟩ rfl rfl (take_ofW HT_.out HW_.out (by kernel_rfl)) (fun _ _ _ h=>h) (Or.inl ⟨rfl, ?_⟩) hHeld ?_ ?_; rotate_left
           ·rintro w' ⟨s0, s1, s2, s3, s4, s5, s6, s7, s8, s9⟩; go_simp; with_reducible rfl
           rotate_left
           ·simp only [q_, i64_w, i32_w]; rfl
           refine take_ (i:=16) (N:=some 79) (v:=?_) (a':=?_) ⟨m_ 34 98303⟩ rfl rfl (take_ofW HT_.out HW_.out (by kernel_rfl)) (fun _ _ _ h=>h) (Or.inl ⟨rfl, ?_⟩) hHeld ?_ ?_; rotate_left
           ·rintro w' ⟨s0, s1, s2, s3, s4, s5, s6, s7, s8, s9⟩; go_simp; with_reducible rfl
           rotate_left
           ·simp only [q_, i64_w, i32_w]; rfl
           refine take_ (i:=17) (N:=some 80) (v:=?_) (a':=?_) ⟨m_ 34 229375⟩ rfl rfl (take_ofW HT_.out HW_.out (by kernel_rfl)) (fun _ _ _ h=>h) (Or.inl ⟨rfl, ?_⟩) hHeld ?_ ?_; rotate_left
           ·rintro w' ⟨s0, s1, s2, s3, s4, s5, s6, s7, s8, s9⟩; go_simp; with_reducible rfl
           rotate_left
           ·simp only [q_, i64_w, i32_w]; rfl
           refine take_ (i:=18) (N:=some 81) (v:=?_) (a':=?_) ⟨m_ 34 491519⟩ rfl rfl (take_ofW HT_.out HW_.out (by kernel_rfl)) (fun _ _ _ h=>h) (Or.inl ⟨rfl, ?_⟩) hHeld ?_ ?_; rotate_left
           ·rintro w' ⟨s0, s1, s2, s3, s4, s5, s6, s7, s8, s9⟩; go_simp; with_reducible rfl
           rotate_left
           ·simp only [q_, i64_w, i32_w]; rfl
           refine one_ (i:=15) (N:=some 78) ⟨m_ 34 524287⟩ rfl rfl (one_of HT_.out (by kernel_rfl)) (by decide) (fun K hK => ?_); refine goes_ Tryd.func25 (by kernel_rfl) rfl #[.agg #[.int .i64 t104, .int .u64 t105], .agg #[.int .i64 a2_0, .int .u64 a2_1]] (by rfl) rfl rfl (by (try simp only [List.map_toArray, List.map_cons, List.map_nil]); first | done | rfl | (simp only [List.length_drop, List.length_take]; rfl)) ?_; with_reducible refine (label_Join.calls t104 t105 a2_0 a2_1 t127 t128 _ A153.out).mono ?_; rintro e w169 ⟨rfl, hb⟩; refine ⟨_, rfl, ?_⟩
           replace BK101 := bb_ BK101 hb; replace BK102 := bb_ BK102 hb; replace BK103 := bb_ BK103 hb; replace BK106 := bb_ BK106 hb; replace BK109 := bb_ BK109 hb; replace HB := bs_ HB hb; (try clear hb); (try clear hb2); (try clear hk); (try clear hi); refine hK.out _ _ ⟨bc_ BK102 0 rfl, bc_ BK102 1 rfl, bc_ BK101 0 rfl, bc_ BK101 1 rfl, bc_ BK106 0 rfl, bc_ BK106 1 rfl, bc_ BK109 0 rfl, bc_ BK109 1 rfl, bc_ BK103 0 rfl, bc_ BK103 1 rfl⟩ (fun hHeld => ?_); clear hK K; refine norm_ (a':=?_) ?_ ?_; rotate_left
           ·show Act.put _ (some 78) _ = _; simp only [q_, i64_w, i32_w]; rfl
           refine one_ (i:=19) (N:=some 82) ⟨m_ 34 1048575⟩ rfl rfl (one_of HT_.out (by kernel_rfl)) (by decide) (fun K hK => ?_); refine goes_ Tryd.func25 (by kernel_rfl) rfl #[.agg #[.int .i64 a1_0, .int .u64 a1_1], .agg #[.int .i64 a2_0, .int .u64 a2_1]] (by rfl) rfl rfl (by (try simp only [List.map_toArray, List.map_cons, List.map_nil]); first | done | rfl | (simp only [List.length_drop, List.length_take]; rfl)) ?_; with_reducible refine (label_Join.calls a1_0 a1_1 a2_0 a2_1 t129 t130 _ A154.out).mono ?_; rintro e w170 ⟨rfl, hb⟩; refine ⟨_, rfl, ?_⟩
           replace BK101 := bb_ BK101 hb; replace BK102 := bb_ BK102 hb; replace BK103 := bb_ BK103 hb; replace BK106 := bb_ BK106 hb; replace BK109 := bb_ BK109 hb; replace HB := bs_ HB hb; (try clear hb); (try clear hb2); (try clear hk); (try clear hi); refine hK.out _ _ ⟨bc_ BK102 0 rfl, bc_ BK102 1 rfl, bc_ BK101 0 rfl, bc_ BK101 1 rfl, bc_ BK106 0 rfl, bc_ BK106 1 rfl, bc_ BK109 0 rfl, bc_ BK109 1 rfl, bc_ BK103 0 rfl, bc_ BK103 1 rfl⟩ (fun hHeld => ?_); clear hK K; refine norm_ (a':=?_) ?_ ?_; rotate_left
           ·show Act.put _ (some 82) _ = _; simp only [q_, i64_w, i32_w]; rfl
           refine one_ (i:=20) (N:=some 83) ⟨m_ 34 2097151⟩ rfl rfl (one_of HT_.out (by kernel_rfl)) (by decide) (fun K hK => ?_); refine goes_ Tryd.func25 (by kernel_rfl) rfl #[.agg #[.int .i64 a0_0, .int .u64 a0_1], .agg #[.int .i64 t129, .int .u64 t130]] (by rfl) rfl rfl (by (try simp only [List.map_toArray, List.map_cons, List.map_nil]); first | done | rfl | (simp only [List.length_drop, List.length_take]; rfl)) ?_; with_reducible refine (label_Join.calls a0_0 a0_1 t129 t130 t131 t132 _ A155.out).mono ?_; rintro e w171 ⟨rfl, hb⟩; refine ⟨_, rfl, ?_⟩
           replace BK101 := bb_ BK101 hb; replace BK102 := bb_ BK102 hb; replace BK103 := bb_ BK103 hb; replace BK106 := bb_ BK106 hb; replace BK109 := bb_ BK109 hb; replace HB := bs_ HB hb; (try clear hb); (try clear hb2); (try clear hk); (try clear hi); refine hK.out _ _ ⟨bc_ BK102 0 rfl, bc_ BK102 1 rfl, bc_ BK101 0 rfl, bc_ BK101 1 rfl, bc_ BK106 0 rfl, bc_ BK106 1 rfl, bc_ BK109 0 rfl, bc_ BK109 1 rfl, bc_ BK103 0 rfl, bc_ BK103 1 rfl⟩ (fun hHeld => ?_); clear hK K; refine norm_ (a':=?_) ?_ ?_; rotate_left
           ·show Act.put _ (some 83) _ = _; simp only [q_, i64_w, i32_w]; rfl
           refine pure_ (i:=21) (N:=some 84) (v:=?_) (a':=?_) ⟨m_ 34 4194303⟩ rfl rfl (any_of HT_.out (by kernel_rfl)) (fun _ _ _ h=>h) (Or.inl ⟨rfl, ?_⟩) ?_ ?_; rotate_left
           ·intro w'; go_simp; with_reducible rfl
           rotate_left
           ·simp only [q_, i64_w, i32_w]; rfl
           refine pure_ (i:=22) (N:=some 85) (v:=?_) (a':=?_) ⟨m_ 34 8388607⟩ rfl rfl (any_of HT_.out (by kernel_rfl)) (fun _ _ _ h=>h) (Or.inl ⟨rfl, ?_⟩) ?_ ?_; rotate_left
           ·intro w'; go_simp; with_reducible rfl
           rotate_left
           ·simp only [q_, i64_w, i32_w]; rfl
           refine pure_ (i:=23) (N:=some 86) (v:=?_) (a':=?_) ⟨m_ 34 16777215⟩ rfl rfl (any_of HT_.out (by kernel_rfl)) (fun _ _ _ h=>h) (Or.inl ⟨rfl, ?_⟩) ?_ ?_; rotate_left
           ·intro w'; go_simp; with_reducible rfl
           rotate_left
           ·simp only [q_, i64_w, i32_w]; rfl
           refine take_ (i:=24) (N:=some 87) (v:=?_) (a':=?_) ⟨m_ 34 33554431⟩ rfl rfl (take_ofW HT_.out HW_.out (by kernel_rfl)) (fun _ _ _ h=>h) (Or.inl ⟨rfl, ?_⟩) hHeld ?_ ?_; rotate_left
           ·rintro w' ⟨s0, s1, s2, s3, s4, s5, s6, s7, s8, s9⟩; go_simp; with_reducible rfl
           rotate_left
           ·simp only [q_, i64_w, i32_w]; rfl
           refine take_ (i:=25) (N:=some 88) (v:=?_) (a':=?_) ⟨m_ 34 67108863⟩ rfl rfl (take_ofW HT_.out HW_.out (by kernel_rfl)) (fun _ _ _ h=>h) (Or.inl ⟨rfl, ?_⟩) hHeld ?_ ?_; rotate_left
           ·rintro w' ⟨s0, s1, s2, s3, s4, s5, s6, s7, s8, s9⟩; go_simp; with_reducible rfl
           rotate_left
           ·simp only [q_, i64_w, i32_w]; rfl
           refine take_ (i:=27) (N:=some 90) (v:=?_) (a':=?_) ⟨m_ 34 201326591⟩ rfl rfl (take_ofW HT_.out HW_.out (by kernel_rfl)) (fun _ _ _ h=>h) (Or.inl ⟨rfl, ?_⟩) hHeld ?_ ?_; rotate_left
           ·rintro w' ⟨s0, s1, s2, s3, s4, s5, s6, s7, s8, s9⟩; go_simp; with_reducible rfl
           rotate_left
           ·simp only [q_, i64_w, i32_w]; rfl
           refine take_ (i:=28) (N:=some 91) (v:=?_) (a':=?_) ⟨m_ 34 469762047⟩ rfl rfl (take_ofW HT_.out HW_.out (by kernel_rfl)) (fun _ _ _ h=>h) (Or.inl ⟨rfl, ?_⟩) hHeld ?_ ?_; rotate_left
           ·rintro w' ⟨s0, s1, s2, s3, s4, s5, s6, s7, s8, s9⟩; go_simp; with_reducible rfl
           rotate_left
           ·simp only [q_, i64_w, i32_w]; rfl
           refine take_ (i:=29) (N:=some 92) (v:=?_) (a':=?_) ⟨m_ 34 1006632959⟩ rfl rfl (take_ofW HT_.out HW_.out (by kernel_rfl)) (fun _ _ _ h=>h) (Or.inl ⟨rfl, ?_⟩) hHeld ?_ ?_; rotate_left
           ·rintro w' ⟨s0, s1, s2, s3, s4, s5, s6, s7, s8, s9⟩; go_simp; with_reducible rfl
           rotate_left
           ·simp only [q_, i64_w, i32_w]; rfl
           refine one_ (i:=26) (N:=some 89) ⟨m_ 34 1073741823⟩ rfl rfl (one_of HT_.out (by kernel_rfl)) (by decide) (fun K hK => ?_); refine goes_ Tryd.func26 (by kernel_rfl) rfl #[.agg #[.int .i64 t107, .int .u64 t108], .agg #[.int .i64 a2_0, .int .u64 a2_1]] (by rfl) rfl rfl (by (try simp only [List.map_toArray, List.map_cons, List.map_nil]); first | done | rfl | (simp only [List.length_drop, List.length_take]; rfl)) ?_; with_reducible refine (label_Meet.calls t107 t108 a2_0 a2_1 t133 t134 _ A163.out).mono ?_; rintro e w172 ⟨rfl, hb⟩; refine ⟨_, rfl, ?_⟩
           replace BK101 := bb_ BK101 hb; replace BK102 := bb_ BK102 hb; replace BK103 := bb_ BK103 hb; replace BK106 := bb_ BK106 hb; replace BK109 := bb_ BK109 hb; replace HB := bs_ HB hb; (try clear hb); (try clear hb2); (try clear hk); (try clear hi); refine hK.out _ _ ⟨bc_ BK102 0 rfl, bc_ BK102 1 rfl, bc_ BK101 0 rfl, bc_ BK101 1 rfl, bc_ BK106 0 rfl, bc_ BK106 1 rfl, bc_ BK109 0 rfl, bc_ BK109 1 rfl, bc_ BK103 0 rfl, bc_ BK103 1 rfl⟩ (fun hHeld => ?_); clear hK K; refine norm_ (a':=?_) ?_ ?_; rotate_left
           ·show Act.put _ (some 89) _ = _; simp only [q_, i64_w, i32_w]; rfl
           refine one_ (i:=30) (N:=some 93) ⟨m_ 34 2147483647⟩ rfl rfl (one_of HT_.out (by kernel_rfl)) (by decide) (fun K hK => ?_); refine goes_ Tryd.func26 (by kernel_rfl) rfl #[.agg #[.int .i64 a1_0, .int .u64 a1_1], .agg #[.int .i64 a2_0, .int .u64 a2_1]] (by rfl) rfl rfl (by (try simp only [List.map_toArray, List.map_cons, List.map_nil]); first | done | rfl | (simp only [List.length_drop, List.length_take]; rfl)) ?_; with_reducible refine (label_Meet.calls a1_0 a1_1 a2_0 a2_1 t135 t136 _ A164.out).mono ?_; rintro e w173 ⟨rfl, hb⟩; refine ⟨_, rfl, ?_⟩
           replace BK101 := bb_ BK101 hb; replace BK102 := bb_ BK102 hb; replace BK103 := bb_ BK103 hb; replace BK106 := bb_ BK106 hb; replace BK109 := bb_ BK109 hb; replace HB := bs_ HB hb; (try clear hb); (try clear hb2); (try clear hk); (try clear hi); refine hK.out _ _ ⟨bc_ BK102 0 rfl, bc_ BK102 1 rfl, bc_ BK101 0 rfl, bc_ BK101 1 rfl, bc_ BK106 0 rfl, bc_ BK106 1 rfl, bc_ BK109 0 rfl, bc_ BK109 1 rfl, bc_ BK103 0 rfl, bc_ BK103 1 rfl⟩ (fun hHeld => ?_); clear hK K; refine norm_ (a':=?_) ?_ ?_; rotate_left
           ·show Act.put _ (some 93) _ = _; simp only [q_, i64_w, i32_w]; rfl
           refine one_ (i:=31) (N:=some 94) ⟨m_ 34 4294967295⟩ rfl rfl (one_of HT_.out (by kernel_rfl)) (by decide) (fun K hK => ?_); refine goes_ Tryd.func26 (by kernel_rfl) rfl #[.agg #[.int .i64 a0_0, .int .u64 a0_1], .agg #[.int .i64 t135, .int .u64 t136]] (by rfl) rfl rfl (by (try simp only [List.map_toArray, List.map_cons, List.map_nil]); first | done | rfl | (simp only [List.length_drop, List.length_take]; rfl)) ?_; with_reducible refine (label_Meet.calls a0_0 a0_1 t135 t136 t137 t138 _ A165.out).mono ?_; rintro e w174 ⟨rfl, hb⟩; refine ⟨_, rfl, ?_⟩
           replace BK101 := bb_ BK101 hb; replace BK102 := bb_ BK102 hb; replace BK103 := bb_ BK103 hb; replace BK106 := bb_ BK106 hb; replace BK109 := bb_ BK109 hb; replace HB := bs_ HB hb; (try clear hb); (try clear hb2); (try clear hk); (try clear hi); refine hK.out _ _ ⟨bc_ BK102 0 rfl, bc_ BK102 1 rfl, bc_ BK101 0 rfl, bc_ BK101 1 rfl, bc_ BK106 0 rfl, bc_ BK106 1 rfl, bc_ BK109 0 rfl, bc_ BK109 1 rfl, bc_ BK103 0 rfl, bc_ BK103 1 rfl⟩ (fun hHeld => ?_); clear hK K; refine norm_ (a':=?_) ?_ ?_; rotate_left
           ·show Act.put _ (some 94) _ = _; simp only [q_, i64_w, i32_w]; rfl
           refine pure_ (i:=32) (N:=some 95) (v:=?_) (a':=?_) ⟨m_ 34 8589934591⟩ rfl rfl (any_of HT_.out (by kernel_rfl)) (fun _ _ _ h=>h) (Or.inl ⟨rfl, ?_⟩) ?_ ?_; rotate_left
           ·intro w'; go_simp; with_reducible rfl
           rotate_left
           ·simp only [q_, i64_w, i32_w]; rfl
           refine pure_ (i:=33) (N:=some 96) (v:=?_) (a':=?_) ⟨m_ 34 17179869183⟩ rfl rfl (any_of HT_.out (by kernel_rfl)) (fun _ _ _ h=>h) (Or.inl ⟨rfl, ?_⟩) ?_ ?_; rotate_left
           ·intro w'; go_simp; with_reducible rfl
           rotate_left
           ·simp only [q_, i64_w, i32_w]; rfl
           refine done_ (done_of HT_.out (by kernel_rfl)) ?_
           try go_wp2
           go_meet
           case rel => exact ⟨_, ((!(t133 == t137) || (!(t134 == t138)))), (by first | rfl | (simp; done) | (simp [*]; done) | (cases t133 <;> simp; done) | (cases t137 <;> simp; done) | (cases t134 <;> simp; done)), H', ⟨by have := HJ5.out; have := HJ103.out; first | omega | exact Nat.le_refl _⟩, ⟨pkx BK101⟩, ⟨pkx BK102⟩, ⟨pkx BK103⟩, ⟨pkx BK106⟩, ⟨pkx BK109⟩, ⟨pbx HB⟩⟩
       case rest =>
        clear HC143; (try clear c1); (try clear c2); (try clear p2); (try clear c15); (try clear c25); (try clear c26); (try clear c156); (try clear c156b0); obtain ⟨kq, x96_142, rfl, HA, HJ142, BK101, BK102, BK103, BK106, BK109, HB⟩ := hcut
        cases kq with
        | zero => exact absurd HA.out (by simp [oculuslaw02_LabelLattice.j2])
        | succ kj142 =>
         have H := HA.out; clear HA
         simp only [oculuslaw02_LabelLattice.j2] at H
         by_cases c175 : x96_142 = true
         ·subst c175
          have H1 : (none) = some r := by rw [if_pos rfl] at H; exact H
          clear H; have H := H1; clear H1
          exact absurd H (by simp)
         ·replace c175 := Bool.eq_false_iff.mpr c175; subst c175
          have H1 : ((label_Join.f a0_0 a0_1 t107 t108).bind fun bt139 => (if (bt139.1 == a0_0 && (bt139.2 == a0_1)) = true then ((label_Meet.f a0_0 a0_1 t104 t105).bind fun bt141 => (if (bt141.1 == a0_0 && (bt141.2 == a0_1)) = true then ((label_Below.f a0_0 a0_1 a1_0 a1_1).bind fun t143 => (if (t143 == (t104 == a1_0 && (t105 == a1_1))) = true then ((label_May.f a0_0 a0_1).bind fun t144 => (if t144 = true then ((label_May.f a1_0 a1_1).bind fun t145 => (if t145 = true then ((label_May.f t104 t105).bind fun t146 => (if t146 = true then ((label_May.f t107 t108).bind fun t147 => (if t147 = true then ((oculuslaw02_alive.f kj142).bind fun t148 => (some t148)) else (none))) else (none))) else ((oculuslaw02_alive.f kj142).bind fun t149 => (some t149)))) else ((oculuslaw02_alive.f kj142).bind fun t150 => (some t150)))) else (none))) else (none))) else (none))) = some r := by rw [if_neg (show ¬ (false = true) by decide)] at H; exact H
          clear H; have H := H1; clear H1; replace H := Option.bind_eq_some_iff.mp H; obtain ⟨⟨t139, t140⟩, A1760, H⟩ := H
          replace H : (if (t139 == a0_0 && (t140 == a0_1)) = true then ((label_Meet.f a0_0 a0_1 t104 t105).bind fun bt141 => (if (bt141.1 == a0_0 && (bt141.2 == a0_1)) = true then ((label_Below.f a0_0 a0_1 a1_0 a1_1).bind fun t143 => (if (t143 == (t104 == a1_0 && (t105 == a1_1))) = true then ((label_May.f a0_0 a0_1).bind fun t144 => (if t144 = true then ((label_May.f a1_0 a1_1).bind fun t145 => (if t145 = true then ((label_May.f t104 t105).bind fun t146 => (if t146 = true then ((label_May.f t107 t108).bind fun t147 => (if t147 = true then ((oculuslaw02_alive.f kj142).bind fun t148 => (some t148)) else (none))) else (none))) else ((oculuslaw02_alive.f kj142).bind fun t149 => (some t149)))) else ((oculuslaw02_alive.f kj142).bind fun t150 => (some t150)))) else (none))) else (none))) else (none)) = some r := H
          have A176 := Aside0.mk A1760; clear A1760
          by_cases c177 : (t139 == a0_0 && (t140 == a0_1)) = true
          ·rw [if_pos c177] at H
           have c177b0 : (t139 == a0_0 && (t140 == a0_1)) = true := c177
           (try (have c177b1 : decide (t139 = a0_0 && (t140 == a0_1)) = true := by simpa using c177)); (try (have c177b2 : (t139 == a0_0 && (t140 == a0_1)) = true := by simpa using c177))
           clear c177; replace H := Option.bind_eq_some_iff.mp H; obtain ⟨⟨t141, t142⟩, A1780, H⟩ := H
           replace H : (if (t141 == a0_0 && (t142 == a0_1)) = true then ((label_Below.f a0_0 a0_1 a1_0 a1_1).bind fun t143 => (if (t143 == (t104 == a1_0 && (t105 == a1_1))) = true then ((label_May.f a0_0 a0_1).bind fun t144 => (if t144 = true then ((label_May.f a1_0 a1_1).bind fun t145 => (if t145 = true then ((label_May.f t104 t105).bind fun t146 => (if t146 = true then ((label_May.f t107 t108).bind fun t147 => (if t147 = true then ((oculuslaw02_alive.f kj142).bind fun t148 => (some t148)) else (none))) else (none))) else ((oculuslaw02_alive.f kj142).bind fun t149 => (some t149)))) else ((oculuslaw02_alive.f kj142).bind fun t150 => (some t150)))) else (none))) else (none)) = some r := H
           have A178 := Aside0.mk A1780; clear A1780
           by_cases c179 : (t141 == a0_0 && (t142 == a0_1)) = true
           ·rw [if_pos c179] at H
            have c179b0 : (t141 == a0_0 && (t142 == a0_1)) = true := c179
            (try (have c179b1 : decide (t141 = a0_0 && (t142 == a0_1)) = true := by simpa using c179)); (try (have c179b2 : (t141 == a0_0 && (t142 == a0_1)) = true := by simpa using c179))
            clear c179; replace H := Option.bind_eq_some_iff.mp H; obtain ⟨t143, A1800, H⟩ := H
            replace H : (if (t143 == (t104 == a1_0 && (t105 == a1_1))) = true then ((label_May.f a0_0 a0_1).bind fun t144 => (if t144 = true then ((label_May.f a1_0 a1_1).bind fun t145 => (if t145 = true then ((label_May.f t104 t105).bind fun t146 => (if t146 = true then ((label_May.f t107 t108).bind fun t147 => (if t147 = true then ((oculuslaw02_alive.f kj142).bind fun t148 => (some t148)) else (none))) else (none))) else ((oculuslaw02_alive.f kj142).bind fun t149 => (some t149)))) else ((oculuslaw02_alive.f kj142).bind fun t150 => (some t150)))) else (none)) = some r := H
            have A180 := Aside0.mk A1800; clear A1800
            by_cases c181 : (t143 == (t104 == a1_0 && (t105 == a1_1))) = true
            ·rw [if_pos c181] at H
             have c181b0 : (t143 == (t104 == a1_0 && (t105 == a1_1))) = true := c181
             (try (have c181b1 : decide (t143 = (t104 == a1_0 && (t105 == a1_1))) = true := by simpa using c181)); (try (have c181b2 : (t143 == (t104 == a1_0 && (t105 == a1_1))) = true := by simpa using c181))
             clear c181; replace H := Option.bind_eq_some_iff.mp H; obtain ⟨t144, A1820, H⟩ := H
             replace H : (if t144 = true then ((label_May.f a1_0 a1_1).bind fun t145 => (if t145 = true then ((label_May.f t104 t105).bind fun t146 => (if t146 = true then ((label_May.f t107 t108).bind fun t147 => (if t147 = true then ((oculuslaw02_alive.f kj142).bind fun t148 => (some t148)) else (none))) else (none))) else ((oculuslaw02_alive.f kj142).bind fun t149 => (some t149)))) else ((oculuslaw02_alive.f kj142).bind fun t150 => (some t150))) = some r := H
             have A182 := Aside0.mk A1820; clear A1820
             by_cases c183 : t144 = true
             ·subst c183
              have H1 : ((label_May.f a1_0 a1_1).bind fun t145 => (if t145 = true then ((label_May.f t104 t105).bind fun t146 => (if t146 = true then ((label_May.f t107 t108).bind fun t147 => (if t147 = true then ((oculuslaw02_alive.f kj142).bind fun t148 => (some t148)) else (none))) else (none))) else ((oculuslaw02_alive.f kj142).bind fun t149 => (some t149)))) = some r := by rw [if_pos rfl] at H; exact H
              clear H; have H := H1; clear H1; replace H := Option.bind_eq_some_iff.mp H; obtain ⟨t145, A1840, H⟩ := H
              replace H : (if t145 = true then ((label_May.f t104 t105).bind fun t146 => (if t146 = true then ((label_May.f t107 t108).bind fun t147 => (if t147 = true then ((oculuslaw02_alive.f kj142).bind fun t148 => (some t148)) else (none))) else (none))) else ((oculuslaw02_alive.f kj142).bind fun t149 => (some t149))) = some r := H
              have A184 := Aside0.mk A1840; clear A1840
              by_cases c185 : t145 = true
              ·subst c185
               have H1 : ((label_May.f t104 t105).bind fun t146 => (if t146 = true then ((label_May.f t107 t108).bind fun t147 => (if t147 = true then ((oculuslaw02_alive.f kj142).bind fun t148 => (some t148)) else (none))) else (none))) = some r := by rw [if_pos rfl] at H; exact H
               clear H; have H := H1; clear H1; replace H := Option.bind_eq_some_iff.mp H; obtain ⟨t146, A1860, H⟩ := H
               replace H : (if t146 = true then ((label_May.f t107 t108).bind fun t147 => (if t147 = true then ((oculuslaw02_alive.f kj142).bind fun t148 => (some t148)) else (none))) else (none)) = some r := H
               have A186 := Aside0.mk A1860; clear A1860
               by_cases c187 : t146 = true
               ·subst c187
                have H1 : ((label_May.f t107 t108).bind fun t147 => (if t147 = true then ((oculuslaw02_alive.f kj142).bind fun t148 => (some t148)) else (none))) = some r := by rw [if_pos rfl] at H; exact H
                clear H; have H := H1; clear H1; replace H := Option.bind_eq_some_iff.mp H; obtain ⟨t147, A1880, H⟩ := H
                replace H : (if t147 = true then ((oculuslaw02_alive.f kj142).bind fun t148 => (some t148)) else (none)) = some r := H
                have A188 := Aside0.mk A1880; clear A1880
                by_cases c189 : t147 = true
                ·subst c189
                 have H1 : ((oculuslaw02_alive.f kj142).bind fun t148 => (some t148)) = some r := by rw [if_pos rfl] at H; exact H
                 clear H; have H := H1; clear H1; replace H := Option.bind_eq_some_iff.mp H; obtain ⟨t148, A1900, H⟩ := H
                 replace H : (some t148) = some r := H
                 have A190 := Aside0.mk A1900; clear A1900; obtain rfl := Option.some.inj H
                 try go_wp2
                 (try (rw [drewN_self wc]; generalize hq_ : World.drewN wc _ = wc; have n0_ : Aside0 (wc.heap[gb101]? = some (.cells #[.int .i64 a0_0, .int .u64 a0_1] 24 (0, 0))) := ⟨by rw [← hq_]; exact (pkx BK101)⟩; have n1_ : Aside0 (wc.heap[gb102]? = some (.cells #[.int .i64 a1_0, .int .u64 a1_1] 24 (0, 0))) := ⟨by rw [← hq_]; exact (pkx BK102)⟩; have n2_ : Aside0 (wc.heap[gb103]? = some (.cells #[.int .i64 a2_0, .int .u64 a2_1] 24 (0, 0))) := ⟨by rw [← hq_]; exact (pkx BK103)⟩; have n3_ : Aside0 (wc.heap[gb106]? = some (.cells #[.int .i64 t104, .int .u64 t105] 24 (0, 0))) := ⟨by rw [← hq_]; exact (pkx BK106)⟩; have n4_ : Aside0 (wc.heap[gb109]? = some (.cells #[.int .i64 t107, .int .u64 t108] 24 (0, 0))) := ⟨by rw [← hq_]; exact (pkx BK109)⟩; have n5_ : Aside0 (Below w.heap.size w wc) := ⟨by rw [← hq_]; exact (pbx HB)⟩; clear BK101 BK102 BK103 BK106 BK109 HB hq_; have BK101 := n0_; have BK102 := n1_; have BK103 := n2_; have BK106 := n3_; have BK109 := n4_; have HB := n5_; clear n0_ n1_ n2_ n3_ n4_ n5_))
                 replace BK101 := Aside0.mk (blk_drew BK101.out); replace BK102 := Aside0.mk (blk_drew BK102.out); replace BK103 := Aside0.mk (blk_drew BK103.out); replace BK106 := Aside0.mk (blk_drew BK106.out); replace BK109 := Aside0.mk (blk_drew BK109.out); replace HB := Aside0.mk (below_drew1 HB.out)
                 refine start_ (n:=43) (S := fun w' => w'.cell? ⟨gb101, 0, none⟩ = some (.int .i64 a0_0) ∧ w'.cell? ⟨gb101, 1, none⟩ = some (.int .u64 a0_1) ∧ w'.cell? ⟨gb109, 0, none⟩ = some (.int .i64 t107) ∧ w'.cell? ⟨gb109, 1, none⟩ = some (.int .u64 t108) ∧ w'.cell? ⟨gb106, 0, none⟩ = some (.int .i64 t104) ∧ w'.cell? ⟨gb106, 1, none⟩ = some (.int .u64 t105) ∧ w'.cell? ⟨gb102, 0, none⟩ = some (.int .i64 a1_0) ∧ w'.cell? ⟨gb102, 1, none⟩ = some (.int .u64 a1_1)) (ds := []) #[F,F,F,F,F,F,F,F,F,F,F,F,F,F,F,F,F,F,F,F,F,F,F,F,F,F,F,F,F,F,F,F,F,F,F,F,F,F,F,F,F,F,F] (by kernel_rfl) rfl rfl ⟨bc_ BK101 0 rfl, bc_ BK101 1 rfl, bc_ BK109 0 rfl, bc_ BK109 1 rfl, bc_ BK106 0 rfl, bc_ BK106 1 rfl, bc_ BK102 0 rfl, bc_ BK102 1 rfl⟩ (fun hHeld => ?_); refine with_tabW oculuslaw02_LabelLattice.tab9 oculuslaw02_LabelLattice.bits9 (fun HT_ HW_ => ?_)
                 generalize wc.drew = w191 at BK101 BK102 BK103 BK106 BK109 HB hHeld ⊢; refine take_ (i:=0) (N:=some 97) (v:=?_) (a':=?_) ⟨m_ 43 1⟩ rfl rfl (take_ofW HT_.out HW_.out (by kernel_rfl)) (fun _ _ _ h=>h) (Or.inl ⟨rfl, ?_⟩) hHeld ?_ ?_; rotate_left
                 ·rintro w' ⟨s0, s1, s2, s3, s4, s5, s6, s7⟩; go_simp; with_reducible rfl
                 rotate_left
                 ·simp only [q_, i64_w, i32_w]; rfl
                 refine take_ (i:=1) (N:=some 98) (v:=?_) (a':=?_) ⟨m_ 43 3⟩ rfl rfl (take_ofW HT_.out HW_.out (by kernel_rfl)) (fun _ _ _ h=>h) (Or.inl ⟨rfl, ?_⟩) hHeld ?_ ?_; rotate_left
                 ·rintro w' ⟨s0, s1, s2, s3, s4, s5, s6, s7⟩; go_simp; with_reducible rfl
                 rotate_left
                 ·simp only [q_, i64_w, i32_w]; rfl
                 refine take_ (i:=3) (N:=some 100) (v:=?_) (a':=?_) ⟨m_ 43 11⟩ rfl rfl (take_ofW HT_.out HW_.out (by kernel_rfl)) (fun _ _ _ h=>h) (Or.inl ⟨rfl, ?_⟩) hHeld ?_ ?_; rotate_left
                 ·rintro w' ⟨s0, s1, s2, s3, s4, s5, s6, s7⟩; go_simp; with_reducible rfl
                 rotate_left
                 ·simp only [q_, i64_w, i32_w]; rfl
                 refine one_ (i:=2) (N:=some 99) ⟨m_ 43 15⟩ rfl rfl (one_of HT_.out (by kernel_rfl)) (by decide) (fun K hK => ?_); refine goes_ Tryd.func25 (by kernel_rfl) rfl #[.agg #[.int .i64 a0_0, .int .u64 a0_1], .agg #[.int .i64 t107, .int .u64 t108]] (by rfl) rfl rfl (by (try simp only [List.map_toArray, List.map_cons, List.map_nil]); first | done | rfl | (simp only [List.length_drop, List.length_take]; rfl)) ?_; with_reducible refine (label_Join.calls a0_0 a0_1 t107 t108 t139 t140 _ A176.out).mono ?_; rintro e w192 ⟨rfl, hb⟩; refine ⟨_, rfl, ?_⟩
                 replace BK101 := bb_ BK101 hb; replace BK102 := bb_ BK102 hb; replace BK103 := bb_ BK103 hb; replace BK106 := bb_ BK106 hb; replace BK109 := bb_ BK109 hb; replace HB := bs_ HB hb; (try clear hb); (try clear hb2); (try clear hk); (try clear hi); refine hK.out _ _ ⟨bc_ BK101 0 rfl, bc_ BK101 1 rfl, bc_ BK109 0 rfl, bc_ BK109 1 rfl, bc_ BK106 0 rfl, bc_ BK106 1 rfl, bc_ BK102 0 rfl, bc_ BK102 1 rfl⟩ (fun hHeld => ?_); clear hK K; refine norm_ (a':=?_) ?_ ?_; rotate_left
                 ·show Act.put _ (some 99) _ = _; simp only [q_, i64_w, i32_w]; rfl
                 refine pure_ (i:=4) (N:=some 101) (v:=?_) (a':=?_) ⟨m_ 43 31⟩ rfl rfl (any_of HT_.out (by kernel_rfl)) (fun _ _ _ h=>h) (Or.inl ⟨rfl, ?_⟩) ?_ ?_; rotate_left
                 ·intro w'; go_simp; with_reducible rfl
                 rotate_left
                 ·simp only [q_, i64_w, i32_w]; rfl
                 refine pure_ (i:=5) (N:=some 102) (v:=?_) (a':=?_) ⟨m_ 43 63⟩ rfl rfl (any_of HT_.out (by kernel_rfl)) (fun _ _ _ h=>h) (Or.inl ⟨rfl, ?_⟩) ?_ ?_; rotate_left
                 ·intro w'; go_simp; with_reducible rfl
                 rotate_left
                 ·simp only [q_, i64_w, i32_w]; rfl
                 refine take_ (i:=6) (N:=some 103) (v:=?_) (a':=?_) ⟨m_ 43 127⟩ rfl rfl (take_ofW HT_.out HW_.out (by kernel_rfl)) (fun _ _ _ h=>h) (Or.inl ⟨rfl, ?_⟩) hHeld ?_ ?_; rotate_left
                 ·rintro w' ⟨s0, s1, s2, s3, s4, s5, s6, s7⟩; go_simp; with_reducible rfl
                 rotate_left
                 ·simp only [q_, i64_w, i32_w]; rfl
                 refine take_ (i:=7) (N:=some 104) (v:=?_) (a':=?_) ⟨m_ 43 255⟩ rfl rfl (take_ofW HT_.out HW_.out (by kernel_rfl)) (fun _ _ _ h=>h) (Or.inl ⟨rfl, ?_⟩) hHeld ?_ ?_; rotate_left
                 ·rintro w' ⟨s0, s1, s2, s3, s4, s5, s6, s7⟩; go_simp; with_reducible rfl
                 rotate_left
                 ·simp only [q_, i64_w, i32_w]; rfl
                 refine take_ (i:=9) (N:=some 106) (v:=?_) (a':=?_) ⟨m_ 43 767⟩ rfl rfl (take_ofW HT_.out HW_.out (by kernel_rfl)) (fun _ _ _ h=>h) (Or.inl ⟨rfl, ?_⟩) hHeld ?_ ?_; rotate_left
                 ·rintro w' ⟨s0, s1, s2, s3, s4, s5, s6, s7⟩; go_simp; with_reducible rfl
                 rotate_left
                 ·simp only [q_, i64_w, i32_w]; rfl
                 refine one_ (i:=8) (N:=some 105) ⟨m_ 43 1023⟩ rfl rfl (one_of HT_.out (by kernel_rfl)) (by decide) (fun K hK => ?_); refine goes_ Tryd.func26 (by kernel_rfl) rfl #[.agg #[.int .i64 a0_0, .int .u64 a0_1], .agg #[.int .i64 t104, .int .u64 t105]] (by rfl) rfl rfl (by (try simp only [List.map_toArray, List.map_cons, List.map_nil]); first | done | rfl | (simp only [List.length_drop, List.length_take]; rfl)) ?_; with_reducible refine (label_Meet.calls a0_0 a0_1 t104 t105 t141 t142 _ A178.out).mono ?_; rintro e w193 ⟨rfl, hb⟩; refine ⟨_, rfl, ?_⟩
                 replace BK101 := bb_ BK101 hb; replace BK102 := bb_ BK102 hb; replace BK103 := bb_ BK103 hb; replace BK106 := bb_ BK106 hb; replace BK109 := bb_ BK109 hb; replace HB := bs_ HB hb; (try clear hb); (try clear hb2); (try clear hk); (try clear hi); refine hK.out _ _ ⟨bc_ BK101 0 rfl, bc_ BK101 1 rfl, bc_ BK109 0 rfl, bc_ BK109 1 rfl, bc_ BK106 0 rfl, bc_ BK106 1 rfl, bc_ BK102 0 rfl, bc_ BK102 1 rfl⟩ (fun hHeld => ?_); clear hK K; refine norm_ (a':=?_) ?_ ?_; rotate_left
                 ·show Act.put _ (some 105) _ = _; simp only [q_, i64_w, i32_w]; rfl
                 refine pure_ (i:=10) (N:=some 107) (v:=?_) (a':=?_) ⟨m_ 43 2047⟩ rfl rfl (any_of HT_.out (by kernel_rfl)) (fun _ _ _ h=>h) (Or.inl ⟨rfl, ?_⟩) ?_ ?_; rotate_left
                 ·intro w'; go_simp; with_reducible rfl
                 rotate_left
                 ·simp only [q_, i64_w, i32_w]; rfl
                 refine pure_ (i:=11) (N:=some 108) (v:=?_) (a':=?_) ⟨m_ 43 4095⟩ rfl rfl (any_of HT_.out (by kernel_rfl)) (fun _ _ _ h=>h) (Or.inl ⟨rfl, ?_⟩) ?_ ?_; rotate_left
                 ·intro w'; go_simp; with_reducible rfl
                 rotate_left
                 ·simp only [q_, i64_w, i32_w]; rfl
                 refine pure_ (i:=12) (N:=some 109) (v:=?_) (a':=?_) ⟨m_ 43 8191⟩ rfl rfl (any_of HT_.out (by kernel_rfl)) (fun _ _ _ h=>h) (Or.inl ⟨rfl, ?_⟩) ?_ ?_; rotate_left
                 ·intro w'; go_simp; with_reducible rfl
                 rotate_left
                 ·simp only [q_, i64_w, i32_w]; rfl
                 refine take_ (i:=13) (N:=some 110) (v:=?_) (a':=?_) ⟨m_ 43 16383⟩ rfl rfl (take_ofW HT_.out HW_.out (by kernel_rfl)) (fun _ _ _ h=>h) (Or.inl ⟨rfl, ?_⟩) hHeld ?_ ?_; rotate_left
                 ·rintro w' ⟨s0, s1, s2, s3, s4, s5, s6, s7⟩; go_simp; with_reducible rfl
                 rotate_left
                 ·simp only [q_, i64_w, i32_w]; rfl
                 refine take_ (i:=14) (N:=some 111) (v:=?_) (a':=?_) ⟨m_ 43 32767⟩ rfl rfl (take_ofW HT_.out HW_.out (by kernel_rfl)) (fun _ _ _ h=>h) (Or.inl ⟨rfl, ?_⟩) hHeld ?_ ?_; rotate_left
                 ·rintro w' ⟨s0, s1, s2, s3, s4, s5, s6, s7⟩; go_simp; with_reducible rfl
                 rotate_left
                 ·simp only [q_, i64_w, i32_w]; rfl
                 refine take_ (i:=16) (N:=some 113) (v:=?_) (a':=?_) ⟨m_ 43 98303⟩ rfl rfl (take_ofW HT_.out HW_.out (by kernel_rfl)) (fun _ _ _ h=>h) (Or.inl ⟨rfl, ?_⟩) hHeld ?_ ?_; rotate_left
                 ·rintro w' ⟨s0, s1, s2, s3, s4, s5, s6, s7⟩; go_simp; with_reducible rfl
                 rotate_left
                 ·simp only [q_, i64_w, i32_w]; rfl
                 refine take_ (i:=17) (N:=some 114) (v:=?_) (a':=?_) ⟨m_ 43 229375⟩ rfl rfl (take_ofW HT_.out HW_.out (by kernel_rfl)) (fun _ _ _ h=>h) (Or.inl ⟨rfl, ?_⟩) hHeld ?_ ?_; rotate_left
                 ·rintro w' ⟨s0, s1, s2, s3, s4, s5, s6, s7⟩; go_simp; with_reducible rfl
                 rotate_left
                 ·simp only [q_, i64_w, i32_w]; rfl
                 refine pure_ (i:=18) (N:=some 115) (v:=?_) (a':=?_) ⟨m_ 43 491519⟩ rfl rfl (any_of HT_.out (by kernel_rfl)) (fun _ _ _ h=>h) (Or.inl ⟨rfl, ?_⟩) ?_ ?_; rotate_left
                 ·intro w'; go_simp; with_reducible rfl
                 rotate_left
                 ·simp only [q_, i64_w, i32_w]; rfl
                 refine one_ (i:=15) (N:=some 112) ⟨m_ 43 524287⟩ rfl rfl (one_of HT_.out (by kernel_rfl)) (by decide) (fun K hK => ?_); refine goes_ Tryd.func27 (by kernel_rfl) rfl #[.agg #[.int .i64 a0_0, .int .u64 a0_1], .agg #[.int .i64 a1_0, .int .u64 a1_1]] (by rfl) rfl rfl (by (try simp only [List.map_toArray, List.map_cons, List.map_nil]); first | done | rfl | (simp only [List.length_drop, List.length_take]; rfl)) ?_; with_reducible refine (label_Below.calls a0_0 a0_1 a1_0 a1_1 t143 _ A180.out).mono ?_; rintro e w194 ⟨rfl, hb⟩; refine ⟨_, rfl, ?_⟩
                 replace BK101 := bb_ BK101 hb; replace BK102 := bb_ BK102 hb; replace BK103 := bb_ BK103 hb; replace BK106 := bb_ BK106 hb; replace BK109 := bb_ BK109 hb; replace HB := bs_ HB hb; (try clear hb); (try clear hb2); (try clear hk); (try clear hi); refine hK.out _ _ ⟨bc_ BK101 0 rfl, bc_ BK101 1 rfl, bc_ BK109 0 rfl, bc_ BK109 1 rfl, bc_ BK106 0 rfl, bc_ BK106 1 rfl, bc_ BK102 0 rfl, bc_ BK102 1 rfl⟩ (fun hHeld => ?_); clear hK K; refine norm_ (a':=?_) ?_ ?_; rotate_left
                 ·show Act.put _ (some 112) _ = _; simp only [q_, i64_w, i32_w]; rfl
                 refine pure_ (i:=19) (N:=some 116) (v:=?_) (a':=?_) ⟨m_ 43 1048575⟩ rfl rfl (any_of HT_.out (by kernel_rfl)) (fun _ _ _ h=>h) (Or.inl ⟨rfl, ?_⟩) ?_ ?_; rotate_left
                 ·intro w'; go_simp; with_reducible rfl
                 rotate_left
                 ·simp only [q_, i64_w, i32_w]; rfl
                 refine pure_ (i:=20) (N:=some 117) (v:=?_) (a':=?_) ⟨m_ 43 2097151⟩ rfl rfl (any_of HT_.out (by kernel_rfl)) (fun _ _ _ h=>h) (Or.inl ⟨rfl, ?_⟩) ?_ ?_; rotate_left
                 ·intro w'; go_simp; with_reducible rfl
                 rotate_left
                 ·simp only [q_, i64_w, i32_w]; rfl
                 refine pure_ (i:=21) (N:=some 118) (v:=?_) (a':=?_) ⟨m_ 43 4194303⟩ rfl rfl (any_of HT_.out (by kernel_rfl)) (fun _ _ _ h=>h) (Or.inl ⟨rfl, ?_⟩) ?_ ?_; rotate_left
                 ·intro w'; go_simp; with_reducible rfl
                 rotate_left
                 ·simp only [q_, i64_w, i32_w]; rfl
                 refine take_ (i:=22) (N:=some 119) (v:=?_) (a':=?_) ⟨m_ 43 8388607⟩ rfl rfl (take_ofW HT_.out HW_.out (by kernel_rfl)) (fun _ _ _ h=>h) (Or.inl ⟨rfl, ?_⟩) hHeld ?_ ?_; rotate_left
                 ·rintro w' ⟨s0, s1, s2, s3, s4, s5, s6, s7⟩; go_simp; with_reducible rfl
                 rotate_left
                 ·simp only [q_, i64_w, i32_w]; rfl
                 refine one_ (i:=23) (N:=some 120) ⟨m_ 43 16777215⟩ rfl rfl (one_of HT_.out (by kernel_rfl)) (by decide) (fun K hK => ?_); refine goes_ Tryd.func15 (by kernel_rfl) rfl #[.agg #[.int .i64 a0_0, .int .u64 a0_1]] (by rfl) rfl rfl (by (try simp only [List.map_toArray, List.map_cons, List.map_nil]); first | done | rfl | (simp only [List.length_drop, List.length_take]; rfl)) ?_; with_reducible refine (label_May.calls a0_0 a0_1 true _ A182.out).mono ?_; rintro e w195 ⟨rfl, hb⟩; refine ⟨_, rfl, ?_⟩
                 replace BK101 := bb_ BK101 hb; replace BK102 := bb_ BK102 hb; replace BK103 := bb_ BK103 hb; replace BK106 := bb_ BK106 hb; replace BK109 := bb_ BK109 hb; replace HB := bs_ HB hb; (try clear hb); (try clear hb2); (try clear hk); (try clear hi); refine hK.out _ _ ⟨bc_ BK101 0 rfl, bc_ BK101 1 rfl, bc_ BK109 0 rfl, bc_ BK109 1 rfl, bc_ BK106 0 rfl, bc_ BK106 1 rfl, bc_ BK102 0 rfl, bc_ BK102 1 rfl⟩ (fun hHeld => ?_); clear hK K; refine norm_ (a':=?_) ?_ ?_; rotate_left
                 ·show Act.put _ (some 120) _ = _; simp only [q_, i64_w, i32_w]; rfl
                 refine pure_ (i:=24) (N:=some 121) (v:=?_) (a':=?_) ⟨m_ 43 33554431⟩ rfl rfl (any_of HT_.out (by kernel_rfl)) (fun _ _ _ h=>h) (Or.inl ⟨rfl, ?_⟩) ?_ ?_; rotate_left
                 ·intro w'; go_simp; with_reducible rfl
                 rotate_left
                 ·simp only [q_, i64_w, i32_w]; rfl
                 refine pure_ (i:=25) (N:=some 122) (v:=?_) (a':=?_) ⟨m_ 43 67108863⟩ rfl rfl (any_of HT_.out (by kernel_rfl)) (fun _ _ _ h=>h) (Or.inl ⟨rfl, ?_⟩) ?_ ?_; rotate_left
                 ·intro w'; go_simp; with_reducible rfl
                 rotate_left
                 ·simp only [q_, i64_w, i32_w]; rfl
                 refine take_ (i:=26) (N:=some 123) (v:=?_) (a':=?_) ⟨m_ 43 134217727⟩ rfl rfl (take_ofW HT_.out HW_.out (by kernel_rfl)) (fun _ _ _ h=>h) (Or.inl ⟨rfl, ?_⟩) hHeld ?_ ?_; rotate_left
                 ·rintro w' ⟨s0, s1, s2, s3, s4, s5, s6, s7⟩; go_simp; with_reducible rfl
                 rotate_left
                 ·simp only [q_, i64_w, i32_w]; rfl
                 refine one_ (i:=27) (N:=some 124) ⟨m_ 43 268435455⟩ rfl rfl (one_of HT_.out (by kernel_rfl)) (by decide) (fun K hK => ?_); refine goes_ Tryd.func15 (by kernel_rfl) rfl #[.agg #[.int .i64 a1_0, .int .u64 a1_1]] (by rfl) rfl rfl (by (try simp only [List.map_toArray, List.map_cons, List.map_nil]); first | done | rfl | (simp only [List.length_drop, List.length_take]; rfl)) ?_; with_reducible refine (label_May.calls a1_0 a1_1 true _ A184.out).mono ?_; rintro e w196 ⟨rfl, hb⟩; refine ⟨_, rfl, ?_⟩
                 replace BK101 := bb_ BK101 hb; replace BK102 := bb_ BK102 hb; replace BK103 := bb_ BK103 hb; replace BK106 := bb_ BK106 hb; replace BK109 := bb_ BK109 hb; replace HB := bs_ HB hb; (try clear hb); (try clear hb2); (try clear hk); (try clear hi); refine hK.out _ _ ⟨bc_ BK101 0 rfl, bc_ BK101 1 rfl, bc_ BK109 0 rfl, bc_ BK109 1 rfl, bc_ BK106 0 rfl, bc_ BK106 1 rfl, bc_ BK102 0 rfl, bc_ BK102 1 rfl⟩ (fun hHeld => ?_); clear hK K; refine norm_ (a':=?_) ?_ ?_; rotate_left
                 ·show Act.put _ (some 124) _ = _; simp only [q_, i64_w, i32_w]; rfl
                 refine pure_ (i:=28) (N:=some 125) (v:=?_) (a':=?_) ⟨m_ 43 536870911⟩ rfl rfl (any_of HT_.out (by kernel_rfl)) (fun _ _ _ h=>h) (Or.inl ⟨rfl, ?_⟩) ?_ ?_; rotate_left
                 ·intro w'; go_simp; with_reducible rfl
                 rotate_left
                 ·simp only [q_, i64_w, i32_w]; rfl
                 refine pure_ (i:=29) (N:=some 126) (v:=?_) (a':=?_) ⟨m_ 43 1073741823⟩ rfl rfl (any_of HT_.out (by kernel_rfl)) (fun _ _ _ h=>h) (Or.inl ⟨rfl, ?_⟩) ?_ ?_; rotate_left
                 ·intro w'; go_simp; with_reducible rfl
                 rotate_left
                 ·simp only [q_, i64_w, i32_w]; rfl
                 refine pure_ (i:=30) (N:=some 127) (v:=?_) (a':=?_) ⟨m_ 43 2147483647⟩ rfl rfl (any_of HT_.out (by kernel_rfl)) (fun _ _ _ h=>h) (Or.inl ⟨rfl, ?_⟩) ?_ ?_; rotate_left
                 ·intro w'; go_simp; with_reducible rfl
                 rotate_left
                 ·simp only [q_, i64_w, i32_w]; rfl
                 refine take_ (i:=31) (N:=some 128) (v:=?_) (a':=?_) ⟨m_ 43 4294967295⟩ rfl rfl (take_ofW HT_.out HW_.out (by kernel_rfl)) (fun _ _ _ h=>h) (Or.inl ⟨rfl, ?_⟩) hHeld ?_ ?_; rotate_left
                 ·rintro w' ⟨s0, s1, s2, s3, s4, s5, s6, s7⟩; go_simp; with_reducible rfl
                 rotate_left
                 ·simp only [q_, i64_w, i32_w]; rfl
                 refine one_ (i:=32) (N:=some 129) ⟨m_ 43 8589934591⟩ rfl rfl (one_of HT_.out (by kernel_rfl)) (by decide) (fun K hK => ?_); refine goes_ Tryd.func15 (by kernel_rfl) rfl #[.agg #[.int .i64 t104, .int .u64 t105]] (by rfl) rfl rfl (by (try simp only [List.map_toArray, List.map_cons, List.map_nil]); first | done | rfl | (simp only [List.length_drop, List.length_take]; rfl)) ?_; with_reducible refine (label_May.calls t104 t105 true _ A186.out).mono ?_; rintro e w197 ⟨rfl, hb⟩; refine ⟨_, rfl, ?_⟩
                 replace BK101 := bb_ BK101 hb; replace BK102 := bb_ BK102 hb; replace BK103 := bb_ BK103 hb; replace BK106 := bb_ BK106 hb; replace BK109 := bb_ BK109 hb; replace HB := bs_ HB hb; (try clear hb); (try clear hb2); (try clear hk); (try clear hi); refine hK.out _ _ ⟨bc_ BK101 0 rfl, bc_ BK101 1 rfl, bc_ BK109 0 rfl, bc_ BK109 1 rfl, bc_ BK106 0 rfl, bc_ BK106 1 rfl, bc_ BK102 0 rfl, bc_ BK102 1 rfl⟩ (fun hHeld => ?_); clear hK K; refine norm_ (a':=?_) ?_ ?_; rotate_left
                 ·show Act.put _ (some 129) _ = _; simp only [q_, i64_w, i32_w]; rfl
                 refine pure_ (i:=33) (N:=some 130) (v:=?_) (a':=?_) ⟨m_ 43 17179869183⟩ rfl rfl (any_of HT_.out (by kernel_rfl)) (fun _ _ _ h=>h) (Or.inl ⟨rfl, ?_⟩) ?_ ?_; rotate_left
                 ·intro w'; go_simp; with_reducible rfl
                 rotate_left
                 ·simp only [q_, i64_w, i32_w]; rfl
                 refine take_ (i:=34) (N:=some 131) (v:=?_) (a':=?_) ⟨m_ 43 34359738367⟩ rfl rfl (take_ofW HT_.out HW_.out (by kernel_rfl)) (fun _ _ _ h=>h) (Or.inl ⟨rfl, ?_⟩) hHeld ?_ ?_; rotate_left
                 ·rintro w' ⟨s0, s1, s2, s3, s4, s5, s6, s7⟩; go_simp; with_reducible rfl
                 rotate_left
                 ·simp only [q_, i64_w, i32_w]; rfl
                 refine one_ (i:=35) (N:=some 132) ⟨m_ 43 68719476735⟩ rfl rfl (one_of HT_.out (by kernel_rfl)) (by decide) (fun K hK => ?_); refine goes_ Tryd.func15 (by kernel_rfl) rfl #[.agg #[.int .i64 t107, .int .u64 t108]] (by rfl) rfl rfl (by (try simp only [List.map_toArray, List.map_cons, List.map_nil]); first | done | rfl | (simp only [List.length_drop, List.length_take]; rfl)) ?_; with_reducible refine (label_May.calls t107 t108 true _ A188.out).mono ?_; rintro e w198 ⟨rfl, hb⟩; refine ⟨_, rfl, ?_⟩
                 replace BK101 := bb_ BK101 hb; replace BK102 := bb_ BK102 hb; replace BK103 := bb_ BK103 hb; replace BK106 := bb_ BK106 hb; replace BK109 := bb_ BK109 hb; replace HB := bs_ HB hb; (try clear hb); (try clear hb2); (try clear hk); (try clear hi); refine hK.out _ _ ⟨bc_ BK101 0 rfl, bc_ BK101 1 rfl, bc_ BK109 0 rfl, bc_ BK109 1 rfl, bc_ BK106 0 rfl, bc_ BK106 1 rfl, bc_ BK102 0 rfl, bc_ BK102 1 rfl⟩ (fun hHeld => ?_); clear hK K; refine norm_ (a':=?_) ?_ ?_; rotate_left
                 ·show Act.put _ (some 132) _ = _; simp only [q_, i64_w, i32_w]; rfl
                 refine pure_ (i:=36) (N:=some 133) (v:=?_) (a':=?_) ⟨m_ 43 137438953471⟩ rfl rfl (any_of HT_.out (by kernel_rfl)) (fun _ _ _ h=>h) (Or.inl ⟨rfl, ?_⟩) ?_ ?_; rotate_left
                 ·intro w'; go_simp; with_reducible rfl
                 rotate_left
                 ·simp only [q_, i64_w, i32_w]; rfl
                 refine pure_ (i:=37) (N:=some 134) (v:=?_) (a':=?_) ⟨m_ 43 274877906943⟩ rfl rfl (any_of HT_.out (by kernel_rfl)) (fun _ _ _ h=>h) (Or.inl ⟨rfl, ?_⟩) ?_ ?_; rotate_left
                 ·intro w'; go_simp; with_reducible rfl
                 rotate_left
                 ·simp only [q_, i64_w, i32_w]; rfl
                 refine pure_ (i:=38) (N:=some 135) (v:=?_) (a':=?_) ⟨m_ 43 549755813887⟩ rfl rfl (any_of HT_.out (by kernel_rfl)) (fun _ _ _ h=>h) (Or.inl ⟨rfl, ?_⟩) ?_ ?_; rotate_left
                 ·intro w'; go_simp; with_reducible rfl
                 rotate_left
                 ·simp only [q_, i64_w, i32_w]; rfl
                 refine pure_ (i:=39) (N:=some 136) (v:=?_) (a':=?_) ⟨m_ 43 1099511627775⟩ rfl rfl (any_of HT_.out (by kernel_rfl)) (fun _ _ _ h=>h) (Or.inl ⟨rfl, ?_⟩) ?_ ?_; rotate_left
                 ·intro w'; go_simp; with_reducible rfl
                 rotate_left
                 ·simp only [q_, i64_w, i32_w]; rfl
                 refine one_ (i:=40) (N:=some 137) ⟨m_ 43 2199023255551⟩ rfl rfl (one_of HT_.out (by kernel_rfl)) (by decide) (fun K hK => ?_); refine goes_ Tryd.func10 (by kernel_rfl) rfl #[] (by rfl) rfl rfl (by (try simp only [List.map_toArray, List.map_cons, List.map_nil]); first | done | rfl | (simp only [List.length_drop, List.length_take]; rfl)) ?_; with_reducible refine (oculuslaw02_alive.calls kj142  t148 _ (by refine tb_ ?_ hT; repeat' (first | exact pbx HB | assumption | refine below_set ?_ (Aside0.out ?_))) A190.out).mono ?_; rintro e w199 ⟨rfl, hb⟩; refine ⟨_, rfl, ?_⟩
                 replace BK101 := bb_ BK101 hb; replace BK102 := bb_ BK102 hb; replace BK103 := bb_ BK103 hb; replace BK106 := bb_ BK106 hb; replace BK109 := bb_ BK109 hb; replace HB := bs_ HB hb; (try clear hb); (try clear hb2); (try clear hk); (try clear hi); refine hK.out _ _ ⟨bc_ BK101 0 rfl, bc_ BK101 1 rfl, bc_ BK109 0 rfl, bc_ BK109 1 rfl, bc_ BK106 0 rfl, bc_ BK106 1 rfl, bc_ BK102 0 rfl, bc_ BK102 1 rfl⟩ (fun hHeld => ?_); clear hK K; refine norm_ (a':=?_) ?_ ?_; rotate_left
                 ·show Act.put _ (some 137) _ = _; simp only [q_, i64_w, i32_w]; rfl
                 refine pure_ (i:=41) (N:=some 138) (v:=?_) (a':=?_) ⟨m_ 43 4398046511103⟩ rfl rfl (any_of HT_.out (by kernel_rfl)) (fun _ _ _ h=>h) (Or.inl ⟨rfl, ?_⟩) ?_ ?_; rotate_left
                 ·intro w'; go_simp; with_reducible rfl
                 rotate_left
                 ·simp only [q_, i64_w, i32_w]; rfl
                 refine pure_ (i:=42) (N:=some 6) (v:=?_) (a':=?_) ⟨m_ 43 8796093022207⟩ rfl rfl (any_of HT_.out (by kernel_rfl)) (fun _ _ _ h=>h) (Or.inl ⟨rfl, ?_⟩) ?_ ?_; rotate_left
                 ·intro w'; go_simp; with_reducible rfl
                 rotate_left
                 ·simp only [q_, i64_w, i32_w]; rfl
                 refine done_ (done_of HT_.out (by kernel_rfl)) ?_
                 try go_wp2
                 go_ret
                 exact ⟨by first | rfl | (simp [errW_none, errW_some] <;> rfl) | (simp [*, errW_none, errW_some] <;> rfl), pbx HB⟩
                ·replace c189 := Bool.eq_false_iff.mpr c189; subst c189
                 have H1 : (none) = some r := by rw [if_neg (show ¬ (false = true) by decide)] at H; exact H
                 clear H; have H := H1; clear H1
                 exact absurd H (by simp)
               ·replace c187 := Bool.eq_false_iff.mpr c187; subst c187
                have H1 : (none) = some r := by rw [if_neg (show ¬ (false = true) by decide)] at H; exact H
                clear H; have H := H1; clear H1
                exact absurd H (by simp)
              ·replace c185 := Bool.eq_false_iff.mpr c185; subst c185
               have H1 : ((oculuslaw02_alive.f kj142).bind fun t149 => (some t149)) = some r := by rw [if_neg (show ¬ (false = true) by decide)] at H; exact H
               clear H; have H := H1; clear H1; replace H := Option.bind_eq_some_iff.mp H; obtain ⟨t149, A2000, H⟩ := H
               replace H : (some t149) = some r := H
               have A200 := Aside0.mk A2000; clear A2000; obtain rfl := Option.some.inj H
               try go_wp2
               (try (rw [drewN_self wc]; generalize hq_ : World.drewN wc _ = wc; have n0_ : Aside0 (wc.heap[gb101]? = some (.cells #[.int .i64 a0_0, .int .u64 a0_1] 24 (0, 0))) := ⟨by rw [← hq_]; exact (pkx BK101)⟩; have n1_ : Aside0 (wc.heap[gb102]? = some (.cells #[.int .i64 a1_0, .int .u64 a1_1] 24 (0, 0))) := ⟨by rw [← hq_]; exact (pkx BK102)⟩; have n2_ : Aside0 (wc.heap[gb103]? = some (.cells #[.int .i64 a2_0, .int .u64 a2_1] 24 (0, 0))) := ⟨by rw [← hq_]; exact (pkx BK103)⟩; have n3_ : Aside0 (wc.heap[gb106]? = some (.cells #[.int .i64 t104, .int .u64 t105] 24 (0, 0))) := ⟨by rw [← hq_]; exact (pkx BK106)⟩; have n4_ : Aside0 (wc.heap[gb109]? = some (.cells #[.int .i64 t107, .int .u64 t108] 24 (0, 0))) := ⟨by rw [← hq_]; exact (pkx BK109)⟩; have n5_ : Aside0 (Below w.heap.size w wc) := ⟨by rw [← hq_]; exact (pbx HB)⟩; clear BK101 BK102 BK103 BK106 BK109 HB hq_; have BK101 := n0_; have BK102 := n1_; have BK103 := n2_; have BK106 := n3_; have BK109 := n4_; have HB := n5_; clear n0_ n1_ n2_ n3_ n4_ n5_))
               replace BK101 := Aside0.mk (blk_drew BK101.out); replace BK102 := Aside0.mk (blk_drew BK102.out); replace BK103 := Aside0.mk (blk_drew BK103.out); replace BK106 := Aside0.mk (blk_drew BK106.out); replace BK109 := Aside0.mk (blk_drew BK109.out); replace HB := Aside0.mk (below_drew1 HB.out)
               refine start_ (n:=43) (S := fun w' => w'.cell? ⟨gb101, 0, none⟩ = some (.int .i64 a0_0) ∧ w'.cell? ⟨gb101, 1, none⟩ = some (.int .u64 a0_1) ∧ w'.cell? ⟨gb109, 0, none⟩ = some (.int .i64 t107) ∧ w'.cell? ⟨gb109, 1, none⟩ = some (.int .u64 t108) ∧ w'.cell? ⟨gb106, 0, none⟩ = some (.int .i64 t104) ∧ w'.cell? ⟨gb106, 1, none⟩ = some (.int .u64 t105) ∧ w'.cell? ⟨gb102, 0, none⟩ = some (.int .i64 a1_0) ∧ w'.cell? ⟨gb102, 1, none⟩ = some (.int .u64 a1_1)) (ds := []) #[F,F,F,F,F,F,F,F,F,F,F,F,F,F,F,F,F,F,F,F,F,F,F,F,F,F,F,F,F,F,F,F,F,F,F,F,F,F,F,F,F,F,F] (by kernel_rfl) rfl rfl ⟨bc_ BK101 0 rfl, bc_ BK101 1 rfl, bc_ BK109 0 rfl, bc_ BK109 1 rfl, bc_ BK106 0 rfl, bc_ BK106 1 rfl, bc_ BK102 0 rfl, bc_ BK102 1 rfl⟩ (fun hHeld => ?_); refine with_tabW oculuslaw02_LabelLattice.tab9 oculuslaw02_LabelLattice.bits9 (fun HT_ HW_ => ?_)
               generalize wc.drew = w201 at BK101 BK102 BK103 BK106 BK109 HB hHeld ⊢; refine take_ (i:=0) (N:=some 97) (v:=?_) (a':=?_) ⟨m_ 43 1⟩ rfl rfl (take_ofW HT_.out HW_.out (by kernel_rfl)) (fun _ _ _ h=>h) (Or.inl ⟨rfl, ?_⟩) hHeld ?_ ?_; rotate_left
               ·rintro w' ⟨s0, s1, s2, s3, s4, s5, s6, s7⟩; go_simp; with_reducible rfl
               rotate_left
               ·simp only [q_, i64_w, i32_w]; rfl
               refine take_ (i:=1) (N:=some 98) (v:=?_) (a':=?_) ⟨m_ 43 3⟩ rfl rfl (take_ofW HT_.out HW_.out (by kernel_rfl)) (fun _ _ _ h=>h) (Or.inl ⟨rfl, ?_⟩) hHeld ?_ ?_; rotate_left
               ·rintro w' ⟨s0, s1, s2, s3, s4, s5, s6, s7⟩; go_simp; with_reducible rfl
               rotate_left
               ·simp only [q_, i64_w, i32_w]; rfl
               refine take_ (i:=3) (N:=some 100) (v:=?_) (a':=?_) ⟨m_ 43 11⟩ rfl rfl (take_ofW HT_.out HW_.out (by kernel_rfl)) (fun _ _ _ h=>h) (Or.inl ⟨rfl, ?_⟩) hHeld ?_ ?_; rotate_left
               ·rintro w' ⟨s0, s1, s2, s3, s4, s5, s6, s7⟩; go_simp; with_reducible rfl
               rotate_left
               ·simp only [q_, i64_w, i32_w]; rfl
               refine one_ (i:=2) (N:=some 99) ⟨m_ 43 15⟩ rfl rfl (one_of HT_.out (by kernel_rfl)) (by decide) (fun K hK => ?_); refine goes_ Tryd.func25 (by kernel_rfl) rfl #[.agg #[.int .i64 a0_0, .int .u64 a0_1], .agg #[.int .i64 t107, .int .u64 t108]] (by rfl) rfl rfl (by (try simp only [List.map_toArray, List.map_cons, List.map_nil]); first | done | rfl | (simp only [List.length_drop, List.length_take]; rfl)) ?_; with_reducible refine (label_Join.calls a0_0 a0_1 t107 t108 t139 t140 _ A176.out).mono ?_; rintro e w202 ⟨rfl, hb⟩; refine ⟨_, rfl, ?_⟩
               replace BK101 := bb_ BK101 hb; replace BK102 := bb_ BK102 hb; replace BK103 := bb_ BK103 hb; replace BK106 := bb_ BK106 hb; replace BK109 := bb_ BK109 hb; replace HB := bs_ HB hb; (try clear hb); (try clear hb2); (try clear hk); (try clear hi); refine hK.out _ _ ⟨bc_ BK101 0 rfl, bc_ BK101 1 rfl, bc_ BK109 0 rfl, bc_ BK109 1 rfl, bc_ BK106 0 rfl, bc_ BK106 1 rfl, bc_ BK102 0 rfl, bc_ BK102 1 rfl⟩ (fun hHeld => ?_); clear hK K; refine norm_ (a':=?_) ?_ ?_; rotate_left
               ·show Act.put _ (some 99) _ = _; simp only [q_, i64_w, i32_w]; rfl
               refine pure_ (i:=4) (N:=some 101) (v:=?_) (a':=?_) ⟨m_ 43 31⟩ rfl rfl (any_of HT_.out (by kernel_rfl)) (fun _ _ _ h=>h) (Or.inl ⟨rfl, ?_⟩) ?_ ?_; rotate_left
               ·intro w'; go_simp; with_reducible rfl
               rotate_left
               ·simp only [q_, i64_w, i32_w]; rfl
               refine pure_ (i:=5) (N:=some 102) (v:=?_) (a':=?_) ⟨m_ 43 63⟩ rfl rfl (any_of HT_.out (by kernel_rfl)) (fun _ _ _ h=>h) (Or.inl ⟨rfl, ?_⟩) ?_ ?_; rotate_left
               ·intro w'; go_simp; with_reducible rfl
               rotate_left
               ·simp only [q_, i64_w, i32_w]; rfl
               refine take_ (i:=6) (N:=some 103) (v:=?_) (a':=?_) ⟨m_ 43 127⟩ rfl rfl (take_ofW HT_.out HW_.out (by kernel_rfl)) (fun _ _ _ h=>h) (Or.inl ⟨rfl, ?_⟩) hHeld ?_ ?_; rotate_left
               ·rintro w' ⟨s0, s1, s2, s3, s4, s5, s6, s7⟩; go_simp; with_reducible rfl
               rotate_left
               ·simp only [q_, i64_w, i32_w]; rfl
               refine take_ (i:=7) (N:=some 104) (v:=?_) (a':=?_) ⟨m_ 43 255⟩ rfl rfl (take_ofW HT_.out HW_.out (by kernel_rfl)) (fun _ _ _ h=>h) (Or.inl ⟨rfl, ?_⟩) hHeld ?_ ?_; rotate_left
               ·rintro w' ⟨s0, s1, s2, s3, s4, s5, s6, s7⟩; go_simp; with_reducible rfl
               rotate_left
               ·simp only [q_, i64_w, i32_w]; rfl
               refine take_ (i:=9) (N:=some 106) (v:=?_) (a':=?_) ⟨m_ 43 767⟩ rfl rfl (take_ofW HT_.out HW_.out (by kernel_rfl)) (fun _ _ _ h=>h) (Or.inl ⟨rfl, ?_⟩) hHeld ?_ ?_; rotate_left
               ·rintro w' ⟨s0, s1, s2, s3, s4, s5, s6, s7⟩; go_simp; with_reducible rfl
               rotate_left
               ·simp only [q_, i64_w, i32_w]; rfl
               refine one_ (i:=8) (N:=some 105) ⟨m_ 43 1023⟩ rfl rfl (one_of HT_.out (by kernel_rfl)) (by decide) (fun K hK => ?_); refine goes_ Tryd.func26 (by kernel_rfl) rfl #[.agg #[.int .i64 a0_0, .int .u64 a0_1], .agg #[.int .i64 t104, .int .u64 t105]] (by rfl) rfl rfl (by (try simp only [List.map_toArray, List.map_cons, List.map_nil]); first | done | rfl | (simp only [List.length_drop, List.length_take]; rfl)) ?_; with_reducible refine (label_Meet.calls a0_0 a0_1 t104 t105 t141 t142 _ A178.out).mono ?_; rintro e w203 ⟨rfl, hb⟩; refine ⟨_, rfl, ?_⟩
               replace BK101 := bb_ BK101 hb; replace BK102 := bb_ BK102 hb; replace BK103 := bb_ BK103 hb; replace BK106 := bb_ BK106 hb; replace BK109 := bb_ BK109 hb; replace HB := bs_ HB hb; (try clear hb); (try clear hb2); (try clear hk); (try clear hi); refine hK.out _ _ ⟨bc_ BK101 0 rfl, bc_ BK101 1 rfl, bc_ BK109 0 rfl, bc_ BK109 1 rfl, bc_ BK106 0 rfl, bc_ BK106 1 rfl, bc_ BK102 0 rfl, bc_ BK102 1 rfl⟩ (fun hHeld => ?_); clear hK K; refine norm_ (a':=?_) ?_ ?_; rotate_left
               ·show Act.put _ (some 105) _ = _; simp only [q_, i64_w, i32_w]; rfl
               refine pure_ (i:=10) (N:=some 107) (v:=?_) (a':=?_) ⟨m_ 43 2047⟩ rfl rfl (any_of HT_.out (by kernel_rfl)) (fun _ _ _ h=>h) (Or.inl ⟨rfl, ?_⟩) ?_ ?_; rotate_left
               ·intro w'; go_simp; with_reducible rfl
               rotate_left
               ·simp only [q_, i64_w, i32_w]; rfl
               refine pure_ (i:=11) (N:=some 108) (v:=?_) (a':=?_) ⟨m_ 43 4095⟩ rfl rfl (any_of HT_.out (by kernel_rfl)) (fun _ _ _ h=>h) (Or.inl ⟨rfl, ?_⟩) ?_ ?_; rotate_left
               ·intro w'; go_simp; with_reducible rfl
               rotate_left
               ·simp only [q_, i64_w, i32_w]; rfl
               refine pure_ (i:=12) (N:=some 109) (v:=?_) (a':=?_) ⟨m_ 43 8191⟩ rfl rfl (any_of HT_.out (by kernel_rfl)) (fun _ _ _ h=>h) (Or.inl ⟨rfl, ?_⟩) ?_ ?_; rotate_left
               ·intro w'; go_simp; with_reducible rfl
               rotate_left
               ·simp only [q_, i64_w, i32_w]; rfl
               refine take_ (i:=13) (N:=some 110) (v:=?_) (a':=?_) ⟨m_ 43 16383⟩ rfl rfl (take_ofW HT_.out HW_.out (by kernel_rfl)) (fun _ _ _ h=>h) (Or.inl ⟨rfl, ?_⟩) hHeld ?_ ?_; rotate_left
               ·rintro w' ⟨s0, s1, s2, s3, s4, s5, s6, s7⟩; go_simp; with_reducible rfl
               rotate_left
               ·simp only [q_, i64_w, i32_w]; rfl
               refine take_ (i:=14) (N:=some 111) (v:=?_) (a':=?_) ⟨m_ 43 32767⟩ rfl rfl (take_ofW HT_.out HW_.out (by kernel_rfl)) (fun _ _ _ h=>h) (Or.inl ⟨rfl, ?_⟩) hHeld ?_ ?_; rotate_left
               ·rintro w' ⟨s0, s1, s2, s3, s4, s5, s6, s7⟩; go_simp; with_reducible rfl
               rotate_left
               ·simp only [q_, i64_w, i32_w]; rfl
               refine take_ (i:=16) (N:=some 113) (v:=?_) (a':=?_) ⟨m_ 43 98303⟩ rfl rfl (take_ofW HT_.out HW_.out (by kernel_rfl)) (fun _ _ _ h=>h) (Or.inl ⟨rfl, ?_⟩) hHeld ?_ ?_; rotate_left
               ·rintro w' ⟨s0, s1, s2, s3, s4, s5, s6, s7⟩; go_simp; with_reducible rfl
               rotate_left
               ·simp only [q_, i64_w, i32_w]; rfl
               refine take_ (i:=17) (N:=some 114) (v:=?_) (a':=?_) ⟨m_ 43 229375⟩ rfl rfl (take_ofW HT_.out HW_.out (by kernel_rfl)) (fun _ _ _ h=>h) (Or.inl ⟨rfl, ?_⟩) hHeld ?_ ?_; rotate_left
               ·rintro w' ⟨s0, s1, s2, s3, s4, s5, s6, s7⟩; go_simp; with_reducible rfl
               rotate_left
               ·simp only [q_, i64_w, i32_w]; rfl
               refine pure_ (i:=18) (N:=some 115) (v:=?_) (a':=?_) ⟨m_ 43 491519⟩ rfl rfl (any_of HT_.out (by kernel_rfl)) (fun _ _ _ h=>h) (Or.inl ⟨rfl, ?_⟩) ?_ ?_; rotate_left
               ·intro w'; go_simp; with_reducible rfl
               rotate_left
               ·simp only [q_, i64_w, i32_w]; rfl
               refine one_ (i:=15) (N:=some 112) ⟨m_ 43 524287⟩ rfl rfl (one_of HT_.out (by kernel_rfl)) (by decide) (fun K hK => ?_); refine goes_ Tryd.func27 (by kernel_rfl) rfl #[.agg #[.int .i64 a0_0, .int .u64 a0_1], .agg #[.int .i64 a1_0, .int .u64 a1_1]] (by rfl) rfl rfl (by (try simp only [List.map_toArray, List.map_cons, List.map_nil]); first | done | rfl | (simp only [List.length_drop, List.length_take]; rfl)) ?_; with_reducible refine (label_Below.calls a0_0 a0_1 a1_0 a1_1 t143 _ A180.out).mono ?_; rintro e w204 ⟨rfl, hb⟩; refine ⟨_, rfl, ?_⟩
               replace BK101 := bb_ BK101 hb; replace BK102 := bb_ BK102 hb; replace BK103 := bb_ BK103 hb; replace BK106 := bb_ BK106 hb; replace BK109 := bb_ BK109 hb; replace HB := bs_ HB hb; (try clear hb); (try clear hb2); (try clear hk); (try clear hi); refine hK.out _ _ ⟨bc_ BK101 0 rfl, bc_ BK101 1 rfl, bc_ BK109 0 rfl, bc_ BK109 1 rfl, bc_ BK106 0 rfl, bc_ BK106 1 rfl, bc_ BK102 0 rfl, bc_ BK102 1 rfl⟩ (fun hHeld => ?_); clear hK K; refine norm_ (a':=?_) ?_ ?_; rotate_left
               ·show Act.put _ (some 112) _ = _; simp only [q_, i64_w, i32_w]; rfl
               refine pure_ (i:=19) (N:=some 116) (v:=?_) (a':=?_) ⟨m_ 43 1048575⟩ rfl rfl (any_of HT_.out (by kernel_rfl)) (fun _ _ _ h=>h) (Or.inl ⟨rfl, ?_⟩) ?_ ?_; rotate_left
               ·intro w'; go_simp; with_reducible rfl
               rotate_left
               ·simp only [q_, i64_w, i32_w]; rfl
               refine pure_ (i:=20) (N:=some 117) (v:=?_) (a':=?_) ⟨m_ 43 2097151⟩ rfl rfl (any_of HT_.out (by kernel_rfl)) (fun _ _ _ h=>h) (Or.inl ⟨rfl, ?_⟩) ?_ ?_; rotate_left
               ·intro w'; go_simp; with_reducible rfl
               rotate_left
               ·simp only [q_, i64_w, i32_w]; rfl
               refine pure_ (i:=21) (N:=some 118) (v:=?_) (a':=?_) ⟨m_ 43 4194303⟩ rfl rfl (any_of HT_.out (by kernel_rfl)) (fun _ _ _ h=>h) (Or.inl ⟨rfl, ?_⟩) ?_ ?_; rotate_left
               ·intro w'; go_simp; with_reducible rfl
               rotate_left
               ·simp only [q_, i64_w, i32_w]; rfl
               refine take_ (i:=22) (N:=some 119) (v:=?_) (a':=?_) ⟨m_ 43 8388607⟩ rfl rfl (take_ofW HT_.out HW_.out (by kernel_rfl)) (fun _ _ _ h=>h) (Or.inl ⟨rfl, ?_⟩) hHeld ?_ ?_; rotate_left
               ·rintro w' ⟨s0, s1, s2, s3, s4, s5, s6, s7⟩; go_simp; with_reducible rfl
               rotate_left
               ·simp only [q_, i64_w, i32_w]; rfl
               refine one_ (i:=23) (N:=some 120) ⟨m_ 43 16777215⟩ rfl rfl (one_of HT_.out (by kernel_rfl)) (by decide) (fun K hK => ?_); refine goes_ Tryd.func15 (by kernel_rfl) rfl #[.agg #[.int .i64 a0_0, .int .u64 a0_1]] (by rfl) rfl rfl (by (try simp only [List.map_toArray, List.map_cons, List.map_nil]); first | done | rfl | (simp only [List.length_drop, List.length_take]; rfl)) ?_; with_reducible refine (label_May.calls a0_0 a0_1 true _ A182.out).mono ?_; rintro e w205 ⟨rfl, hb⟩; refine ⟨_, rfl, ?_⟩
               replace BK101 := bb_ BK101 hb; replace BK102 := bb_ BK102 hb; replace BK103 := bb_ BK103 hb; replace BK106 := bb_ BK106 hb; replace BK109 := bb_ BK109 hb; replace HB := bs_ HB hb; (try clear hb); (try clear hb2); (try clear hk); (try clear hi); refine hK.out _ _ ⟨bc_ BK101 0 rfl, bc_ BK101 1 rfl, bc_ BK109 0 rfl, bc_ BK109 1 rfl, bc_ BK106 0 rfl, bc_ BK106 1 rfl, bc_ BK102 0 rfl, bc_ BK102 1 rfl⟩ (fun hHeld => ?_); clear hK K; refine norm_ (a':=?_) ?_ ?_; rotate_left
               ·show Act.put _ (some 120) _ = _; simp only [q_, i64_w, i32_w]; rfl
               refine pure_ (i:=24) (N:=some 121) (v:=?_) (a':=?_) ⟨m_ 43 33554431⟩ rfl rfl (any_of HT_.out (by kernel_rfl)) (fun _ _ _ h=>h) (Or.inl ⟨rfl, ?_⟩) ?_ ?_; rotate_left
               ·intro w'; go_simp; with_reducible rfl
               rotate_left
               ·simp only [q_, i64_w, i32_w]; rfl
               refine pure_ (i:=25) (N:=some 122) (v:=?_) (a':=?_) ⟨m_ 43 67108863⟩ rfl rfl (any_of HT_.out (by kernel_rfl)) (fun _ _ _ h=>h) (Or.inl ⟨rfl, ?_⟩) ?_ ?_; rotate_left
               ·intro w'; go_simp; with_reducible rfl
               rotate_left
               ·simp only [q_, i64_w, i32_w]; rfl
               refine take_ (i:=26) (N:=some 123) (v:=?_) (a':=?_) ⟨m_ 43 134217727⟩ rfl rfl (take_ofW HT_.out HW_.out (by kernel_rfl)) (fun _ _ _ h=>h) (Or.inl ⟨rfl, ?_⟩) hHeld ?_ ?_; rotate_left
               ·rintro w' ⟨s0, s1, s2, s3, s4, s5, s6, s7⟩; go_simp; with_reducible rfl
               rotate_left
               ·simp only [q_, i64_w, i32_w]; rfl
               refine one_ (i:=27) (N:=some 124) ⟨m_ 43 268435455⟩ rfl rfl (one_of HT_.out (by kernel_rfl)) (by decide) (fun K hK => ?_); refine goes_ Tryd.func15 (by kernel_rfl) rfl #[.agg #[.int .i64 a1_0, .int .u64 a1_1]] (by rfl) rfl rfl (by (try simp only [List.map_toArray, List.map_cons, List.map_nil]); first | done | rfl | (simp only [List.length_drop, List.length_take]; rfl)) ?_; with_reducible refine (label_May.calls a1_0 a1_1 false _ A184.out).mono ?_; rintro e w206 ⟨rfl, hb⟩; refine ⟨_, rfl, ?_⟩
               replace BK101 := bb_ BK101 hb; replace BK102 := bb_ BK102 hb; replace BK103 := bb_ BK103 hb; replace BK106 := bb_ BK106 hb; replace BK109 := bb_ BK109 hb; replace HB := bs_ HB hb; (try clear hb); (try clear hb2); (try clear hk); (try clear hi); refine hK.out _ _ ⟨bc_ BK101 0 rfl, bc_ BK101 1 rfl, bc_ BK109 0 rfl, bc_ BK109 1 rfl, bc_ BK106 0 rfl, bc_ BK106 1 rfl, bc_ BK102 0 rfl, bc_ BK102 1 rfl⟩ (fun hHeld => ?_); clear hK K; refine norm_ (a':=?_) ?_ ?_; rotate_left
               ·show Act.put _ (some 124) _ = _; simp only [q_, i64_w, i32_w]; rfl
               refine pure_ (i:=28) (N:=some 125) (v:=?_) (a':=?_) ⟨m_ 43 536870911⟩ rfl rfl (any_of HT_.out (by kernel_rfl)) (fun _ _ _ h=>h) (Or.inl ⟨rfl, ?_⟩) ?_ ?_; rotate_left
               ·intro w'; go_simp; with_reducible rfl
               rotate_left
               ·simp only [q_, i64_w, i32_w]; rfl
               refine pure_ (i:=29) (N:=some 126) (v:=?_) (a':=?_) ⟨m_ 43 1073741823⟩ rfl rfl (any_of HT_.out (by kernel_rfl)) (fun _ _ _ h=>h) (Or.inl ⟨rfl, ?_⟩) ?_ ?_; rotate_left
               ·intro w'; go_simp; with_reducible rfl
               rotate_left
               ·simp only [q_, i64_w, i32_w]; rfl
               refine pure_ (i:=30) (N:=some 127) (v:=?_) (a':=?_) ⟨m_ 43 2147483647⟩ rfl rfl (any_of HT_.out (by kernel_rfl)) (fun _ _ _ h=>h) (Or.inl ⟨rfl, ?_⟩) ?_ ?_; rotate_left
               ·intro w'; go_simp; with_reducible rfl
               rotate_left
               ·simp only [q_, i64_w, i32_w]; rfl
               refine pure_ (i:=31) (N:=some 128) (v:=undef) (a':=?_) ⟨m_ 43 4294967295⟩ rfl rfl (any_of HT_.out (by kernel_rfl)) (fun _ _ _ h=>h) (Or.inr ⟨by rfl, rfl⟩) ?_ ?_; rotate_left
               ·simp only [q_, i64_w, i32_w]; rfl
               refine pure_ (i:=32) (N:=some 129) (v:=undef) (a':=?_) ⟨m_ 43 8589934591⟩ rfl rfl (any_of HT_.out (by kernel_rfl)) (fun _ _ _ h=>h) (Or.inr ⟨by rfl, rfl⟩) ?_ ?_; rotate_left
               ·simp only [q_, i64_w, i32_w]; rfl
               refine pure_ (i:=33) (N:=some 130) (v:=undef) (a':=?_) ⟨m_ 43 17179869183⟩ rfl rfl (any_of HT_.out (by kernel_rfl)) (fun _ _ _ h=>h) (Or.inr ⟨by rfl, rfl⟩) ?_ ?_; rotate_left
               ·simp only [q_, i64_w, i32_w]; rfl
               refine pure_ (i:=34) (N:=some 131) (v:=undef) (a':=?_) ⟨m_ 43 34359738367⟩ rfl rfl (any_of HT_.out (by kernel_rfl)) (fun _ _ _ h=>h) (Or.inr ⟨by rfl, rfl⟩) ?_ ?_; rotate_left
               ·simp only [q_, i64_w, i32_w]; rfl
               refine pure_ (i:=35) (N:=some 132) (v:=undef) (a':=?_) ⟨m_ 43 68719476735⟩ rfl rfl (any_of HT_.out (by kernel_rfl)) (fun _ _ _ h=>h) (Or.inr ⟨by rfl, rfl⟩) ?_ ?_; rotate_left
               ·simp only [q_, i64_w, i32_w]; rfl
               refine pure_ (i:=36) (N:=some 133) (v:=undef) (a':=?_) ⟨m_ 43 137438953471⟩ rfl rfl (any_of HT_.out (by kernel_rfl)) (fun _ _ _ h=>h) (Or.inr ⟨by rfl, rfl⟩) ?_ ?_; rotate_left
               ·simp only [q_, i64_w, i32_w]; rfl
               refine pure_ (i:=37) (N:=some 134) (v:=?_) (a':=?_) ⟨m_ 43 274877906943⟩ rfl rfl (any_of HT_.out (by kernel_rfl)) (fun _ _ _ h=>h) (Or.inl ⟨rfl, ?_⟩) ?_ ?_; rotate_left
               ·intro w'; go_simp; with_reducible rfl
               rotate_left
               ·simp only [q_, i64_w, i32_w]; rfl
               refine pure_ (i:=38) (N:=some 135) (v:=?_) (a':=?_) ⟨m_ 43 549755813887⟩ rfl rfl (any_of HT_.out (by kernel_rfl)) (fun _ _ _ h=>h) (Or.inl ⟨rfl, ?_⟩) ?_ ?_; rotate_left
               ·intro w'; go_simp; with_reducible rfl
               rotate_left
               ·simp only [q_, i64_w, i32_w]; rfl
               refine pure_ (i:=39) (N:=some 136) (v:=?_) (a':=?_) ⟨m_ 43 1099511627775⟩ rfl rfl (any_of HT_.out (by kernel_rfl)) (fun _ _ _ h=>h) (Or.inl ⟨rfl, ?_⟩) ?_ ?_; rotate_left
               ·intro w'; go_simp; with_reducible rfl
               rotate_left
               ·simp only [q_, i64_w, i32_w]; rfl
               refine one_ (i:=40) (N:=some 137) ⟨m_ 43 2199023255551⟩ rfl rfl (one_of HT_.out (by kernel_rfl)) (by decide) (fun K hK => ?_); refine goes_ Tryd.func10 (by kernel_rfl) rfl #[] (by rfl) rfl rfl (by (try simp only [List.map_toArray, List.map_cons, List.map_nil]); first | done | rfl | (simp only [List.length_drop, List.length_take]; rfl)) ?_; with_reducible refine (oculuslaw02_alive.calls kj142  t149 _ (by refine tb_ ?_ hT; repeat' (first | exact pbx HB | assumption | refine below_set ?_ (Aside0.out ?_))) A200.out).mono ?_; rintro e w207 ⟨rfl, hb⟩; refine ⟨_, rfl, ?_⟩
               replace BK101 := bb_ BK101 hb; replace BK102 := bb_ BK102 hb; replace BK103 := bb_ BK103 hb; replace BK106 := bb_ BK106 hb; replace BK109 := bb_ BK109 hb; replace HB := bs_ HB hb; (try clear hb); (try clear hb2); (try clear hk); (try clear hi); refine hK.out _ _ ⟨bc_ BK101 0 rfl, bc_ BK101 1 rfl, bc_ BK109 0 rfl, bc_ BK109 1 rfl, bc_ BK106 0 rfl, bc_ BK106 1 rfl, bc_ BK102 0 rfl, bc_ BK102 1 rfl⟩ (fun hHeld => ?_); clear hK K; refine norm_ (a':=?_) ?_ ?_; rotate_left
               ·show Act.put _ (some 137) _ = _; simp only [q_, i64_w, i32_w]; rfl
               refine pure_ (i:=41) (N:=some 138) (v:=?_) (a':=?_) ⟨m_ 43 4398046511103⟩ rfl rfl (any_of HT_.out (by kernel_rfl)) (fun _ _ _ h=>h) (Or.inl ⟨rfl, ?_⟩) ?_ ?_; rotate_left
               ·intro w'; go_simp; with_reducible rfl
               rotate_left
               ·simp only [q_, i64_w, i32_w]; rfl
               refine pure_ (i:=42) (N:=some 6) (v:=?_) (a':=?_) ⟨m_ 43 8796093022207⟩ rfl rfl (any_of HT_.out (by kernel_rfl)) (fun _ _ _ h=>h) (Or.inl ⟨rfl, ?_⟩) ?_ ?_; rotate_left
               ·intro w'; go_simp; with_reducible rfl
               rotate_left
               ·simp only [q_, i64_w, i32_w]; rfl
               refine done_ (done_of HT_.out (by kernel_rfl)) ?_
               try go_wp2
               go_ret
               exact ⟨by first | rfl | (simp [errW_none, errW_some] <;> rfl) | (simp [*, errW_none, errW_some] <;> rfl), pbx HB⟩
             ·replace c183 := Bool.eq_false_iff.mpr c183; subst c183
              have H1 : ((oculuslaw02_alive.f kj142).bind fun t150 => (some t150)) = some r := by rw [if_neg (show ¬ (false = true) by decide)] at H; exact H
              clear H; have H := H1; clear H1; replace H := Option.bind_eq_some_iff.mp H; obtain ⟨t150, A2080, H⟩ := H
              replace H : (some t150) = some r := H
              have A208 := Aside0.mk A2080; clear A2080; obtain rfl := Option.some.inj H
              try go_wp2
              (try (rw [drewN_self wc]; generalize hq_ : World.drewN wc _ = wc; have n0_ : Aside0 (wc.heap[gb101]? = some (.cells #[.int .i64 a0_0, .int .u64 a0_1] 24 (0, 0))) := ⟨by rw [← hq_]; exact (pkx BK101)⟩; have n1_ : Aside0 (wc.heap[gb102]? = some (.cells #[.int .i64 a1_0, .int .u64 a1_1] 24 (0, 0))) := ⟨by rw [← hq_]; exact (pkx BK102)⟩; have n2_ : Aside0 (wc.heap[gb103]? = some (.cells #[.int .i64 a2_0, .int .u64 a2_1] 24 (0, 0))) := ⟨by rw [← hq_]; exact (pkx BK103)⟩; have n3_ : Aside0 (wc.heap[gb106]? = some (.cells #[.int .i64 t104, .int .u64 t105] 24 (0, 0))) := ⟨by rw [← hq_]; exact (pkx BK106)⟩; have n4_ : Aside0 (wc.heap[gb109]? = some (.cells #[.int .i64 t107, .int .u64 t108] 24 (0, 0))) := ⟨by rw [← hq_]; exact (pkx BK109)⟩; have n5_ : Aside0 (Below w.heap.size w wc) := ⟨by rw [← hq_]; exact (pbx HB)⟩; clear BK101 BK102 BK103 BK106 BK109 HB hq_; have BK101 := n0_; have BK102 := n1_; have BK103 := n2_; have BK106 := n3_; have BK109 := n4_; have HB := n5_; clear n0_ n1_ n2_ n3_ n4_ n5_))
              replace BK101 := Aside0.mk (blk_drew BK101.out); replace BK102 := Aside0.mk (blk_drew BK102.out); replace BK103 := Aside0.mk (blk_drew BK103.out); replace BK106 := Aside0.mk (blk_drew BK106.out); replace BK109 := Aside0.mk (blk_drew BK109.out); replace HB := Aside0.mk (below_drew1 HB.out)
              refine start_ (n:=43) (S := fun w' => w'.cell? ⟨gb101, 0, none⟩ = some (.int .i64 a0_0) ∧ w'.cell? ⟨gb101, 1, none⟩ = some (.int .u64 a0_1) ∧ w'.cell? ⟨gb109, 0, none⟩ = some (.int .i64 t107) ∧ w'.cell? ⟨gb109, 1, none⟩ = some (.int .u64 t108) ∧ w'.cell? ⟨gb106, 0, none⟩ = some (.int .i64 t104) ∧ w'.cell? ⟨gb106, 1, none⟩ = some (.int .u64 t105) ∧ w'.cell? ⟨gb102, 0, none⟩ = some (.int .i64 a1_0) ∧ w'.cell? ⟨gb102, 1, none⟩ = some (.int .u64 a1_1)) (ds := []) #[F,F,F,F,F,F,F,F,F,F,F,F,F,F,F,F,F,F,F,F,F,F,F,F,F,F,F,F,F,F,F,F,F,F,F,F,F,F,F,F,F,F,F] (by kernel_rfl) rfl rfl ⟨bc_ BK101 0 rfl, bc_ BK101 1 rfl, bc_ BK109 0 rfl, bc_ BK109 1 rfl, bc_ BK106 0 rfl, bc_ BK106 1 rfl, bc_ BK102 0 rfl, bc_ BK102 1 rfl⟩ (fun hHeld => ?_); refine with_tabW oculuslaw02_LabelLattice.tab9 oculuslaw02_LabelLattice.bits9 (fun HT_ HW_ => ?_)
              generalize wc.drew = w209 at BK101 BK102 BK103 BK106 BK109 HB hHeld ⊢; refine take_ (i:=0) (N:=some 97) (v:=?_) (a':=?_) ⟨m_ 43 1⟩ rfl rfl (take_ofW HT_.out HW_.out (by kernel_rfl)) (fun _ _ _ h=>h) (Or.inl ⟨rfl, ?_⟩) hHeld ?_ ?_; rotate_left
              ·rintro w' ⟨s0, s1, s2, s3, s4, s5, s6, s7⟩; go_simp; with_reducible rfl
              rotate_left
              ·simp only [q_, i64_w, i32_w]; rfl
              refine take_ (i:=1) (N:=some 98) (v:=?_) (a':=?_) ⟨m_ 43 3⟩ rfl rfl (take_ofW HT_.out HW_.out (by kernel_rfl)) (fun _ _ _ h=>h) (Or.inl ⟨rfl, ?_⟩) hHeld ?_ ?_; rotate_left
              ·rintro w' ⟨s0, s1, s2, s3, s4, s5, s6, s7⟩; go_simp; with_reducible rfl
              rotate_left
              ·simp only [q_, i64_w, i32_w]; rfl
              refine take_ (i:=3) (N:=some 100) (v:=?_) (a':=?_) ⟨m_ 43 11⟩ rfl rfl (take_ofW HT_.out HW_.out (by kernel_rfl)) (fun _ _ _ h=>h) (Or.inl ⟨rfl, ?_⟩) hHeld ?_ ?_; rotate_left
              ·rintro w' ⟨s0, s1, s2, s3, s4, s5, s6, s7⟩; go_simp; with_reducible rfl
              rotate_left
              ·simp only [q_, i64_w, i32_w]; rfl
              refine one_ (i:=2) (N:=some 99) ⟨m_ 43 15⟩ rfl rfl (one_of HT_.out (by kernel_rfl)) (by decide) (fun K hK => ?_); refine goes_ Tryd.func25 (by kernel_rfl) rfl #[.agg #[.int .i64 a0_0, .int .u64 a0_1], .agg #[.int .i64 t107, .int .u64 t108]] (by rfl) rfl rfl (by (try simp only [List.map_toArray, List.map_cons, List.map_nil]); first | done | rfl | (simp only [List.length_drop, List.length_take]; rfl)) ?_; with_reducible refine (label_Join.calls a0_0 a0_1 t107 t108 t139 t140 _ A176.out).mono ?_; rintro e w210 ⟨rfl, hb⟩; refine ⟨_, rfl, ?_⟩
              replace BK101 := bb_ BK101 hb; replace BK102 := bb_ BK102 hb; replace BK103 := bb_ BK103 hb; replace BK106 := bb_ BK106 hb; replace BK109 := bb_ BK109 hb; replace HB := bs_ HB hb; (try clear hb); (try clear hb2); (try clear hk); (try clear hi); refine hK.out _ _ ⟨bc_ BK101 0 rfl, bc_ BK101 1 rfl, bc_ BK109 0 rfl, bc_ BK109 1 rfl, bc_ BK106 0 rfl, bc_ BK106 1 rfl, bc_ BK102 0 rfl, bc_ BK102 1 rfl⟩ (fun hHeld => ?_); clear hK K; refine norm_ (a':=?_) ?_ ?_; rotate_left
              ·show Act.put _ (some 99) _ = _; simp only [q_, i64_w, i32_w]; rfl
              refine pure_ (i:=4) (N:=some 101) (v:=?_) (a':=?_) ⟨m_ 43 31⟩ rfl rfl (any_of HT_.out (by kernel_rfl)) (fun _ _ _ h=>h) (Or.inl ⟨rfl, ?_⟩) ?_ ?_; rotate_left
              ·intro w'; go_simp; with_reducible rfl
              rotate_left
              ·simp only [q_, i64_w, i32_w]; rfl
              refine pure_ (i:=5) (N:=some 102) (v:=?_) (a':=?_) ⟨m_ 43 63⟩ rfl rfl (any_of HT_.out (by kernel_rfl)) (fun _ _ _ h=>h) (Or.inl ⟨rfl, ?_⟩) ?_ ?_; rotate_left
              ·intro w'; go_simp; with_reducible rfl
              rotate_left
              ·simp only [q_, i64_w, i32_w]; rfl
              refine take_ (i:=6) (N:=some 103) (v:=?_) (a':=?_) ⟨m_ 43 127⟩ rfl rfl (take_ofW HT_.out HW_.out (by kernel_rfl)) (fun _ _ _ h=>h) (Or.inl ⟨rfl, ?_⟩) hHeld ?_ ?_; rotate_left
              ·rintro w' ⟨s0, s1, s2, s3, s4, s5, s6, s7⟩; go_simp; with_reducible rfl
              rotate_left
              ·simp only [q_, i64_w, i32_w]; rfl
              refine take_ (i:=7) (N:=some 104) (v:=?_) (a':=?_) ⟨m_ 43 255⟩ rfl rfl (take_ofW HT_.out HW_.out (by kernel_rfl)) (fun _ _ _ h=>h) (Or.inl ⟨rfl, ?_⟩) hHeld ?_ ?_; rotate_left
              ·rintro w' ⟨s0, s1, s2, s3, s4, s5, s6, s7⟩; go_simp; with_reducible rfl
              rotate_left
              ·simp only [q_, i64_w, i32_w]; rfl
              refine take_ (i:=9) (N:=some 106) (v:=?_) (a':=?_) ⟨m_ 43 767⟩ rfl rfl (take_ofW HT_.out HW_.out (by kernel_rfl)) (fun _ _ _ h=>h) (Or.inl ⟨rfl, ?_⟩) hHeld ?_ ?_; rotate_left
              ·rintro w' ⟨s0, s1, s2, s3, s4, s5, s6, s7⟩; go_simp; with_reducible rfl
              rotate_left
              ·simp only [q_, i64_w, i32_w]; rfl
              refine one_ (i:=8) (N:=some 105) ⟨m_ 43 1023⟩ rfl rfl (one_of HT_.out (by kernel_rfl)) (by decide) (fun K hK => ?_); refine goes_ Tryd.func26 (by kernel_rfl) rfl #[.agg #[.int .i64 a0_0, .int .u64 a0_1], .agg #[.int .i64 t104, .int .u64 t105]] (by rfl) rfl rfl (by (try simp only [List.map_toArray, List.map_cons, List.map_nil]); first | done | rfl | (simp only [List.length_drop, List.length_take]; rfl)) ?_; with_reducible refine (label_Meet.calls a0_0 a0_1 t104 t105 t141 t142 _ A178.out).mono ?_; rintro e w211 ⟨rfl, hb⟩; refine ⟨_, rfl, ?_⟩
              replace BK101 := bb_ BK101 hb; replace BK102 := bb_ BK102 hb; replace BK103 := bb_ BK103 hb; replace BK106 := bb_ BK106 hb; replace BK109 := bb_ BK109 hb; replace HB := bs_ HB hb; (try clear hb); (try clear hb2); (try clear hk); (try clear hi); refine hK.out _ _ ⟨bc_ BK101 0 rfl, bc_ BK101 1 rfl, bc_ BK109 0 rfl, bc_ BK109 1 rfl, bc_ BK106 0 rfl, bc_ BK106 1 rfl, bc_ BK102 0 rfl, bc_ BK102 1 rfl⟩ (fun hHeld => ?_); clear hK K; refine norm_ (a':=?_) ?_ ?_; rotate_left
              ·show Act.put _ (some 105) _ = _; simp only [q_, i64_w, i32_w]; rfl
              refine pure_ (i:=10) (N:=some 107) (v:=?_) (a':=?_) ⟨m_ 43 2047⟩ rfl rfl (any_of HT_.out (by kernel_rfl)) (fun _ _ _ h=>h) (Or.inl ⟨rfl, ?_⟩) ?_ ?_; rotate_left
              ·intro w'; go_simp; with_reducible rfl
              rotate_left
              ·simp only [q_, i64_w, i32_w]; rfl
              refine pure_ (i:=11) (N:=some 108) (v:=?_) (a':=?_) ⟨m_ 43 4095⟩ rfl rfl (any_of HT_.out (by kernel_rfl)) (fun _ _ _ h=>h) (Or.inl ⟨rfl, ?_⟩) ?_ ?_; rotate_left
              ·intro w'; go_simp; with_reducible rfl
              rotate_left
              ·simp only [q_, i64_w, i32_w]; rfl
              refine pure_ (i:=12) (N:=some 109) (v:=?_) (a':=?_) ⟨m_ 43 8191⟩ rfl rfl (any_of HT_.out (by kernel_rfl)) (fun _ _ _ h=>h) (Or.inl ⟨rfl, ?_⟩) ?_ ?_; rotate_left
              ·intro w'; go_simp; with_reducible rfl
              rotate_left
              ·simp only [q_, i64_w, i32_w]; rfl
              refine take_ (i:=13) (N:=some 110) (v:=?_) (a':=?_) ⟨m_ 43 16383⟩ rfl rfl (take_ofW HT_.out HW_.out (by kernel_rfl)) (fun _ _ _ h=>h) (Or.inl ⟨rfl, ?_⟩) hHeld ?_ ?_; rotate_left
              ·rintro w' ⟨s0, s1, s2, s3, s4, s5, s6, s7⟩; go_simp; with_reducible rfl
              rotate_left
              ·simp only [q_, i64_w, i32_w]; rfl
              refine take_ (i:=14) (N:=some 111) (v:=?_) (a':=?_) ⟨m_ 43 32767⟩ rfl rfl (take_ofW HT_.out HW_.out (by kernel_rfl)) (fun _ _ _ h=>h) (Or.inl ⟨rfl, ?_⟩) hHeld ?_ ?_; rotate_left
              ·rintro w' ⟨s0, s1, s2, s3, s4, s5, s6, s7⟩; go_simp; with_reducible rfl
              rotate_left
              ·simp only [q_, i64_w, i32_w]; rfl
              refine take_ (i:=16) (N:=some 113) (v:=?_) (a':=?_) ⟨m_ 43 98303⟩ rfl rfl (take_ofW HT_.out HW_.out (by kernel_rfl)) (fun _ _ _ h=>h) (Or.inl ⟨rfl, ?_⟩) hHeld ?_ ?_; rotate_left
              ·rintro w' ⟨s0, s1, s2, s3, s4, s5, s6, s7⟩; go_simp; with_reducible rfl
              rotate_left
              ·simp only [q_, i64_w, i32_w]; rfl
              refine take_ (i:=17) (N:=some 114) (v:=?_) (a':=?_) ⟨m_ 43 229375⟩ rfl rfl (take_ofW HT_.out HW_.out (by kernel_rfl)) (fun _ _ _ h=>h) (Or.inl ⟨rfl, ?_⟩) hHeld ?_ ?_; rotate_left
              ·rintro w' ⟨s0, s1, s2, s3, s4, s5, s6, s7⟩; go_simp; with_reducible rfl
              rotate_left
              ·simp only [q_, i64_w, i32_w]; rfl
              refine pure_ (i:=18) (N:=some 115) (v:=?_) (a':=?_) ⟨m_ 43 491519⟩ rfl rfl (any_of HT_.out (by kernel_rfl)) (fun _ _ _ h=>h) (Or.inl ⟨rfl, ?_⟩) ?_ ?_; rotate_left
              ·intro w'; go_simp; with_reducible rfl
              rotate_left
              ·simp only [q_, i64_w, i32_w]; rfl
              refine one_ (i:=15) (N:=some 112) ⟨m_ 43 524287⟩ rfl rfl (one_of HT_.out (by kernel_rfl)) (by decide) (fun K hK => ?_); refine goes_ Tryd.func27 (by kernel_rfl) rfl #[.agg #[.int .i64 a0_0, .int .u64 a0_1], .agg #[.int .i64 a1_0, .int .u64 a1_1]] (by rfl) rfl rfl (by (try simp only [List.map_toArray, List.map_cons, List.map_nil]); first | done | rfl | (simp only [List.length_drop, List.length_take]; rfl)) ?_; with_reducible refine (label_Below.calls a0_0 a0_1 a1_0 a1_1 t143 _ A180.out).mono ?_; rintro e w212 ⟨rfl, hb⟩; refine ⟨_, rfl, ?_⟩
              replace BK101 := bb_ BK101 hb; replace BK102 := bb_ BK102 hb; replace BK103 := bb_ BK103 hb; replace BK106 := bb_ BK106 hb; replace BK109 := bb_ BK109 hb; replace HB := bs_ HB hb; (try clear hb); (try clear hb2); (try clear hk); (try clear hi); refine hK.out _ _ ⟨bc_ BK101 0 rfl, bc_ BK101 1 rfl, bc_ BK109 0 rfl, bc_ BK109 1 rfl, bc_ BK106 0 rfl, bc_ BK106 1 rfl, bc_ BK102 0 rfl, bc_ BK102 1 rfl⟩ (fun hHeld => ?_); clear hK K; refine norm_ (a':=?_) ?_ ?_; rotate_left
              ·show Act.put _ (some 112) _ = _; simp only [q_, i64_w, i32_w]; rfl
              refine pure_ (i:=19) (N:=some 116) (v:=?_) (a':=?_) ⟨m_ 43 1048575⟩ rfl rfl (any_of HT_.out (by kernel_rfl)) (fun _ _ _ h=>h) (Or.inl ⟨rfl, ?_⟩) ?_ ?_; rotate_left
              ·intro w'; go_simp; with_reducible rfl
              rotate_left
              ·simp only [q_, i64_w, i32_w]; rfl
              refine pure_ (i:=20) (N:=some 117) (v:=?_) (a':=?_) ⟨m_ 43 2097151⟩ rfl rfl (any_of HT_.out (by kernel_rfl)) (fun _ _ _ h=>h) (Or.inl ⟨rfl, ?_⟩) ?_ ?_; rotate_left
              ·intro w'; go_simp; with_reducible rfl
              rotate_left
              ·simp only [q_, i64_w, i32_w]; rfl
              refine pure_ (i:=21) (N:=some 118) (v:=?_) (a':=?_) ⟨m_ 43 4194303⟩ rfl rfl (any_of HT_.out (by kernel_rfl)) (fun _ _ _ h=>h) (Or.inl ⟨rfl, ?_⟩) ?_ ?_; rotate_left
              ·intro w'; go_simp; with_reducible rfl
              rotate_left
              ·simp only [q_, i64_w, i32_w]; rfl
              refine take_ (i:=22) (N:=some 119) (v:=?_) (a':=?_) ⟨m_ 43 8388607⟩ rfl rfl (take_ofW HT_.out HW_.out (by kernel_rfl)) (fun _ _ _ h=>h) (Or.inl ⟨rfl, ?_⟩) hHeld ?_ ?_; rotate_left
              ·rintro w' ⟨s0, s1, s2, s3, s4, s5, s6, s7⟩; go_simp; with_reducible rfl
              rotate_left
              ·simp only [q_, i64_w, i32_w]; rfl
              refine one_ (i:=23) (N:=some 120) ⟨m_ 43 16777215⟩ rfl rfl (one_of HT_.out (by kernel_rfl)) (by decide) (fun K hK => ?_); refine goes_ Tryd.func15 (by kernel_rfl) rfl #[.agg #[.int .i64 a0_0, .int .u64 a0_1]] (by rfl) rfl rfl (by (try simp only [List.map_toArray, List.map_cons, List.map_nil]); first | done | rfl | (simp only [List.length_drop, List.length_take]; rfl)) ?_; with_reducible refine (label_May.calls a0_0 a0_1 false _ A182.out).mono ?_; rintro e w213 ⟨rfl, hb⟩; refine ⟨_, rfl, ?_⟩
              replace BK101 := bb_ BK101 hb; replace BK102 := bb_ BK102 hb; replace BK103 := bb_ BK103 hb; replace BK106 := bb_ BK106 hb; replace BK109 := bb_ BK109 hb; replace HB := bs_ HB hb; (try clear hb); (try clear hb2); (try clear hk); (try clear hi); refine hK.out _ _ ⟨bc_ BK101 0 rfl, bc_ BK101 1 rfl, bc_ BK109 0 rfl, bc_ BK109 1 rfl, bc_ BK106 0 rfl, bc_ BK106 1 rfl, bc_ BK102 0 rfl, bc_ BK102 1 rfl⟩ (fun hHeld => ?_); clear hK K; refine norm_ (a':=?_) ?_ ?_; rotate_left
              ·show Act.put _ (some 120) _ = _; simp only [q_, i64_w, i32_w]; rfl
              refine pure_ (i:=24) (N:=some 121) (v:=?_) (a':=?_) ⟨m_ 43 33554431⟩ rfl rfl (any_of HT_.out (by kernel_rfl)) (fun _ _ _ h=>h) (Or.inl ⟨rfl, ?_⟩) ?_ ?_; rotate_left
              ·intro w'; go_simp; with_reducible rfl
              rotate_left
              ·simp only [q_, i64_w, i32_w]; rfl
              refine pure_ (i:=25) (N:=some 122) (v:=?_) (a':=?_) ⟨m_ 43 67108863⟩ rfl rfl (any_of HT_.out (by kernel_rfl)) (fun _ _ _ h=>h) (Or.inl ⟨rfl, ?_⟩) ?_ ?_; rotate_left
              ·intro w'; go_simp; with_reducible rfl
              rotate_left
              ·simp only [q_, i64_w, i32_w]; rfl
              refine pure_ (i:=26) (N:=some 123) (v:=undef) (a':=?_) ⟨m_ 43 134217727⟩ rfl rfl (any_of HT_.out (by kernel_rfl)) (fun _ _ _ h=>h) (Or.inr ⟨by rfl, rfl⟩) ?_ ?_; rotate_left
              ·simp only [q_, i64_w, i32_w]; rfl
              refine pure_ (i:=27) (N:=some 124) (v:=undef) (a':=?_) ⟨m_ 43 268435455⟩ rfl rfl (any_of HT_.out (by kernel_rfl)) (fun _ _ _ h=>h) (Or.inr ⟨by rfl, rfl⟩) ?_ ?_; rotate_left
              ·simp only [q_, i64_w, i32_w]; rfl
              refine pure_ (i:=28) (N:=some 125) (v:=undef) (a':=?_) ⟨m_ 43 536870911⟩ rfl rfl (any_of HT_.out (by kernel_rfl)) (fun _ _ _ h=>h) (Or.inr ⟨by rfl, rfl⟩) ?_ ?_; rotate_left
              ·simp only [q_, i64_w, i32_w]; rfl
              refine pure_ (i:=29) (N:=some 126) (v:=?_) (a':=?_) ⟨m_ 43 1073741823⟩ rfl rfl (any_of HT_.out (by kernel_rfl)) (fun _ _ _ h=>h) (Or.inl ⟨rfl, ?_⟩) ?_ ?_; rotate_left
              ·intro w'; go_simp; with_reducible rfl
              rotate_left
              ·simp only [q_, i64_w, i32_w]; rfl
              refine pure_ (i:=30) (N:=some 127) (v:=?_) (a':=?_) ⟨m_ 43 2147483647⟩ rfl rfl (any_of HT_.out (by kernel_rfl)) (fun _ _ _ h=>h) (Or.inl ⟨rfl, ?_⟩) ?_ ?_; rotate_left
              ·intro w'; go_simp; with_reducible rfl
              rotate_left
              ·simp only [q_, i64_w, i32_w]; rfl
              refine pure_ (i:=31) (N:=some 128) (v:=undef) (a':=?_) ⟨m_ 43 4294967295⟩ rfl rfl (any_of HT_.out (by kernel_rfl)) (fun _ _ _ h=>h) (Or.inr ⟨by rfl, rfl⟩) ?_ ?_; rotate_left
              ·simp only [q_, i64_w, i32_w]; rfl
              refine pure_ (i:=32) (N:=some 129) (v:=undef) (a':=?_) ⟨m_ 43 8589934591⟩ rfl rfl (any_of HT_.out (by kernel_rfl)) (fun _ _ _ h=>h) (Or.inr ⟨by rfl, rfl⟩) ?_ ?_; rotate_left
              ·simp only [q_, i64_w, i32_w]; rfl
              refine pure_ (i:=33) (N:=some 130) (v:=undef) (a':=?_) ⟨m_ 43 17179869183⟩ rfl rfl (any_of HT_.out (by kernel_rfl)) (fun _ _ _ h=>h) (Or.inr ⟨by rfl, rfl⟩) ?_ ?_; rotate_left
              ·simp only [q_, i64_w, i32_w]; rfl
              refine pure_ (i:=34) (N:=some 131) (v:=undef) (a':=?_) ⟨m_ 43 34359738367⟩ rfl rfl (any_of HT_.out (by kernel_rfl)) (fun _ _ _ h=>h) (Or.inr ⟨by rfl, rfl⟩) ?_ ?_; rotate_left
              ·simp only [q_, i64_w, i32_w]; rfl
              refine pure_ (i:=35) (N:=some 132) (v:=undef) (a':=?_) ⟨m_ 43 68719476735⟩ rfl rfl (any_of HT_.out (by kernel_rfl)) (fun _ _ _ h=>h) (Or.inr ⟨by rfl, rfl⟩) ?_ ?_; rotate_left
              ·simp only [q_, i64_w, i32_w]; rfl
              refine pure_ (i:=36) (N:=some 133) (v:=undef) (a':=?_) ⟨m_ 43 137438953471⟩ rfl rfl (any_of HT_.out (by kernel_rfl)) (fun _ _ _ h=>h) (Or.inr ⟨by rfl, rfl⟩) ?_ ?_; rotate_left
              ·simp only [q_, i64_w, i32_w]; rfl
              refine pure_ (i:=37) (N:=some 134) (v:=?_) (a':=?_) ⟨m_ 43 274877906943⟩ rfl rfl (any_of HT_.out (by kernel_rfl)) (fun _ _ _ h=>h) (Or.inl ⟨rfl, ?_⟩) ?_ ?_; rotate_left
              ·intro w'; go_simp; with_reducible rfl
              rotate_left
              ·simp only [q_, i64_w, i32_w]; rfl
              refine pure_ (i:=38) (N:=some 135) (v:=?_) (a':=?_) ⟨m_ 43 549755813887⟩ rfl rfl (any_of HT_.out (by kernel_rfl)) (fun _ _ _ h=>h) (Or.inl ⟨rfl, ?_⟩) ?_ ?_; rotate_left
              ·intro w'; go_simp; with_reducible rfl
              rotate_left
              ·simp only [q_, i64_w, i32_w]; rfl
              refine pure_ (i:=39) (N:=some 136) (v:=?_) (a':=?_) ⟨m_ 43 1099511627775⟩ rfl rfl (any_of HT_.out (by kernel_rfl)) (fun _ _ _ h=>h) (Or.inl ⟨rfl, ?_⟩) ?_ ?_; rotate_left
              ·intro w'; go_simp; with_reducible rfl
              rotate_left
              ·simp only [q_, i64_w, i32_w]; rfl
              refine one_ (i:=40) (N:=some 137) ⟨m_ 43 2199023255551⟩ rfl rfl (one_of HT_.out (by kernel_rfl)) (by decide) (fun K hK => ?_); refine goes_ Tryd.func10 (by kernel_rfl) rfl #[] (by rfl) rfl rfl (by (try simp only [List.map_toArray, List.map_cons, List.map_nil]); first | done | rfl | (simp only [List.length_drop, List.length_take]; rfl)) ?_; with_reducible refine (oculuslaw02_alive.calls kj142  t150 _ (by refine tb_ ?_ hT; repeat' (first | exact pbx HB | assumption | refine below_set ?_ (Aside0.out ?_))) A208.out).mono ?_; rintro e w214 ⟨rfl, hb⟩; refine ⟨_, rfl, ?_⟩
              replace BK101 := bb_ BK101 hb; replace BK102 := bb_ BK102 hb; replace BK103 := bb_ BK103 hb; replace BK106 := bb_ BK106 hb; replace BK109 := bb_ BK109 hb; replace HB := bs_ HB hb; (try clear hb); (try clear hb2); (try clear hk); (try clear hi); refine hK.out _ _ ⟨bc_ BK101 0 rfl, bc_ BK101 1 rfl, bc_ BK109 0 rfl, bc_ BK109 1 rfl, bc_ BK106 0 rfl, bc_ BK106 1 rfl, bc_ BK102 0 rfl, bc_ BK102 1 rfl⟩ (fun hHeld => ?_); clear hK K; refine norm_ (a':=?_) ?_ ?_; rotate_left
              ·show Act.put _ (some 137) _ = _; simp only [q_, i64_w, i32_w]; rfl
              refine pure_ (i:=41) (N:=some 138) (v:=?_) (a':=?_) ⟨m_ 43 4398046511103⟩ rfl rfl (any_of HT_.out (by kernel_rfl)) (fun _ _ _ h=>h) (Or.inl ⟨rfl, ?_⟩) ?_ ?_; rotate_left
              ·intro w'; go_simp; with_reducible rfl
              rotate_left
              ·simp only [q_, i64_w, i32_w]; rfl
              refine pure_ (i:=42) (N:=some 6) (v:=?_) (a':=?_) ⟨m_ 43 8796093022207⟩ rfl rfl (any_of HT_.out (by kernel_rfl)) (fun _ _ _ h=>h) (Or.inl ⟨rfl, ?_⟩) ?_ ?_; rotate_left
              ·intro w'; go_simp; with_reducible rfl
              rotate_left
              ·simp only [q_, i64_w, i32_w]; rfl
              refine done_ (done_of HT_.out (by kernel_rfl)) ?_
              try go_wp2
              go_ret
              exact ⟨by first | rfl | (simp [errW_none, errW_some] <;> rfl) | (simp [*, errW_none, errW_some] <;> rfl), pbx HB⟩
            ·rw [if_neg c181] at H
             have c181b0 : (t143 == (t104 == a1_0 && (t105 == a1_1))) = false := by simpa using c181
             (try (have c181b1 : decide (t143 = (t104 == a1_0 && (t105 == a1_1))) = false := by simpa using c181)); (try (have c181b2 : (t143 == (t104 == a1_0 && (t105 == a1_1))) = false := by simpa using c181)); (try (have c181b3 : ¬ (t143 = (t104 == a1_0 && (t105 == a1_1))) := by simpa using c181)); clear c181
             exact absurd H (by simp)
           ·rw [if_neg c179] at H
            have c179b0 : (t141 == a0_0 && (t142 == a0_1)) = false := by simpa using c179
            (try (have c179b1 : decide (t141 = a0_0 && (t142 == a0_1)) = false := by simpa using c179)); (try (have c179b2 : (t141 == a0_0 && (t142 == a0_1)) = false := by simpa using c179)); (try (have c179b3 : ¬ (t141 = a0_0 && (t142 == a0_1)) := by simpa using c179)); clear c179
            exact absurd H (by simp)
          ·rw [if_neg c177] at H
           have c177b0 : (t139 == a0_0 && (t140 == a0_1)) = false := by simpa using c177
           (try (have c177b1 : decide (t139 = a0_0 && (t140 == a0_1)) = false := by simpa using c177)); (try (have c177b2 : (t139 == a0_0 && (t140 == a0_1)) = false := by simpa using c177)); (try (have c177b3 : ¬ (t139 = a0_0 && (t140 == a0_1)) := by simpa using c177)); clear c177
           exact absurd H (by simp)

end Go.Proofs.YtfcpkehldmehjaaDoor.X
