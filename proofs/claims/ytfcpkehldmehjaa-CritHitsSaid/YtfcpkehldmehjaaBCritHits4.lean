/- Contracts of the functions that the law CritHits reaches, and what they answer (a session's own texts, joined; part 4). -/
import Derived.Test.YtfcpkehldmehjaaBCritHits3
namespace Go.Proofs.Ytfcpkehldmehjaa.X
open Go.RowKit Go.Proofs.YtfcpkehldmehjaaW.PrintWords Go.Proofs.YtfcpkehldmehjaaW.PrintLast Go.Proofs.YtfcpkehldmehjaaW.PrintMore
attribute [local go_sem] max2_int min2_int max_two min_two max_three min_three max_four min_four   -- for this text's walks alone
set_option linter.unusedVariables false
set_option linter.unusedSimpArgs false

/-! ### value_Compare: function 25 -/
mutual
def value_Compare.j0 : Nat → Bool → Int → Int → ByteArray → Int → Int → ByteArray → Option (Int)
 | 0, _, _, _, _, _, _, _ => none
 | k + 1, x12, x102000, x102001, x102002, x103000, x103001, x103002 => if x12 = true then (some 0) else ((value_like.f x102000 x102001 x102002 x103000 x103001 x103002).bind fun bt103 => ((value_like.f x103000 x103001 x103002 x102000 x102001 x102002).bind fun bt106 => (value_Compare.j1 k bt103.1 bt103.2.1 bt103.2.2 bt106.1 bt106.2.1 bt106.2.2)))
def value_Compare.j1 : Nat → Int → Int → ByteArray → Int → Int → ByteArray → Option (Int)
 | 0, _, _, _, _, _, _ => none
 | k + 1, x102000, x102001, x102002, x103000, x103001, x103002 => if x102000 = x103000 then (if x102000 = 2 then ((strings_Compare.f x102002 x103002).bind fun t109 => (some t109)) else (if x102001 < x103001 then (some (-1)) else (if x102001 > x103001 then (some 1) else (some 0)))) else ((dec_Sign.f (wrap64 (x102000 - x103000))).bind fun t110 => (some t110))
end
def value_Compare.f (k : Nat) (a0_0 : Int) (a0_1 : Int) (a0_2 : ByteArray) (a1_0 : Int) (a1_1 : Int) (a1_2 : ByteArray) : Option (Int) := if a0_0 = 4 then (value_Compare.j0 k true a0_0 a0_1 a0_2 a1_0 a1_1 a1_2) else (value_Compare.j0 k (a1_0 == 4) a0_0 a0_1 a0_2 a1_0 a1_1 a1_2)
def value_Compare.T3 : Bool × List (List Nat × List Nat) := (true, [([], []), ([], []), ([0, 1], [0, 1]), ([], []), ([], []), ([3, 4, 2], [3, 4]), ([2, 5, 0, 1, 2, 4], [2]), ([5, 6, 0, 1, 2, 3, 4, 5, 6], [5])])
def value_Compare.B3 : List Nat := [0, 0, 3, 0, 0, 31, 63, 127]
theorem value_Compare.tab3 : rtab .any (opsOf Try.f25 3) = value_Compare.T3 := by kernel_rfl
theorem value_Compare.bits3 : waitsOk value_Compare.T3.2 value_Compare.B3 = true := by kernel_rfl
set_option maxHeartbeats 8000000 in
set_option maxRecDepth 100000 in
theorem value_Compare.calls (k : Nat) (a0_0 : Int) (a0_1 : Int) (a0_2 : ByteArray) (a1_0 : Int) (a1_1 : Int) (a1_2 : ByteArray) (r : Int) (w : World) (h : value_Compare.f k a0_0 a0_1 a0_2 a1_0 a1_1 a1_2 = some r) :
  Calls Try.prog 25 #[.agg #[.int .i64 a0_0, .int .i64 a0_1, .string a0_2], .agg #[.int .i64 a1_0, .int .i64 a1_1, .string a1_2]] w fun e w' => e = .returned (.int .i64 r) ∧ Below w.heap.size w w' := by
 have hu23 := Try.underlying23; have HB := Aside0.mk (Below.refl w.heap.size w)
 have H : (if a0_0 = 4 then (value_Compare.j0 k true a0_0 a0_1 a0_2 a1_0 a1_1 a1_2) else (value_Compare.j0 k (a1_0 == 4) a0_0 a0_1 a0_2 a1_0 a1_1 a1_2)) = some r := h
 clear h; have HC3 := Aside0.mk H; clear H
 go_enter Try.func25, Try.ntmps25
 go_upto_region 1 with (first | ((with_reducible refine gate_dst (N:=2) rfl ?_); refine box_event ?hg (N:=2) ?hd (cs := #[.int .i64 a0_0, .int .i64 a0_1, .string a0_2]) (t:=23) ?hr ?_; (case hd => rfl); (case hg => rfl); (case hr => first | (go_simp; done) | (go_simp; rfl)); intro gb101 hg w4 hbox hb; have BK101 := Aside0.mk (hbox); have GW101 := hs_ HB hg; have GE101 := hs_ HB hg; replace HB := bs_ HB hb; clear hb hbox hg) | ((with_reducible refine gate_dst (N:=3) rfl ?_); refine box_event ?hg (N:=3) ?hd (cs := #[.int .i64 a1_0, .int .i64 a1_1, .string a1_2]) (t:=23) ?hr ?_; (case hd => rfl); (case hg => rfl); (case hr => first | (go_simp; done) | (go_simp; rfl)); intro gb102 hg w5 hbox hb; have BK102 := Aside0.mk (hbox); have GW102 := hs_ HB hg; have GE102 := hs_ HB hg; have NB101_102 := hl_ BK101 hg; have NB102_101 := hr_ BK101 hg; replace BK101 := bb_ BK101 hb; replace HB := bs_ HB hb; clear hb hbox hg))
 (try simp only [q_])
 go_cut [12] (fun v12 wc => ∃ (kq : Nat) (x12_2 : Bool), v12 = .bool x12_2 ∧ Aside0 (value_Compare.j0 kq x12_2 a0_0 a0_1 a0_2 a1_0 a1_1 a1_2 = some r) ∧ Aside0 (kq ≤ k) ∧ Aside0 (wc.heap[gb101]? = some (.cells #[.int .i64 a0_0, .int .i64 a0_1, .string a0_2] 23 (0, 0))) ∧ Aside0 (wc.heap[gb102]? = some (.cells #[.int .i64 a1_0, .int .i64 a1_1, .string a1_2] 23 (0, 0))) ∧ Aside0 (Below w.heap.size w wc))
 case first =>
  have H := HC3.out; clear HC3
  by_cases c6 : a0_0 = 4
  ·rw [if_pos c6] at H; have c6b0 : (a0_0 == 4) = true := beq_iff_eq.mpr c6; have c6b1 : (a0_0 != 4) = false := bne_eq_false_iff_eq.mpr c6; clear c6; (first | rw [c6b0] | (simp only [i64_w, i32_w]; rw [c6b0]) | skip)
   have H' := Aside0.mk H
   clear H; have hnb7 := NB101_102.out; have hnc7 := NB102_101.out
   have hcz8_0 : w5.cell? ⟨gb101, 0, none⟩ = some (.int .i64 a0_0) := bc_ BK101 0 rfl
   have hcz8_1 : w5.cell? ⟨gb101, 1, none⟩ = some (.int .i64 a0_1) := bc_ BK101 1 rfl
   have hcz8_2 : w5.cell? ⟨gb101, 2, none⟩ = some (.string a0_2) := bc_ BK101 2 rfl
   have hfz8_0 := blk_frozen BK101.out 0; have hfz8_1 := blk_frozen BK101.out 1; have hfz8_2 := blk_frozen BK101.out 2
   go_wp2
   go_meet
   case rel => exact ⟨_, (true), (by first | rfl | (simp; done) | (simp [*]; done)), H', ⟨by first | omega | exact Nat.le_refl _⟩, ⟨pkx BK101⟩, ⟨pkx BK102⟩, ⟨pbx HB⟩⟩
  ·rw [if_neg c6] at H; have c6b0 : (a0_0 == 4) = false := beq_eq_false_iff_ne.mpr c6; have c6b1 : (a0_0 != 4) = true := bne_iff_ne.mpr c6; (first | rw [c6b0] | (simp only [i64_w, i32_w]; rw [c6b0]) | skip)
   have H' := Aside0.mk H
   clear H; have hnb9 := NB101_102.out; have hnc9 := NB102_101.out
   have hcz10_0 : w5.cell? ⟨gb101, 0, none⟩ = some (.int .i64 a0_0) := bc_ BK101 0 rfl
   have hcz10_1 : w5.cell? ⟨gb101, 1, none⟩ = some (.int .i64 a0_1) := bc_ BK101 1 rfl
   have hcz10_2 : w5.cell? ⟨gb101, 2, none⟩ = some (.string a0_2) := bc_ BK101 2 rfl
   have hfz10_0 := blk_frozen BK101.out 0; have hfz10_1 := blk_frozen BK101.out 1; have hfz10_2 := blk_frozen BK101.out 2
   have hcz11_0 : w5.cell? ⟨gb102, 0, none⟩ = some (.int .i64 a1_0) := bc_ BK102 0 rfl
   have hcz11_1 : w5.cell? ⟨gb102, 1, none⟩ = some (.int .i64 a1_1) := bc_ BK102 1 rfl
   have hcz11_2 : w5.cell? ⟨gb102, 2, none⟩ = some (.string a1_2) := bc_ BK102 2 rfl
   have hfz11_0 := blk_frozen BK102.out 0; have hfz11_1 := blk_frozen BK102.out 1; have hfz11_2 := blk_frozen BK102.out 2
   go_wp2
   go_meet
   case rel => exact ⟨_, ((a1_0 == 4)), (by first | rfl | (simp; done) | (simp [*]; done)), H', ⟨by first | omega | exact Nat.le_refl _⟩, ⟨pkx BK101⟩, ⟨pkx BK102⟩, ⟨pbx HB⟩⟩
 case rest =>
  clear HC3; (try clear c2); (try clear p2); (try clear c6); (try clear c6b0); (try clear c6b1); (try clear c7); (try clear c9); (try clear hcz10_0); (try clear hcz10_1); (try clear hcz10_2); (try clear hcz11_0); (try clear hcz11_1); (try clear hcz11_2); (try clear hcz8_0); (try clear hcz8_1); (try clear hcz8_2); (try clear hfz10_0); (try clear hfz10_1); (try clear hfz10_2); (try clear hfz11_0); (try clear hfz11_1); (try clear hfz11_2); (try clear hfz8_0); (try clear hfz8_1); (try clear hfz8_2); obtain ⟨kq, x12_2, rfl, HA, HJ2, BK101, BK102, HB⟩ := hcut
  cases kq with
  | zero => exact absurd HA.out (by simp [value_Compare.j0])
  | succ kj2 =>
   have H := HA.out; clear HA
   simp only [value_Compare.j0] at H
   by_cases c12 : x12_2 = true
   ·subst c12
    have H1 : (some 0) = some r := by rw [if_pos rfl] at H; exact H
    clear H; have H := H1; clear H1; obtain rfl := Option.some.inj H
    go_wp2
    go_ret
    exact ⟨by first | rfl | (simp [errW_none, errW_some] <;> rfl) | (simp [*, errW_none, errW_some] <;> rfl), pbx HB⟩
   ·replace c12 := Bool.eq_false_iff.mpr c12; subst c12
    have H1 : ((value_like.f a0_0 a0_1 a0_2 a1_0 a1_1 a1_2).bind fun bt103 => ((value_like.f a1_0 a1_1 a1_2 a0_0 a0_1 a0_2).bind fun bt106 => (value_Compare.j1 kj2 bt103.1 bt103.2.1 bt103.2.2 bt106.1 bt106.2.1 bt106.2.2))) = some r := by rw [if_neg (show ¬ (false = true) by decide)] at H; exact H
    clear H; have H := H1; clear H1; have HC13 := Aside0.mk H; clear H
    go_upto_region 3 with (fail)
    go_cut [] (fun wc => ∃ (kq : Nat) (x102000_12 : Int) (x102001_12 : Int) (x102002_12 : ByteArray) (x103000_12 : Int) (x103001_12 : Int) (x103002_12 : ByteArray), Aside0 (value_Compare.j1 kq x102000_12 x102001_12 x102002_12 x103000_12 x103001_12 x103002_12 = some r) ∧ Aside0 (kq ≤ kj2) ∧ Aside0 (wc.heap[gb101]? = some (.cells #[.int .i64 x102000_12, .int .i64 x102001_12, .string x102002_12] 23 (0, 0))) ∧ Aside0 (wc.heap[gb102]? = some (.cells #[.int .i64 x103000_12, .int .i64 x103001_12, .string x103002_12] 23 (0, 0))) ∧ Aside0 (Below w.heap.size w wc))
    case first =>
     have H := HC13.out; clear HC13; replace H := Option.bind_eq_some_iff.mp H; obtain ⟨⟨t103, t104, t105⟩, A140, H⟩ := H
     replace H : ((value_like.f a1_0 a1_1 a1_2 a0_0 a0_1 a0_2).bind fun bt106 => (value_Compare.j1 kj2 t103 t104 t105 bt106.1 bt106.2.1 bt106.2.2)) = some r := H
     have A14 := Aside0.mk A140; clear A140; replace H := Option.bind_eq_some_iff.mp H; obtain ⟨⟨t106, t107, t108⟩, A150, H⟩ := H
     replace H : (value_Compare.j1 kj2 t103 t104 t105 t106 t107 t108) = some r := H
     have A15 := Aside0.mk A150; clear A150
     have H' := Aside0.mk H
     clear H
     try go_wp2
     (try (rw [drewN_self wc]; generalize hq_ : World.drewN wc _ = wc; have n0_ : Aside0 (wc.heap[gb101]? = some (.cells #[.int .i64 a0_0, .int .i64 a0_1, .string a0_2] 23 (0, 0))) := ⟨by rw [← hq_]; exact (pkx BK101)⟩; have n1_ : Aside0 (wc.heap[gb102]? = some (.cells #[.int .i64 a1_0, .int .i64 a1_1, .string a1_2] 23 (0, 0))) := ⟨by rw [← hq_]; exact (pkx BK102)⟩; have n2_ : Aside0 (Below w.heap.size w wc) := ⟨by rw [← hq_]; exact (pbx HB)⟩; clear BK101 BK102 HB hq_; have BK101 := n0_; have BK102 := n1_; have HB := n2_; clear n0_ n1_ n2_))
     replace BK101 := Aside0.mk (blk_drew BK101.out); replace BK102 := Aside0.mk (blk_drew BK102.out); replace HB := Aside0.mk (below_drew1 HB.out)
     refine start_ (n:=8) (S := fun w' => w'.cell? ⟨gb101, 0, none⟩ = some (.int .i64 a0_0) ∧ w'.cell? ⟨gb101, 1, none⟩ = some (.int .i64 a0_1) ∧ w'.cell? ⟨gb101, 2, none⟩ = some (.string a0_2) ∧ w'.cell? ⟨gb102, 0, none⟩ = some (.int .i64 a1_0) ∧ w'.cell? ⟨gb102, 1, none⟩ = some (.int .i64 a1_1) ∧ w'.cell? ⟨gb102, 2, none⟩ = some (.string a1_2)) (ds := [6, 7]) #[F,F,F,F,F,F,F,F] (by kernel_rfl) rfl rfl ⟨bc_ BK101 0 rfl, bc_ BK101 1 rfl, bc_ BK101 2 rfl, bc_ BK102 0 rfl, bc_ BK102 1 rfl, bc_ BK102 2 rfl⟩ (fun hHeld => ?_); refine with_tabW value_Compare.tab3 value_Compare.bits3 (fun HT_ HW_ => ?_)
     generalize wc.drew = w16 at BK101 BK102 HB hHeld ⊢; refine take_ (i:=0) (N:=some 13) (v:=?_) (a':=?_) ⟨m_ 8 1⟩ rfl rfl (take_ofW HT_.out HW_.out (by kernel_rfl)) (fun _ _ _ h=>h) (Or.inl ⟨rfl, ?_⟩) hHeld ?_ ?_; rotate_left
     ·rintro w' ⟨s0, s1, s2, s3, s4, s5⟩; go_simp; with_reducible rfl
     rotate_left
     ·simp only [q_, i64_w, i32_w]; rfl
     refine take_ (i:=1) (N:=some 14) (v:=?_) (a':=?_) ⟨m_ 8 3⟩ rfl rfl (take_ofW HT_.out HW_.out (by kernel_rfl)) (fun _ _ _ h=>h) (Or.inl ⟨rfl, ?_⟩) hHeld ?_ ?_; rotate_left
     ·rintro w' ⟨s0, s1, s2, s3, s4, s5⟩; go_simp; with_reducible rfl
     rotate_left
     ·simp only [q_, i64_w, i32_w]; rfl
     refine take_ (i:=3) (N:=some 16) (v:=?_) (a':=?_) ⟨m_ 8 11⟩ rfl rfl (take_ofW HT_.out HW_.out (by kernel_rfl)) (fun _ _ _ h=>h) (Or.inl ⟨rfl, ?_⟩) hHeld ?_ ?_; rotate_left
     ·rintro w' ⟨s0, s1, s2, s3, s4, s5⟩; go_simp; with_reducible rfl
     rotate_left
     ·simp only [q_, i64_w, i32_w]; rfl
     refine take_ (i:=4) (N:=some 17) (v:=?_) (a':=?_) ⟨m_ 8 27⟩ rfl rfl (take_ofW HT_.out HW_.out (by kernel_rfl)) (fun _ _ _ h=>h) (Or.inl ⟨rfl, ?_⟩) hHeld ?_ ?_; rotate_left
     ·rintro w' ⟨s0, s1, s2, s3, s4, s5⟩; go_simp; with_reducible rfl
     rotate_left
     ·simp only [q_, i64_w, i32_w]; rfl
     refine one_ (i:=2) (N:=some 15) ⟨m_ 8 31⟩ rfl rfl (one_of HT_.out (by kernel_rfl)) (by decide) (fun K hK => ?_); refine goes_ Try.func35 (by kernel_rfl) rfl #[.agg #[.int .i64 a0_0, .int .i64 a0_1, .string a0_2], .agg #[.int .i64 a1_0, .int .i64 a1_1, .string a1_2]] (by rfl) rfl rfl (by (try simp only [List.map_toArray, List.map_cons, List.map_nil]); first | done | rfl | (simp only [List.length_drop, List.length_take]; rfl)) ?_; with_reducible refine (value_like.calls a0_0 a0_1 a0_2 a1_0 a1_1 a1_2 t103 t104 t105 _ A14.out).mono ?_; rintro e w17 ⟨rfl, hb⟩; refine ⟨_, rfl, ?_⟩
     replace BK101 := bb_ BK101 hb; replace BK102 := bb_ BK102 hb; replace HB := bs_ HB hb; (try clear hb); (try clear hb2); (try clear hk); (try clear hi); refine hK.out _ _ ⟨bc_ BK101 0 rfl, bc_ BK101 1 rfl, bc_ BK101 2 rfl, bc_ BK102 0 rfl, bc_ BK102 1 rfl, bc_ BK102 2 rfl⟩ (fun hHeld => ?_); clear hK K; refine norm_ (a':=?_) ?_ ?_; rotate_left
     ·show Act.put _ (some 15) _ = _; simp only [q_, i64_w, i32_w]; rfl
     refine one_ (i:=5) (N:=some 18) ⟨m_ 8 63⟩ rfl rfl (one_of HT_.out (by kernel_rfl)) (by decide) (fun K hK => ?_); refine goes_ Try.func35 (by kernel_rfl) rfl #[.agg #[.int .i64 a1_0, .int .i64 a1_1, .string a1_2], .agg #[.int .i64 a0_0, .int .i64 a0_1, .string a0_2]] (by rfl) rfl rfl (by (try simp only [List.map_toArray, List.map_cons, List.map_nil]); first | done | rfl | (simp only [List.length_drop, List.length_take]; rfl)) ?_; with_reducible refine (value_like.calls a1_0 a1_1 a1_2 a0_0 a0_1 a0_2 t106 t107 t108 _ A15.out).mono ?_; rintro e w18 ⟨rfl, hb⟩; refine ⟨_, rfl, ?_⟩
     replace BK101 := bb_ BK101 hb; replace BK102 := bb_ BK102 hb; replace HB := bs_ HB hb; (try clear hb); (try clear hb2); (try clear hk); (try clear hi); refine hK.out _ _ ⟨bc_ BK101 0 rfl, bc_ BK101 1 rfl, bc_ BK101 2 rfl, bc_ BK102 0 rfl, bc_ BK102 1 rfl, bc_ BK102 2 rfl⟩ (fun hHeld => ?_); clear hK K; refine norm_ (a':=?_) ?_ ?_; rotate_left
     ·show Act.put _ (some 18) _ = _; simp only [q_, i64_w, i32_w]; rfl
     refine last_ (i:=6) (N:=none) ⟨m_ 8 127⟩ rfl rfl (one_of HT_.out (by kernel_rfl)) (by decide) (fun K hK => ?_)
     have hs19 : w18.cell? ⟨gb101, 0, none⟩ = some (.int .i64 a0_0) := bc_ BK101 0 rfl
     have hfs19 := blk_frozen BK101.out 0; have hns19_1 := NB102_101.out; have hms19_1 := NB101_102.out
     have hs20 : w18.cell? ⟨gb101, 1, none⟩ = some (.int .i64 a0_1) := bc_ BK101 1 rfl
     have hfs20 := blk_frozen BK101.out 1; have hns20_1 := NB102_101.out; have hms20_1 := NB101_102.out
     have hs21 : w18.cell? ⟨gb101, 2, none⟩ = some (.string a0_2) := bc_ BK101 2 rfl
     have hfs21 := blk_frozen BK101.out 2; have hns21_1 := NB102_101.out; have hms21_1 := NB101_102.out
     refine skip_ (w1 := ?_) (by rfl) rfl ?_ ?_
     rotate_left
     ·go_simp; rfl
     refine hK.out _ _ ?_; clear hK K
     refine last_ (i:=7) (N:=none) ⟨m_ 8 255⟩ rfl rfl (one_of HT_.out (by kernel_rfl)) (by decide) (fun K hK => ?_)
     have hs22 : w18.cell? ⟨gb102, 0, none⟩ = some (.int .i64 a1_0) := bc_ BK102 0 rfl
     have hfs22 := blk_frozen BK102.out 0; have hns22_0 := NB101_102.out; have hms22_0 := NB102_101.out
     have hs23 : w18.cell? ⟨gb102, 1, none⟩ = some (.int .i64 a1_1) := bc_ BK102 1 rfl
     have hfs23 := blk_frozen BK102.out 1; have hns23_0 := NB101_102.out; have hms23_0 := NB102_101.out
     have hs24 : w18.cell? ⟨gb102, 2, none⟩ = some (.string a1_2) := bc_ BK102 2 rfl
     have hfs24 := blk_frozen BK102.out 2; have hns24_0 := NB101_102.out; have hms24_0 := NB102_101.out
     refine skip_ (w1 := ?_) (by rfl) rfl ?_ ?_
     rotate_left
     ·go_simp; rfl
     refine hK.out _ _ ?_; clear hK K
     refine done_ (done_of HT_.out (by kernel_rfl)) ?_
     try go_wp2
     go_meet
     case rel => exact ⟨_, (t103), (t104), (t105), (t106), (t107), (t108), H', ⟨by have := HJ2.out; first | omega | exact Nat.le_refl _⟩, ⟨by (with_reducible repeat (first | refine blk_drewN ?_ _ | refine blk_drew ?_ | refine blk_alloc ?_ _)); refine blk_far ?_ NB101_102.out _; refine blk_far ?_ NB101_102.out _; refine blk_far ?_ NB101_102.out _; (with_reducible repeat (first | refine blk_drewN ?_ _ | refine blk_drew ?_ | refine blk_alloc ?_ _)); refine blk_put (cs := #[.int .i64 t103, .int .i64 t104, .string a0_2]) ?_ 2 _ rfl; refine blk_put (cs := #[.int .i64 t103, .int .i64 a0_1, .string a0_2]) ?_ 1 _ rfl; refine blk_put (cs := #[.int .i64 a0_0, .int .i64 a0_1, .string a0_2]) ?_ 0 _ rfl; (with_reducible repeat (first | refine blk_drewN ?_ _ | refine blk_drew ?_ | refine blk_alloc ?_ _)); exact BK101.out⟩, ⟨by (with_reducible repeat (first | refine blk_drewN ?_ _ | refine blk_drew ?_ | refine blk_alloc ?_ _)); refine blk_put (cs := #[.int .i64 t106, .int .i64 t107, .string a1_2]) ?_ 2 _ rfl; refine blk_put (cs := #[.int .i64 t106, .int .i64 a1_1, .string a1_2]) ?_ 1 _ rfl; refine blk_put (cs := #[.int .i64 a1_0, .int .i64 a1_1, .string a1_2]) ?_ 0 _ rfl; (with_reducible repeat (first | refine blk_drewN ?_ _ | refine blk_drew ?_ | refine blk_alloc ?_ _)); refine blk_far ?_ NB102_101.out _; refine blk_far ?_ NB102_101.out _; refine blk_far ?_ NB102_101.out _; (with_reducible repeat (first | refine blk_drewN ?_ _ | refine blk_drew ?_ | refine blk_alloc ?_ _)); exact BK102.out⟩, ⟨by repeat (first | (with_reducible first | exact HB.out | apply below_alloc | apply pw_below_drewN | apply below_drew1 | refine below_set ?_ GE101.out | refine below_set ?_ GE102.out) | exact HB.out)⟩⟩
    case rest =>
     clear HC13; (try clear c1); (try clear c2); (try clear p2); (try clear c3); (try clear c6); (try clear c6b0); (try clear c6b1); (try clear c7); (try clear c9); (try clear c12); (try clear hcz10_0); (try clear hcz10_1); (try clear hcz10_2); (try clear hcz11_0); (try clear hcz11_1); (try clear hcz11_2); (try clear hcz8_0); (try clear hcz8_1); (try clear hcz8_2); (try clear hfz10_0); (try clear hfz10_1); (try clear hfz10_2); (try clear hfz11_0); (try clear hfz11_1); (try clear hfz11_2); (try clear hfz8_0); (try clear hfz8_1); (try clear hfz8_2); (try clear p2); obtain ⟨kq, x102000_12, x102001_12, x102002_12, x103000_12, x103001_12, x103002_12, HA, HJ12, BK101, BK102, HB⟩ := hcut
     cases kq with
     | zero => exact absurd HA.out (by simp [value_Compare.j1])
     | succ kj12 =>
      have H := HA.out; clear HA
      simp only [value_Compare.j1] at H
      by_cases c25 : x102000_12 = x103000_12
      ·rw [if_pos c25] at H; have c25b0 : (x102000_12 == x103000_12) = true := beq_iff_eq.mpr c25; have c25b1 : (x102000_12 != x103000_12) = false := bne_eq_false_iff_eq.mpr c25; clear c25
       by_cases c26 : x102000_12 = 2
       ·rw [if_pos c26] at H; have c26b0 : (x102000_12 == 2) = true := beq_iff_eq.mpr c26; have c26b1 : (x102000_12 != 2) = false := bne_eq_false_iff_eq.mpr c26; clear c26; replace H := Option.bind_eq_some_iff.mp H; obtain ⟨t109, A270, H⟩ := H
        replace H : (some t109) = some r := H
        have A27 := Aside0.mk A270; clear A270; obtain rfl := Option.some.inj H; have hnb28 := NB101_102.out; have hnc28 := NB102_101.out
        have hcz29_0 : wc.cell? ⟨gb101, 0, none⟩ = some (.int .i64 x102000_12) := bc_ BK101 0 rfl
        have hcz29_1 : wc.cell? ⟨gb101, 1, none⟩ = some (.int .i64 x102001_12) := bc_ BK101 1 rfl
        have hcz29_2 : wc.cell? ⟨gb101, 2, none⟩ = some (.string x102002_12) := bc_ BK101 2 rfl
        have hfz29_0 := blk_frozen BK101.out 0; have hfz29_1 := blk_frozen BK101.out 1; have hfz29_2 := blk_frozen BK101.out 2
        have hcz30_0 : wc.cell? ⟨gb102, 0, none⟩ = some (.int .i64 x103000_12) := bc_ BK102 0 rfl
        have hcz30_1 : wc.cell? ⟨gb102, 1, none⟩ = some (.int .i64 x103001_12) := bc_ BK102 1 rfl
        have hcz30_2 : wc.cell? ⟨gb102, 2, none⟩ = some (.string x103002_12) := bc_ BK102 2 rfl
        have hfz30_0 := blk_frozen BK102.out 0; have hfz30_1 := blk_frozen BK102.out 1; have hfz30_2 := blk_frozen BK102.out 2
        go_wp2_with (first | ((with_reducible refine gate_callee (f:=37) rfl ?_); refine goesL_ (some 39) rfl rfl Try.func37 (by kernel_rfl) rfl #[.string x102002_12, .string x103002_12] rfl (by (try simp only [List.map_toArray, List.map_cons, List.map_nil]); first | done | rfl | (simp only [List.length_drop, List.length_take]; rfl)) ?_; (with_reducible refine (strings_Compare.calls x102002_12 x103002_12 t109 _ A27.out).mono ?_); rintro e w' ⟨rfl, ⟨nd, rfl⟩⟩; refine ⟨_, rfl, ?_⟩))
        go_ret
        exact ⟨by first | rfl | (simp [errW_none, errW_some] <;> rfl) | (simp [*, errW_none, errW_some] <;> rfl), pbx HB⟩
       ·rw [if_neg c26] at H; have c26b0 : (x102000_12 == 2) = false := beq_eq_false_iff_ne.mpr c26; have c26b1 : (x102000_12 != 2) = true := bne_iff_ne.mpr c26
        by_cases c31 : x102001_12 < x103001_12
        ·rw [if_pos c31] at H; have c31b0 : decide (x102001_12 < x103001_12) = true := decide_eq_true c31; clear c31; obtain rfl := Option.some.inj H; have hnb32 := NB101_102.out; have hnc32 := NB102_101.out
         have hcz33_0 : wc.cell? ⟨gb101, 0, none⟩ = some (.int .i64 x102000_12) := bc_ BK101 0 rfl
         have hcz33_1 : wc.cell? ⟨gb101, 1, none⟩ = some (.int .i64 x102001_12) := bc_ BK101 1 rfl
         have hcz33_2 : wc.cell? ⟨gb101, 2, none⟩ = some (.string x102002_12) := bc_ BK101 2 rfl
         have hfz33_0 := blk_frozen BK101.out 0; have hfz33_1 := blk_frozen BK101.out 1; have hfz33_2 := blk_frozen BK101.out 2
         have hcz34_0 : wc.cell? ⟨gb102, 0, none⟩ = some (.int .i64 x103000_12) := bc_ BK102 0 rfl
         have hcz34_1 : wc.cell? ⟨gb102, 1, none⟩ = some (.int .i64 x103001_12) := bc_ BK102 1 rfl
         have hcz34_2 : wc.cell? ⟨gb102, 2, none⟩ = some (.string x103002_12) := bc_ BK102 2 rfl
         have hfz34_0 := blk_frozen BK102.out 0; have hfz34_1 := blk_frozen BK102.out 1; have hfz34_2 := blk_frozen BK102.out 2
         go_wp2
         go_ret
         exact ⟨by first | rfl | (simp [errW_none, errW_some] <;> rfl) | (simp [*, errW_none, errW_some] <;> rfl), pbx HB⟩
        ·rw [if_neg c31] at H; have c31b0 : decide (x102001_12 < x103001_12) = false := decide_eq_false c31; clear c31
         by_cases c35 : x102001_12 > x103001_12
         ·rw [if_pos c35] at H; have c35b0 : decide (x103001_12 < x102001_12) = true := decide_eq_true c35; clear c35; obtain rfl := Option.some.inj H; have hnb36 := NB101_102.out; have hnc36 := NB102_101.out
          have hcz37_0 : wc.cell? ⟨gb101, 0, none⟩ = some (.int .i64 x102000_12) := bc_ BK101 0 rfl
          have hcz37_1 : wc.cell? ⟨gb101, 1, none⟩ = some (.int .i64 x102001_12) := bc_ BK101 1 rfl
          have hcz37_2 : wc.cell? ⟨gb101, 2, none⟩ = some (.string x102002_12) := bc_ BK101 2 rfl
          have hfz37_0 := blk_frozen BK101.out 0; have hfz37_1 := blk_frozen BK101.out 1; have hfz37_2 := blk_frozen BK101.out 2
          have hcz38_0 : wc.cell? ⟨gb102, 0, none⟩ = some (.int .i64 x103000_12) := bc_ BK102 0 rfl
          have hcz38_1 : wc.cell? ⟨gb102, 1, none⟩ = some (.int .i64 x103001_12) := bc_ BK102 1 rfl
          have hcz38_2 : wc.cell? ⟨gb102, 2, none⟩ = some (.string x103002_12) := bc_ BK102 2 rfl
          have hfz38_0 := blk_frozen BK102.out 0; have hfz38_1 := blk_frozen BK102.out 1; have hfz38_2 := blk_frozen BK102.out 2
          go_wp2
          go_ret
          exact ⟨by first | rfl | (simp [errW_none, errW_some] <;> rfl) | (simp [*, errW_none, errW_some] <;> rfl), pbx HB⟩
         ·rw [if_neg c35] at H; have c35b0 : decide (x103001_12 < x102001_12) = false := decide_eq_false c35; clear c35; obtain rfl := Option.some.inj H; have hnb39 := NB101_102.out; have hnc39 := NB102_101.out
          have hcz40_0 : wc.cell? ⟨gb101, 0, none⟩ = some (.int .i64 x102000_12) := bc_ BK101 0 rfl
          have hcz40_1 : wc.cell? ⟨gb101, 1, none⟩ = some (.int .i64 x102001_12) := bc_ BK101 1 rfl
          have hcz40_2 : wc.cell? ⟨gb101, 2, none⟩ = some (.string x102002_12) := bc_ BK101 2 rfl
          have hfz40_0 := blk_frozen BK101.out 0; have hfz40_1 := blk_frozen BK101.out 1; have hfz40_2 := blk_frozen BK101.out 2
          have hcz41_0 : wc.cell? ⟨gb102, 0, none⟩ = some (.int .i64 x103000_12) := bc_ BK102 0 rfl
          have hcz41_1 : wc.cell? ⟨gb102, 1, none⟩ = some (.int .i64 x103001_12) := bc_ BK102 1 rfl
          have hcz41_2 : wc.cell? ⟨gb102, 2, none⟩ = some (.string x103002_12) := bc_ BK102 2 rfl
          have hfz41_0 := blk_frozen BK102.out 0; have hfz41_1 := blk_frozen BK102.out 1; have hfz41_2 := blk_frozen BK102.out 2
          go_wp2
          go_ret
          exact ⟨by first | rfl | (simp [errW_none, errW_some] <;> rfl) | (simp [*, errW_none, errW_some] <;> rfl), pbx HB⟩
      ·rw [if_neg c25] at H; have c25b0 : (x102000_12 == x103000_12) = false := beq_eq_false_iff_ne.mpr c25; have c25b1 : (x102000_12 != x103000_12) = true := bne_iff_ne.mpr c25; replace H := Option.bind_eq_some_iff.mp H; obtain ⟨t110, A420, H⟩ := H
       replace H : (some t110) = some r := H
       have A42 := Aside0.mk A420; clear A420; obtain rfl := Option.some.inj H; have hnb43 := NB101_102.out; have hnc43 := NB102_101.out
       have hcz44_0 : wc.cell? ⟨gb101, 0, none⟩ = some (.int .i64 x102000_12) := bc_ BK101 0 rfl
       have hcz44_1 : wc.cell? ⟨gb101, 1, none⟩ = some (.int .i64 x102001_12) := bc_ BK101 1 rfl
       have hcz44_2 : wc.cell? ⟨gb101, 2, none⟩ = some (.string x102002_12) := bc_ BK101 2 rfl
       have hfz44_0 := blk_frozen BK101.out 0; have hfz44_1 := blk_frozen BK101.out 1; have hfz44_2 := blk_frozen BK101.out 2
       have hcz45_0 : wc.cell? ⟨gb102, 0, none⟩ = some (.int .i64 x103000_12) := bc_ BK102 0 rfl
       have hcz45_1 : wc.cell? ⟨gb102, 1, none⟩ = some (.int .i64 x103001_12) := bc_ BK102 1 rfl
       have hcz45_2 : wc.cell? ⟨gb102, 2, none⟩ = some (.string x103002_12) := bc_ BK102 2 rfl
       have hfz45_0 := blk_frozen BK102.out 0; have hfz45_1 := blk_frozen BK102.out 1; have hfz45_2 := blk_frozen BK102.out 2
       go_wp2_with (first | ((with_reducible refine gate_callee (f:=36) rfl ?_); refine goesL_ (some 30) rfl rfl Try.func36 (by kernel_rfl) rfl #[.int .i64 (wrap64 (x102000_12 - x103000_12))] rfl (by (try simp only [List.map_toArray, List.map_cons, List.map_nil]); first | done | rfl | (simp only [List.length_drop, List.length_take]; rfl)) ?_; (with_reducible refine (dec_Sign.calls (wrap64 (x102000_12 - x103000_12)) t110 _ A42.out).mono ?_); rintro e w' ⟨rfl, ⟨nd, rfl⟩⟩; refine ⟨_, rfl, ?_⟩))
       go_ret
       exact ⟨by first | rfl | (simp [errW_none, errW_some] <;> rfl) | (simp [*, errW_none, errW_some] <;> rfl), pbx HB⟩

end Go.Proofs.Ytfcpkehldmehjaa.X
namespace Go.Proofs.Ytfcpkehldmehjaa.X
open Go.RowKit Go.Proofs.YtfcpkehldmehjaaW.PrintWords Go.Proofs.YtfcpkehldmehjaaW.PrintLast Go.Proofs.YtfcpkehldmehjaaW.PrintMore
attribute [local go_sem] max2_int min2_int max_two min_two max_three min_three max_four min_four   -- for this text's walks alone
set_option linter.unusedVariables false
set_option linter.unusedSimpArgs false

/-! ### crit_Hits: function 13 -/
mutual
def crit_Hits.j0 : Nat → Int → Int → Int → ByteArray → Int → Int → ByteArray → Option (Bool)
 | 0, _, _, _, _, _, _, _ => none
 | k + 1, x102000, x102001, x102002, x102003, x103000, x103001, x103002 => if x103000 = x102001 then (if x103000 = 2 then (if x102000 = 7 then (crit_Hits.j1 k true x102000 x102001 x102002 x102003 x103000 x103001 x103002) else (crit_Hits.j1 k (x102000 == 8) x102000 x102001 x102002 x102003 x103000 x103001 x103002)) else (crit_Hits.j1 k false x102000 x102001 x102002 x102003 x103000 x103001 x103002)) else (some (x102000 == 8))
def crit_Hits.j1 : Nat → Bool → Int → Int → Int → ByteArray → Int → Int → ByteArray → Option (Bool)
 | 0, _, _, _, _, _, _, _, _ => none
 | k + 1, x34, x102000, x102001, x102002, x102003, x103000, x103001, x103002 => if x34 = true then ((crit_Like.f k x102003 x103002).bind fun t106 => (some (t106 == (x102000 == 7)))) else ((value_Compare.f k x103000 x103001 x103002 x102001 x102002 x102003).bind fun t107 => (crit_Hits.j2 k t107 x102000 x102001 x102002 x102003))
def crit_Hits.j2 : Nat → Int → Int → Int → Int → ByteArray → Option (Bool)
 | 0, _, _, _, _, _ => none
 | k + 1, x5, x102000, x102001, x102002, x102003 => if x102000 = 7 then (some (x5 == 0)) else (if x102000 = 8 then (some (x5 != 0)) else (if x102000 = 9 then (some (decide (x5 < 0))) else (if x102000 = 10 then (some (decide (x5 ≤ 0))) else (if x102000 = 11 then (some (decide (x5 > 0))) else (some (decide (x5 ≥ 0)))))))
end
def crit_Hits.f (k : Nat) (a0_0 : Int) (a0_1 : Int) (a0_2 : Int) (a0_3 : ByteArray) (a1_0 : Int) (a1_1 : Int) (a1_2 : ByteArray) : Option (Bool) := if a1_0 = 4 then (some false) else (if a1_0 = 0 then ((value_Str.f (⟨#[]⟩ : ByteArray)).bind fun bt103 => (crit_Hits.j0 k a0_0 a0_1 a0_2 a0_3 bt103.1 bt103.2.1 bt103.2.2)) else (crit_Hits.j0 k a0_0 a0_1 a0_2 a0_3 a1_0 a1_1 a1_2))
set_option maxHeartbeats 8000000 in
set_option maxRecDepth 100000 in
theorem crit_Hits.calls (k : Nat) (a0_0 : Int) (a0_1 : Int) (a0_2 : Int) (a0_3 : ByteArray) (a1_0 : Int) (a1_1 : Int) (a1_2 : ByteArray) (r : Bool) (w : World) (h : crit_Hits.f k a0_0 a0_1 a0_2 a0_3 a1_0 a1_1 a1_2 = some r) :
  Calls Try.prog 13 #[.agg #[.int .i64 a0_0, .int .i64 a0_1, .int .i64 a0_2, .string a0_3], .agg #[.int .i64 a1_0, .int .i64 a1_1, .string a1_2]] w fun e w' => e = .returned (.bool r) ∧ Below w.heap.size w w' := by
 have hu27 := Try.underlying27; have hu23 := Try.underlying23; have HB := Aside0.mk (Below.refl w.heap.size w)
 have H : (if a1_0 = 4 then (some false) else (if a1_0 = 0 then ((value_Str.f (⟨#[]⟩ : ByteArray)).bind fun bt103 => (crit_Hits.j0 k a0_0 a0_1 a0_2 a0_3 bt103.1 bt103.2.1 bt103.2.2)) else (crit_Hits.j0 k a0_0 a0_1 a0_2 a0_3 a1_0 a1_1 a1_2))) = some r := h
 clear h
 by_cases c3 : a1_0 = 4
 ·rw [if_pos c3] at H; have c3b0 : (a1_0 == 4) = true := beq_iff_eq.mpr c3; have c3b1 : (a1_0 != 4) = false := bne_eq_false_iff_eq.mpr c3; clear c3; obtain rfl := Option.some.inj H
  go_enter Try.func13, Try.ntmps13
  go_wp2_with (first | ((with_reducible refine gate_dst (N:=2) rfl ?_); refine box_event ?hg (N:=2) ?hd (cs := #[.int .i64 a0_0, .int .i64 a0_1, .int .i64 a0_2, .string a0_3]) (t:=27) ?hr ?_; (case hd => rfl); (case hg => rfl); (case hr => first | (go_simp; done) | (go_simp; rfl)); intro gb101 hg w4 hbox hb; have BK101 := Aside0.mk (hbox); have GW101 := hs_ HB hg; have GE101 := hs_ HB hg; replace HB := bs_ HB hb; clear hb hbox hg) | ((with_reducible refine gate_dst (N:=3) rfl ?_); refine box_event ?hg (N:=3) ?hd (cs := #[.int .i64 a1_0, .int .i64 a1_1, .string a1_2]) (t:=23) ?hr ?_; (case hd => rfl); (case hg => rfl); (case hr => first | (go_simp; done) | (go_simp; rfl)); intro gb102 hg w5 hbox hb; have BK102 := Aside0.mk (hbox); have GW102 := hs_ HB hg; have GE102 := hs_ HB hg; have NB101_102 := hl_ BK101 hg; have NB102_101 := hr_ BK101 hg; replace BK101 := bb_ BK101 hb; replace HB := bs_ HB hb; clear hb hbox hg; have hnb6 := NB102_101.out; have hnc6 := NB101_102.out; have hcz7_0 : w5.cell? ⟨gb102, 0, none⟩ = some (.int .i64 a1_0) := bc_ BK102 0 rfl; have hcz7_1 : w5.cell? ⟨gb102, 1, none⟩ = some (.int .i64 a1_1) := bc_ BK102 1 rfl; have hcz7_2 : w5.cell? ⟨gb102, 2, none⟩ = some (.string a1_2) := bc_ BK102 2 rfl; have hfz7_0 := blk_frozen BK102.out 0; have hfz7_1 := blk_frozen BK102.out 1; have hfz7_2 := blk_frozen BK102.out 2))
  repeat (go_quiet (first | ((with_reducible refine gate_dst (N:=2) rfl ?_); refine box_event ?hg (N:=2) ?hd (cs := #[.int .i64 a0_0, .int .i64 a0_1, .int .i64 a0_2, .string a0_3]) (t:=27) ?hr ?_; (case hd => rfl); (case hg => rfl); (case hr => first | (go_simp; done) | (go_simp; rfl)); intro gb101 hg w4 hbox hb; have BK101 := Aside0.mk (hbox); have GW101 := hs_ HB hg; have GE101 := hs_ HB hg; replace HB := bs_ HB hb; clear hb hbox hg) | ((with_reducible refine gate_dst (N:=3) rfl ?_); refine box_event ?hg (N:=3) ?hd (cs := #[.int .i64 a1_0, .int .i64 a1_1, .string a1_2]) (t:=23) ?hr ?_; (case hd => rfl); (case hg => rfl); (case hr => first | (go_simp; done) | (go_simp; rfl)); intro gb102 hg w5 hbox hb; have BK102 := Aside0.mk (hbox); have GW102 := hs_ HB hg; have GE102 := hs_ HB hg; have NB101_102 := hl_ BK101 hg; have NB102_101 := hr_ BK101 hg; replace BK101 := bb_ BK101 hb; replace HB := bs_ HB hb; clear hb hbox hg; have hnb6 := NB102_101.out; have hnc6 := NB101_102.out; have hcz7_0 : w5.cell? ⟨gb102, 0, none⟩ = some (.int .i64 a1_0) := bc_ BK102 0 rfl; have hcz7_1 : w5.cell? ⟨gb102, 1, none⟩ = some (.int .i64 a1_1) := bc_ BK102 1 rfl; have hcz7_2 : w5.cell? ⟨gb102, 2, none⟩ = some (.string a1_2) := bc_ BK102 2 rfl; have hfz7_0 := blk_frozen BK102.out 0; have hfz7_1 := blk_frozen BK102.out 1; have hfz7_2 := blk_frozen BK102.out 2)); try go_wp2_with (first | ((with_reducible refine gate_dst (N:=2) rfl ?_); refine box_event ?hg (N:=2) ?hd (cs := #[.int .i64 a0_0, .int .i64 a0_1, .int .i64 a0_2, .string a0_3]) (t:=27) ?hr ?_; (case hd => rfl); (case hg => rfl); (case hr => first | (go_simp; done) | (go_simp; rfl)); intro gb101 hg w4 hbox hb; have BK101 := Aside0.mk (hbox); have GW101 := hs_ HB hg; have GE101 := hs_ HB hg; replace HB := bs_ HB hb; clear hb hbox hg) | ((with_reducible refine gate_dst (N:=3) rfl ?_); refine box_event ?hg (N:=3) ?hd (cs := #[.int .i64 a1_0, .int .i64 a1_1, .string a1_2]) (t:=23) ?hr ?_; (case hd => rfl); (case hg => rfl); (case hr => first | (go_simp; done) | (go_simp; rfl)); intro gb102 hg w5 hbox hb; have BK102 := Aside0.mk (hbox); have GW102 := hs_ HB hg; have GE102 := hs_ HB hg; have NB101_102 := hl_ BK101 hg; have NB102_101 := hr_ BK101 hg; replace BK101 := bb_ BK101 hb; replace HB := bs_ HB hb; clear hb hbox hg; have hnb6 := NB102_101.out; have hnc6 := NB101_102.out; have hcz7_0 : w5.cell? ⟨gb102, 0, none⟩ = some (.int .i64 a1_0) := bc_ BK102 0 rfl; have hcz7_1 : w5.cell? ⟨gb102, 1, none⟩ = some (.int .i64 a1_1) := bc_ BK102 1 rfl; have hcz7_2 : w5.cell? ⟨gb102, 2, none⟩ = some (.string a1_2) := bc_ BK102 2 rfl; have hfz7_0 := blk_frozen BK102.out 0; have hfz7_1 := blk_frozen BK102.out 1; have hfz7_2 := blk_frozen BK102.out 2)))
  go_ret
  exact ⟨by first | rfl | (simp [errW_none, errW_some] <;> rfl) | (simp [*, errW_none, errW_some] <;> rfl), pbx HB⟩
 ·rw [if_neg c3] at H; have c3b0 : (a1_0 == 4) = false := beq_eq_false_iff_ne.mpr c3; have c3b1 : (a1_0 != 4) = true := bne_iff_ne.mpr c3; have HC8 := Aside0.mk H; clear H
  go_enter Try.func13, Try.ntmps13
  go_upto_if 11 with (first | ((with_reducible refine gate_dst (N:=2) rfl ?_); refine box_event ?hg (N:=2) ?hd (cs := #[.int .i64 a0_0, .int .i64 a0_1, .int .i64 a0_2, .string a0_3]) (t:=27) ?hr ?_; (case hd => rfl); (case hg => rfl); (case hr => first | (go_simp; done) | (go_simp; rfl)); intro gb101 hg w9 hbox hb; have BK101 := Aside0.mk (hbox); have GW101 := hs_ HB hg; have GE101 := hs_ HB hg; replace HB := bs_ HB hb; clear hb hbox hg) | ((with_reducible refine gate_dst (N:=3) rfl ?_); refine box_event ?hg (N:=3) ?hd (cs := #[.int .i64 a1_0, .int .i64 a1_1, .string a1_2]) (t:=23) ?hr ?_; (case hd => rfl); (case hg => rfl); (case hr => first | (go_simp; done) | (go_simp; rfl)); intro gb102 hg w10 hbox hb; have BK102 := Aside0.mk (hbox); have GW102 := hs_ HB hg; have GE102 := hs_ HB hg; have NB101_102 := hl_ BK101 hg; have NB102_101 := hr_ BK101 hg; replace BK101 := bb_ BK101 hb; replace HB := bs_ HB hb; clear hb hbox hg; have hnb11 := NB102_101.out; have hnc11 := NB101_102.out; have hcz12_0 : w10.cell? ⟨gb102, 0, none⟩ = some (.int .i64 a1_0) := bc_ BK102 0 rfl; have hcz12_1 : w10.cell? ⟨gb102, 1, none⟩ = some (.int .i64 a1_1) := bc_ BK102 1 rfl; have hcz12_2 : w10.cell? ⟨gb102, 2, none⟩ = some (.string a1_2) := bc_ BK102 2 rfl; have hfz12_0 := blk_frozen BK102.out 0; have hfz12_1 := blk_frozen BK102.out 1; have hfz12_2 := blk_frozen BK102.out 2))
  repeat (go_quiet (first | ((with_reducible refine gate_dst (N:=2) rfl ?_); refine box_event ?hg (N:=2) ?hd (cs := #[.int .i64 a0_0, .int .i64 a0_1, .int .i64 a0_2, .string a0_3]) (t:=27) ?hr ?_; (case hd => rfl); (case hg => rfl); (case hr => first | (go_simp; done) | (go_simp; rfl)); intro gb101 hg w9 hbox hb; have BK101 := Aside0.mk (hbox); have GW101 := hs_ HB hg; have GE101 := hs_ HB hg; replace HB := bs_ HB hb; clear hb hbox hg) | ((with_reducible refine gate_dst (N:=3) rfl ?_); refine box_event ?hg (N:=3) ?hd (cs := #[.int .i64 a1_0, .int .i64 a1_1, .string a1_2]) (t:=23) ?hr ?_; (case hd => rfl); (case hg => rfl); (case hr => first | (go_simp; done) | (go_simp; rfl)); intro gb102 hg w10 hbox hb; have BK102 := Aside0.mk (hbox); have GW102 := hs_ HB hg; have GE102 := hs_ HB hg; have NB101_102 := hl_ BK101 hg; have NB102_101 := hr_ BK101 hg; replace BK101 := bb_ BK101 hb; replace HB := bs_ HB hb; clear hb hbox hg; have hnb11 := NB102_101.out; have hnc11 := NB101_102.out; have hcz12_0 : w10.cell? ⟨gb102, 0, none⟩ = some (.int .i64 a1_0) := bc_ BK102 0 rfl; have hcz12_1 : w10.cell? ⟨gb102, 1, none⟩ = some (.int .i64 a1_1) := bc_ BK102 1 rfl; have hcz12_2 : w10.cell? ⟨gb102, 2, none⟩ = some (.string a1_2) := bc_ BK102 2 rfl; have hfz12_0 := blk_frozen BK102.out 0; have hfz12_1 := blk_frozen BK102.out 1; have hfz12_2 := blk_frozen BK102.out 2)); go_upto_if 11 with (first | ((with_reducible refine gate_dst (N:=2) rfl ?_); refine box_event ?hg (N:=2) ?hd (cs := #[.int .i64 a0_0, .int .i64 a0_1, .int .i64 a0_2, .string a0_3]) (t:=27) ?hr ?_; (case hd => rfl); (case hg => rfl); (case hr => first | (go_simp; done) | (go_simp; rfl)); intro gb101 hg w9 hbox hb; have BK101 := Aside0.mk (hbox); have GW101 := hs_ HB hg; have GE101 := hs_ HB hg; replace HB := bs_ HB hb; clear hb hbox hg) | ((with_reducible refine gate_dst (N:=3) rfl ?_); refine box_event ?hg (N:=3) ?hd (cs := #[.int .i64 a1_0, .int .i64 a1_1, .string a1_2]) (t:=23) ?hr ?_; (case hd => rfl); (case hg => rfl); (case hr => first | (go_simp; done) | (go_simp; rfl)); intro gb102 hg w10 hbox hb; have BK102 := Aside0.mk (hbox); have GW102 := hs_ HB hg; have GE102 := hs_ HB hg; have NB101_102 := hl_ BK101 hg; have NB102_101 := hr_ BK101 hg; replace BK101 := bb_ BK101 hb; replace HB := bs_ HB hb; clear hb hbox hg; have hnb11 := NB102_101.out; have hnc11 := NB101_102.out; have hcz12_0 : w10.cell? ⟨gb102, 0, none⟩ = some (.int .i64 a1_0) := bc_ BK102 0 rfl; have hcz12_1 : w10.cell? ⟨gb102, 1, none⟩ = some (.int .i64 a1_1) := bc_ BK102 1 rfl; have hcz12_2 : w10.cell? ⟨gb102, 2, none⟩ = some (.string a1_2) := bc_ BK102 2 rfl; have hfz12_0 := blk_frozen BK102.out 0; have hfz12_1 := blk_frozen BK102.out 1; have hfz12_2 := blk_frozen BK102.out 2)))
  (try simp only [q_])
  go_cut [] (fun wc => ∃ (kq : Nat) (x103000_7 : Int) (x103001_7 : Int) (x103002_7 : ByteArray), Aside0 (crit_Hits.j0 kq a0_0 a0_1 a0_2 a0_3 x103000_7 x103001_7 x103002_7 = some r) ∧ Aside0 (kq ≤ k) ∧ Aside0 (wc.heap[gb101]? = some (.cells #[.int .i64 a0_0, .int .i64 a0_1, .int .i64 a0_2, .string a0_3] 27 (0, 0))) ∧ Aside0 (wc.heap[gb102]? = some (.cells #[.int .i64 x103000_7, .int .i64 x103001_7, .string x103002_7] 23 (0, 0))) ∧ Aside0 (Below w.heap.size w wc))
  case first =>
   have H := HC8.out; clear HC8
   by_cases c13 : a1_0 = 0
   ·rw [if_pos c13] at H; have c13b0 : (a1_0 == 0) = true := beq_iff_eq.mpr c13; have c13b1 : (a1_0 != 0) = false := bne_eq_false_iff_eq.mpr c13; clear c13; (first | rw [c13b0] | (simp only [i64_w, i32_w]; rw [c13b0]) | skip)
    replace H := Option.bind_eq_some_iff.mp H; obtain ⟨⟨t103, t104, t105⟩, A140, H⟩ := H
    replace H : (crit_Hits.j0 k a0_0 a0_1 a0_2 a0_3 t103 t104 t105) = some r := H
    have A14 := Aside0.mk A140; clear A140
    have H' := Aside0.mk H
    clear H
    go_wp2_with (first | (go_at_call 16; (with_reducible refine (value_Str.calls (⟨#[]⟩ : ByteArray) t103 t104 t105 _ A14.out).mono ?_); rintro e w15 ⟨rfl, hb⟩; replace BK101 := bb_ BK101 hb; replace BK102 := bb_ BK102 hb; replace HB := bs_ HB hb; (try clear hb); (try clear hb2); (try clear hk); (try clear hi); have hnb16 := NB102_101.out; have hnc16 := NB101_102.out; have hcz17_0 : w15.cell? ⟨gb102, 0, none⟩ = some (.int .i64 a1_0) := bc_ BK102 0 rfl; have hcz17_1 : w15.cell? ⟨gb102, 1, none⟩ = some (.int .i64 a1_1) := bc_ BK102 1 rfl; have hcz17_2 : w15.cell? ⟨gb102, 2, none⟩ = some (.string a1_2) := bc_ BK102 2 rfl; have hfz17_0 := blk_frozen BK102.out 0; have hfz17_1 := blk_frozen BK102.out 1; have hfz17_2 := blk_frozen BK102.out 2))
    repeat (go_quiet (first | (go_at_call 16; (with_reducible refine (value_Str.calls (⟨#[]⟩ : ByteArray) t103 t104 t105 _ A14.out).mono ?_); rintro e w15 ⟨rfl, hb⟩; replace BK101 := bb_ BK101 hb; replace BK102 := bb_ BK102 hb; replace HB := bs_ HB hb; (try clear hb); (try clear hb2); (try clear hk); (try clear hi); have hnb16 := NB102_101.out; have hnc16 := NB101_102.out; have hcz17_0 : w15.cell? ⟨gb102, 0, none⟩ = some (.int .i64 a1_0) := bc_ BK102 0 rfl; have hcz17_1 : w15.cell? ⟨gb102, 1, none⟩ = some (.int .i64 a1_1) := bc_ BK102 1 rfl; have hcz17_2 : w15.cell? ⟨gb102, 2, none⟩ = some (.string a1_2) := bc_ BK102 2 rfl; have hfz17_0 := blk_frozen BK102.out 0; have hfz17_1 := blk_frozen BK102.out 1; have hfz17_2 := blk_frozen BK102.out 2)); try go_wp2_with (first | (go_at_call 16; (with_reducible refine (value_Str.calls (⟨#[]⟩ : ByteArray) t103 t104 t105 _ A14.out).mono ?_); rintro e w15 ⟨rfl, hb⟩; replace BK101 := bb_ BK101 hb; replace BK102 := bb_ BK102 hb; replace HB := bs_ HB hb; (try clear hb); (try clear hb2); (try clear hk); (try clear hi); have hnb16 := NB102_101.out; have hnc16 := NB101_102.out; have hcz17_0 : w15.cell? ⟨gb102, 0, none⟩ = some (.int .i64 a1_0) := bc_ BK102 0 rfl; have hcz17_1 : w15.cell? ⟨gb102, 1, none⟩ = some (.int .i64 a1_1) := bc_ BK102 1 rfl; have hcz17_2 : w15.cell? ⟨gb102, 2, none⟩ = some (.string a1_2) := bc_ BK102 2 rfl; have hfz17_0 := blk_frozen BK102.out 0; have hfz17_1 := blk_frozen BK102.out 1; have hfz17_2 := blk_frozen BK102.out 2)))
    go_meet
    case rel => exact ⟨_, (t103), (t104), (t105), H', ⟨by first | omega | exact Nat.le_refl _⟩, ⟨by (with_reducible repeat (first | refine blk_drewN ?_ _ | refine blk_drew ?_ | refine blk_alloc ?_ _)); refine blk_far ?_ NB101_102.out _; refine blk_far ?_ NB101_102.out _; refine blk_far ?_ NB101_102.out _; (with_reducible repeat (first | refine blk_drewN ?_ _ | refine blk_drew ?_ | refine blk_alloc ?_ _)); exact BK101.out⟩, ⟨by (with_reducible repeat (first | refine blk_drewN ?_ _ | refine blk_drew ?_ | refine blk_alloc ?_ _)); refine blk_put (cs := #[.int .i64 t103, .int .i64 t104, .string a1_2]) ?_ 2 _ rfl; refine blk_put (cs := #[.int .i64 t103, .int .i64 a1_1, .string a1_2]) ?_ 1 _ rfl; refine blk_put (cs := #[.int .i64 a1_0, .int .i64 a1_1, .string a1_2]) ?_ 0 _ rfl; (with_reducible repeat (first | refine blk_drewN ?_ _ | refine blk_drew ?_ | refine blk_alloc ?_ _)); exact BK102.out⟩, ⟨by repeat (first | (with_reducible first | exact HB.out | apply below_alloc | apply pw_below_drewN | apply below_drew1 | refine below_set ?_ GE101.out | refine below_set ?_ GE102.out) | exact HB.out)⟩⟩
   ·rw [if_neg c13] at H; have c13b0 : (a1_0 == 0) = false := beq_eq_false_iff_ne.mpr c13; have c13b1 : (a1_0 != 0) = true := bne_iff_ne.mpr c13; (first | rw [c13b0] | (simp only [i64_w, i32_w]; rw [c13b0]) | skip)
    have H' := Aside0.mk H
    clear H
    go_wp2
    repeat (go_quiet (fail); try go_wp2)
    go_meet
    case rel => exact ⟨_, (a1_0), (a1_1), (a1_2), H', ⟨by first | omega | exact Nat.le_refl _⟩, ⟨pkx BK101⟩, ⟨pkx BK102⟩, ⟨pbx HB⟩⟩
  case rest =>
   clear HC8; (try clear c1); (try clear p2); (try clear c3); (try clear c3b0); (try clear c3b1); (try clear c6); (try clear c11); (try clear c13); (try clear c13b0); (try clear c13b1); (try clear c16); (try clear hcz12_0); (try clear hcz12_1); (try clear hcz12_2); (try clear hcz17_0); (try clear hcz17_1); (try clear hcz17_2); (try clear hcz7_0); (try clear hcz7_1); (try clear hcz7_2); (try clear hfz12_0); (try clear hfz12_1); (try clear hfz12_2); (try clear hfz17_0); (try clear hfz17_1); (try clear hfz17_2); (try clear hfz7_0); (try clear hfz7_1); (try clear hfz7_2); obtain ⟨kq, x103000_7, x103001_7, x103002_7, HA, HJ7, BK101, BK102, HB⟩ := hcut
   cases kq with
   | zero => exact absurd HA.out (by simp [crit_Hits.j0])
   | succ kj7 =>
    have H := HA.out; clear HA
    simp only [crit_Hits.j0] at H
    by_cases c18 : x103000_7 = a0_1
    ·rw [if_pos c18] at H; have c18b0 : (x103000_7 == a0_1) = true := beq_iff_eq.mpr c18; have c18b1 : (x103000_7 != a0_1) = false := bne_eq_false_iff_eq.mpr c18; clear c18; have HC19 := Aside0.mk H; clear H; have hnb20 := NB102_101.out; have hnc20 := NB101_102.out
     have hcz21_0 : wc.cell? ⟨gb102, 0, none⟩ = some (.int .i64 x103000_7) := bc_ BK102 0 rfl
     have hcz21_1 : wc.cell? ⟨gb102, 1, none⟩ = some (.int .i64 x103001_7) := bc_ BK102 1 rfl
     have hcz21_2 : wc.cell? ⟨gb102, 2, none⟩ = some (.string x103002_7) := bc_ BK102 2 rfl
     have hfz21_0 := blk_frozen BK102.out 0; have hfz21_1 := blk_frozen BK102.out 1; have hfz21_2 := blk_frozen BK102.out 2
     have hcz22_0 : wc.cell? ⟨gb101, 0, none⟩ = some (.int .i64 a0_0) := bc_ BK101 0 rfl
     have hcz22_1 : wc.cell? ⟨gb101, 1, none⟩ = some (.int .i64 a0_1) := bc_ BK101 1 rfl
     have hcz22_2 : wc.cell? ⟨gb101, 2, none⟩ = some (.int .i64 a0_2) := bc_ BK101 2 rfl
     have hcz22_3 : wc.cell? ⟨gb101, 3, none⟩ = some (.string a0_3) := bc_ BK101 3 rfl
     have hfz22_0 := blk_frozen BK101.out 0; have hfz22_1 := blk_frozen BK101.out 1; have hfz22_2 := blk_frozen BK101.out 2; have hfz22_3 := blk_frozen BK101.out 3
     go_upto_region 7 with (fail)
     repeat (go_quiet (fail); go_upto_region 7 with (fail))
     go_cut [34] (fun v34 wc => ∃ (kq : Nat) (x34_18 : Bool), v34 = .bool x34_18 ∧ Aside0 (crit_Hits.j1 kq x34_18 a0_0 a0_1 a0_2 a0_3 x103000_7 x103001_7 x103002_7 = some r) ∧ Aside0 (kq ≤ kj7) ∧ Aside0 (wc.heap[gb101]? = some (.cells #[.int .i64 a0_0, .int .i64 a0_1, .int .i64 a0_2, .string a0_3] 27 (0, 0))) ∧ Aside0 (wc.heap[gb102]? = some (.cells #[.int .i64 x103000_7, .int .i64 x103001_7, .string x103002_7] 23 (0, 0))) ∧ Aside0 (Below w.heap.size w wc))
     case first =>
      have H := HC19.out; clear HC19
      by_cases c23 : x103000_7 = 2
      ·rw [if_pos c23] at H; have c23b0 : (x103000_7 == 2) = true := beq_iff_eq.mpr c23; have c23b1 : (x103000_7 != 2) = false := bne_eq_false_iff_eq.mpr c23; clear c23; (first | rw [c23b0] | (simp only [i64_w, i32_w]; rw [c23b0]) | skip)
       by_cases c24 : a0_0 = 7
       ·rw [if_pos c24] at H; have c24b0 : (a0_0 == 7) = true := beq_iff_eq.mpr c24; have c24b1 : (a0_0 != 7) = false := bne_eq_false_iff_eq.mpr c24; clear c24
        have H' := Aside0.mk H
        clear H; have hnb25 := NB102_101.out; have hnc25 := NB101_102.out
        have hcz26_0 : wc.cell? ⟨gb102, 0, none⟩ = some (.int .i64 x103000_7) := bc_ BK102 0 rfl
        have hcz26_1 : wc.cell? ⟨gb102, 1, none⟩ = some (.int .i64 x103001_7) := bc_ BK102 1 rfl
        have hcz26_2 : wc.cell? ⟨gb102, 2, none⟩ = some (.string x103002_7) := bc_ BK102 2 rfl
        have hfz26_0 := blk_frozen BK102.out 0; have hfz26_1 := blk_frozen BK102.out 1; have hfz26_2 := blk_frozen BK102.out 2
        have hcz27_0 : wc.cell? ⟨gb101, 0, none⟩ = some (.int .i64 a0_0) := bc_ BK101 0 rfl
        have hcz27_1 : wc.cell? ⟨gb101, 1, none⟩ = some (.int .i64 a0_1) := bc_ BK101 1 rfl
        have hcz27_2 : wc.cell? ⟨gb101, 2, none⟩ = some (.int .i64 a0_2) := bc_ BK101 2 rfl
        have hcz27_3 : wc.cell? ⟨gb101, 3, none⟩ = some (.string a0_3) := bc_ BK101 3 rfl
        have hfz27_0 := blk_frozen BK101.out 0; have hfz27_1 := blk_frozen BK101.out 1; have hfz27_2 := blk_frozen BK101.out 2; have hfz27_3 := blk_frozen BK101.out 3
        go_wp2
        repeat (go_quiet (fail); try go_wp2)
        go_meet
        case rel => exact ⟨_, (true), (by first | rfl | (simp; done) | (simp [*]; done)), H', ⟨by have := HJ7.out; first | omega | exact Nat.le_refl _⟩, ⟨pkx BK101⟩, ⟨pkx BK102⟩, ⟨pbx HB⟩⟩
       ·rw [if_neg c24] at H; have c24b0 : (a0_0 == 7) = false := beq_eq_false_iff_ne.mpr c24; have c24b1 : (a0_0 != 7) = true := bne_iff_ne.mpr c24
        have H' := Aside0.mk H
        clear H; have hnb28 := NB102_101.out; have hnc28 := NB101_102.out
        have hcz29_0 : wc.cell? ⟨gb102, 0, none⟩ = some (.int .i64 x103000_7) := bc_ BK102 0 rfl
        have hcz29_1 : wc.cell? ⟨gb102, 1, none⟩ = some (.int .i64 x103001_7) := bc_ BK102 1 rfl
        have hcz29_2 : wc.cell? ⟨gb102, 2, none⟩ = some (.string x103002_7) := bc_ BK102 2 rfl
        have hfz29_0 := blk_frozen BK102.out 0; have hfz29_1 := blk_frozen BK102.out 1; have hfz29_2 := blk_frozen BK102.out 2
        have hcz30_0 : wc.cell? ⟨gb101, 0, none⟩ = some (.int .i64 a0_0) := bc_ BK101 0 rfl
        have hcz30_1 : wc.cell? ⟨gb101, 1, none⟩ = some (.int .i64 a0_1) := bc_ BK101 1 rfl
        have hcz30_2 : wc.cell? ⟨gb101, 2, none⟩ = some (.int .i64 a0_2) := bc_ BK101 2 rfl
        have hcz30_3 : wc.cell? ⟨gb101, 3, none⟩ = some (.string a0_3) := bc_ BK101 3 rfl
        have hfz30_0 := blk_frozen BK101.out 0; have hfz30_1 := blk_frozen BK101.out 1; have hfz30_2 := blk_frozen BK101.out 2; have hfz30_3 := blk_frozen BK101.out 3
        go_wp2
        repeat (go_quiet (fail); try go_wp2)
        go_meet
        case rel => exact ⟨_, ((a0_0 == 8)), (by first | rfl | (simp; done) | (simp [*]; done)), H', ⟨by have := HJ7.out; first | omega | exact Nat.le_refl _⟩, ⟨pkx BK101⟩, ⟨pkx BK102⟩, ⟨pbx HB⟩⟩
      ·rw [if_neg c23] at H; have c23b0 : (x103000_7 == 2) = false := beq_eq_false_iff_ne.mpr c23; have c23b1 : (x103000_7 != 2) = true := bne_iff_ne.mpr c23; (first | rw [c23b0] | (simp only [i64_w, i32_w]; rw [c23b0]) | skip)
       have H' := Aside0.mk H
       clear H; have hnb31 := NB102_101.out; have hnc31 := NB101_102.out
       have hcz32_0 : wc.cell? ⟨gb102, 0, none⟩ = some (.int .i64 x103000_7) := bc_ BK102 0 rfl
       have hcz32_1 : wc.cell? ⟨gb102, 1, none⟩ = some (.int .i64 x103001_7) := bc_ BK102 1 rfl
       have hcz32_2 : wc.cell? ⟨gb102, 2, none⟩ = some (.string x103002_7) := bc_ BK102 2 rfl
       have hfz32_0 := blk_frozen BK102.out 0; have hfz32_1 := blk_frozen BK102.out 1; have hfz32_2 := blk_frozen BK102.out 2
       go_wp2
       repeat (go_quiet (fail); try go_wp2)
       go_meet
       case rel => exact ⟨_, (false), (by first | rfl | (simp; done) | (simp [*]; done)), H', ⟨by have := HJ7.out; first | omega | exact Nat.le_refl _⟩, ⟨pkx BK101⟩, ⟨pkx BK102⟩, ⟨pbx HB⟩⟩
     case rest =>
      clear HC19; (try clear c1); (try clear c2); (try clear p2); (try clear c3); (try clear c3b0); (try clear c3b1); (try clear c6); (try clear c11); (try clear c13); (try clear c13b0); (try clear c13b1); (try clear c16); (try clear c18); (try clear c18b0); (try clear c18b1); (try clear c20); (try clear c23); (try clear c23b0); (try clear c23b1); (try clear c24); (try clear c24b0); (try clear c24b1); (try clear c25); (try clear c28); (try clear c31); (try clear hcz12_0); (try clear hcz12_1); (try clear hcz12_2); (try clear hcz17_0); (try clear hcz17_1); (try clear hcz17_2); (try clear hcz21_0); (try clear hcz21_1); (try clear hcz21_2); (try clear hcz22_0); (try clear hcz22_1); (try clear hcz22_2); (try clear hcz22_3); (try clear hcz26_0); (try clear hcz26_1); (try clear hcz26_2); (try clear hcz27_0); (try clear hcz27_1); (try clear hcz27_2); (try clear hcz27_3); (try clear hcz29_0); (try clear hcz29_1); (try clear hcz29_2); (try clear hcz30_0); (try clear hcz30_1); (try clear hcz30_2); (try clear hcz30_3); (try clear hcz32_0); (try clear hcz32_1); (try clear hcz32_2); (try clear hcz7_0); (try clear hcz7_1); (try clear hcz7_2); (try clear hfz12_0); (try clear hfz12_1); (try clear hfz12_2); (try clear hfz17_0); (try clear hfz17_1); (try clear hfz17_2); (try clear hfz21_0); (try clear hfz21_1); (try clear hfz21_2); (try clear hfz22_0); (try clear hfz22_1); (try clear hfz22_2); (try clear hfz22_3); (try clear hfz26_0); (try clear hfz26_1); (try clear hfz26_2); (try clear hfz27_0); (try clear hfz27_1); (try clear hfz27_2); (try clear hfz27_3); (try clear hfz29_0); (try clear hfz29_1); (try clear hfz29_2); (try clear hfz30_0); (try clear hfz30_1); (try clear hfz30_2); (try clear hfz30_3); (try clear hfz32_0); (try clear hfz32_1); (try clear hfz32_2); (try clear hfz7_0); (try clear hfz7_1)
      (try clear hfz7_2); (try clear p2); obtain ⟨kq, x34_18, rfl, HA, HJ18, BK101, BK102, HB⟩ := hcut
      cases kq with
      | zero => exact absurd HA.out (by simp [crit_Hits.j1])
      | succ kj18 =>
       have H := HA.out; clear HA
       simp only [crit_Hits.j1] at H
       by_cases c33 : x34_18 = true
       ·subst c33
        have H1 : ((crit_Like.f kj18 a0_3 x103002_7).bind fun t106 => (some (t106 == (a0_0 == 7)))) = some r := by rw [if_pos rfl] at H; exact H
        clear H; have H := H1; clear H1; replace H := Option.bind_eq_some_iff.mp H; obtain ⟨t106, A340, H⟩ := H
        replace H : (some (t106 == (a0_0 == 7))) = some r := H
        have A34 := Aside0.mk A340; clear A340; obtain rfl := Option.some.inj H; have hnb35 := NB101_102.out; have hnc35 := NB102_101.out
        have hcz36_0 : wc.cell? ⟨gb101, 0, none⟩ = some (.int .i64 a0_0) := bc_ BK101 0 rfl
        have hcz36_1 : wc.cell? ⟨gb101, 1, none⟩ = some (.int .i64 a0_1) := bc_ BK101 1 rfl
        have hcz36_2 : wc.cell? ⟨gb101, 2, none⟩ = some (.int .i64 a0_2) := bc_ BK101 2 rfl
        have hcz36_3 : wc.cell? ⟨gb101, 3, none⟩ = some (.string a0_3) := bc_ BK101 3 rfl
        have hfz36_0 := blk_frozen BK101.out 0; have hfz36_1 := blk_frozen BK101.out 1; have hfz36_2 := blk_frozen BK101.out 2; have hfz36_3 := blk_frozen BK101.out 3
        have hcz37_0 : wc.cell? ⟨gb102, 0, none⟩ = some (.int .i64 x103000_7) := bc_ BK102 0 rfl
        have hcz37_1 : wc.cell? ⟨gb102, 1, none⟩ = some (.int .i64 x103001_7) := bc_ BK102 1 rfl
        have hcz37_2 : wc.cell? ⟨gb102, 2, none⟩ = some (.string x103002_7) := bc_ BK102 2 rfl
        have hfz37_0 := blk_frozen BK102.out 0; have hfz37_1 := blk_frozen BK102.out 1; have hfz37_2 := blk_frozen BK102.out 2
        go_wp2_with (first | (go_at_call 11; (with_reducible refine (crit_Like.calls kj18 a0_3 x103002_7 t106 _ A34.out).mono ?_); rintro e w' ⟨rfl, ⟨nd, rfl⟩⟩; (try first | exact ⟨rfl, _, World.drewN_drewN _ _ _⟩ | exact ⟨rfl, _, Eq.trans (World.drewN_drewN _ _ _) (congrArg (World.drewN _) (Nat.add_assoc _ _ _))⟩)))
        repeat (go_quiet (first | (go_at_call 11; (with_reducible refine (crit_Like.calls kj18 a0_3 x103002_7 t106 _ A34.out).mono ?_); rintro e w' ⟨rfl, ⟨nd, rfl⟩⟩; (try first | exact ⟨rfl, _, World.drewN_drewN _ _ _⟩ | exact ⟨rfl, _, Eq.trans (World.drewN_drewN _ _ _) (congrArg (World.drewN _) (Nat.add_assoc _ _ _))⟩))); try go_wp2_with (first | (go_at_call 11; (with_reducible refine (crit_Like.calls kj18 a0_3 x103002_7 t106 _ A34.out).mono ?_); rintro e w' ⟨rfl, ⟨nd, rfl⟩⟩; (try first | exact ⟨rfl, _, World.drewN_drewN _ _ _⟩ | exact ⟨rfl, _, Eq.trans (World.drewN_drewN _ _ _) (congrArg (World.drewN _) (Nat.add_assoc _ _ _))⟩))))
        go_ret
        exact ⟨by first | rfl | (simp [errW_none, errW_some] <;> rfl) | (simp [*, errW_none, errW_some] <;> rfl), pbx HB⟩
       ·replace c33 := Bool.eq_false_iff.mpr c33; subst c33
        have H1 : ((value_Compare.f kj18 x103000_7 x103001_7 x103002_7 a0_1 a0_2 a0_3).bind fun t107 => (crit_Hits.j2 kj18 t107 a0_0 a0_1 a0_2 a0_3)) = some r := by rw [if_neg (show ¬ (false = true) by decide)] at H; exact H
        clear H; have H := H1; clear H1; have HC38 := Aside0.mk H; clear H
        go_upto_region 9 with (fail)
        repeat (go_quiet (fail); go_upto_region 9 with (fail))
        go_cut [5] (fun v5 wc => ∃ (kq : Nat) (x5_37 : Int), v5 = .int .i64 x5_37 ∧ Aside0 (crit_Hits.j2 kq x5_37 a0_0 a0_1 a0_2 a0_3 = some r) ∧ Aside0 (kq ≤ kj18) ∧ Aside0 (wc.heap[gb101]? = some (.cells #[.int .i64 a0_0, .int .i64 a0_1, .int .i64 a0_2, .string a0_3] 27 (0, 0))) ∧ Aside0 (wc.heap[gb102]? = some (.cells #[.int .i64 x103000_7, .int .i64 x103001_7, .string x103002_7] 23 (0, 0))) ∧ Aside0 (Below w.heap.size w wc))
        case first =>
         have H := HC38.out; clear HC38; replace H := Option.bind_eq_some_iff.mp H; obtain ⟨t107, A390, H⟩ := H
         replace H : (crit_Hits.j2 kj18 t107 a0_0 a0_1 a0_2 a0_3) = some r := H
         have A39 := Aside0.mk A390; clear A390
         have H' := Aside0.mk H
         clear H; have hnb40 := NB102_101.out; have hnc40 := NB101_102.out
         have hcz41_0 : wc.cell? ⟨gb102, 0, none⟩ = some (.int .i64 x103000_7) := bc_ BK102 0 rfl
         have hcz41_1 : wc.cell? ⟨gb102, 1, none⟩ = some (.int .i64 x103001_7) := bc_ BK102 1 rfl
         have hcz41_2 : wc.cell? ⟨gb102, 2, none⟩ = some (.string x103002_7) := bc_ BK102 2 rfl
         have hfz41_0 := blk_frozen BK102.out 0; have hfz41_1 := blk_frozen BK102.out 1; have hfz41_2 := blk_frozen BK102.out 2
         have hcz42_0 : wc.cell? ⟨gb101, 0, none⟩ = some (.int .i64 a0_0) := bc_ BK101 0 rfl
         have hcz42_1 : wc.cell? ⟨gb101, 1, none⟩ = some (.int .i64 a0_1) := bc_ BK101 1 rfl
         have hcz42_2 : wc.cell? ⟨gb101, 2, none⟩ = some (.int .i64 a0_2) := bc_ BK101 2 rfl
         have hcz42_3 : wc.cell? ⟨gb101, 3, none⟩ = some (.string a0_3) := bc_ BK101 3 rfl
         have hfz42_0 := blk_frozen BK101.out 0; have hfz42_1 := blk_frozen BK101.out 1; have hfz42_2 := blk_frozen BK101.out 2; have hfz42_3 := blk_frozen BK101.out 3
         go_wp2_with (first | (go_at_call 25; (with_reducible refine (value_Compare.calls kj18 x103000_7 x103001_7 x103002_7 a0_1 a0_2 a0_3 t107 _ A39.out).mono ?_); rintro e w43 ⟨rfl, hb⟩; replace BK101 := bb_ BK101 hb; replace BK102 := bb_ BK102 hb; replace HB := bs_ HB hb; (try clear hb); (try clear hb2); (try clear hk); (try clear hi)))
         repeat (go_quiet (first | (go_at_call 25; (with_reducible refine (value_Compare.calls kj18 x103000_7 x103001_7 x103002_7 a0_1 a0_2 a0_3 t107 _ A39.out).mono ?_); rintro e w43 ⟨rfl, hb⟩; replace BK101 := bb_ BK101 hb; replace BK102 := bb_ BK102 hb; replace HB := bs_ HB hb; (try clear hb); (try clear hb2); (try clear hk); (try clear hi))); try go_wp2_with (first | (go_at_call 25; (with_reducible refine (value_Compare.calls kj18 x103000_7 x103001_7 x103002_7 a0_1 a0_2 a0_3 t107 _ A39.out).mono ?_); rintro e w43 ⟨rfl, hb⟩; replace BK101 := bb_ BK101 hb; replace BK102 := bb_ BK102 hb; replace HB := bs_ HB hb; (try clear hb); (try clear hb2); (try clear hk); (try clear hi))))
         go_meet
         case rel => exact ⟨_, (t107), (by first | rfl | (simp; done) | (simp [*]; done) | (cases t107 <;> simp; done)), H', ⟨by have := HJ7.out; have := HJ18.out; first | omega | exact Nat.le_refl _⟩, ⟨pkx BK101⟩, ⟨pkx BK102⟩, ⟨pbx HB⟩⟩
        case rest =>
         clear HC38; (try clear c1); (try clear c2); (try clear p2); (try clear c3); (try clear c3b0); (try clear c3b1); (try clear c4); (try clear c6); (try clear c11); (try clear c13); (try clear c13b0); (try clear c13b1); (try clear c16); (try clear c18); (try clear c18b0); (try clear c18b1); (try clear c20); (try clear c23); (try clear c23b0); (try clear c23b1); (try clear c24); (try clear c24b0); (try clear c24b1); (try clear c25); (try clear c28); (try clear c31); (try clear c33); (try clear c35); (try clear c40); (try clear hcz12_0); (try clear hcz12_1); (try clear hcz12_2); (try clear hcz17_0); (try clear hcz17_1); (try clear hcz17_2); (try clear hcz21_0); (try clear hcz21_1); (try clear hcz21_2); (try clear hcz22_0); (try clear hcz22_1); (try clear hcz22_2); (try clear hcz22_3); (try clear hcz26_0); (try clear hcz26_1); (try clear hcz26_2); (try clear hcz27_0); (try clear hcz27_1); (try clear hcz27_2); (try clear hcz27_3); (try clear hcz29_0); (try clear hcz29_1); (try clear hcz29_2); (try clear hcz30_0); (try clear hcz30_1); (try clear hcz30_2); (try clear hcz30_3); (try clear hcz32_0); (try clear hcz32_1); (try clear hcz32_2); (try clear hcz36_0); (try clear hcz36_1); (try clear hcz36_2); (try clear hcz36_3); (try clear hcz37_0); (try clear hcz37_1); (try clear hcz37_2); (try clear hcz41_0); (try clear hcz41_1); (try clear hcz41_2); (try clear hcz42_0); (try clear hcz42_1); (try clear hcz42_2); (try clear hcz42_3); (try clear hcz7_0); (try clear hcz7_1); (try clear hcz7_2); (try clear hfz12_0); (try clear hfz12_1); (try clear hfz12_2); (try clear hfz17_0); (try clear hfz17_1); (try clear hfz17_2); (try clear hfz21_0); (try clear hfz21_1); (try clear hfz21_2); (try clear hfz22_0); (try clear hfz22_1); (try clear hfz22_2); (try clear hfz22_3); (try clear hfz26_0)
         (try clear hfz26_1); (try clear hfz26_2); (try clear hfz27_0); (try clear hfz27_1); (try clear hfz27_2); (try clear hfz27_3); (try clear hfz29_0); (try clear hfz29_1); (try clear hfz29_2); (try clear hfz30_0); (try clear hfz30_1); (try clear hfz30_2); (try clear hfz30_3); (try clear hfz32_0); (try clear hfz32_1); (try clear hfz32_2); (try clear hfz36_0); (try clear hfz36_1); (try clear hfz36_2); (try clear hfz36_3); (try clear hfz37_0); (try clear hfz37_1); (try clear hfz37_2); (try clear hfz41_0); (try clear hfz41_1); (try clear hfz41_2); (try clear hfz42_0); (try clear hfz42_1); (try clear hfz42_2); (try clear hfz42_3); (try clear hfz7_0); (try clear hfz7_1); (try clear hfz7_2); (try clear p2); obtain ⟨kq, x5_37, rfl, HA, HJ37, BK101, BK102, HB⟩ := hcut
         cases kq with
         | zero => exact absurd HA.out (by simp [crit_Hits.j2])
         | succ kj37 =>
          have H := HA.out; clear HA
          simp only [crit_Hits.j2] at H
          by_cases c44 : a0_0 = 7
          ·rw [if_pos c44] at H; have c44b0 : (a0_0 == 7) = true := beq_iff_eq.mpr c44; have c44b1 : (a0_0 != 7) = false := bne_eq_false_iff_eq.mpr c44; clear c44; obtain rfl := Option.some.inj H; have hnb45 := NB101_102.out; have hnc45 := NB102_101.out
           have hcz46_0 : wc.cell? ⟨gb101, 0, none⟩ = some (.int .i64 a0_0) := bc_ BK101 0 rfl
           have hcz46_1 : wc.cell? ⟨gb101, 1, none⟩ = some (.int .i64 a0_1) := bc_ BK101 1 rfl
           have hcz46_2 : wc.cell? ⟨gb101, 2, none⟩ = some (.int .i64 a0_2) := bc_ BK101 2 rfl
           have hcz46_3 : wc.cell? ⟨gb101, 3, none⟩ = some (.string a0_3) := bc_ BK101 3 rfl
           have hfz46_0 := blk_frozen BK101.out 0; have hfz46_1 := blk_frozen BK101.out 1; have hfz46_2 := blk_frozen BK101.out 2; have hfz46_3 := blk_frozen BK101.out 3
           go_wp2
           repeat (go_quiet (fail); try go_wp2)
           go_ret
           exact ⟨by first | rfl | (simp [errW_none, errW_some] <;> rfl) | (simp [*, errW_none, errW_some] <;> rfl), pbx HB⟩
          ·rw [if_neg c44] at H; have c44b0 : (a0_0 == 7) = false := beq_eq_false_iff_ne.mpr c44; have c44b1 : (a0_0 != 7) = true := bne_iff_ne.mpr c44
           by_cases c47 : a0_0 = 8
           ·rw [if_pos c47] at H; have c47b0 : (a0_0 == 8) = true := beq_iff_eq.mpr c47; have c47b1 : (a0_0 != 8) = false := bne_eq_false_iff_eq.mpr c47; clear c47; obtain rfl := Option.some.inj H; have hnb48 := NB101_102.out; have hnc48 := NB102_101.out
            have hcz49_0 : wc.cell? ⟨gb101, 0, none⟩ = some (.int .i64 a0_0) := bc_ BK101 0 rfl
            have hcz49_1 : wc.cell? ⟨gb101, 1, none⟩ = some (.int .i64 a0_1) := bc_ BK101 1 rfl
            have hcz49_2 : wc.cell? ⟨gb101, 2, none⟩ = some (.int .i64 a0_2) := bc_ BK101 2 rfl
            have hcz49_3 : wc.cell? ⟨gb101, 3, none⟩ = some (.string a0_3) := bc_ BK101 3 rfl
            have hfz49_0 := blk_frozen BK101.out 0; have hfz49_1 := blk_frozen BK101.out 1; have hfz49_2 := blk_frozen BK101.out 2; have hfz49_3 := blk_frozen BK101.out 3
            go_wp2
            repeat (go_quiet (fail); try go_wp2)
            go_ret
            exact ⟨by first | rfl | (simp [errW_none, errW_some] <;> rfl) | (simp [*, errW_none, errW_some] <;> rfl), pbx HB⟩
           ·rw [if_neg c47] at H; have c47b0 : (a0_0 == 8) = false := beq_eq_false_iff_ne.mpr c47; have c47b1 : (a0_0 != 8) = true := bne_iff_ne.mpr c47
            by_cases c50 : a0_0 = 9
            ·rw [if_pos c50] at H; have c50b0 : (a0_0 == 9) = true := beq_iff_eq.mpr c50; have c50b1 : (a0_0 != 9) = false := bne_eq_false_iff_eq.mpr c50; clear c50; obtain rfl := Option.some.inj H; have hnb51 := NB101_102.out; have hnc51 := NB102_101.out
             have hcz52_0 : wc.cell? ⟨gb101, 0, none⟩ = some (.int .i64 a0_0) := bc_ BK101 0 rfl
             have hcz52_1 : wc.cell? ⟨gb101, 1, none⟩ = some (.int .i64 a0_1) := bc_ BK101 1 rfl
             have hcz52_2 : wc.cell? ⟨gb101, 2, none⟩ = some (.int .i64 a0_2) := bc_ BK101 2 rfl
             have hcz52_3 : wc.cell? ⟨gb101, 3, none⟩ = some (.string a0_3) := bc_ BK101 3 rfl
             have hfz52_0 := blk_frozen BK101.out 0; have hfz52_1 := blk_frozen BK101.out 1; have hfz52_2 := blk_frozen BK101.out 2; have hfz52_3 := blk_frozen BK101.out 3
             go_wp2
             repeat (go_quiet (fail); try go_wp2)
             go_ret
             exact ⟨by first | rfl | (simp [errW_none, errW_some] <;> rfl) | (simp [*, errW_none, errW_some] <;> rfl), pbx HB⟩
            ·rw [if_neg c50] at H; have c50b0 : (a0_0 == 9) = false := beq_eq_false_iff_ne.mpr c50; have c50b1 : (a0_0 != 9) = true := bne_iff_ne.mpr c50
             by_cases c53 : a0_0 = 10
             ·rw [if_pos c53] at H; have c53b0 : (a0_0 == 10) = true := beq_iff_eq.mpr c53; have c53b1 : (a0_0 != 10) = false := bne_eq_false_iff_eq.mpr c53; clear c53; obtain rfl := Option.some.inj H; have hnb54 := NB101_102.out; have hnc54 := NB102_101.out
              have hcz55_0 : wc.cell? ⟨gb101, 0, none⟩ = some (.int .i64 a0_0) := bc_ BK101 0 rfl
              have hcz55_1 : wc.cell? ⟨gb101, 1, none⟩ = some (.int .i64 a0_1) := bc_ BK101 1 rfl
              have hcz55_2 : wc.cell? ⟨gb101, 2, none⟩ = some (.int .i64 a0_2) := bc_ BK101 2 rfl
              have hcz55_3 : wc.cell? ⟨gb101, 3, none⟩ = some (.string a0_3) := bc_ BK101 3 rfl
              have hfz55_0 := blk_frozen BK101.out 0; have hfz55_1 := blk_frozen BK101.out 1; have hfz55_2 := blk_frozen BK101.out 2; have hfz55_3 := blk_frozen BK101.out 3
              go_wp2
              repeat (go_quiet (fail); try go_wp2)
              go_ret
              exact ⟨by first | rfl | (simp [errW_none, errW_some] <;> rfl) | (simp [*, errW_none, errW_some] <;> rfl), pbx HB⟩
             ·rw [if_neg c53] at H; have c53b0 : (a0_0 == 10) = false := beq_eq_false_iff_ne.mpr c53; have c53b1 : (a0_0 != 10) = true := bne_iff_ne.mpr c53
              by_cases c56 : a0_0 = 11
              ·rw [if_pos c56] at H; have c56b0 : (a0_0 == 11) = true := beq_iff_eq.mpr c56; have c56b1 : (a0_0 != 11) = false := bne_eq_false_iff_eq.mpr c56; clear c56; obtain rfl := Option.some.inj H; have hnb57 := NB101_102.out; have hnc57 := NB102_101.out
               have hcz58_0 : wc.cell? ⟨gb101, 0, none⟩ = some (.int .i64 a0_0) := bc_ BK101 0 rfl
               have hcz58_1 : wc.cell? ⟨gb101, 1, none⟩ = some (.int .i64 a0_1) := bc_ BK101 1 rfl
               have hcz58_2 : wc.cell? ⟨gb101, 2, none⟩ = some (.int .i64 a0_2) := bc_ BK101 2 rfl
               have hcz58_3 : wc.cell? ⟨gb101, 3, none⟩ = some (.string a0_3) := bc_ BK101 3 rfl
               have hfz58_0 := blk_frozen BK101.out 0; have hfz58_1 := blk_frozen BK101.out 1; have hfz58_2 := blk_frozen BK101.out 2; have hfz58_3 := blk_frozen BK101.out 3
               go_wp2
               repeat (go_quiet (fail); try go_wp2)
               go_ret
               exact ⟨by first | rfl | (simp [errW_none, errW_some] <;> rfl) | (simp [*, errW_none, errW_some] <;> rfl), pbx HB⟩
              ·rw [if_neg c56] at H; have c56b0 : (a0_0 == 11) = false := beq_eq_false_iff_ne.mpr c56; have c56b1 : (a0_0 != 11) = true := bne_iff_ne.mpr c56; obtain rfl := Option.some.inj H; have hnb59 := NB101_102.out; have hnc59 := NB102_101.out
               have hcz60_0 : wc.cell? ⟨gb101, 0, none⟩ = some (.int .i64 a0_0) := bc_ BK101 0 rfl
               have hcz60_1 : wc.cell? ⟨gb101, 1, none⟩ = some (.int .i64 a0_1) := bc_ BK101 1 rfl
               have hcz60_2 : wc.cell? ⟨gb101, 2, none⟩ = some (.int .i64 a0_2) := bc_ BK101 2 rfl
               have hcz60_3 : wc.cell? ⟨gb101, 3, none⟩ = some (.string a0_3) := bc_ BK101 3 rfl
               have hfz60_0 := blk_frozen BK101.out 0; have hfz60_1 := blk_frozen BK101.out 1; have hfz60_2 := blk_frozen BK101.out 2; have hfz60_3 := blk_frozen BK101.out 3
               go_wp2
               repeat (go_quiet (fail); try go_wp2)
               go_ret
               exact ⟨by first | rfl | (simp [errW_none, errW_some] <;> rfl) | (simp [*, errW_none, errW_some] <;> rfl), pbx HB⟩
    ·rw [if_neg c18] at H; have c18b0 : (x103000_7 == a0_1) = false := beq_eq_false_iff_ne.mpr c18; have c18b1 : (x103000_7 != a0_1) = true := bne_iff_ne.mpr c18; obtain rfl := Option.some.inj H; have hnb61 := NB102_101.out; have hnc61 := NB101_102.out
     have hcz62_0 : wc.cell? ⟨gb102, 0, none⟩ = some (.int .i64 x103000_7) := bc_ BK102 0 rfl
     have hcz62_1 : wc.cell? ⟨gb102, 1, none⟩ = some (.int .i64 x103001_7) := bc_ BK102 1 rfl
     have hcz62_2 : wc.cell? ⟨gb102, 2, none⟩ = some (.string x103002_7) := bc_ BK102 2 rfl
     have hfz62_0 := blk_frozen BK102.out 0; have hfz62_1 := blk_frozen BK102.out 1; have hfz62_2 := blk_frozen BK102.out 2
     have hcz63_0 : wc.cell? ⟨gb101, 0, none⟩ = some (.int .i64 a0_0) := bc_ BK101 0 rfl
     have hcz63_1 : wc.cell? ⟨gb101, 1, none⟩ = some (.int .i64 a0_1) := bc_ BK101 1 rfl
     have hcz63_2 : wc.cell? ⟨gb101, 2, none⟩ = some (.int .i64 a0_2) := bc_ BK101 2 rfl
     have hcz63_3 : wc.cell? ⟨gb101, 3, none⟩ = some (.string a0_3) := bc_ BK101 3 rfl
     have hfz63_0 := blk_frozen BK101.out 0; have hfz63_1 := blk_frozen BK101.out 1; have hfz63_2 := blk_frozen BK101.out 2; have hfz63_3 := blk_frozen BK101.out 3
     go_wp2
     repeat (go_quiet (fail); try go_wp2)
     go_ret
     exact ⟨by first | rfl | (simp [errW_none, errW_some] <;> rfl) | (simp [*, errW_none, errW_some] <;> rfl), pbx HB⟩

end Go.Proofs.Ytfcpkehldmehjaa.X
namespace Go.Proofs.Ytfcpkehldmehjaa.X
open Go.RowKit Go.Proofs.YtfcpkehldmehjaaW.PrintWords Go.Proofs.YtfcpkehldmehjaaW.PrintLast Go.Proofs.YtfcpkehldmehjaaW.PrintMore
attribute [local go_sem] max2_int min2_int max_two min_two max_three min_three max_four min_four   -- for this text's walks alone
set_option linter.unusedVariables false
set_option linter.unusedSimpArgs false

theorem eqA23 (d : Nat) (w : World) (x0 y0 : Int) (x1 y1 : Int) (x2 y2 : ByteArray) :
  (Op.equalIn (d + 2) 23 (.agg #[.int .i64 x0, .int .i64 x1, .string x2]) (.agg #[.int .i64 y0, .int .i64 y1, .string y2])).run Try.prog w = .ok (x0 == y0 && (x1 == y1 && (x2.toList == y2.toList))) w := by
 refine eqA_of Try.underlying23 (by kernel_rfl) ?_
 refine eqf_cons (by rfl) (by go_simp; rfl) (by go_simp; rfl) (by go_simp) ?_
 refine eqf_cons (by rfl) (by go_simp; rfl) (by go_simp; rfl) (by go_simp) ?_
 exact eqf_last (by rfl) (by go_simp; rfl) (by go_simp; rfl) (by go_simp)
end Go.Proofs.Ytfcpkehldmehjaa.X
namespace Go.Proofs.Ytfcpkehldmehjaa.X
open Go.RowKit Go.Proofs.YtfcpkehldmehjaaW.PrintWords Go.Proofs.YtfcpkehldmehjaaW.PrintLast Go.Proofs.YtfcpkehldmehjaaW.PrintMore
attribute [local go_sem] max2_int min2_int max_two min_two max_three min_three max_four min_four   -- for this text's walks alone
set_option linter.unusedVariables false
set_option linter.unusedSimpArgs false

attribute [local go_sem high] eqA23
/-! ### oculuslaw17_alive: function 7 -/
def oculuslaw17_alive.f (k : Nat)  : Option (Bool) := (value_Str.f (⟨#[62, 50]⟩ : ByteArray)).bind fun bt101 => ((crit_Of.f k bt101.1 bt101.2.1 bt101.2.2).bind fun bt104 => ((value_Bad.f 1).bind fun bt110 => ((crit_Of.f k bt110.1 bt110.2.1 bt110.2.2).bind fun bt113 => (if bt104.2.2.2.2 = true then (if bt113.2.2.2.2 = true then (none) else (if bt104.1 = 11 then ((value_Num.f 20000).bind fun bt119 => (if (bt104.2.1 == bt119.1 && (bt104.2.2.1 == bt119.2.1 && (bt104.2.2.2.1.toList == bt119.2.2.toList))) = true then ((value_Num.f 20001).bind fun bt122 => ((crit_Hits.f k bt104.1 bt104.2.1 bt104.2.2.1 bt104.2.2.2.1 bt122.1 bt122.2.1 bt122.2.2).bind fun t125 => (if t125 = true then ((value_Str.f (⟨#[57]⟩ : ByteArray)).bind fun bt126 => ((crit_Hits.f k bt104.1 bt104.2.1 bt104.2.2.1 bt104.2.2.2.1 bt126.1 bt126.2.1 bt126.2.2).bind fun t129 => (if t129 = true then (none) else ((crit_Like.f k (⟨#[97, 42, 99, 63]⟩ : ByteArray) (⟨#[97, 98, 99, 98, 99, 100]⟩ : ByteArray)).bind fun t130 => (if t130 = true then ((crit_Like.f k (⟨#[97, 63]⟩ : ByteArray) (⟨#[97]⟩ : ByteArray)).bind fun t131 => (some (!t131))) else (none)))))) else (none)))) else (none))) else (none))) else (none)))))
def oculuslaw17_alive.T3 : Bool × List (List Nat × List Nat) := (true, [([], []), ([0], [0]), ([1], [1]), ([2, 1], [1, 2]), ([1, 3], [1, 3]), ([4, 1], [4]), ([5], [5]), ([6, 5], [5, 6]), ([7, 5], [5, 7]), ([5, 8], [5, 8]), ([9, 5], [9]), ([10], [10]), ([11, 10], [10, 11]), ([10, 10], [10]), ([12, 13, 10], [10, 12, 13]), ([10, 14], [10, 14]), ([15, 13], [15]), ([16], [16]), ([16, 16], [16]), ([17, 18, 18, 16], [16, 17, 18]), ([16, 19], [16, 19]), ([20, 19], [20]), ([21], [21]), ([21, 21], [21]), ([22, 23, 23, 21], [21, 22, 23]), ([24, 21], [21, 24]), ([21, 25], [21, 25]), ([26, 24], [26]), ([27, 27], [27]), ([27, 28], [27, 28]), ([29, 28], [29]), ([30, 30], [30]), ([31, 30], [30, 31]), ([30, 32], [30, 32]), ([33, 31, 0, 1, 2, 3, 4, 5, 6, 7, 8, 9, 10, 11, 12, 13, 14, 15, 16, 17, 18, 19, 20, 21, 22, 23, 24, 25, 26, 27, 28, 29, 30, 31, 32, 33], [33])])
def oculuslaw17_alive.B3 : List Nat := [0, 1, 3, 7, 15, 31, 63, 127, 255, 511, 1023, 2047, 4095, 2047, 16383, 32767, 65535, 131071, 131071, 524287, 1048575, 2097151, 4194303, 4194303, 16777215, 33554431, 67108863, 134217727, 268435455, 536870911, 1073741823, 2147483647, 4294967295, 8589934591, 17179869183]
theorem oculuslaw17_alive.tab3 : rtab .any (opsOf Try.f7 3) = oculuslaw17_alive.T3 := by kernel_rfl
theorem oculuslaw17_alive.bits3 : waitsOk oculuslaw17_alive.T3.2 oculuslaw17_alive.B3 = true := by kernel_rfl
set_option maxHeartbeats 8000000 in
set_option maxRecDepth 100000 in
theorem oculuslaw17_alive.calls (k : Nat)  (r : Bool) (w : World) (h : oculuslaw17_alive.f k  = some r) :
  Calls Try.prog 7 #[] w fun e w' => e = .returned (.bool r) ∧ Below w.heap.size w w' := by
 have hu27 := Try.underlying27; have hu23 := Try.underlying23; have HB := Aside0.mk (Below.refl w.heap.size w)
 have H : ((value_Str.f (⟨#[62, 50]⟩ : ByteArray)).bind fun bt101 => ((crit_Of.f k bt101.1 bt101.2.1 bt101.2.2).bind fun bt104 => ((value_Bad.f 1).bind fun bt110 => ((crit_Of.f k bt110.1 bt110.2.1 bt110.2.2).bind fun bt113 => (if bt104.2.2.2.2 = true then (if bt113.2.2.2.2 = true then (none) else (if bt104.1 = 11 then ((value_Num.f 20000).bind fun bt119 => (if (bt104.2.1 == bt119.1 && (bt104.2.2.1 == bt119.2.1 && (bt104.2.2.2.1.toList == bt119.2.2.toList))) = true then ((value_Num.f 20001).bind fun bt122 => ((crit_Hits.f k bt104.1 bt104.2.1 bt104.2.2.1 bt104.2.2.2.1 bt122.1 bt122.2.1 bt122.2.2).bind fun t125 => (if t125 = true then ((value_Str.f (⟨#[57]⟩ : ByteArray)).bind fun bt126 => ((crit_Hits.f k bt104.1 bt104.2.1 bt104.2.2.1 bt104.2.2.2.1 bt126.1 bt126.2.1 bt126.2.2).bind fun t129 => (if t129 = true then (none) else ((crit_Like.f k (⟨#[97, 42, 99, 63]⟩ : ByteArray) (⟨#[97, 98, 99, 98, 99, 100]⟩ : ByteArray)).bind fun t130 => (if t130 = true then ((crit_Like.f k (⟨#[97, 63]⟩ : ByteArray) (⟨#[97]⟩ : ByteArray)).bind fun t131 => (some (!t131))) else (none)))))) else (none)))) else (none))) else (none))) else (none)))))) = some r := h
 clear h; replace H := Option.bind_eq_some_iff.mp H; obtain ⟨⟨t101, t102, t103⟩, A10, H⟩ := H
 replace H : ((crit_Of.f k t101 t102 t103).bind fun bt104 => ((value_Bad.f 1).bind fun bt110 => ((crit_Of.f k bt110.1 bt110.2.1 bt110.2.2).bind fun bt113 => (if bt104.2.2.2.2 = true then (if bt113.2.2.2.2 = true then (none) else (if bt104.1 = 11 then ((value_Num.f 20000).bind fun bt119 => (if (bt104.2.1 == bt119.1 && (bt104.2.2.1 == bt119.2.1 && (bt104.2.2.2.1.toList == bt119.2.2.toList))) = true then ((value_Num.f 20001).bind fun bt122 => ((crit_Hits.f k bt104.1 bt104.2.1 bt104.2.2.1 bt104.2.2.2.1 bt122.1 bt122.2.1 bt122.2.2).bind fun t125 => (if t125 = true then ((value_Str.f (⟨#[57]⟩ : ByteArray)).bind fun bt126 => ((crit_Hits.f k bt104.1 bt104.2.1 bt104.2.2.1 bt104.2.2.2.1 bt126.1 bt126.2.1 bt126.2.2).bind fun t129 => (if t129 = true then (none) else ((crit_Like.f k (⟨#[97, 42, 99, 63]⟩ : ByteArray) (⟨#[97, 98, 99, 98, 99, 100]⟩ : ByteArray)).bind fun t130 => (if t130 = true then ((crit_Like.f k (⟨#[97, 63]⟩ : ByteArray) (⟨#[97]⟩ : ByteArray)).bind fun t131 => (some (!t131))) else (none)))))) else (none)))) else (none))) else (none))) else (none))))) = some r := H
 have A1 := Aside0.mk A10; clear A10; replace H := Option.bind_eq_some_iff.mp H; obtain ⟨⟨t104, t105, t106, t107, t108⟩, A20, H⟩ := H
 replace H : ((value_Bad.f 1).bind fun bt110 => ((crit_Of.f k bt110.1 bt110.2.1 bt110.2.2).bind fun bt113 => (if t108 = true then (if bt113.2.2.2.2 = true then (none) else (if t104 = 11 then ((value_Num.f 20000).bind fun bt119 => (if (t105 == bt119.1 && (t106 == bt119.2.1 && (t107.toList == bt119.2.2.toList))) = true then ((value_Num.f 20001).bind fun bt122 => ((crit_Hits.f k t104 t105 t106 t107 bt122.1 bt122.2.1 bt122.2.2).bind fun t125 => (if t125 = true then ((value_Str.f (⟨#[57]⟩ : ByteArray)).bind fun bt126 => ((crit_Hits.f k t104 t105 t106 t107 bt126.1 bt126.2.1 bt126.2.2).bind fun t129 => (if t129 = true then (none) else ((crit_Like.f k (⟨#[97, 42, 99, 63]⟩ : ByteArray) (⟨#[97, 98, 99, 98, 99, 100]⟩ : ByteArray)).bind fun t130 => (if t130 = true then ((crit_Like.f k (⟨#[97, 63]⟩ : ByteArray) (⟨#[97]⟩ : ByteArray)).bind fun t131 => (some (!t131))) else (none)))))) else (none)))) else (none))) else (none))) else (none)))) = some r := H
 have A2 := Aside0.mk A20; clear A20; replace H := Option.bind_eq_some_iff.mp H; obtain ⟨⟨t110, t111, t112⟩, A30, H⟩ := H
 replace H : ((crit_Of.f k t110 t111 t112).bind fun bt113 => (if t108 = true then (if bt113.2.2.2.2 = true then (none) else (if t104 = 11 then ((value_Num.f 20000).bind fun bt119 => (if (t105 == bt119.1 && (t106 == bt119.2.1 && (t107.toList == bt119.2.2.toList))) = true then ((value_Num.f 20001).bind fun bt122 => ((crit_Hits.f k t104 t105 t106 t107 bt122.1 bt122.2.1 bt122.2.2).bind fun t125 => (if t125 = true then ((value_Str.f (⟨#[57]⟩ : ByteArray)).bind fun bt126 => ((crit_Hits.f k t104 t105 t106 t107 bt126.1 bt126.2.1 bt126.2.2).bind fun t129 => (if t129 = true then (none) else ((crit_Like.f k (⟨#[97, 42, 99, 63]⟩ : ByteArray) (⟨#[97, 98, 99, 98, 99, 100]⟩ : ByteArray)).bind fun t130 => (if t130 = true then ((crit_Like.f k (⟨#[97, 63]⟩ : ByteArray) (⟨#[97]⟩ : ByteArray)).bind fun t131 => (some (!t131))) else (none)))))) else (none)))) else (none))) else (none))) else (none))) = some r := H
 have A3 := Aside0.mk A30; clear A30; replace H := Option.bind_eq_some_iff.mp H; obtain ⟨⟨t113, t114, t115, t116, t117⟩, A40, H⟩ := H
 replace H : (if t108 = true then (if t117 = true then (none) else (if t104 = 11 then ((value_Num.f 20000).bind fun bt119 => (if (t105 == bt119.1 && (t106 == bt119.2.1 && (t107.toList == bt119.2.2.toList))) = true then ((value_Num.f 20001).bind fun bt122 => ((crit_Hits.f k t104 t105 t106 t107 bt122.1 bt122.2.1 bt122.2.2).bind fun t125 => (if t125 = true then ((value_Str.f (⟨#[57]⟩ : ByteArray)).bind fun bt126 => ((crit_Hits.f k t104 t105 t106 t107 bt126.1 bt126.2.1 bt126.2.2).bind fun t129 => (if t129 = true then (none) else ((crit_Like.f k (⟨#[97, 42, 99, 63]⟩ : ByteArray) (⟨#[97, 98, 99, 98, 99, 100]⟩ : ByteArray)).bind fun t130 => (if t130 = true then ((crit_Like.f k (⟨#[97, 63]⟩ : ByteArray) (⟨#[97]⟩ : ByteArray)).bind fun t131 => (some (!t131))) else (none)))))) else (none)))) else (none))) else (none))) else (none)) = some r := H
 have A4 := Aside0.mk A40; clear A40
 by_cases c5 : t108 = true
 ·subst c5
  have H1 : (if t117 = true then (none) else (if t104 = 11 then ((value_Num.f 20000).bind fun bt119 => (if (t105 == bt119.1 && (t106 == bt119.2.1 && (t107.toList == bt119.2.2.toList))) = true then ((value_Num.f 20001).bind fun bt122 => ((crit_Hits.f k t104 t105 t106 t107 bt122.1 bt122.2.1 bt122.2.2).bind fun t125 => (if t125 = true then ((value_Str.f (⟨#[57]⟩ : ByteArray)).bind fun bt126 => ((crit_Hits.f k t104 t105 t106 t107 bt126.1 bt126.2.1 bt126.2.2).bind fun t129 => (if t129 = true then (none) else ((crit_Like.f k (⟨#[97, 42, 99, 63]⟩ : ByteArray) (⟨#[97, 98, 99, 98, 99, 100]⟩ : ByteArray)).bind fun t130 => (if t130 = true then ((crit_Like.f k (⟨#[97, 63]⟩ : ByteArray) (⟨#[97]⟩ : ByteArray)).bind fun t131 => (some (!t131))) else (none)))))) else (none)))) else (none))) else (none))) = some r := by rw [if_pos rfl] at H; exact H
  clear H; have H := H1; clear H1
  by_cases c6 : t117 = true
  ·subst c6
   have H1 : (none) = some r := by rw [if_pos rfl] at H; exact H
   clear H; have H := H1; clear H1
   exact absurd H (by simp)
  ·replace c6 := Bool.eq_false_iff.mpr c6; subst c6
   have H1 : (if t104 = 11 then ((value_Num.f 20000).bind fun bt119 => (if (t105 == bt119.1 && (t106 == bt119.2.1 && (t107.toList == bt119.2.2.toList))) = true then ((value_Num.f 20001).bind fun bt122 => ((crit_Hits.f k t104 t105 t106 t107 bt122.1 bt122.2.1 bt122.2.2).bind fun t125 => (if t125 = true then ((value_Str.f (⟨#[57]⟩ : ByteArray)).bind fun bt126 => ((crit_Hits.f k t104 t105 t106 t107 bt126.1 bt126.2.1 bt126.2.2).bind fun t129 => (if t129 = true then (none) else ((crit_Like.f k (⟨#[97, 42, 99, 63]⟩ : ByteArray) (⟨#[97, 98, 99, 98, 99, 100]⟩ : ByteArray)).bind fun t130 => (if t130 = true then ((crit_Like.f k (⟨#[97, 63]⟩ : ByteArray) (⟨#[97]⟩ : ByteArray)).bind fun t131 => (some (!t131))) else (none)))))) else (none)))) else (none))) else (none)) = some r := by rw [if_neg (show ¬ (false = true) by decide)] at H; exact H
   clear H; have H := H1; clear H1
   by_cases c7 : t104 = 11
   ·rw [if_pos c7] at H; have c7b0 : (t104 == 11) = true := beq_iff_eq.mpr c7; have c7b1 : (t104 != 11) = false := bne_eq_false_iff_eq.mpr c7; clear c7; replace H := Option.bind_eq_some_iff.mp H; obtain ⟨⟨t119, t120, t121⟩, A80, H⟩ := H
    replace H : (if (t105 == t119 && (t106 == t120 && (t107.toList == t121.toList))) = true then ((value_Num.f 20001).bind fun bt122 => ((crit_Hits.f k t104 t105 t106 t107 bt122.1 bt122.2.1 bt122.2.2).bind fun t125 => (if t125 = true then ((value_Str.f (⟨#[57]⟩ : ByteArray)).bind fun bt126 => ((crit_Hits.f k t104 t105 t106 t107 bt126.1 bt126.2.1 bt126.2.2).bind fun t129 => (if t129 = true then (none) else ((crit_Like.f k (⟨#[97, 42, 99, 63]⟩ : ByteArray) (⟨#[97, 98, 99, 98, 99, 100]⟩ : ByteArray)).bind fun t130 => (if t130 = true then ((crit_Like.f k (⟨#[97, 63]⟩ : ByteArray) (⟨#[97]⟩ : ByteArray)).bind fun t131 => (some (!t131))) else (none)))))) else (none)))) else (none)) = some r := H
    have A8 := Aside0.mk A80; clear A80
    by_cases c9 : (t105 == t119 && (t106 == t120 && (t107.toList == t121.toList))) = true
    ·rw [if_pos c9] at H
     have c9b0 : (t105 == t119 && (t106 == t120 && (t107.toList == t121.toList))) = true := c9
     (try (have c9b1 : decide (t105 = t119 && (t106 == t120 && (t107.toList == t121.toList))) = true := by simpa using c9)); (try (have c9b2 : (t105 == t119 && (t106 == t120 && (t107.toList == t121.toList))) = true := by simpa using c9))
     clear c9; replace H := Option.bind_eq_some_iff.mp H; obtain ⟨⟨t122, t123, t124⟩, A100, H⟩ := H
     replace H : ((crit_Hits.f k t104 t105 t106 t107 t122 t123 t124).bind fun t125 => (if t125 = true then ((value_Str.f (⟨#[57]⟩ : ByteArray)).bind fun bt126 => ((crit_Hits.f k t104 t105 t106 t107 bt126.1 bt126.2.1 bt126.2.2).bind fun t129 => (if t129 = true then (none) else ((crit_Like.f k (⟨#[97, 42, 99, 63]⟩ : ByteArray) (⟨#[97, 98, 99, 98, 99, 100]⟩ : ByteArray)).bind fun t130 => (if t130 = true then ((crit_Like.f k (⟨#[97, 63]⟩ : ByteArray) (⟨#[97]⟩ : ByteArray)).bind fun t131 => (some (!t131))) else (none)))))) else (none))) = some r := H
     have A10 := Aside0.mk A100; clear A100; replace H := Option.bind_eq_some_iff.mp H; obtain ⟨t125, A110, H⟩ := H
     replace H : (if t125 = true then ((value_Str.f (⟨#[57]⟩ : ByteArray)).bind fun bt126 => ((crit_Hits.f k t104 t105 t106 t107 bt126.1 bt126.2.1 bt126.2.2).bind fun t129 => (if t129 = true then (none) else ((crit_Like.f k (⟨#[97, 42, 99, 63]⟩ : ByteArray) (⟨#[97, 98, 99, 98, 99, 100]⟩ : ByteArray)).bind fun t130 => (if t130 = true then ((crit_Like.f k (⟨#[97, 63]⟩ : ByteArray) (⟨#[97]⟩ : ByteArray)).bind fun t131 => (some (!t131))) else (none)))))) else (none)) = some r := H
     have A11 := Aside0.mk A110; clear A110
     by_cases c12 : t125 = true
     ·subst c12
      have H1 : ((value_Str.f (⟨#[57]⟩ : ByteArray)).bind fun bt126 => ((crit_Hits.f k t104 t105 t106 t107 bt126.1 bt126.2.1 bt126.2.2).bind fun t129 => (if t129 = true then (none) else ((crit_Like.f k (⟨#[97, 42, 99, 63]⟩ : ByteArray) (⟨#[97, 98, 99, 98, 99, 100]⟩ : ByteArray)).bind fun t130 => (if t130 = true then ((crit_Like.f k (⟨#[97, 63]⟩ : ByteArray) (⟨#[97]⟩ : ByteArray)).bind fun t131 => (some (!t131))) else (none)))))) = some r := by rw [if_pos rfl] at H; exact H
      clear H; have H := H1; clear H1; replace H := Option.bind_eq_some_iff.mp H; obtain ⟨⟨t126, t127, t128⟩, A130, H⟩ := H
      replace H : ((crit_Hits.f k t104 t105 t106 t107 t126 t127 t128).bind fun t129 => (if t129 = true then (none) else ((crit_Like.f k (⟨#[97, 42, 99, 63]⟩ : ByteArray) (⟨#[97, 98, 99, 98, 99, 100]⟩ : ByteArray)).bind fun t130 => (if t130 = true then ((crit_Like.f k (⟨#[97, 63]⟩ : ByteArray) (⟨#[97]⟩ : ByteArray)).bind fun t131 => (some (!t131))) else (none))))) = some r := H
      have A13 := Aside0.mk A130; clear A130; replace H := Option.bind_eq_some_iff.mp H; obtain ⟨t129, A140, H⟩ := H
      replace H : (if t129 = true then (none) else ((crit_Like.f k (⟨#[97, 42, 99, 63]⟩ : ByteArray) (⟨#[97, 98, 99, 98, 99, 100]⟩ : ByteArray)).bind fun t130 => (if t130 = true then ((crit_Like.f k (⟨#[97, 63]⟩ : ByteArray) (⟨#[97]⟩ : ByteArray)).bind fun t131 => (some (!t131))) else (none)))) = some r := H
      have A14 := Aside0.mk A140; clear A140
      by_cases c15 : t129 = true
      ·subst c15
       have H1 : (none) = some r := by rw [if_pos rfl] at H; exact H
       clear H; have H := H1; clear H1
       exact absurd H (by simp)
      ·replace c15 := Bool.eq_false_iff.mpr c15; subst c15
       have H1 : ((crit_Like.f k (⟨#[97, 42, 99, 63]⟩ : ByteArray) (⟨#[97, 98, 99, 98, 99, 100]⟩ : ByteArray)).bind fun t130 => (if t130 = true then ((crit_Like.f k (⟨#[97, 63]⟩ : ByteArray) (⟨#[97]⟩ : ByteArray)).bind fun t131 => (some (!t131))) else (none))) = some r := by rw [if_neg (show ¬ (false = true) by decide)] at H; exact H
       clear H; have H := H1; clear H1; replace H := Option.bind_eq_some_iff.mp H; obtain ⟨t130, A160, H⟩ := H
       replace H : (if t130 = true then ((crit_Like.f k (⟨#[97, 63]⟩ : ByteArray) (⟨#[97]⟩ : ByteArray)).bind fun t131 => (some (!t131))) else (none)) = some r := H
       have A16 := Aside0.mk A160; clear A160
       by_cases c17 : t130 = true
       ·subst c17
        have H1 : ((crit_Like.f k (⟨#[97, 63]⟩ : ByteArray) (⟨#[97]⟩ : ByteArray)).bind fun t131 => (some (!t131))) = some r := by rw [if_pos rfl] at H; exact H
        clear H; have H := H1; clear H1; replace H := Option.bind_eq_some_iff.mp H; obtain ⟨t131, A180, H⟩ := H
        replace H : (some (!t131)) = some r := H
        have A18 := Aside0.mk A180; clear A180; obtain rfl := Option.some.inj H
        go_enter Try.func7, Try.ntmps7
        try go_wp2_with (first | ((with_reducible refine gate_callee (f:=16) rfl ?_); refine goesL_ (some 6) rfl rfl Try.func16 (by kernel_rfl) rfl #[.string (⟨#[62, 50]⟩ : ByteArray)] rfl (by (try simp only [List.map_toArray, List.map_cons, List.map_nil]); first | done | rfl | (simp only [List.length_drop, List.length_take]; rfl)) ?_; (with_reducible refine (value_Str.calls (⟨#[62, 50]⟩ : ByteArray) t101 t102 t103 _ A1.out).mono ?_); rintro e w19 ⟨rfl, hb⟩; refine ⟨_, rfl, ?_⟩; replace HB := bs_ HB hb; (try clear hb); (try clear hb2); (try clear hk); (try clear hi)) | ((with_reducible refine gate_callee (f:=8) rfl ?_); refine goesL_ (some 7) rfl rfl Try.func8 (by kernel_rfl) rfl #[.agg #[.int .i64 t101, .int .i64 t102, .string t103]] rfl (by (try simp only [List.map_toArray, List.map_cons, List.map_nil]); first | done | rfl | (simp only [List.length_drop, List.length_take]; rfl)) ?_; (with_reducible refine (crit_Of.calls k t101 t102 t103 t104 t105 t106 t107 true _ A2.out).mono ?_); rintro e w20 ⟨rfl, hb⟩; refine ⟨_, rfl, ?_⟩; replace HB := bs_ HB hb; (try clear hb); (try clear hb2); (try clear hk); (try clear hi)) | ((with_reducible refine gate_dst (N:=1) rfl ?_); refine box_event ?hg (N:=1) ?hd (cs := #[.int .i64 0, .int .i64 0, .int .i64 0, .string (⟨#[]⟩ : ByteArray)]) (t:=27) ?hr ?_; (case hd => rfl); (case hg => rfl); (case hr => first | (go_simp; done) | (go_simp; rfl)); intro gb109 hg w21 hbox hb; have BK109 := Aside0.mk (hbox); have GW109 := hs_ HB hg; have GE109 := hs_ HB hg; replace HB := bs_ HB hb; clear hb hbox hg; have hcz22_0 : w21.cell? ⟨gb109, 0, none⟩ = some (.int .i64 0) := bc_ BK109 0 rfl; have hcz22_1 : w21.cell? ⟨gb109, 1, none⟩ = some (.int .i64 0) := bc_ BK109 1 rfl; have hcz22_2 : w21.cell? ⟨gb109, 2, none⟩ = some (.int .i64 0) := bc_ BK109 2 rfl; have hcz22_3 : w21.cell? ⟨gb109, 3, none⟩ = some (.string (⟨#[]⟩ : ByteArray)) := bc_ BK109 3 rfl; have hfz22_0 := blk_frozen BK109.out 0; have hfz22_1 := blk_frozen BK109.out 1; have hfz22_2 := blk_frozen BK109.out 2; have hfz22_3 := blk_frozen BK109.out 3) | ((with_reducible refine gate_callee (f:=17) rfl ?_); refine goesL_ (some 11) rfl rfl Try.func17 (by kernel_rfl) rfl #[.int .i64 1] rfl (by (try simp only [List.map_toArray, List.map_cons, List.map_nil]); first | done | rfl | (simp only [List.length_drop, List.length_take]; rfl)) ?_; (with_reducible refine (value_Bad.calls 1 t110 t111 t112 _ A3.out).mono ?_); rintro e w23 ⟨rfl, hb⟩; refine ⟨_, rfl, ?_⟩; replace BK109 := Aside0.mk (blk_below (g:=gb109) (o := .cells #[.int .i64 t104, .int .i64 t105, .int .i64 t106, .string t107] 27 (0, 0)) (by (with_reducible repeat (first | refine blk_drewN ?_ _ | refine blk_drew ?_ | refine blk_alloc ?_ _)); refine blk_put (cs := #[.int .i64 t104, .int .i64 t105, .int .i64 t106, .string (⟨#[]⟩ : ByteArray)]) ?_ 3 _ rfl; (with_reducible repeat (first | refine blk_drewN ?_ _ | refine blk_drew ?_ | refine blk_alloc ?_ _)); refine blk_put (cs := #[.int .i64 t104, .int .i64 t105, .int .i64 0, .string (⟨#[]⟩ : ByteArray)]) ?_ 2 _ rfl; (with_reducible repeat (first | refine blk_drewN ?_ _ | refine blk_drew ?_ | refine blk_alloc ?_ _)); refine blk_put (cs := #[.int .i64 t104, .int .i64 0, .int .i64 0, .string (⟨#[]⟩ : ByteArray)]) ?_ 1 _ rfl; (with_reducible repeat (first | refine blk_drewN ?_ _ | refine blk_drew ?_ | refine blk_alloc ?_ _)); refine blk_put (cs := #[.int .i64 0, .int .i64 0, .int .i64 0, .string (⟨#[]⟩ : ByteArray)]) ?_ 0 _ rfl; (with_reducible repeat (first | refine blk_drewN ?_ _ | refine blk_drew ?_ | refine blk_alloc ?_ _)); exact BK109.out) hb); replace HB := Aside0.mk (below_step (by repeat (first | (with_reducible first | exact HB.out | apply below_alloc | apply pw_below_drewN | apply below_drew1 | refine below_set ?_ GE109.out) | exact HB.out)) hb); (try clear hb); (try clear hb2); (try clear hk); (try clear hi)) | ((with_reducible refine gate_callee (f:=8) rfl ?_); refine goesL_ (some 12) rfl rfl Try.func8 (by kernel_rfl) rfl #[.agg #[.int .i64 t110, .int .i64 t111, .string t112]] rfl (by (try simp only [List.map_toArray, List.map_cons, List.map_nil]); first | done | rfl | (simp only [List.length_drop, List.length_take]; rfl)) ?_; (with_reducible refine (crit_Of.calls k t110 t111 t112 t113 t114 t115 t116 false _ A4.out).mono ?_); rintro e w24 ⟨rfl, hb⟩; refine ⟨_, rfl, ?_⟩; replace BK109 := bb_ BK109 hb; replace HB := bs_ HB hb; (try clear hb); (try clear hb2); (try clear hk); (try clear hi)) | ((with_reducible refine gate_dst (N:=3) rfl ?_); refine box_event ?hg (N:=3) ?hd (cs := #[.int .i64 0, .int .i64 0, .int .i64 0, .string (⟨#[]⟩ : ByteArray)]) (t:=27) ?hr ?_; (case hd => rfl); (case hg => rfl); (case hr => first | (go_simp; done) | (go_simp; rfl)); intro gb118 hg w25 hbox hb; have BK118 := Aside0.mk (hbox); have GW118 := hs_ HB hg; have GE118 := hs_ HB hg; have NB109_118 := hl_ BK109 hg; have NB118_109 := hr_ BK109 hg; replace BK109 := bb_ BK109 hb; replace HB := bs_ HB hb; clear hb hbox hg; have hnb26 := NB118_109.out; have hnc26 := NB109_118.out; have hcz27_0 : w25.cell? ⟨gb118, 0, none⟩ = some (.int .i64 0) := bc_ BK118 0 rfl; have hcz27_1 : w25.cell? ⟨gb118, 1, none⟩ = some (.int .i64 0) := bc_ BK118 1 rfl; have hcz27_2 : w25.cell? ⟨gb118, 2, none⟩ = some (.int .i64 0) := bc_ BK118 2 rfl; have hcz27_3 : w25.cell? ⟨gb118, 3, none⟩ = some (.string (⟨#[]⟩ : ByteArray)) := bc_ BK118 3 rfl; have hfz27_0 := blk_frozen BK118.out 0; have hfz27_1 := blk_frozen BK118.out 1; have hfz27_2 := blk_frozen BK118.out 2; have hfz27_3 := blk_frozen BK118.out 3))
        have n0_ : Aside0 (((((w25.setCell ⟨gb118, 0, none⟩ (.int .i64 t113)).setCell ⟨gb118, 1, none⟩ (.int .i64 t114)).setCell ⟨gb118, 2, none⟩ (.int .i64 t115)).setCell ⟨gb118, 3, none⟩ (.string t116)).heap[gb109]? = some (.cells #[.int .i64 t104, .int .i64 t105, .int .i64 t106, .string t107] 27 (0, 0))) := ⟨by (with_reducible repeat (first | refine blk_drewN ?_ _ | refine blk_drew ?_ | refine blk_alloc ?_ _)); refine blk_far ?_ NB109_118.out _; refine blk_far ?_ NB109_118.out _; refine blk_far ?_ NB109_118.out _; refine blk_far ?_ NB109_118.out _; (with_reducible repeat (first | refine blk_drewN ?_ _ | refine blk_drew ?_ | refine blk_alloc ?_ _)); exact BK109.out⟩; have n1_ : Aside0 (((((w25.setCell ⟨gb118, 0, none⟩ (.int .i64 t113)).setCell ⟨gb118, 1, none⟩ (.int .i64 t114)).setCell ⟨gb118, 2, none⟩ (.int .i64 t115)).setCell ⟨gb118, 3, none⟩ (.string t116)).heap[gb118]? = some (.cells #[.int .i64 t113, .int .i64 t114, .int .i64 t115, .string t116] 27 (0, 0))) := ⟨by (with_reducible repeat (first | refine blk_drewN ?_ _ | refine blk_drew ?_ | refine blk_alloc ?_ _)); refine blk_put (cs := #[.int .i64 t113, .int .i64 t114, .int .i64 t115, .string (⟨#[]⟩ : ByteArray)]) ?_ 3 _ rfl; (with_reducible repeat (first | refine blk_drewN ?_ _ | refine blk_drew ?_ | refine blk_alloc ?_ _)); refine blk_put (cs := #[.int .i64 t113, .int .i64 t114, .int .i64 0, .string (⟨#[]⟩ : ByteArray)]) ?_ 2 _ rfl; (with_reducible repeat (first | refine blk_drewN ?_ _ | refine blk_drew ?_ | refine blk_alloc ?_ _)); refine blk_put (cs := #[.int .i64 t113, .int .i64 0, .int .i64 0, .string (⟨#[]⟩ : ByteArray)]) ?_ 1 _ rfl; (with_reducible repeat (first | refine blk_drewN ?_ _ | refine blk_drew ?_ | refine blk_alloc ?_ _)); refine blk_put (cs := #[.int .i64 0, .int .i64 0, .int .i64 0, .string (⟨#[]⟩ : ByteArray)]) ?_ 0 _ rfl; (with_reducible repeat (first | refine blk_drewN ?_ _ | refine blk_drew ?_ | refine blk_alloc ?_ _)); exact BK118.out⟩
        have n2_ : Aside0 (Below w.heap.size w ((((w25.setCell ⟨gb118, 0, none⟩ (.int .i64 t113)).setCell ⟨gb118, 1, none⟩ (.int .i64 t114)).setCell ⟨gb118, 2, none⟩ (.int .i64 t115)).setCell ⟨gb118, 3, none⟩ (.string t116))) := ⟨by repeat (first | (with_reducible first | exact HB.out | apply below_alloc | apply pw_below_drewN | apply below_drew1 | refine below_set ?_ GE109.out | refine below_set ?_ GE118.out) | exact HB.out)⟩; (try clear BK109); (try clear BK118); (try clear HB)
        generalize ((((w25.setCell ⟨gb118, 0, none⟩ (.int .i64 t113)).setCell ⟨gb118, 1, none⟩ (.int .i64 t114)).setCell ⟨gb118, 2, none⟩ (.int .i64 t115)).setCell ⟨gb118, 3, none⟩ (.string t116)) = w28 at n0_ n1_ n2_ ⊢; have BK109 := n0_; have BK118 := n1_; have HB := n2_; clear n0_ n1_ n2_; (try (rw [drewN_self w28]; generalize hq_ : World.drewN w28 _ = w28; have n0_ : Aside0 (w28.heap[gb109]? = some (.cells #[.int .i64 t104, .int .i64 t105, .int .i64 t106, .string t107] 27 (0, 0))) := ⟨by rw [← hq_]; exact (pkx BK109)⟩; have n1_ : Aside0 (w28.heap[gb118]? = some (.cells #[.int .i64 t113, .int .i64 t114, .int .i64 t115, .string t116] 27 (0, 0))) := ⟨by rw [← hq_]; exact (pkx BK118)⟩; have n2_ : Aside0 (Below w.heap.size w w28) := ⟨by rw [← hq_]; exact (pbx HB)⟩; clear BK109 BK118 HB hq_; have BK109 := n0_; have BK118 := n1_; have HB := n2_; clear n0_ n1_ n2_))
        replace BK109 := Aside0.mk (blk_drew BK109.out); replace BK118 := Aside0.mk (blk_drew BK118.out); replace HB := Aside0.mk (below_drew1 HB.out)
        refine start_ (n:=35) (S := fun w' => w'.cell? ⟨gb109, 0, none⟩ = some (.int .i64 t104) ∧ w'.cell? ⟨gb109, 1, none⟩ = some (.int .i64 t105) ∧ w'.cell? ⟨gb109, 2, none⟩ = some (.int .i64 t106) ∧ w'.cell? ⟨gb109, 3, none⟩ = some (.string t107)) (ds := []) #[F,F,F,F,F,F,F,F,F,F,F,F,F,F,F,F,F,F,F,F,F,F,F,F,F,F,F,F,F,F,F,F,F,F,F] (by kernel_rfl) rfl rfl ⟨bc_ BK109 0 rfl, bc_ BK109 1 rfl, bc_ BK109 2 rfl, bc_ BK109 3 rfl⟩ (fun hHeld => ?_); refine with_tabW oculuslaw17_alive.tab3 oculuslaw17_alive.bits3 (fun HT_ HW_ => ?_)
        generalize w28.drew = w29 at BK109 BK118 HB hHeld ⊢; refine pure_ (i:=0) (N:=some 15) (v:=?_) (a':=?_) ⟨m_ 35 1⟩ rfl rfl (any_of HT_.out (by kernel_rfl)) (fun _ _ _ h=>h) (Or.inl ⟨rfl, ?_⟩) ?_ ?_; rotate_left
        ·intro w'; go_simp; with_reducible rfl
        rotate_left
        ·simp only [q_, i64_w, i32_w]; rfl
        refine pure_ (i:=1) (N:=some 16) (v:=?_) (a':=?_) ⟨m_ 35 3⟩ rfl rfl (any_of HT_.out (by kernel_rfl)) (fun _ _ _ h=>h) (Or.inl ⟨rfl, ?_⟩) ?_ ?_; rotate_left
        ·intro w'; go_simp; with_reducible rfl
        rotate_left
        ·simp only [q_, i64_w, i32_w]; rfl
        refine pure_ (i:=2) (N:=some 17) (v:=?_) (a':=?_) ⟨m_ 35 7⟩ rfl rfl (any_of HT_.out (by kernel_rfl)) (fun _ _ _ h=>h) (Or.inl ⟨rfl, ?_⟩) ?_ ?_; rotate_left
        ·intro w'; go_simp; with_reducible rfl
        rotate_left
        ·simp only [q_, i64_w, i32_w]; rfl
        refine pure_ (i:=3) (N:=some 18) (v:=?_) (a':=?_) ⟨m_ 35 15⟩ rfl rfl (any_of HT_.out (by kernel_rfl)) (fun _ _ _ h=>h) (Or.inl ⟨rfl, ?_⟩) ?_ ?_; rotate_left
        ·intro w'; go_simp; with_reducible rfl
        rotate_left
        ·simp only [q_, i64_w, i32_w]; rfl
        refine pure_ (i:=4) (N:=some 19) (v:=?_) (a':=?_) ⟨m_ 35 31⟩ rfl rfl (any_of HT_.out (by kernel_rfl)) (fun _ _ _ h=>h) (Or.inl ⟨rfl, ?_⟩) ?_ ?_; rotate_left
        ·intro w'; go_simp; with_reducible rfl
        rotate_left
        ·simp only [q_, i64_w, i32_w]; rfl
        refine pure_ (i:=5) (N:=some 20) (v:=?_) (a':=?_) ⟨m_ 35 63⟩ rfl rfl (any_of HT_.out (by kernel_rfl)) (fun _ _ _ h=>h) (Or.inl ⟨rfl, ?_⟩) ?_ ?_; rotate_left
        ·intro w'; go_simp; with_reducible rfl
        rotate_left
        ·simp only [q_, i64_w, i32_w]; rfl
        refine pure_ (i:=6) (N:=some 21) (v:=?_) (a':=?_) ⟨m_ 35 127⟩ rfl rfl (any_of HT_.out (by kernel_rfl)) (fun _ _ _ h=>h) (Or.inl ⟨rfl, ?_⟩) ?_ ?_; rotate_left
        ·intro w'; go_simp; with_reducible rfl
        rotate_left
        ·simp only [q_, i64_w, i32_w]; rfl
        refine take_ (i:=7) (N:=some 22) (v:=?_) (a':=?_) ⟨m_ 35 255⟩ rfl rfl (take_ofW HT_.out HW_.out (by kernel_rfl)) (fun _ _ _ h=>h) (Or.inl ⟨rfl, ?_⟩) hHeld ?_ ?_; rotate_left
        ·rintro w' ⟨s0, s1, s2, s3⟩; go_simp; with_reducible rfl
        rotate_left
        ·simp only [q_, i64_w, i32_w]; rfl
        refine pure_ (i:=8) (N:=some 23) (v:=?_) (a':=?_) ⟨m_ 35 511⟩ rfl rfl (any_of HT_.out (by kernel_rfl)) (fun _ _ _ h=>h) (Or.inl ⟨rfl, ?_⟩) ?_ ?_; rotate_left
        ·intro w'; go_simp; with_reducible rfl
        rotate_left
        ·simp only [q_, i64_w, i32_w]; rfl
        refine pure_ (i:=9) (N:=some 24) (v:=?_) (a':=?_) ⟨m_ 35 1023⟩ rfl rfl (any_of HT_.out (by kernel_rfl)) (fun _ _ _ h=>h) (Or.inl ⟨rfl, ?_⟩) ?_ ?_; rotate_left
        ·intro w'; go_simp; with_reducible rfl
        rotate_left
        ·simp only [q_, i64_w, i32_w]; rfl
        refine pure_ (i:=10) (N:=some 25) (v:=?_) (a':=?_) ⟨m_ 35 2047⟩ rfl rfl (any_of HT_.out (by kernel_rfl)) (fun _ _ _ h=>h) (Or.inl ⟨rfl, ?_⟩) ?_ ?_; rotate_left
        ·intro w'; go_simp; with_reducible rfl
        rotate_left
        ·simp only [q_, i64_w, i32_w]; rfl
        refine pure_ (i:=11) (N:=some 26) (v:=?_) (a':=?_) ⟨m_ 35 4095⟩ rfl rfl (any_of HT_.out (by kernel_rfl)) (fun _ _ _ h=>h) (Or.inl ⟨rfl, ?_⟩) ?_ ?_; rotate_left
        ·intro w'; go_simp; with_reducible rfl
        rotate_left
        ·simp only [q_, i64_w, i32_w]; rfl
        refine take_ (i:=12) (N:=some 27) (v:=?_) (a':=?_) ⟨m_ 35 8191⟩ rfl rfl (take_ofW HT_.out HW_.out (by kernel_rfl)) (fun _ _ _ h=>h) (Or.inl ⟨rfl, ?_⟩) hHeld ?_ ?_; rotate_left
        ·rintro w' ⟨s0, s1, s2, s3⟩; go_simp; with_reducible rfl
        rotate_left
        ·simp only [q_, i64_w, i32_w]; rfl
        refine one_ (i:=13) (N:=some 28) ⟨m_ 35 16383⟩ rfl rfl (one_of HT_.out (by kernel_rfl)) (by decide) (fun K hK => ?_); refine goes_ Try.func18 (by kernel_rfl) rfl #[.int .i64 20000] (by rfl) rfl rfl (by (try simp only [List.map_toArray, List.map_cons, List.map_nil]); first | done | rfl | (simp only [List.length_drop, List.length_take]; rfl)) ?_; with_reducible refine (value_Num.calls 20000 t119 t120 t121 _ A8.out).mono ?_; rintro e w30 ⟨rfl, hb⟩; refine ⟨_, rfl, ?_⟩
        replace BK109 := bb_ BK109 hb; replace BK118 := bb_ BK118 hb; replace HB := bs_ HB hb; (try clear hb); (try clear hb2); (try clear hk); (try clear hi); refine hK.out _ _ ⟨bc_ BK109 0 rfl, bc_ BK109 1 rfl, bc_ BK109 2 rfl, bc_ BK109 3 rfl⟩ (fun hHeld => ?_); clear hK K; refine norm_ (a':=?_) ?_ ?_; rotate_left
        ·show Act.put _ (some 28) _ = _; simp only [q_, i64_w, i32_w]; rfl
        refine pure_ (i:=14) (N:=some 29) (v:=?_) (a':=?_) ⟨m_ 35 32767⟩ rfl rfl (any_of HT_.out (by kernel_rfl)) (fun _ _ _ h=>h) (Or.inl ⟨rfl, ?_⟩) ?_ ?_; rotate_left
        ·intro w'; go_simp; with_reducible rfl
        rotate_left
        ·simp only [q_, i64_w, i32_w]; rfl
        refine pure_ (i:=15) (N:=some 30) (v:=?_) (a':=?_) ⟨m_ 35 65535⟩ rfl rfl (any_of HT_.out (by kernel_rfl)) (fun _ _ _ h=>h) (Or.inl ⟨rfl, ?_⟩) ?_ ?_; rotate_left
        ·intro w'; go_simp; with_reducible rfl
        rotate_left
        ·simp only [q_, i64_w, i32_w]; rfl
        refine pure_ (i:=16) (N:=some 31) (v:=?_) (a':=?_) ⟨m_ 35 131071⟩ rfl rfl (any_of HT_.out (by kernel_rfl)) (fun _ _ _ h=>h) (Or.inl ⟨rfl, ?_⟩) ?_ ?_; rotate_left
        ·intro w'; go_simp; with_reducible rfl
        rotate_left
        ·simp only [q_, i64_w, i32_w]; rfl
        refine take_ (i:=17) (N:=some 32) (v:=?_) (a':=?_) ⟨m_ 35 262143⟩ rfl rfl (take_ofW HT_.out HW_.out (by kernel_rfl)) (fun _ _ _ h=>h) (Or.inl ⟨rfl, ?_⟩) hHeld ?_ ?_; rotate_left
        ·rintro w' ⟨s0, s1, s2, s3⟩; go_simp; with_reducible rfl
        rotate_left
        ·simp only [q_, i64_w, i32_w]; rfl
        refine one_ (i:=18) (N:=some 33) ⟨m_ 35 524287⟩ rfl rfl (one_of HT_.out (by kernel_rfl)) (by decide) (fun K hK => ?_); refine goes_ Try.func18 (by kernel_rfl) rfl #[.int .i64 20001] (by rfl) rfl rfl (by (try simp only [List.map_toArray, List.map_cons, List.map_nil]); first | done | rfl | (simp only [List.length_drop, List.length_take]; rfl)) ?_; with_reducible refine (value_Num.calls 20001 t122 t123 t124 _ A10.out).mono ?_; rintro e w31 ⟨rfl, hb⟩; refine ⟨_, rfl, ?_⟩
        replace BK109 := bb_ BK109 hb; replace BK118 := bb_ BK118 hb; replace HB := bs_ HB hb; (try clear hb); (try clear hb2); (try clear hk); (try clear hi); refine hK.out _ _ ⟨bc_ BK109 0 rfl, bc_ BK109 1 rfl, bc_ BK109 2 rfl, bc_ BK109 3 rfl⟩ (fun hHeld => ?_); clear hK K; refine norm_ (a':=?_) ?_ ?_; rotate_left
        ·show Act.put _ (some 33) _ = _; simp only [q_, i64_w, i32_w]; rfl
        refine one_ (i:=19) (N:=some 34) ⟨m_ 35 1048575⟩ rfl rfl (one_of HT_.out (by kernel_rfl)) (by decide) (fun K hK => ?_); refine goes_ Try.func13 (by kernel_rfl) rfl #[.agg #[.int .i64 t104, .int .i64 t105, .int .i64 t106, .string t107], .agg #[.int .i64 t122, .int .i64 t123, .string t124]] (by rfl) rfl rfl (by (try simp only [List.map_toArray, List.map_cons, List.map_nil]); first | done | rfl | (simp only [List.length_drop, List.length_take]; rfl)) ?_; with_reducible refine (crit_Hits.calls k t104 t105 t106 t107 t122 t123 t124 true _ A11.out).mono ?_; rintro e w32 ⟨rfl, hb⟩; refine ⟨_, rfl, ?_⟩
        replace BK109 := bb_ BK109 hb; replace BK118 := bb_ BK118 hb; replace HB := bs_ HB hb; (try clear hb); (try clear hb2); (try clear hk); (try clear hi); refine hK.out _ _ ⟨bc_ BK109 0 rfl, bc_ BK109 1 rfl, bc_ BK109 2 rfl, bc_ BK109 3 rfl⟩ (fun hHeld => ?_); clear hK K; refine norm_ (a':=?_) ?_ ?_; rotate_left
        ·show Act.put _ (some 34) _ = _; simp only [q_, i64_w, i32_w]; rfl
        refine pure_ (i:=20) (N:=some 35) (v:=?_) (a':=?_) ⟨m_ 35 2097151⟩ rfl rfl (any_of HT_.out (by kernel_rfl)) (fun _ _ _ h=>h) (Or.inl ⟨rfl, ?_⟩) ?_ ?_; rotate_left
        ·intro w'; go_simp; with_reducible rfl
        rotate_left
        ·simp only [q_, i64_w, i32_w]; rfl
        refine pure_ (i:=21) (N:=some 36) (v:=?_) (a':=?_) ⟨m_ 35 4194303⟩ rfl rfl (any_of HT_.out (by kernel_rfl)) (fun _ _ _ h=>h) (Or.inl ⟨rfl, ?_⟩) ?_ ?_; rotate_left
        ·intro w'; go_simp; with_reducible rfl
        rotate_left
        ·simp only [q_, i64_w, i32_w]; rfl
        refine take_ (i:=22) (N:=some 37) (v:=?_) (a':=?_) ⟨m_ 35 8388607⟩ rfl rfl (take_ofW HT_.out HW_.out (by kernel_rfl)) (fun _ _ _ h=>h) (Or.inl ⟨rfl, ?_⟩) hHeld ?_ ?_; rotate_left
        ·rintro w' ⟨s0, s1, s2, s3⟩; go_simp; with_reducible rfl
        rotate_left
        ·simp only [q_, i64_w, i32_w]; rfl
        refine one_ (i:=23) (N:=some 38) ⟨m_ 35 16777215⟩ rfl rfl (one_of HT_.out (by kernel_rfl)) (by decide) (fun K hK => ?_); refine goes_ Try.func16 (by kernel_rfl) rfl #[.string (⟨#[57]⟩ : ByteArray)] (by rfl) rfl rfl (by (try simp only [List.map_toArray, List.map_cons, List.map_nil]); first | done | rfl | (simp only [List.length_drop, List.length_take]; rfl)) ?_; with_reducible refine (value_Str.calls (⟨#[57]⟩ : ByteArray) t126 t127 t128 _ A13.out).mono ?_; rintro e w33 ⟨rfl, hb⟩; refine ⟨_, rfl, ?_⟩
        replace BK109 := bb_ BK109 hb; replace BK118 := bb_ BK118 hb; replace HB := bs_ HB hb; (try clear hb); (try clear hb2); (try clear hk); (try clear hi); refine hK.out _ _ ⟨bc_ BK109 0 rfl, bc_ BK109 1 rfl, bc_ BK109 2 rfl, bc_ BK109 3 rfl⟩ (fun hHeld => ?_); clear hK K; refine norm_ (a':=?_) ?_ ?_; rotate_left
        ·show Act.put _ (some 38) _ = _; simp only [q_, i64_w, i32_w]; rfl
        refine one_ (i:=24) (N:=some 39) ⟨m_ 35 33554431⟩ rfl rfl (one_of HT_.out (by kernel_rfl)) (by decide) (fun K hK => ?_); refine goes_ Try.func13 (by kernel_rfl) rfl #[.agg #[.int .i64 t104, .int .i64 t105, .int .i64 t106, .string t107], .agg #[.int .i64 t126, .int .i64 t127, .string t128]] (by rfl) rfl rfl (by (try simp only [List.map_toArray, List.map_cons, List.map_nil]); first | done | rfl | (simp only [List.length_drop, List.length_take]; rfl)) ?_; with_reducible refine (crit_Hits.calls k t104 t105 t106 t107 t126 t127 t128 false _ A14.out).mono ?_; rintro e w34 ⟨rfl, hb⟩; refine ⟨_, rfl, ?_⟩
        replace BK109 := bb_ BK109 hb; replace BK118 := bb_ BK118 hb; replace HB := bs_ HB hb; (try clear hb); (try clear hb2); (try clear hk); (try clear hi); refine hK.out _ _ ⟨bc_ BK109 0 rfl, bc_ BK109 1 rfl, bc_ BK109 2 rfl, bc_ BK109 3 rfl⟩ (fun hHeld => ?_); clear hK K; refine norm_ (a':=?_) ?_ ?_; rotate_left
        ·show Act.put _ (some 39) _ = _; simp only [q_, i64_w, i32_w]; rfl
        refine pure_ (i:=25) (N:=some 40) (v:=?_) (a':=?_) ⟨m_ 35 67108863⟩ rfl rfl (any_of HT_.out (by kernel_rfl)) (fun _ _ _ h=>h) (Or.inl ⟨rfl, ?_⟩) ?_ ?_; rotate_left
        ·intro w'; go_simp; with_reducible rfl
        rotate_left
        ·simp only [q_, i64_w, i32_w]; rfl
        refine pure_ (i:=26) (N:=some 41) (v:=?_) (a':=?_) ⟨m_ 35 134217727⟩ rfl rfl (any_of HT_.out (by kernel_rfl)) (fun _ _ _ h=>h) (Or.inl ⟨rfl, ?_⟩) ?_ ?_; rotate_left
        ·intro w'; go_simp; with_reducible rfl
        rotate_left
        ·simp only [q_, i64_w, i32_w]; rfl
        refine pure_ (i:=27) (N:=some 42) (v:=?_) (a':=?_) ⟨m_ 35 268435455⟩ rfl rfl (any_of HT_.out (by kernel_rfl)) (fun _ _ _ h=>h) (Or.inl ⟨rfl, ?_⟩) ?_ ?_; rotate_left
        ·intro w'; go_simp; with_reducible rfl
        rotate_left
        ·simp only [q_, i64_w, i32_w]; rfl
        refine one_ (i:=28) (N:=some 43) ⟨m_ 35 536870911⟩ rfl rfl (one_of HT_.out (by kernel_rfl)) (by decide) (fun K hK => ?_); refine goes_ Try.func11 (by kernel_rfl) rfl #[.string (⟨#[97, 42, 99, 63]⟩ : ByteArray), .string (⟨#[97, 98, 99, 98, 99, 100]⟩ : ByteArray)] (by rfl) rfl rfl (by (try simp only [List.map_toArray, List.map_cons, List.map_nil]); first | done | rfl | (simp only [List.length_drop, List.length_take]; rfl)) ?_; with_reducible refine (crit_Like.calls k (⟨#[97, 42, 99, 63]⟩ : ByteArray) (⟨#[97, 98, 99, 98, 99, 100]⟩ : ByteArray) true _ A16.out).mono ?_
        rintro e w' ⟨rfl, ⟨nd, rfl⟩⟩
        refine ⟨_, rfl, ?_⟩; refine hK.out _ _ ⟨bc_ BK109 0 rfl, bc_ BK109 1 rfl, bc_ BK109 2 rfl, bc_ BK109 3 rfl⟩ (fun hHeld => ?_); clear hK K; refine norm_ (a':=?_) ?_ ?_; rotate_left
        ·show Act.put _ (some 43) _ = _; simp only [q_, i64_w, i32_w]; rfl
        refine pure_ (i:=29) (N:=some 44) (v:=?_) (a':=?_) ⟨m_ 35 1073741823⟩ rfl rfl (any_of HT_.out (by kernel_rfl)) (fun _ _ _ h=>h) (Or.inl ⟨rfl, ?_⟩) ?_ ?_; rotate_left
        ·intro w'; go_simp; with_reducible rfl
        rotate_left
        ·simp only [q_, i64_w, i32_w]; rfl
        refine pure_ (i:=30) (N:=some 45) (v:=?_) (a':=?_) ⟨m_ 35 2147483647⟩ rfl rfl (any_of HT_.out (by kernel_rfl)) (fun _ _ _ h=>h) (Or.inl ⟨rfl, ?_⟩) ?_ ?_; rotate_left
        ·intro w'; go_simp; with_reducible rfl
        rotate_left
        ·simp only [q_, i64_w, i32_w]; rfl
        refine one_ (i:=31) (N:=some 46) ⟨m_ 35 4294967295⟩ rfl rfl (one_of HT_.out (by kernel_rfl)) (by decide) (fun K hK => ?_); refine goes_ Try.func11 (by kernel_rfl) rfl #[.string (⟨#[97, 63]⟩ : ByteArray), .string (⟨#[97]⟩ : ByteArray)] (by rfl) rfl rfl (by (try simp only [List.map_toArray, List.map_cons, List.map_nil]); first | done | rfl | (simp only [List.length_drop, List.length_take]; rfl)) ?_; with_reducible refine (crit_Like.calls k (⟨#[97, 63]⟩ : ByteArray) (⟨#[97]⟩ : ByteArray) t131 _ A18.out).mono ?_
        rintro e w' ⟨rfl, ⟨nd, rfl⟩⟩
        refine ⟨_, rfl, ?_⟩; refine hK.out _ _ ⟨bc_ BK109 0 rfl, bc_ BK109 1 rfl, bc_ BK109 2 rfl, bc_ BK109 3 rfl⟩ (fun hHeld => ?_); clear hK K; refine norm_ (a':=?_) ?_ ?_; rotate_left
        ·show Act.put _ (some 46) _ = _; simp only [q_, i64_w, i32_w]; rfl
        refine pure_ (i:=32) (N:=some 47) (v:=?_) (a':=?_) ⟨m_ 35 8589934591⟩ rfl rfl (any_of HT_.out (by kernel_rfl)) (fun _ _ _ h=>h) (Or.inl ⟨rfl, ?_⟩) ?_ ?_; rotate_left
        ·intro w'; go_simp; with_reducible rfl
        rotate_left
        ·simp only [q_, i64_w, i32_w]; rfl
        refine pure_ (i:=33) (N:=some 48) (v:=?_) (a':=?_) ⟨m_ 35 17179869183⟩ rfl rfl (any_of HT_.out (by kernel_rfl)) (fun _ _ _ h=>h) (Or.inl ⟨rfl, ?_⟩) ?_ ?_; rotate_left
        ·intro w'; go_simp; with_reducible rfl
        rotate_left
        ·simp only [q_, i64_w, i32_w]; rfl
        refine pure_ (i:=34) (N:=some 0) (v:=?_) (a':=?_) ⟨m_ 35 34359738367⟩ rfl rfl (any_of HT_.out (by kernel_rfl)) (fun _ _ _ h=>h) (Or.inl ⟨rfl, ?_⟩) ?_ ?_; rotate_left
        ·intro w'; go_simp; with_reducible rfl
        rotate_left
        ·simp only [q_, i64_w, i32_w]; rfl
        refine done_ (done_of HT_.out (by kernel_rfl)) ?_
        try go_wp2
        go_ret
        exact ⟨by first | rfl | (simp [errW_none, errW_some] <;> rfl) | (simp [*, errW_none, errW_some] <;> rfl), pbx HB⟩
       ·replace c17 := Bool.eq_false_iff.mpr c17; subst c17
        have H1 : (none) = some r := by rw [if_neg (show ¬ (false = true) by decide)] at H; exact H
        clear H; have H := H1; clear H1
        exact absurd H (by simp)
     ·replace c12 := Bool.eq_false_iff.mpr c12; subst c12
      have H1 : (none) = some r := by rw [if_neg (show ¬ (false = true) by decide)] at H; exact H
      clear H; have H := H1; clear H1
      exact absurd H (by simp)
    ·rw [if_neg c9] at H
     have c9b0 : (t105 == t119 && (t106 == t120 && (t107.toList == t121.toList))) = false := by simpa using c9
     (try (have c9b1 : decide (t105 = t119 && (t106 == t120 && (t107.toList == t121.toList))) = false := by simpa using c9)); (try (have c9b2 : (t105 == t119 && (t106 == t120 && (t107.toList == t121.toList))) = false := by simpa using c9)); (try (have c9b3 : ¬ (t105 = t119 && (t106 == t120 && (t107.toList == t121.toList))) := by simpa using c9)); clear c9
     exact absurd H (by simp)
   ·rw [if_neg c7] at H; have c7b0 : (t104 == 11) = false := beq_eq_false_iff_ne.mpr c7; have c7b1 : (t104 != 11) = true := bne_iff_ne.mpr c7
    exact absurd H (by simp)
 ·replace c5 := Bool.eq_false_iff.mpr c5; subst c5
  have H1 : (none) = some r := by rw [if_neg (show ¬ (false = true) by decide)] at H; exact H
  clear H; have H := H1; clear H1
  exact absurd H (by simp)

end Go.Proofs.Ytfcpkehldmehjaa.X
namespace Go.Proofs.Ytfcpkehldmehjaa.X
open Go.RowKit Go.Proofs.YtfcpkehldmehjaaW.PrintWords Go.Proofs.YtfcpkehldmehjaaW.PrintLast Go.Proofs.YtfcpkehldmehjaaW.PrintMore
attribute [local go_sem] max2_int min2_int max_two min_two max_three min_three max_four min_four   -- for this text's walks alone
set_option linter.unusedVariables false
set_option linter.unusedSimpArgs false

/-! ### oculusref11_Digit: function 43 -/
def oculusref11_Digit.f (a0 : ByteArray) (a1 : Int) : Option (Bool) := if a1 < (a0.size : Int) then (if 0 ≤ a1 then (if (bt a0 a1) ≥ 48 then (some (decide ((bt a0 a1) ≤ 57))) else (some false)) else (none)) else (some false)
set_option maxHeartbeats 8000000 in
set_option maxRecDepth 100000 in
theorem oculusref11_Digit.calls (a0 : ByteArray) (a1 : Int) (r : Bool) (w : World) (h : oculusref11_Digit.f a0 a1 = some r) :
  Calls Try.prog 43 #[.string a0, .int .i64 a1] w fun e w' => e = .returned (.bool r) ∧ Drawn0 w w' := by
 have H : (if a1 < (a0.size : Int) then (if 0 ≤ a1 then (if (bt a0 a1) ≥ 48 then (some (decide ((bt a0 a1) ≤ 57))) else (some false)) else (none)) else (some false)) = some r := h
 clear h
 by_cases c3 : a1 < (a0.size : Int)
 ·rw [if_pos c3] at H; have c3b0 : decide (a1 < (a0.size : Int)) = true := decide_eq_true c3; clear c3
  by_cases c4 : 0 ≤ a1
  ·rw [if_pos c4] at H; have c4b0 : decide (0 ≤ a1) = true := decide_eq_true c4; clear c4
   by_cases c6 : (bt a0 a1) ≥ 48
   ·rw [if_pos c6] at H; have c6b0 : decide (48 ≤ (bt a0 a1)) = true := decide_eq_true c6; clear c6; obtain rfl := Option.some.inj H
    have p5 : 0 ≤ (a1 : Int) := of_decide_eq_true (by first | (with_reducible assumption) | assumption)
    have q5 : a1 < (a0.size : Int) := of_decide_eq_true (by first | (with_reducible assumption) | assumption)
    have hx5 := bt_at a0 a1; replace p5 := eq_true p5; replace q5 := eq_true q5
    have p7 : 0 ≤ (a1 : Int) := of_decide_eq_true (by first | (with_reducible assumption) | assumption)
    have q7 : a1 < (a0.size : Int) := of_decide_eq_true (by first | (with_reducible assumption) | assumption)
    have hx7 := bt_at a0 a1; replace p7 := eq_true p7; replace q7 := eq_true q7
    go_enter Try.func43, Try.ntmps43
    go_wp2
    go_ret
    exact ⟨by first | rfl | (simp; done) | (simp [*]; done), by repeat (first | exact Drawn0.refl _ | apply Drawn0.step)⟩
   ·rw [if_neg c6] at H; have c6b0 : decide (48 ≤ (bt a0 a1)) = false := decide_eq_false c6; clear c6; obtain rfl := Option.some.inj H
    have p5 : 0 ≤ (a1 : Int) := of_decide_eq_true (by first | (with_reducible assumption) | assumption)
    have q5 : a1 < (a0.size : Int) := of_decide_eq_true (by first | (with_reducible assumption) | assumption)
    have hx5 := bt_at a0 a1; replace p5 := eq_true p5; replace q5 := eq_true q5
    go_enter Try.func43, Try.ntmps43
    go_wp2
    go_ret
    exact ⟨by first | rfl | (simp; done) | (simp [*]; done), by repeat (first | exact Drawn0.refl _ | apply Drawn0.step)⟩
  ·rw [if_neg c4] at H
   exact absurd H (by simp)
 ·rw [if_neg c3] at H; have c3b0 : decide (a1 < (a0.size : Int)) = false := decide_eq_false c3; clear c3; obtain rfl := Option.some.inj H
  go_enter Try.func43, Try.ntmps43
  go_wp2
  go_ret
  exact ⟨by first | rfl | (simp; done) | (simp [*]; done), by repeat (first | exact Drawn0.refl _ | apply Drawn0.step)⟩

end Go.Proofs.Ytfcpkehldmehjaa.X
namespace Go.Proofs.Ytfcpkehldmehjaa.X
open Go.RowKit Go.Proofs.YtfcpkehldmehjaaW.PrintWords Go.Proofs.YtfcpkehldmehjaaW.PrintLast Go.Proofs.YtfcpkehldmehjaaW.PrintMore
attribute [local go_sem] max2_int min2_int max_two min_two max_three min_three max_four min_four   -- for this text's walks alone
set_option linter.unusedVariables false
set_option linter.unusedSimpArgs false

/-! ### oculusref08_Abs: function 65 -/
def oculusref08_Abs.f (a0 : Int) : Option (Int) := if a0 < 0 then (some (IntKind.u64.wrap (wrap64 (-a0)))) else (some (IntKind.u64.wrap (a0)))
set_option maxHeartbeats 8000000 in
set_option maxRecDepth 100000 in
theorem oculusref08_Abs.calls (a0 : Int) (r : Int) (w : World) (h : oculusref08_Abs.f a0 = some r) :
  Calls Try.prog 65 #[.int .i64 a0] w fun e w' => e = .returned (.int .u64 r) ∧ Drawn0 w w' := by
 have H : (if a0 < 0 then (some (IntKind.u64.wrap (wrap64 (-a0)))) else (some (IntKind.u64.wrap (a0)))) = some r := h
 clear h
 by_cases c2 : a0 < 0
 ·rw [if_pos c2] at H; have c2b0 : decide (a0 < 0) = true := decide_eq_true c2; clear c2; obtain rfl := Option.some.inj H
  go_enter Try.func65, Try.ntmps65
  go_wp2
  go_ret
  exact ⟨by first | rfl | (simp; done) | (simp [*]; done), by repeat (first | exact Drawn0.refl _ | apply Drawn0.step)⟩
 ·rw [if_neg c2] at H; have c2b0 : decide (a0 < 0) = false := decide_eq_false c2; clear c2; obtain rfl := Option.some.inj H
  go_enter Try.func65, Try.ntmps65
  go_wp2
  go_ret
  exact ⟨by first | rfl | (simp; done) | (simp [*]; done), by repeat (first | exact Drawn0.refl _ | apply Drawn0.step)⟩

end Go.Proofs.Ytfcpkehldmehjaa.X
namespace Go.Proofs.Ytfcpkehldmehjaa.X
open Go.RowKit Go.Proofs.YtfcpkehldmehjaaW.PrintWords Go.Proofs.YtfcpkehldmehjaaW.PrintLast Go.Proofs.YtfcpkehldmehjaaW.PrintMore
attribute [local go_sem] max2_int min2_int max_two min_two max_three min_three max_four min_four   -- for this text's walks alone
set_option linter.unusedVariables false
set_option linter.unusedSimpArgs false

/-! ### oculusref08_Divide: function 66 -/
def oculusref08_Divide.l0 : Nat → Int → Int → Int → Int → Int → Int → Bool → Option (Int × Int × Bool)
 | 0, _, _, _, _, _, _, _ => none
 | k + 1, x1, x6, x102000, x102001, x104000, x104001, x104002 => if x6 < 128 then (if x104002 = true then (if (IntKind.u64.wrap ((IntKind.u64.wrap (x104001 * 2)) + (IntKind.u64.wrap (Int.tdiv x102000 9223372036854775808)))) ≥ x1 then (oculusref08_Divide.l0 k x1 (wrap64 (x6 + 1)) (IntKind.u64.wrap ((IntKind.u64.wrap (x102000 * 2)) + (IntKind.u64.wrap (Int.tdiv x102001 9223372036854775808)))) (IntKind.u64.wrap (x102001 * 2)) (IntKind.u64.wrap ((IntKind.u64.wrap (x104000 * 2)) + 1)) (IntKind.u64.wrap ((IntKind.u64.wrap ((IntKind.u64.wrap (x104001 * 2)) + (IntKind.u64.wrap (Int.tdiv x102000 9223372036854775808)))) - x1)) (decide (x104000 < 9223372036854775808))) else (oculusref08_Divide.l0 k x1 (wrap64 (x6 + 1)) (IntKind.u64.wrap ((IntKind.u64.wrap (x102000 * 2)) + (IntKind.u64.wrap (Int.tdiv x102001 9223372036854775808)))) (IntKind.u64.wrap (x102001 * 2)) (IntKind.u64.wrap (x104000 * 2)) (IntKind.u64.wrap ((IntKind.u64.wrap (x104001 * 2)) + (IntKind.u64.wrap (Int.tdiv x102000 9223372036854775808)))) (decide (x104000 < 9223372036854775808)))) else (if (IntKind.u64.wrap ((IntKind.u64.wrap (x104001 * 2)) + (IntKind.u64.wrap (Int.tdiv x102000 9223372036854775808)))) ≥ x1 then (oculusref08_Divide.l0 k x1 (wrap64 (x6 + 1)) (IntKind.u64.wrap ((IntKind.u64.wrap (x102000 * 2)) + (IntKind.u64.wrap (Int.tdiv x102001 9223372036854775808)))) (IntKind.u64.wrap (x102001 * 2)) (IntKind.u64.wrap ((IntKind.u64.wrap (x104000 * 2)) + 1)) (IntKind.u64.wrap ((IntKind.u64.wrap ((IntKind.u64.wrap (x104001 * 2)) + (IntKind.u64.wrap (Int.tdiv x102000 9223372036854775808)))) - x1)) false) else (oculusref08_Divide.l0 k x1 (wrap64 (x6 + 1)) (IntKind.u64.wrap ((IntKind.u64.wrap (x102000 * 2)) + (IntKind.u64.wrap (Int.tdiv x102001 9223372036854775808)))) (IntKind.u64.wrap (x102001 * 2)) (IntKind.u64.wrap (x104000 * 2)) (IntKind.u64.wrap ((IntKind.u64.wrap (x104001 * 2)) + (IntKind.u64.wrap (Int.tdiv x102000 9223372036854775808)))) false))) else (some (x104000, x104001, x104002))
def oculusref08_Divide.f (k : Nat) (a0_0 : Int) (a0_1 : Int) (a1 : Int) : Option (Int × Int × Bool) := oculusref08_Divide.l0 k a1 0 a0_0 a0_1 0 0 true
set_option maxHeartbeats 8000000 in
set_option maxRecDepth 100000 in
theorem oculusref08_Divide.calls (k : Nat) (a0_0 : Int) (a0_1 : Int) (a1 : Int) (r1 : Int) (r2 : Int) (r3 : Bool) (w : World) (h : oculusref08_Divide.f k a0_0 a0_1 a1 = some (r1, r2, r3)) :
  Calls Try.prog 66 #[.agg #[.int .u64 a0_0, .int .u64 a0_1], .int .u64 a1] w fun e w' => e = .returned (.agg #[.int .u64 r1, .int .u64 r2, .bool r3]) ∧ Below w.heap.size w w' := by
 have hu82 := Try.underlying82; have hu79 := Try.underlying79; have HB := Aside0.mk (Below.refl w.heap.size w)
 have H : (oculusref08_Divide.l0 k a1 0 a0_0 a0_1 0 0 true) = some (r1, r2, r3) := h
 clear h
 have H' := Aside0.mk H
 clear H
 go_enter Try.func66, Try.ntmps66
 go_wp2_with (first | ((with_reducible refine gate_dst (N:=2) rfl ?_); refine box_event ?hg (N:=2) ?hd (cs := #[.int .u64 a0_0, .int .u64 a0_1]) (t:=82) ?hr ?_; (case hd => rfl); (case hg => rfl); (case hr => first | (go_simp; done) | (go_simp; rfl)); intro gb101 hg w3 hbox hb; have BK101 := Aside0.mk (hbox); have GW101 := hs_ HB hg; have GE101 := hs_ HB hg; replace HB := bs_ HB hb; clear hb hbox hg) | ((with_reducible refine gate_dst (N:=4) rfl ?_); refine box_event ?hg (N:=4) ?hd (cs := #[.int .u64 0, .int .u64 0, .bool false]) (t:=79) ?hr ?_; (case hd => rfl); (case hg => rfl); (case hr => first | (go_simp; done) | (go_simp; rfl)); intro gb102 hg w4 hbox hb; have BK102 := Aside0.mk (hbox); have GW102 := hs_ HB hg; have GE102 := hs_ HB hg; have NB101_102 := hl_ BK101 hg; have NB102_101 := hr_ BK101 hg; replace BK101 := bb_ BK101 hb; replace HB := bs_ HB hb; clear hb hbox hg) | ((with_reducible refine gate_dst (N:=5) rfl ?_); refine box_event ?hg (N:=5) ?hd (cs := #[.int .u64 0, .int .u64 0, .bool false]) (t:=79) ?hr ?_; (case hd => rfl); (case hg => rfl); (case hr => first | (go_simp; done) | (go_simp; rfl)); intro gb103 hg w5 hbox hb; have BK103 := Aside0.mk (hbox); have GW103 := hs_ HB hg; have GE103 := hs_ HB hg; have NB101_103 := hl_ BK101 hg; have NB103_101 := hr_ BK101 hg; have NB102_103 := hl_ BK102 hg; have NB103_102 := hr_ BK102 hg; replace BK101 := bb_ BK101 hb; replace BK102 := bb_ BK102 hb; replace HB := bs_ HB hb; clear hb hbox hg; have hnb6 := NB103_101.out; have hnc6 := NB101_103.out; have hnb7 := NB103_102.out; have hnc7 := NB102_103.out; have hcz8_0 : w5.cell? ⟨gb103, 0, none⟩ = some (.int .u64 0) := bc_ BK103 0 rfl; have hcz8_1 : w5.cell? ⟨gb103, 1, none⟩ = some (.int .u64 0) := bc_ BK103 1 rfl; have hcz8_2 : w5.cell? ⟨gb103, 2, none⟩ = some (.bool false) := bc_ BK103 2 rfl; have hfz8_0 := blk_frozen BK103.out 0; have hfz8_1 := blk_frozen BK103.out 1; have hfz8_2 := blk_frozen BK103.out 2))
 go_loopg [6] k (fun kq v6 w' => ∃ (x6_1 : Int) (x102000_1 : Int) (x102001_1 : Int) (x104000_1 : Int) (x104001_1 : Int) (x104002_1 : Bool), v6 = .int .i64 x6_1 ∧ Aside0 (oculusref08_Divide.l0 kq a1 x6_1 x102000_1 x102001_1 x104000_1 x104001_1 x104002_1 = some (r1, r2, r3)) ∧ Aside0 (kq ≤ k) ∧ Aside0 (w'.heap[gb101]? = some (.cells #[.int .u64 x102000_1, .int .u64 x102001_1] 82 (0, 0))) ∧ Aside0 (w'.heap[gb102]? = some (.cells #[.int .u64 0, .int .u64 0, .bool false] 79 (0, 0))) ∧ Aside0 (w'.heap[gb103]? = some (.cells #[.int .u64 x104000_1, .int .u64 x104001_1, .bool x104002_1] 79 (0, 0))) ∧ Aside0 (Below w.heap.size w w'))
 case atStart => exact ⟨(0), (a0_0), (a0_1), (0), (0), (true), (by first | rfl | (simp; done) | (simp [*]; done)), H', ⟨Nat.le_refl _⟩, ⟨by (with_reducible repeat (first | refine blk_drewN ?_ _ | refine blk_drew ?_ | refine blk_alloc ?_ _)); refine blk_far ?_ NB101_103.out _; refine blk_far ?_ NB101_103.out _; refine blk_far ?_ NB101_103.out _; (with_reducible repeat (first | refine blk_drewN ?_ _ | refine blk_drew ?_ | refine blk_alloc ?_ _)); exact BK101.out⟩, ⟨by (with_reducible repeat (first | refine blk_drewN ?_ _ | refine blk_drew ?_ | refine blk_alloc ?_ _)); refine blk_far ?_ NB102_103.out _; refine blk_far ?_ NB102_103.out _; refine blk_far ?_ NB102_103.out _; (with_reducible repeat (first | refine blk_drewN ?_ _ | refine blk_drew ?_ | refine blk_alloc ?_ _)); exact BK102.out⟩, ⟨by (with_reducible repeat (first | refine blk_drewN ?_ _ | refine blk_drew ?_ | refine blk_alloc ?_ _)); refine blk_put (cs := #[.int .u64 0, .int .u64 0, .bool false]) ?_ 2 _ rfl; refine blk_put (cs := #[.int .u64 0, .int .u64 0, .bool false]) ?_ 1 _ rfl; refine blk_put (cs := #[.int .u64 0, .int .u64 0, .bool false]) ?_ 0 _ rfl; (with_reducible repeat (first | refine blk_drewN ?_ _ | refine blk_drew ?_ | refine blk_alloc ?_ _)); exact BK103.out⟩, ⟨by repeat (first | (with_reducible first | exact HB.out | apply below_alloc | apply pw_below_drewN | apply below_drew1 | refine below_set ?_ GE101.out | refine below_set ?_ GE102.out | refine below_set ?_ GE103.out) | exact HB.out)⟩⟩
 case round =>
  clear H'; (try clear p2); (try clear c6); (try clear c7); (try clear hcz8_0); (try clear hcz8_1); (try clear hcz8_2); (try clear hfz8_0); (try clear hfz8_1); (try clear hfz8_2); obtain ⟨x6_1, x102000_1, x102001_1, x104000_1, x104001_1, x104002_1, rfl, HA, HK1, BK101, BK102, BK103, HB⟩ := hrel
  cases gk with
  | zero => exact absurd HA.out (by simp [oculusref08_Divide.l0])
  | succ k1 =>
   have H := HA.out; clear HA
   simp only [oculusref08_Divide.l0] at H
   by_cases c9 : x6_1 < 128
   ·rw [if_pos c9] at H; have c9b0 : decide (x6_1 < 128) = true := decide_eq_true c9; clear c9
    by_cases c10 : x104002_1 = true
    ·subst c10
     have H1 : (if (IntKind.u64.wrap ((IntKind.u64.wrap (x104001_1 * 2)) + (IntKind.u64.wrap (Int.tdiv x102000_1 9223372036854775808)))) ≥ a1 then (oculusref08_Divide.l0 k1 a1 (wrap64 (x6_1 + 1)) (IntKind.u64.wrap ((IntKind.u64.wrap (x102000_1 * 2)) + (IntKind.u64.wrap (Int.tdiv x102001_1 9223372036854775808)))) (IntKind.u64.wrap (x102001_1 * 2)) (IntKind.u64.wrap ((IntKind.u64.wrap (x104000_1 * 2)) + 1)) (IntKind.u64.wrap ((IntKind.u64.wrap ((IntKind.u64.wrap (x104001_1 * 2)) + (IntKind.u64.wrap (Int.tdiv x102000_1 9223372036854775808)))) - a1)) (decide (x104000_1 < 9223372036854775808))) else (oculusref08_Divide.l0 k1 a1 (wrap64 (x6_1 + 1)) (IntKind.u64.wrap ((IntKind.u64.wrap (x102000_1 * 2)) + (IntKind.u64.wrap (Int.tdiv x102001_1 9223372036854775808)))) (IntKind.u64.wrap (x102001_1 * 2)) (IntKind.u64.wrap (x104000_1 * 2)) (IntKind.u64.wrap ((IntKind.u64.wrap (x104001_1 * 2)) + (IntKind.u64.wrap (Int.tdiv x102000_1 9223372036854775808)))) (decide (x104000_1 < 9223372036854775808)))) = some (r1, r2, r3) := by rw [if_pos rfl] at H; exact H
     clear H; have H := H1; clear H1
     by_cases c11 : (IntKind.u64.wrap ((IntKind.u64.wrap (x104001_1 * 2)) + (IntKind.u64.wrap (Int.tdiv x102000_1 9223372036854775808)))) ≥ a1
     ·rw [if_pos c11] at H; have c11b0 : decide (a1 ≤ (IntKind.u64.wrap ((IntKind.u64.wrap (x104001_1 * 2)) + (IntKind.u64.wrap (Int.tdiv x102000_1 9223372036854775808))))) = true := decide_eq_true c11; clear c11
      have H' := Aside0.mk H
      clear H; have hnb12 := NB101_102.out; have hnc12 := NB102_101.out; have hnb13 := NB101_103.out; have hnc13 := NB103_101.out
      have hcz14_0 : wr.cell? ⟨gb101, 0, none⟩ = some (.int .u64 x102000_1) := bc_ BK101 0 rfl
      have hcz14_1 : wr.cell? ⟨gb101, 1, none⟩ = some (.int .u64 x102001_1) := bc_ BK101 1 rfl
      have hfz14_0 := blk_frozen BK101.out 0; have hfz14_1 := blk_frozen BK101.out 1; have hnb15 := NB103_102.out; have hnc15 := NB102_103.out
      have hcz16_0 : wr.cell? ⟨gb103, 0, none⟩ = some (.int .u64 x104000_1) := bc_ BK103 0 rfl
      have hcz16_1 : wr.cell? ⟨gb103, 1, none⟩ = some (.int .u64 x104001_1) := bc_ BK103 1 rfl
      have hcz16_2 : wr.cell? ⟨gb103, 2, none⟩ = some (.bool true) := bc_ BK103 2 rfl
      have hfz16_0 := blk_frozen BK103.out 0; have hfz16_1 := blk_frozen BK103.out 1; have hfz16_2 := blk_frozen BK103.out 2
      go_wp2
      go_roundg k1
      case measure => have := HK1.out; omega
      case rel => exact ⟨(wrap64 (x6_1 + 1)), (IntKind.u64.wrap ((IntKind.u64.wrap (x102000_1 * 2)) + (IntKind.u64.wrap (Int.tdiv x102001_1 9223372036854775808)))), (IntKind.u64.wrap (x102001_1 * 2)), (IntKind.u64.wrap ((IntKind.u64.wrap (x104000_1 * 2)) + 1)), (IntKind.u64.wrap ((IntKind.u64.wrap ((IntKind.u64.wrap (x104001_1 * 2)) + (IntKind.u64.wrap (Int.tdiv x102000_1 9223372036854775808)))) - a1)), (decide (x104000_1 < 9223372036854775808)), (by first | rfl | (simp; done) | (simp [*]; done)), H', ⟨by have := HK1.out; omega⟩, ⟨by (with_reducible repeat (first | refine blk_drewN ?_ _ | refine blk_drew ?_ | refine blk_alloc ?_ _)); refine blk_far ?_ NB101_103.out _; refine blk_far ?_ NB101_103.out _; refine blk_far ?_ NB101_103.out _; refine blk_far ?_ NB101_103.out _; refine blk_far ?_ NB101_103.out _; (with_reducible repeat (first | refine blk_drewN ?_ _ | refine blk_drew ?_ | refine blk_alloc ?_ _)); refine blk_put (cs := #[.int .u64 (IntKind.u64.wrap ((IntKind.u64.wrap (x102000_1 * 2)) + (IntKind.u64.wrap (Int.tdiv x102001_1 9223372036854775808)))), .int .u64 x102001_1]) ?_ 1 _ rfl; refine blk_put (cs := #[.int .u64 x102000_1, .int .u64 x102001_1]) ?_ 0 _ rfl; (with_reducible repeat (first | refine blk_drewN ?_ _ | refine blk_drew ?_ | refine blk_alloc ?_ _)); exact BK101.out⟩, ⟨by (with_reducible repeat (first | refine blk_drewN ?_ _ | refine blk_drew ?_ | refine blk_alloc ?_ _)); refine blk_far ?_ NB102_103.out _; refine blk_far ?_ NB102_103.out _; refine blk_far ?_ NB102_103.out _; refine blk_far ?_ NB102_103.out _; refine blk_far ?_ NB102_103.out _; (with_reducible repeat (first | refine blk_drewN ?_ _ | refine blk_drew ?_ | refine blk_alloc ?_ _)); refine blk_far ?_ NB102_101.out _; refine blk_far ?_ NB102_101.out _; (with_reducible repeat (first | refine blk_drewN ?_ _ | refine blk_drew ?_ | refine blk_alloc ?_ _)); exact BK102.out⟩, ⟨by (with_reducible repeat (first | refine blk_drewN ?_ _ | refine blk_drew ?_ | refine blk_alloc ?_ _)); refine blk_put (cs := #[.int .u64 (IntKind.u64.wrap (x104000_1 * 2)), .int .u64 (IntKind.u64.wrap ((IntKind.u64.wrap ((IntKind.u64.wrap (x104001_1 * 2)) + (IntKind.u64.wrap (Int.tdiv x102000_1 9223372036854775808)))) - a1)), .bool (decide (x104000_1 < 9223372036854775808))]) ?_ 0 _ rfl; refine blk_put (cs := #[.int .u64 (IntKind.u64.wrap (x104000_1 * 2)), .int .u64 (IntKind.u64.wrap ((IntKind.u64.wrap (x104001_1 * 2)) + (IntKind.u64.wrap (Int.tdiv x102000_1 9223372036854775808)))), .bool (decide (x104000_1 < 9223372036854775808))]) ?_ 1 _ rfl; refine blk_put (cs := #[.int .u64 (IntKind.u64.wrap (x104000_1 * 2)), .int .u64 x104001_1, .bool (decide (x104000_1 < 9223372036854775808))]) ?_ 1 _ rfl; refine blk_put (cs := #[.int .u64 x104000_1, .int .u64 x104001_1, .bool (decide (x104000_1 < 9223372036854775808))]) ?_ 0 _ rfl; refine blk_put (cs := #[.int .u64 x104000_1, .int .u64 x104001_1, .bool true]) ?_ 2 _ rfl; (with_reducible repeat (first | refine blk_drewN ?_ _ | refine blk_drew ?_ | refine blk_alloc ?_ _)); refine blk_far ?_ NB103_101.out _; refine blk_far ?_ NB103_101.out _; (with_reducible repeat (first | refine blk_drewN ?_ _ | refine blk_drew ?_ | refine blk_alloc ?_ _)); exact BK103.out⟩, ⟨by repeat (first | (with_reducible first | exact HB.out | apply below_alloc | apply pw_below_drewN | apply below_drew1 | refine below_set ?_ GE101.out | refine below_set ?_ GE102.out | refine below_set ?_ GE103.out) | exact HB.out)⟩⟩
     ·rw [if_neg c11] at H; have c11b0 : decide (a1 ≤ (IntKind.u64.wrap ((IntKind.u64.wrap (x104001_1 * 2)) + (IntKind.u64.wrap (Int.tdiv x102000_1 9223372036854775808))))) = false := decide_eq_false c11; clear c11
      have H' := Aside0.mk H
      clear H; have hnb17 := NB101_102.out; have hnc17 := NB102_101.out; have hnb18 := NB101_103.out; have hnc18 := NB103_101.out
      have hcz19_0 : wr.cell? ⟨gb101, 0, none⟩ = some (.int .u64 x102000_1) := bc_ BK101 0 rfl
      have hcz19_1 : wr.cell? ⟨gb101, 1, none⟩ = some (.int .u64 x102001_1) := bc_ BK101 1 rfl
      have hfz19_0 := blk_frozen BK101.out 0; have hfz19_1 := blk_frozen BK101.out 1; have hnb20 := NB103_102.out; have hnc20 := NB102_103.out
      have hcz21_0 : wr.cell? ⟨gb103, 0, none⟩ = some (.int .u64 x104000_1) := bc_ BK103 0 rfl
      have hcz21_1 : wr.cell? ⟨gb103, 1, none⟩ = some (.int .u64 x104001_1) := bc_ BK103 1 rfl
      have hcz21_2 : wr.cell? ⟨gb103, 2, none⟩ = some (.bool true) := bc_ BK103 2 rfl
      have hfz21_0 := blk_frozen BK103.out 0; have hfz21_1 := blk_frozen BK103.out 1; have hfz21_2 := blk_frozen BK103.out 2
      go_wp2
      go_roundg k1
      case measure => have := HK1.out; omega
      case rel => exact ⟨(wrap64 (x6_1 + 1)), (IntKind.u64.wrap ((IntKind.u64.wrap (x102000_1 * 2)) + (IntKind.u64.wrap (Int.tdiv x102001_1 9223372036854775808)))), (IntKind.u64.wrap (x102001_1 * 2)), (IntKind.u64.wrap (x104000_1 * 2)), (IntKind.u64.wrap ((IntKind.u64.wrap (x104001_1 * 2)) + (IntKind.u64.wrap (Int.tdiv x102000_1 9223372036854775808)))), (decide (x104000_1 < 9223372036854775808)), (by first | rfl | (simp; done) | (simp [*]; done)), H', ⟨by have := HK1.out; omega⟩, ⟨by (with_reducible repeat (first | refine blk_drewN ?_ _ | refine blk_drew ?_ | refine blk_alloc ?_ _)); refine blk_far ?_ NB101_103.out _; refine blk_far ?_ NB101_103.out _; refine blk_far ?_ NB101_103.out _; (with_reducible repeat (first | refine blk_drewN ?_ _ | refine blk_drew ?_ | refine blk_alloc ?_ _)); refine blk_put (cs := #[.int .u64 (IntKind.u64.wrap ((IntKind.u64.wrap (x102000_1 * 2)) + (IntKind.u64.wrap (Int.tdiv x102001_1 9223372036854775808)))), .int .u64 x102001_1]) ?_ 1 _ rfl; refine blk_put (cs := #[.int .u64 x102000_1, .int .u64 x102001_1]) ?_ 0 _ rfl; (with_reducible repeat (first | refine blk_drewN ?_ _ | refine blk_drew ?_ | refine blk_alloc ?_ _)); exact BK101.out⟩, ⟨by (with_reducible repeat (first | refine blk_drewN ?_ _ | refine blk_drew ?_ | refine blk_alloc ?_ _)); refine blk_far ?_ NB102_103.out _; refine blk_far ?_ NB102_103.out _; refine blk_far ?_ NB102_103.out _; (with_reducible repeat (first | refine blk_drewN ?_ _ | refine blk_drew ?_ | refine blk_alloc ?_ _)); refine blk_far ?_ NB102_101.out _; refine blk_far ?_ NB102_101.out _; (with_reducible repeat (first | refine blk_drewN ?_ _ | refine blk_drew ?_ | refine blk_alloc ?_ _)); exact BK102.out⟩, ⟨by (with_reducible repeat (first | refine blk_drewN ?_ _ | refine blk_drew ?_ | refine blk_alloc ?_ _)); refine blk_put (cs := #[.int .u64 (IntKind.u64.wrap (x104000_1 * 2)), .int .u64 x104001_1, .bool (decide (x104000_1 < 9223372036854775808))]) ?_ 1 _ rfl; refine blk_put (cs := #[.int .u64 x104000_1, .int .u64 x104001_1, .bool (decide (x104000_1 < 9223372036854775808))]) ?_ 0 _ rfl; refine blk_put (cs := #[.int .u64 x104000_1, .int .u64 x104001_1, .bool true]) ?_ 2 _ rfl; (with_reducible repeat (first | refine blk_drewN ?_ _ | refine blk_drew ?_ | refine blk_alloc ?_ _)); refine blk_far ?_ NB103_101.out _; refine blk_far ?_ NB103_101.out _; (with_reducible repeat (first | refine blk_drewN ?_ _ | refine blk_drew ?_ | refine blk_alloc ?_ _)); exact BK103.out⟩, ⟨by repeat (first | (with_reducible first | exact HB.out | apply below_alloc | apply pw_below_drewN | apply below_drew1 | refine below_set ?_ GE101.out | refine below_set ?_ GE102.out | refine below_set ?_ GE103.out) | exact HB.out)⟩⟩
    ·replace c10 := Bool.eq_false_iff.mpr c10; subst c10
     have H1 : (if (IntKind.u64.wrap ((IntKind.u64.wrap (x104001_1 * 2)) + (IntKind.u64.wrap (Int.tdiv x102000_1 9223372036854775808)))) ≥ a1 then (oculusref08_Divide.l0 k1 a1 (wrap64 (x6_1 + 1)) (IntKind.u64.wrap ((IntKind.u64.wrap (x102000_1 * 2)) + (IntKind.u64.wrap (Int.tdiv x102001_1 9223372036854775808)))) (IntKind.u64.wrap (x102001_1 * 2)) (IntKind.u64.wrap ((IntKind.u64.wrap (x104000_1 * 2)) + 1)) (IntKind.u64.wrap ((IntKind.u64.wrap ((IntKind.u64.wrap (x104001_1 * 2)) + (IntKind.u64.wrap (Int.tdiv x102000_1 9223372036854775808)))) - a1)) false) else (oculusref08_Divide.l0 k1 a1 (wrap64 (x6_1 + 1)) (IntKind.u64.wrap ((IntKind.u64.wrap (x102000_1 * 2)) + (IntKind.u64.wrap (Int.tdiv x102001_1 9223372036854775808)))) (IntKind.u64.wrap (x102001_1 * 2)) (IntKind.u64.wrap (x104000_1 * 2)) (IntKind.u64.wrap ((IntKind.u64.wrap (x104001_1 * 2)) + (IntKind.u64.wrap (Int.tdiv x102000_1 9223372036854775808)))) false)) = some (r1, r2, r3) := by rw [if_neg (show ¬ (false = true) by decide)] at H; exact H
     clear H; have H := H1; clear H1
     by_cases c22 : (IntKind.u64.wrap ((IntKind.u64.wrap (x104001_1 * 2)) + (IntKind.u64.wrap (Int.tdiv x102000_1 9223372036854775808)))) ≥ a1
     ·rw [if_pos c22] at H; have c22b0 : decide (a1 ≤ (IntKind.u64.wrap ((IntKind.u64.wrap (x104001_1 * 2)) + (IntKind.u64.wrap (Int.tdiv x102000_1 9223372036854775808))))) = true := decide_eq_true c22; clear c22
      have H' := Aside0.mk H
      clear H; have hnb23 := NB101_102.out; have hnc23 := NB102_101.out; have hnb24 := NB101_103.out; have hnc24 := NB103_101.out
      have hcz25_0 : wr.cell? ⟨gb101, 0, none⟩ = some (.int .u64 x102000_1) := bc_ BK101 0 rfl
      have hcz25_1 : wr.cell? ⟨gb101, 1, none⟩ = some (.int .u64 x102001_1) := bc_ BK101 1 rfl
      have hfz25_0 := blk_frozen BK101.out 0; have hfz25_1 := blk_frozen BK101.out 1; have hnb26 := NB103_102.out; have hnc26 := NB102_103.out
      have hcz27_0 : wr.cell? ⟨gb103, 0, none⟩ = some (.int .u64 x104000_1) := bc_ BK103 0 rfl
      have hcz27_1 : wr.cell? ⟨gb103, 1, none⟩ = some (.int .u64 x104001_1) := bc_ BK103 1 rfl
      have hcz27_2 : wr.cell? ⟨gb103, 2, none⟩ = some (.bool false) := bc_ BK103 2 rfl
      have hfz27_0 := blk_frozen BK103.out 0; have hfz27_1 := blk_frozen BK103.out 1; have hfz27_2 := blk_frozen BK103.out 2
      go_wp2
      go_roundg k1
      case measure => have := HK1.out; omega
      case rel => exact ⟨(wrap64 (x6_1 + 1)), (IntKind.u64.wrap ((IntKind.u64.wrap (x102000_1 * 2)) + (IntKind.u64.wrap (Int.tdiv x102001_1 9223372036854775808)))), (IntKind.u64.wrap (x102001_1 * 2)), (IntKind.u64.wrap ((IntKind.u64.wrap (x104000_1 * 2)) + 1)), (IntKind.u64.wrap ((IntKind.u64.wrap ((IntKind.u64.wrap (x104001_1 * 2)) + (IntKind.u64.wrap (Int.tdiv x102000_1 9223372036854775808)))) - a1)), (false), (by first | rfl | (simp; done) | (simp [*]; done)), H', ⟨by have := HK1.out; omega⟩, ⟨by (with_reducible repeat (first | refine blk_drewN ?_ _ | refine blk_drew ?_ | refine blk_alloc ?_ _)); refine blk_far ?_ NB101_103.out _; refine blk_far ?_ NB101_103.out _; refine blk_far ?_ NB101_103.out _; refine blk_far ?_ NB101_103.out _; refine blk_far ?_ NB101_103.out _; (with_reducible repeat (first | refine blk_drewN ?_ _ | refine blk_drew ?_ | refine blk_alloc ?_ _)); refine blk_put (cs := #[.int .u64 (IntKind.u64.wrap ((IntKind.u64.wrap (x102000_1 * 2)) + (IntKind.u64.wrap (Int.tdiv x102001_1 9223372036854775808)))), .int .u64 x102001_1]) ?_ 1 _ rfl; refine blk_put (cs := #[.int .u64 x102000_1, .int .u64 x102001_1]) ?_ 0 _ rfl; (with_reducible repeat (first | refine blk_drewN ?_ _ | refine blk_drew ?_ | refine blk_alloc ?_ _)); exact BK101.out⟩, ⟨by (with_reducible repeat (first | refine blk_drewN ?_ _ | refine blk_drew ?_ | refine blk_alloc ?_ _)); refine blk_far ?_ NB102_103.out _; refine blk_far ?_ NB102_103.out _; refine blk_far ?_ NB102_103.out _; refine blk_far ?_ NB102_103.out _; refine blk_far ?_ NB102_103.out _; (with_reducible repeat (first | refine blk_drewN ?_ _ | refine blk_drew ?_ | refine blk_alloc ?_ _)); refine blk_far ?_ NB102_101.out _; refine blk_far ?_ NB102_101.out _; (with_reducible repeat (first | refine blk_drewN ?_ _ | refine blk_drew ?_ | refine blk_alloc ?_ _)); exact BK102.out⟩, ⟨by (with_reducible repeat (first | refine blk_drewN ?_ _ | refine blk_drew ?_ | refine blk_alloc ?_ _)); refine blk_put (cs := #[.int .u64 (IntKind.u64.wrap (x104000_1 * 2)), .int .u64 (IntKind.u64.wrap ((IntKind.u64.wrap ((IntKind.u64.wrap (x104001_1 * 2)) + (IntKind.u64.wrap (Int.tdiv x102000_1 9223372036854775808)))) - a1)), .bool false]) ?_ 0 _ rfl; refine blk_put (cs := #[.int .u64 (IntKind.u64.wrap (x104000_1 * 2)), .int .u64 (IntKind.u64.wrap ((IntKind.u64.wrap (x104001_1 * 2)) + (IntKind.u64.wrap (Int.tdiv x102000_1 9223372036854775808)))), .bool false]) ?_ 1 _ rfl; refine blk_put (cs := #[.int .u64 (IntKind.u64.wrap (x104000_1 * 2)), .int .u64 x104001_1, .bool false]) ?_ 1 _ rfl; refine blk_put (cs := #[.int .u64 x104000_1, .int .u64 x104001_1, .bool false]) ?_ 0 _ rfl; refine blk_put (cs := #[.int .u64 x104000_1, .int .u64 x104001_1, .bool false]) ?_ 2 _ rfl; (with_reducible repeat (first | refine blk_drewN ?_ _ | refine blk_drew ?_ | refine blk_alloc ?_ _)); refine blk_far ?_ NB103_101.out _; refine blk_far ?_ NB103_101.out _; (with_reducible repeat (first | refine blk_drewN ?_ _ | refine blk_drew ?_ | refine blk_alloc ?_ _)); exact BK103.out⟩, ⟨by repeat (first | (with_reducible first | exact HB.out | apply below_alloc | apply pw_below_drewN | apply below_drew1 | refine below_set ?_ GE101.out | refine below_set ?_ GE102.out | refine below_set ?_ GE103.out) | exact HB.out)⟩⟩
     ·rw [if_neg c22] at H; have c22b0 : decide (a1 ≤ (IntKind.u64.wrap ((IntKind.u64.wrap (x104001_1 * 2)) + (IntKind.u64.wrap (Int.tdiv x102000_1 9223372036854775808))))) = false := decide_eq_false c22; clear c22
      have H' := Aside0.mk H
      clear H; have hnb28 := NB101_102.out; have hnc28 := NB102_101.out; have hnb29 := NB101_103.out; have hnc29 := NB103_101.out
      have hcz30_0 : wr.cell? ⟨gb101, 0, none⟩ = some (.int .u64 x102000_1) := bc_ BK101 0 rfl
      have hcz30_1 : wr.cell? ⟨gb101, 1, none⟩ = some (.int .u64 x102001_1) := bc_ BK101 1 rfl
      have hfz30_0 := blk_frozen BK101.out 0; have hfz30_1 := blk_frozen BK101.out 1; have hnb31 := NB103_102.out; have hnc31 := NB102_103.out
      have hcz32_0 : wr.cell? ⟨gb103, 0, none⟩ = some (.int .u64 x104000_1) := bc_ BK103 0 rfl
      have hcz32_1 : wr.cell? ⟨gb103, 1, none⟩ = some (.int .u64 x104001_1) := bc_ BK103 1 rfl
      have hcz32_2 : wr.cell? ⟨gb103, 2, none⟩ = some (.bool false) := bc_ BK103 2 rfl
      have hfz32_0 := blk_frozen BK103.out 0; have hfz32_1 := blk_frozen BK103.out 1; have hfz32_2 := blk_frozen BK103.out 2
      go_wp2
      go_roundg k1
      case measure => have := HK1.out; omega
      case rel => exact ⟨(wrap64 (x6_1 + 1)), (IntKind.u64.wrap ((IntKind.u64.wrap (x102000_1 * 2)) + (IntKind.u64.wrap (Int.tdiv x102001_1 9223372036854775808)))), (IntKind.u64.wrap (x102001_1 * 2)), (IntKind.u64.wrap (x104000_1 * 2)), (IntKind.u64.wrap ((IntKind.u64.wrap (x104001_1 * 2)) + (IntKind.u64.wrap (Int.tdiv x102000_1 9223372036854775808)))), (false), (by first | rfl | (simp; done) | (simp [*]; done)), H', ⟨by have := HK1.out; omega⟩, ⟨by (with_reducible repeat (first | refine blk_drewN ?_ _ | refine blk_drew ?_ | refine blk_alloc ?_ _)); refine blk_far ?_ NB101_103.out _; refine blk_far ?_ NB101_103.out _; refine blk_far ?_ NB101_103.out _; (with_reducible repeat (first | refine blk_drewN ?_ _ | refine blk_drew ?_ | refine blk_alloc ?_ _)); refine blk_put (cs := #[.int .u64 (IntKind.u64.wrap ((IntKind.u64.wrap (x102000_1 * 2)) + (IntKind.u64.wrap (Int.tdiv x102001_1 9223372036854775808)))), .int .u64 x102001_1]) ?_ 1 _ rfl; refine blk_put (cs := #[.int .u64 x102000_1, .int .u64 x102001_1]) ?_ 0 _ rfl; (with_reducible repeat (first | refine blk_drewN ?_ _ | refine blk_drew ?_ | refine blk_alloc ?_ _)); exact BK101.out⟩, ⟨by (with_reducible repeat (first | refine blk_drewN ?_ _ | refine blk_drew ?_ | refine blk_alloc ?_ _)); refine blk_far ?_ NB102_103.out _; refine blk_far ?_ NB102_103.out _; refine blk_far ?_ NB102_103.out _; (with_reducible repeat (first | refine blk_drewN ?_ _ | refine blk_drew ?_ | refine blk_alloc ?_ _)); refine blk_far ?_ NB102_101.out _; refine blk_far ?_ NB102_101.out _; (with_reducible repeat (first | refine blk_drewN ?_ _ | refine blk_drew ?_ | refine blk_alloc ?_ _)); exact BK102.out⟩, ⟨by (with_reducible repeat (first | refine blk_drewN ?_ _ | refine blk_drew ?_ | refine blk_alloc ?_ _)); refine blk_put (cs := #[.int .u64 (IntKind.u64.wrap (x104000_1 * 2)), .int .u64 x104001_1, .bool false]) ?_ 1 _ rfl; refine blk_put (cs := #[.int .u64 x104000_1, .int .u64 x104001_1, .bool false]) ?_ 0 _ rfl; refine blk_put (cs := #[.int .u64 x104000_1, .int .u64 x104001_1, .bool false]) ?_ 2 _ rfl; (with_reducible repeat (first | refine blk_drewN ?_ _ | refine blk_drew ?_ | refine blk_alloc ?_ _)); refine blk_far ?_ NB103_101.out _; refine blk_far ?_ NB103_101.out _; (with_reducible repeat (first | refine blk_drewN ?_ _ | refine blk_drew ?_ | refine blk_alloc ?_ _)); exact BK103.out⟩, ⟨by repeat (first | (with_reducible first | exact HB.out | apply below_alloc | apply pw_below_drewN | apply below_drew1 | refine below_set ?_ GE101.out | refine below_set ?_ GE102.out | refine below_set ?_ GE103.out) | exact HB.out)⟩⟩
   ·rw [if_neg c9] at H; have c9b0 : decide (x6_1 < 128) = false := decide_eq_false c9; clear c9
    simp only [Option.some.injEq, Prod.mk.injEq] at H
    obtain ⟨rfl, rfl, rfl⟩ := H; have hnb33 := NB103_101.out; have hnc33 := NB101_103.out; have hnb34 := NB103_102.out; have hnc34 := NB102_103.out
    have hcz35_0 : wr.cell? ⟨gb103, 0, none⟩ = some (.int .u64 x104000_1) := bc_ BK103 0 rfl
    have hcz35_1 : wr.cell? ⟨gb103, 1, none⟩ = some (.int .u64 x104001_1) := bc_ BK103 1 rfl
    have hcz35_2 : wr.cell? ⟨gb103, 2, none⟩ = some (.bool x104002_1) := bc_ BK103 2 rfl
    have hfz35_0 := blk_frozen BK103.out 0; have hfz35_1 := blk_frozen BK103.out 1; have hfz35_2 := blk_frozen BK103.out 2; have hnb36 := NB102_101.out; have hnc36 := NB101_102.out
    have hcz37_0 : wr.cell? ⟨gb102, 0, none⟩ = some (.int .u64 0) := bc_ BK102 0 rfl
    have hcz37_1 : wr.cell? ⟨gb102, 1, none⟩ = some (.int .u64 0) := bc_ BK102 1 rfl
    have hcz37_2 : wr.cell? ⟨gb102, 2, none⟩ = some (.bool false) := bc_ BK102 2 rfl
    have hfz37_0 := blk_frozen BK102.out 0; have hfz37_1 := blk_frozen BK102.out 1; have hfz37_2 := blk_frozen BK102.out 2
    go_wp2
    refine bodyPost_ret (results_cell_row rfl _ _ gb102 79 #[.int .u64 x104000_1, .int .u64 x104001_1, .bool x104002_1] (0, 0) _ rfl (by (with_reducible repeat (first | refine blk_drewN ?_ _ | refine blk_drew ?_ | refine blk_alloc ?_ _)); refine blk_put (cs := #[.int .u64 x104000_1, .int .u64 x104001_1, .bool false]) ?_ 2 _ rfl; refine blk_put (cs := #[.int .u64 x104000_1, .int .u64 0, .bool false]) ?_ 1 _ rfl; refine blk_put (cs := #[.int .u64 0, .int .u64 0, .bool false]) ?_ 0 _ rfl; (with_reducible repeat (first | refine blk_drewN ?_ _ | refine blk_drew ?_ | refine blk_alloc ?_ _)); exact BK102.out) Try.underlying79 rfl (by kernel_rfl)) rfl ?_
    exact ⟨by first | rfl | (simp [errW_none, errW_some] <;> rfl) | (simp [*, errW_none, errW_some] <;> rfl), by repeat (first | (with_reducible first | exact HB.out | apply below_alloc | apply pw_below_drewN | apply below_drew1 | refine below_set ?_ GE101.out | refine below_set ?_ GE102.out | refine below_set ?_ GE103.out) | exact HB.out)⟩

end Go.Proofs.Ytfcpkehldmehjaa.X
namespace Go.Proofs.Ytfcpkehldmehjaa.X
open Go.RowKit Go.Proofs.YtfcpkehldmehjaaW.PrintWords Go.Proofs.YtfcpkehldmehjaaW.PrintLast Go.Proofs.YtfcpkehldmehjaaW.PrintMore
attribute [local go_sem] max2_int min2_int max_two min_two max_three min_three max_four min_four   -- for this text's walks alone
set_option linter.unusedVariables false
set_option linter.unusedSimpArgs false

/-! ### oculusref08_Times: function 67 -/
def oculusref08_Times.f (a0 : Int) (a1 : Int) : Option (Int × Int) := some (IntKind.u64.wrap ((IntKind.u64.wrap ((IntKind.u64.wrap ((IntKind.u64.wrap (Int.tdiv a0 4294967296)) * (IntKind.u64.wrap (Int.tdiv a1 4294967296)))) + (IntKind.u64.wrap (Int.tdiv (IntKind.u64.wrap ((IntKind.u64.wrap ((IntKind.u64.wrap (Int.tdiv a0 4294967296)) * (Int.tmod a1 4294967296))) + (IntKind.u64.wrap (Int.tdiv (IntKind.u64.wrap ((Int.tmod a0 4294967296) * (Int.tmod a1 4294967296))) 4294967296)))) 4294967296)))) + (IntKind.u64.wrap (Int.tdiv (IntKind.u64.wrap ((IntKind.u64.wrap ((Int.tmod a0 4294967296) * (IntKind.u64.wrap (Int.tdiv a1 4294967296)))) + (Int.tmod (IntKind.u64.wrap ((IntKind.u64.wrap ((IntKind.u64.wrap (Int.tdiv a0 4294967296)) * (Int.tmod a1 4294967296))) + (IntKind.u64.wrap (Int.tdiv (IntKind.u64.wrap ((Int.tmod a0 4294967296) * (Int.tmod a1 4294967296))) 4294967296)))) 4294967296))) 4294967296))), IntKind.u64.wrap ((IntKind.u64.wrap ((Int.tmod (IntKind.u64.wrap ((IntKind.u64.wrap ((Int.tmod a0 4294967296) * (IntKind.u64.wrap (Int.tdiv a1 4294967296)))) + (Int.tmod (IntKind.u64.wrap ((IntKind.u64.wrap ((IntKind.u64.wrap (Int.tdiv a0 4294967296)) * (Int.tmod a1 4294967296))) + (IntKind.u64.wrap (Int.tdiv (IntKind.u64.wrap ((Int.tmod a0 4294967296) * (Int.tmod a1 4294967296))) 4294967296)))) 4294967296))) 4294967296) * 4294967296)) + (Int.tmod (IntKind.u64.wrap ((Int.tmod a0 4294967296) * (Int.tmod a1 4294967296))) 4294967296)))
def oculusref08_Times.T2 : Bool × List (List Nat × List Nat) := (true, [([], []), ([], []), ([0, 1], [0, 1]), ([], []), ([], []), ([3, 4], [3, 4]), ([2, 5], [2, 5]), ([6, 0, 1, 2, 3, 4, 5, 6], [6])])
def oculusref08_Times.B2 : List Nat := [0, 0, 3, 0, 0, 24, 63, 127]
theorem oculusref08_Times.tab2 : rtab .any (opsOf Try.f67 2) = oculusref08_Times.T2 := by kernel_rfl
theorem oculusref08_Times.bits2 : waitsOk oculusref08_Times.T2.2 oculusref08_Times.B2 = true := by kernel_rfl
def oculusref08_Times.T3 : Bool × List (List Nat × List Nat) := (true, [([], []), ([], []), ([0, 1], [0, 1]), ([], []), ([], []), ([3, 4], [3, 4]), ([2, 5], [2, 5]), ([], []), ([], []), ([7, 8], [7, 8]), ([6, 9], [6, 9]), ([10, 0, 1, 2, 3, 4, 5, 6, 7, 8, 9, 10], [10])])
def oculusref08_Times.B3 : List Nat := [0, 0, 3, 0, 0, 24, 63, 0, 0, 384, 1023, 2047]
theorem oculusref08_Times.tab3 : rtab .any (opsOf Try.f67 3) = oculusref08_Times.T3 := by kernel_rfl
theorem oculusref08_Times.bits3 : waitsOk oculusref08_Times.T3.2 oculusref08_Times.B3 = true := by kernel_rfl
def oculusref08_Times.T4 : Bool × List (List Nat × List Nat) := (true, [([], []), ([], []), ([0, 1], [0, 1]), ([], []), ([], []), ([3, 4], [3, 4]), ([2, 5], [2, 5]), ([], []), ([], []), ([7, 8], [7, 8]), ([6, 9], [6, 9]), ([10, 0, 1, 2, 3, 4, 5, 6, 7, 8, 9, 10], [10])])
def oculusref08_Times.B4 : List Nat := [0, 0, 3, 0, 0, 24, 63, 0, 0, 384, 1023, 2047]
theorem oculusref08_Times.tab4 : rtab .any (opsOf Try.f67 4) = oculusref08_Times.T4 := by kernel_rfl
theorem oculusref08_Times.bits4 : waitsOk oculusref08_Times.T4.2 oculusref08_Times.B4 = true := by kernel_rfl
def oculusref08_Times.T5 : Bool × List (List Nat × List Nat) := (true, [([], []), ([], []), ([0, 1], [0, 1]), ([], []), ([], []), ([3, 4], [3, 4]), ([2, 5], [2, 5]), ([], []), ([], []), ([7, 8], [7, 8]), ([6, 9], [6, 9]), ([], []), ([], []), ([11, 12], [11, 12]), ([10, 13], [10, 13]), ([], []), ([], []), ([15, 16], [15, 16]), ([], []), ([17, 18], [17, 18]), ([], []), ([], []), ([20, 21], [20, 21]), ([19, 22], [19, 22]), ([14, 23], [14, 23]), ([24, 0, 1, 2, 3, 4, 5, 6, 7, 8, 9, 10, 11, 12, 13, 14, 15, 16, 17, 18, 19, 20, 21, 22, 23, 24], [24])])
def oculusref08_Times.B5 : List Nat := [0, 0, 3, 0, 0, 24, 63, 0, 0, 384, 1023, 0, 0, 6144, 16383, 0, 0, 98304, 0, 491520, 0, 0, 3145728, 8355840, 16777215, 33554431]
theorem oculusref08_Times.tab5 : rtab .any (opsOf Try.f67 5) = oculusref08_Times.T5 := by kernel_rfl
theorem oculusref08_Times.bits5 : waitsOk oculusref08_Times.T5.2 oculusref08_Times.B5 = true := by kernel_rfl
set_option maxHeartbeats 8000000 in
set_option maxRecDepth 100000 in
theorem oculusref08_Times.calls (a0 : Int) (a1 : Int) (r1 : Int) (r2 : Int) (w : World) (h : oculusref08_Times.f a0 a1 = some (r1, r2)) :
  Calls Try.prog 67 #[.int .u64 a0, .int .u64 a1] w fun e w' => e = .returned (.agg #[.int .u64 r1, .int .u64 r2]) ∧ Below w.heap.size w w' := by
 have hu82 := Try.underlying82; have HB := Aside0.mk (Below.refl w.heap.size w)
 have H : (some (IntKind.u64.wrap ((IntKind.u64.wrap ((IntKind.u64.wrap ((IntKind.u64.wrap (Int.tdiv a0 4294967296)) * (IntKind.u64.wrap (Int.tdiv a1 4294967296)))) + (IntKind.u64.wrap (Int.tdiv (IntKind.u64.wrap ((IntKind.u64.wrap ((IntKind.u64.wrap (Int.tdiv a0 4294967296)) * (Int.tmod a1 4294967296))) + (IntKind.u64.wrap (Int.tdiv (IntKind.u64.wrap ((Int.tmod a0 4294967296) * (Int.tmod a1 4294967296))) 4294967296)))) 4294967296)))) + (IntKind.u64.wrap (Int.tdiv (IntKind.u64.wrap ((IntKind.u64.wrap ((Int.tmod a0 4294967296) * (IntKind.u64.wrap (Int.tdiv a1 4294967296)))) + (Int.tmod (IntKind.u64.wrap ((IntKind.u64.wrap ((IntKind.u64.wrap (Int.tdiv a0 4294967296)) * (Int.tmod a1 4294967296))) + (IntKind.u64.wrap (Int.tdiv (IntKind.u64.wrap ((Int.tmod a0 4294967296) * (Int.tmod a1 4294967296))) 4294967296)))) 4294967296))) 4294967296))), IntKind.u64.wrap ((IntKind.u64.wrap ((Int.tmod (IntKind.u64.wrap ((IntKind.u64.wrap ((Int.tmod a0 4294967296) * (IntKind.u64.wrap (Int.tdiv a1 4294967296)))) + (Int.tmod (IntKind.u64.wrap ((IntKind.u64.wrap ((IntKind.u64.wrap (Int.tdiv a0 4294967296)) * (Int.tmod a1 4294967296))) + (IntKind.u64.wrap (Int.tdiv (IntKind.u64.wrap ((Int.tmod a0 4294967296) * (Int.tmod a1 4294967296))) 4294967296)))) 4294967296))) 4294967296) * 4294967296)) + (Int.tmod (IntKind.u64.wrap ((Int.tmod a0 4294967296) * (Int.tmod a1 4294967296))) 4294967296)))) = some (r1, r2) := h
 clear h
 simp only [Option.some.injEq, Prod.mk.injEq] at H
 obtain ⟨rfl, rfl⟩ := H
 go_enter Try.func67, Try.ntmps67
 try go_wp2_with (first | ((with_reducible refine gate_dst (N:=4) rfl ?_); refine box_event ?hg (N:=4) ?hd (cs := #[.int .u64 0, .int .u64 0]) (t:=82) ?hr ?_; (case hd => rfl); (case hg => rfl); (case hr => first | (go_simp; done) | (go_simp; rfl)); intro gb101 hg w3 hbox hb; have BK101 := Aside0.mk (hbox); have GW101 := hs_ HB hg; have GE101 := hs_ HB hg; replace HB := bs_ HB hb; clear hb hbox hg))
 (try (rw [drewN_self w3]; generalize hq_ : World.drewN w3 _ = w3; have n0_ : Aside0 (w3.heap[gb101]? = some (.cells #[.int .u64 0, .int .u64 0] 82 (0, 0))) := ⟨by rw [← hq_]; exact (pkx BK101)⟩; have n1_ : Aside0 (Below w.heap.size w w3) := ⟨by rw [← hq_]; exact (pbx HB)⟩; clear BK101 HB hq_; have BK101 := n0_; have HB := n1_; clear n0_ n1_))
 replace BK101 := Aside0.mk (blk_drew BK101.out); replace HB := Aside0.mk (below_drew1 HB.out)
 refine start_ (n:=8) (S := fun w' => True) (ds := []) #[F,F,F,F,F,F,F,F] (by kernel_rfl) rfl rfl trivial (fun hHeld => ?_); refine with_tabW oculusref08_Times.tab2 oculusref08_Times.bits2 (fun HT_ HW_ => ?_)
 generalize w3.drew = w4 at BK101 HB hHeld ⊢; refine pure_ (i:=0) (N:=some 9) (v:=?_) (a':=?_) ⟨m_ 8 1⟩ rfl rfl (any_of HT_.out (by kernel_rfl)) (fun _ _ _ h=>h) (Or.inl ⟨rfl, ?_⟩) ?_ ?_; rotate_left
 ·intro w'; go_simp; with_reducible rfl
 rotate_left
 ·simp only [q_, i64_w, i32_w]; rfl
 refine pure_ (i:=1) (N:=some 10) (v:=?_) (a':=?_) ⟨m_ 8 3⟩ rfl rfl (any_of HT_.out (by kernel_rfl)) (fun _ _ _ h=>h) (Or.inl ⟨rfl, ?_⟩) ?_ ?_; rotate_left
 ·intro w'; go_simp; with_reducible rfl
 rotate_left
 ·simp only [q_, i64_w, i32_w]; rfl
 refine pure_ (i:=2) (N:=some 11) (v:=?_) (a':=?_) ⟨m_ 8 7⟩ rfl rfl (any_of HT_.out (by kernel_rfl)) (fun _ _ _ h=>h) (Or.inl ⟨rfl, ?_⟩) ?_ ?_; rotate_left
 ·intro w'; go_simp; with_reducible rfl
 rotate_left
 ·simp only [q_, i64_w, i32_w]; rfl
 refine pure_ (i:=3) (N:=some 12) (v:=?_) (a':=?_) ⟨m_ 8 15⟩ rfl rfl (any_of HT_.out (by kernel_rfl)) (fun _ _ _ h=>h) (Or.inl ⟨rfl, ?_⟩) ?_ ?_; rotate_left
 ·intro w'; go_simp; with_reducible rfl
 rotate_left
 ·simp only [q_, i64_w, i32_w]; rfl
 refine pure_ (i:=4) (N:=some 13) (v:=?_) (a':=?_) ⟨m_ 8 31⟩ rfl rfl (any_of HT_.out (by kernel_rfl)) (fun _ _ _ h=>h) (Or.inl ⟨rfl, ?_⟩) ?_ ?_; rotate_left
 ·intro w'; go_simp; with_reducible rfl
 rotate_left
 ·simp only [q_, i64_w, i32_w]; rfl
 refine pure_ (i:=5) (N:=some 14) (v:=?_) (a':=?_) ⟨m_ 8 63⟩ rfl rfl (any_of HT_.out (by kernel_rfl)) (fun _ _ _ h=>h) (Or.inl ⟨rfl, ?_⟩) ?_ ?_; rotate_left
 ·intro w'; go_simp; with_reducible rfl
 rotate_left
 ·simp only [q_, i64_w, i32_w]; rfl
 refine pure_ (i:=6) (N:=some 15) (v:=?_) (a':=?_) ⟨m_ 8 127⟩ rfl rfl (any_of HT_.out (by kernel_rfl)) (fun _ _ _ h=>h) (Or.inl ⟨rfl, ?_⟩) ?_ ?_; rotate_left
 ·intro w'; go_simp; with_reducible rfl
 rotate_left
 ·simp only [q_, i64_w, i32_w]; rfl
 refine pure_ (i:=7) (N:=some 6) (v:=?_) (a':=?_) ⟨m_ 8 255⟩ rfl rfl (any_of HT_.out (by kernel_rfl)) (fun _ _ _ h=>h) (Or.inl ⟨rfl, ?_⟩) ?_ ?_; rotate_left
 ·intro w'; go_simp; with_reducible rfl
 rotate_left
 ·simp only [q_, i64_w, i32_w]; rfl
 refine done_ (done_of HT_.out (by kernel_rfl)) ?_
 try go_wp2
 (try (rw [drewN_self w4]; generalize hq_ : World.drewN w4 _ = w4; have n0_ : Aside0 (w4.heap[gb101]? = some (.cells #[.int .u64 0, .int .u64 0] 82 (0, 0))) := ⟨by rw [← hq_]; exact (pkx BK101)⟩; have n1_ : Aside0 (Below w.heap.size w w4) := ⟨by rw [← hq_]; exact (pbx HB)⟩; clear BK101 HB hq_; have BK101 := n0_; have HB := n1_; clear n0_ n1_))
 replace BK101 := Aside0.mk (blk_drew BK101.out); replace HB := Aside0.mk (below_drew1 HB.out)
 refine start_ (n:=12) (S := fun w' => True) (ds := []) #[F,F,F,F,F,F,F,F,F,F,F,F] (by kernel_rfl) rfl rfl trivial (fun hHeld => ?_); refine with_tabW oculusref08_Times.tab3 oculusref08_Times.bits3 (fun HT_ HW_ => ?_)
 generalize w4.drew = w5 at BK101 HB hHeld ⊢; refine pure_ (i:=0) (N:=some 16) (v:=?_) (a':=?_) ⟨m_ 12 1⟩ rfl rfl (any_of HT_.out (by kernel_rfl)) (fun _ _ _ h=>h) (Or.inl ⟨rfl, ?_⟩) ?_ ?_; rotate_left
 ·intro w'; go_simp; with_reducible rfl
 rotate_left
 ·simp only [q_, i64_w, i32_w]; rfl
 refine pure_ (i:=1) (N:=some 17) (v:=?_) (a':=?_) ⟨m_ 12 3⟩ rfl rfl (any_of HT_.out (by kernel_rfl)) (fun _ _ _ h=>h) (Or.inl ⟨rfl, ?_⟩) ?_ ?_; rotate_left
 ·intro w'; go_simp; with_reducible rfl
 rotate_left
 ·simp only [q_, i64_w, i32_w]; rfl
 refine pure_ (i:=2) (N:=some 18) (v:=?_) (a':=?_) ⟨m_ 12 7⟩ rfl rfl (any_of HT_.out (by kernel_rfl)) (fun _ _ _ h=>h) (Or.inl ⟨rfl, ?_⟩) ?_ ?_; rotate_left
 ·intro w'; go_simp; with_reducible rfl
 rotate_left
 ·simp only [q_, i64_w, i32_w]; rfl
 refine pure_ (i:=3) (N:=some 19) (v:=?_) (a':=?_) ⟨m_ 12 15⟩ rfl rfl (any_of HT_.out (by kernel_rfl)) (fun _ _ _ h=>h) (Or.inl ⟨rfl, ?_⟩) ?_ ?_; rotate_left
 ·intro w'; go_simp; with_reducible rfl
 rotate_left
 ·simp only [q_, i64_w, i32_w]; rfl
 refine pure_ (i:=4) (N:=some 20) (v:=?_) (a':=?_) ⟨m_ 12 31⟩ rfl rfl (any_of HT_.out (by kernel_rfl)) (fun _ _ _ h=>h) (Or.inl ⟨rfl, ?_⟩) ?_ ?_; rotate_left
 ·intro w'; go_simp; with_reducible rfl
 rotate_left
 ·simp only [q_, i64_w, i32_w]; rfl
 refine pure_ (i:=5) (N:=some 21) (v:=?_) (a':=?_) ⟨m_ 12 63⟩ rfl rfl (any_of HT_.out (by kernel_rfl)) (fun _ _ _ h=>h) (Or.inl ⟨rfl, ?_⟩) ?_ ?_; rotate_left
 ·intro w'; go_simp; with_reducible rfl
 rotate_left
 ·simp only [q_, i64_w, i32_w]; rfl
 refine pure_ (i:=6) (N:=some 22) (v:=?_) (a':=?_) ⟨m_ 12 127⟩ rfl rfl (any_of HT_.out (by kernel_rfl)) (fun _ _ _ h=>h) (Or.inl ⟨rfl, ?_⟩) ?_ ?_; rotate_left
 ·intro w'; go_simp; with_reducible rfl
 rotate_left
 ·simp only [q_, i64_w, i32_w]; rfl
 refine pure_ (i:=7) (N:=some 23) (v:=?_) (a':=?_) ⟨m_ 12 255⟩ rfl rfl (any_of HT_.out (by kernel_rfl)) (fun _ _ _ h=>h) (Or.inl ⟨rfl, ?_⟩) ?_ ?_; rotate_left
 ·intro w'; go_simp; with_reducible rfl
 rotate_left
 ·simp only [q_, i64_w, i32_w]; rfl
 refine pure_ (i:=8) (N:=some 24) (v:=?_) (a':=?_) ⟨m_ 12 511⟩ rfl rfl (any_of HT_.out (by kernel_rfl)) (fun _ _ _ h=>h) (Or.inl ⟨rfl, ?_⟩) ?_ ?_; rotate_left
 ·intro w'; go_simp; with_reducible rfl
 rotate_left
 ·simp only [q_, i64_w, i32_w]; rfl
 refine pure_ (i:=9) (N:=some 25) (v:=?_) (a':=?_) ⟨m_ 12 1023⟩ rfl rfl (any_of HT_.out (by kernel_rfl)) (fun _ _ _ h=>h) (Or.inl ⟨rfl, ?_⟩) ?_ ?_; rotate_left
 ·intro w'; go_simp; with_reducible rfl
 rotate_left
 ·simp only [q_, i64_w, i32_w]; rfl
 refine pure_ (i:=10) (N:=some 26) (v:=?_) (a':=?_) ⟨m_ 12 2047⟩ rfl rfl (any_of HT_.out (by kernel_rfl)) (fun _ _ _ h=>h) (Or.inl ⟨rfl, ?_⟩) ?_ ?_; rotate_left
 ·intro w'; go_simp; with_reducible rfl
 rotate_left
 ·simp only [q_, i64_w, i32_w]; rfl
 refine pure_ (i:=11) (N:=some 7) (v:=?_) (a':=?_) ⟨m_ 12 4095⟩ rfl rfl (any_of HT_.out (by kernel_rfl)) (fun _ _ _ h=>h) (Or.inl ⟨rfl, ?_⟩) ?_ ?_; rotate_left
 ·intro w'; go_simp; with_reducible rfl
 rotate_left
 ·simp only [q_, i64_w, i32_w]; rfl
 refine done_ (done_of HT_.out (by kernel_rfl)) ?_
 try go_wp2
 (try (rw [drewN_self w5]; generalize hq_ : World.drewN w5 _ = w5; have n0_ : Aside0 (w5.heap[gb101]? = some (.cells #[.int .u64 0, .int .u64 0] 82 (0, 0))) := ⟨by rw [← hq_]; exact (pkx BK101)⟩; have n1_ : Aside0 (Below w.heap.size w w5) := ⟨by rw [← hq_]; exact (pbx HB)⟩; clear BK101 HB hq_; have BK101 := n0_; have HB := n1_; clear n0_ n1_))
 replace BK101 := Aside0.mk (blk_drew BK101.out); replace HB := Aside0.mk (below_drew1 HB.out)
 refine start_ (n:=12) (S := fun w' => True) (ds := []) #[F,F,F,F,F,F,F,F,F,F,F,F] (by kernel_rfl) rfl rfl trivial (fun hHeld => ?_); refine with_tabW oculusref08_Times.tab4 oculusref08_Times.bits4 (fun HT_ HW_ => ?_)
 generalize w5.drew = w6 at BK101 HB hHeld ⊢; refine pure_ (i:=0) (N:=some 27) (v:=?_) (a':=?_) ⟨m_ 12 1⟩ rfl rfl (any_of HT_.out (by kernel_rfl)) (fun _ _ _ h=>h) (Or.inl ⟨rfl, ?_⟩) ?_ ?_; rotate_left
 ·intro w'; go_simp; with_reducible rfl
 rotate_left
 ·simp only [q_, i64_w, i32_w]; rfl
 refine pure_ (i:=1) (N:=some 28) (v:=?_) (a':=?_) ⟨m_ 12 3⟩ rfl rfl (any_of HT_.out (by kernel_rfl)) (fun _ _ _ h=>h) (Or.inl ⟨rfl, ?_⟩) ?_ ?_; rotate_left
 ·intro w'; go_simp; with_reducible rfl
 rotate_left
 ·simp only [q_, i64_w, i32_w]; rfl
 refine pure_ (i:=2) (N:=some 29) (v:=?_) (a':=?_) ⟨m_ 12 7⟩ rfl rfl (any_of HT_.out (by kernel_rfl)) (fun _ _ _ h=>h) (Or.inl ⟨rfl, ?_⟩) ?_ ?_; rotate_left
 ·intro w'; go_simp; with_reducible rfl
 rotate_left
 ·simp only [q_, i64_w, i32_w]; rfl
 refine pure_ (i:=3) (N:=some 30) (v:=?_) (a':=?_) ⟨m_ 12 15⟩ rfl rfl (any_of HT_.out (by kernel_rfl)) (fun _ _ _ h=>h) (Or.inl ⟨rfl, ?_⟩) ?_ ?_; rotate_left
 ·intro w'; go_simp; with_reducible rfl
 rotate_left
 ·simp only [q_, i64_w, i32_w]; rfl
 refine pure_ (i:=4) (N:=some 31) (v:=?_) (a':=?_) ⟨m_ 12 31⟩ rfl rfl (any_of HT_.out (by kernel_rfl)) (fun _ _ _ h=>h) (Or.inl ⟨rfl, ?_⟩) ?_ ?_; rotate_left
 ·intro w'; go_simp; with_reducible rfl
 rotate_left
 ·simp only [q_, i64_w, i32_w]; rfl
 refine pure_ (i:=5) (N:=some 32) (v:=?_) (a':=?_) ⟨m_ 12 63⟩ rfl rfl (any_of HT_.out (by kernel_rfl)) (fun _ _ _ h=>h) (Or.inl ⟨rfl, ?_⟩) ?_ ?_; rotate_left
 ·intro w'; go_simp; with_reducible rfl
 rotate_left
 ·simp only [q_, i64_w, i32_w]; rfl
 refine pure_ (i:=6) (N:=some 33) (v:=?_) (a':=?_) ⟨m_ 12 127⟩ rfl rfl (any_of HT_.out (by kernel_rfl)) (fun _ _ _ h=>h) (Or.inl ⟨rfl, ?_⟩) ?_ ?_; rotate_left
 ·intro w'; go_simp; with_reducible rfl
 rotate_left
 ·simp only [q_, i64_w, i32_w]; rfl
 refine pure_ (i:=7) (N:=some 34) (v:=?_) (a':=?_) ⟨m_ 12 255⟩ rfl rfl (any_of HT_.out (by kernel_rfl)) (fun _ _ _ h=>h) (Or.inl ⟨rfl, ?_⟩) ?_ ?_; rotate_left
 ·intro w'; go_simp; with_reducible rfl
 rotate_left
 ·simp only [q_, i64_w, i32_w]; rfl
 refine pure_ (i:=8) (N:=some 35) (v:=?_) (a':=?_) ⟨m_ 12 511⟩ rfl rfl (any_of HT_.out (by kernel_rfl)) (fun _ _ _ h=>h) (Or.inl ⟨rfl, ?_⟩) ?_ ?_; rotate_left
 ·intro w'; go_simp; with_reducible rfl
 rotate_left
 ·simp only [q_, i64_w, i32_w]; rfl
 refine pure_ (i:=9) (N:=some 36) (v:=?_) (a':=?_) ⟨m_ 12 1023⟩ rfl rfl (any_of HT_.out (by kernel_rfl)) (fun _ _ _ h=>h) (Or.inl ⟨rfl, ?_⟩) ?_ ?_; rotate_left
 ·intro w'; go_simp; with_reducible rfl
 rotate_left
 ·simp only [q_, i64_w, i32_w]; rfl
 refine pure_ (i:=10) (N:=some 37) (v:=?_) (a':=?_) ⟨m_ 12 2047⟩ rfl rfl (any_of HT_.out (by kernel_rfl)) (fun _ _ _ h=>h) (Or.inl ⟨rfl, ?_⟩) ?_ ?_; rotate_left
 ·intro w'; go_simp; with_reducible rfl
 rotate_left
 ·simp only [q_, i64_w, i32_w]; rfl
 refine pure_ (i:=11) (N:=some 8) (v:=?_) (a':=?_) ⟨m_ 12 4095⟩ rfl rfl (any_of HT_.out (by kernel_rfl)) (fun _ _ _ h=>h) (Or.inl ⟨rfl, ?_⟩) ?_ ?_; rotate_left
 ·intro w'; go_simp; with_reducible rfl
 rotate_left
 ·simp only [q_, i64_w, i32_w]; rfl
 refine done_ (done_of HT_.out (by kernel_rfl)) ?_
 try go_wp2
 (try (rw [drewN_self w6]; generalize hq_ : World.drewN w6 _ = w6; have n0_ : Aside0 (w6.heap[gb101]? = some (.cells #[.int .u64 0, .int .u64 0] 82 (0, 0))) := ⟨by rw [← hq_]; exact (pkx BK101)⟩; have n1_ : Aside0 (Below w.heap.size w w6) := ⟨by rw [← hq_]; exact (pbx HB)⟩; clear BK101 HB hq_; have BK101 := n0_; have HB := n1_; clear n0_ n1_))
 replace BK101 := Aside0.mk (blk_drew BK101.out); replace HB := Aside0.mk (below_drew1 HB.out)
 refine start_ (n:=26) (S := fun w' => True) (ds := []) #[F,F,F,F,F,F,F,F,F,F,F,F,F,F,F,F,F,F,F,F,F,F,F,F,F,F] (by kernel_rfl) rfl rfl trivial (fun hHeld => ?_); refine with_tabW oculusref08_Times.tab5 oculusref08_Times.bits5 (fun HT_ HW_ => ?_)
 generalize w6.drew = w7 at BK101 HB hHeld ⊢; refine pure_ (i:=0) (N:=some 38) (v:=?_) (a':=?_) ⟨m_ 26 1⟩ rfl rfl (any_of HT_.out (by kernel_rfl)) (fun _ _ _ h=>h) (Or.inl ⟨rfl, ?_⟩) ?_ ?_; rotate_left
 ·intro w'; go_simp; with_reducible rfl
 rotate_left
 ·simp only [q_, i64_w, i32_w]; rfl
 refine pure_ (i:=1) (N:=some 39) (v:=?_) (a':=?_) ⟨m_ 26 3⟩ rfl rfl (any_of HT_.out (by kernel_rfl)) (fun _ _ _ h=>h) (Or.inl ⟨rfl, ?_⟩) ?_ ?_; rotate_left
 ·intro w'; go_simp; with_reducible rfl
 rotate_left
 ·simp only [q_, i64_w, i32_w]; rfl
 refine pure_ (i:=2) (N:=some 40) (v:=?_) (a':=?_) ⟨m_ 26 7⟩ rfl rfl (any_of HT_.out (by kernel_rfl)) (fun _ _ _ h=>h) (Or.inl ⟨rfl, ?_⟩) ?_ ?_; rotate_left
 ·intro w'; go_simp; with_reducible rfl
 rotate_left
 ·simp only [q_, i64_w, i32_w]; rfl
 refine pure_ (i:=3) (N:=some 41) (v:=?_) (a':=?_) ⟨m_ 26 15⟩ rfl rfl (any_of HT_.out (by kernel_rfl)) (fun _ _ _ h=>h) (Or.inl ⟨rfl, ?_⟩) ?_ ?_; rotate_left
 ·intro w'; go_simp; with_reducible rfl
 rotate_left
 ·simp only [q_, i64_w, i32_w]; rfl
 refine pure_ (i:=4) (N:=some 42) (v:=?_) (a':=?_) ⟨m_ 26 31⟩ rfl rfl (any_of HT_.out (by kernel_rfl)) (fun _ _ _ h=>h) (Or.inl ⟨rfl, ?_⟩) ?_ ?_; rotate_left
 ·intro w'; go_simp; with_reducible rfl
 rotate_left
 ·simp only [q_, i64_w, i32_w]; rfl
 refine pure_ (i:=5) (N:=some 43) (v:=?_) (a':=?_) ⟨m_ 26 63⟩ rfl rfl (any_of HT_.out (by kernel_rfl)) (fun _ _ _ h=>h) (Or.inl ⟨rfl, ?_⟩) ?_ ?_; rotate_left
 ·intro w'; go_simp; with_reducible rfl
 rotate_left
 ·simp only [q_, i64_w, i32_w]; rfl
 refine pure_ (i:=6) (N:=some 44) (v:=?_) (a':=?_) ⟨m_ 26 127⟩ rfl rfl (any_of HT_.out (by kernel_rfl)) (fun _ _ _ h=>h) (Or.inl ⟨rfl, ?_⟩) ?_ ?_; rotate_left
 ·intro w'; go_simp; with_reducible rfl
 rotate_left
 ·simp only [q_, i64_w, i32_w]; rfl
 refine pure_ (i:=7) (N:=some 45) (v:=?_) (a':=?_) ⟨m_ 26 255⟩ rfl rfl (any_of HT_.out (by kernel_rfl)) (fun _ _ _ h=>h) (Or.inl ⟨rfl, ?_⟩) ?_ ?_; rotate_left
 ·intro w'; go_simp; with_reducible rfl
 rotate_left
 ·simp only [q_, i64_w, i32_w]; rfl
 refine pure_ (i:=8) (N:=some 46) (v:=?_) (a':=?_) ⟨m_ 26 511⟩ rfl rfl (any_of HT_.out (by kernel_rfl)) (fun _ _ _ h=>h) (Or.inl ⟨rfl, ?_⟩) ?_ ?_; rotate_left
 ·intro w'; go_simp; with_reducible rfl
 rotate_left
 ·simp only [q_, i64_w, i32_w]; rfl
 refine pure_ (i:=9) (N:=some 47) (v:=?_) (a':=?_) ⟨m_ 26 1023⟩ rfl rfl (any_of HT_.out (by kernel_rfl)) (fun _ _ _ h=>h) (Or.inl ⟨rfl, ?_⟩) ?_ ?_; rotate_left
 ·intro w'; go_simp; with_reducible rfl
 rotate_left
 ·simp only [q_, i64_w, i32_w]; rfl
 refine pure_ (i:=10) (N:=some 48) (v:=?_) (a':=?_) ⟨m_ 26 2047⟩ rfl rfl (any_of HT_.out (by kernel_rfl)) (fun _ _ _ h=>h) (Or.inl ⟨rfl, ?_⟩) ?_ ?_; rotate_left
 ·intro w'; go_simp; with_reducible rfl
 rotate_left
 ·simp only [q_, i64_w, i32_w]; rfl
 refine pure_ (i:=11) (N:=some 49) (v:=?_) (a':=?_) ⟨m_ 26 4095⟩ rfl rfl (any_of HT_.out (by kernel_rfl)) (fun _ _ _ h=>h) (Or.inl ⟨rfl, ?_⟩) ?_ ?_; rotate_left
 ·intro w'; go_simp; with_reducible rfl
 rotate_left
 ·simp only [q_, i64_w, i32_w]; rfl
 refine pure_ (i:=12) (N:=some 50) (v:=?_) (a':=?_) ⟨m_ 26 8191⟩ rfl rfl (any_of HT_.out (by kernel_rfl)) (fun _ _ _ h=>h) (Or.inl ⟨rfl, ?_⟩) ?_ ?_; rotate_left
 ·intro w'; go_simp; with_reducible rfl
 rotate_left
 ·simp only [q_, i64_w, i32_w]; rfl
 refine pure_ (i:=13) (N:=some 51) (v:=?_) (a':=?_) ⟨m_ 26 16383⟩ rfl rfl (any_of HT_.out (by kernel_rfl)) (fun _ _ _ h=>h) (Or.inl ⟨rfl, ?_⟩) ?_ ?_; rotate_left
 ·intro w'; go_simp; with_reducible rfl
 rotate_left
 ·simp only [q_, i64_w, i32_w]; rfl
 refine pure_ (i:=14) (N:=some 52) (v:=?_) (a':=?_) ⟨m_ 26 32767⟩ rfl rfl (any_of HT_.out (by kernel_rfl)) (fun _ _ _ h=>h) (Or.inl ⟨rfl, ?_⟩) ?_ ?_; rotate_left
 ·intro w'; go_simp; with_reducible rfl
 rotate_left
 ·simp only [q_, i64_w, i32_w]; rfl
 refine pure_ (i:=15) (N:=some 53) (v:=?_) (a':=?_) ⟨m_ 26 65535⟩ rfl rfl (any_of HT_.out (by kernel_rfl)) (fun _ _ _ h=>h) (Or.inl ⟨rfl, ?_⟩) ?_ ?_; rotate_left
 ·intro w'; go_simp; with_reducible rfl
 rotate_left
 ·simp only [q_, i64_w, i32_w]; rfl
 refine pure_ (i:=16) (N:=some 54) (v:=?_) (a':=?_) ⟨m_ 26 131071⟩ rfl rfl (any_of HT_.out (by kernel_rfl)) (fun _ _ _ h=>h) (Or.inl ⟨rfl, ?_⟩) ?_ ?_; rotate_left
 ·intro w'; go_simp; with_reducible rfl
 rotate_left
 ·simp only [q_, i64_w, i32_w]; rfl
 refine pure_ (i:=17) (N:=some 55) (v:=?_) (a':=?_) ⟨m_ 26 262143⟩ rfl rfl (any_of HT_.out (by kernel_rfl)) (fun _ _ _ h=>h) (Or.inl ⟨rfl, ?_⟩) ?_ ?_; rotate_left
 ·intro w'; go_simp; with_reducible rfl
 rotate_left
 ·simp only [q_, i64_w, i32_w]; rfl
 refine pure_ (i:=18) (N:=some 56) (v:=?_) (a':=?_) ⟨m_ 26 524287⟩ rfl rfl (any_of HT_.out (by kernel_rfl)) (fun _ _ _ h=>h) (Or.inl ⟨rfl, ?_⟩) ?_ ?_; rotate_left
 ·intro w'; go_simp; with_reducible rfl
 rotate_left
 ·simp only [q_, i64_w, i32_w]; rfl
 refine pure_ (i:=19) (N:=some 57) (v:=?_) (a':=?_) ⟨m_ 26 1048575⟩ rfl rfl (any_of HT_.out (by kernel_rfl)) (fun _ _ _ h=>h) (Or.inl ⟨rfl, ?_⟩) ?_ ?_; rotate_left
 ·intro w'; go_simp; with_reducible rfl
 rotate_left
 ·simp only [q_, i64_w, i32_w]; rfl
 refine pure_ (i:=20) (N:=some 58) (v:=?_) (a':=?_) ⟨m_ 26 2097151⟩ rfl rfl (any_of HT_.out (by kernel_rfl)) (fun _ _ _ h=>h) (Or.inl ⟨rfl, ?_⟩) ?_ ?_; rotate_left
 ·intro w'; go_simp; with_reducible rfl
 rotate_left
 ·simp only [q_, i64_w, i32_w]; rfl
 refine pure_ (i:=21) (N:=some 59) (v:=?_) (a':=?_) ⟨m_ 26 4194303⟩ rfl rfl (any_of HT_.out (by kernel_rfl)) (fun _ _ _ h=>h) (Or.inl ⟨rfl, ?_⟩) ?_ ?_; rotate_left
 ·intro w'; go_simp; with_reducible rfl
 rotate_left
 ·simp only [q_, i64_w, i32_w]; rfl
 refine pure_ (i:=22) (N:=some 60) (v:=?_) (a':=?_) ⟨m_ 26 8388607⟩ rfl rfl (any_of HT_.out (by kernel_rfl)) (fun _ _ _ h=>h) (Or.inl ⟨rfl, ?_⟩) ?_ ?_; rotate_left
 ·intro w'; go_simp; with_reducible rfl
 rotate_left
 ·simp only [q_, i64_w, i32_w]; rfl
 refine pure_ (i:=23) (N:=some 61) (v:=?_) (a':=?_) ⟨m_ 26 16777215⟩ rfl rfl (any_of HT_.out (by kernel_rfl)) (fun _ _ _ h=>h) (Or.inl ⟨rfl, ?_⟩) ?_ ?_; rotate_left
 ·intro w'; go_simp; with_reducible rfl
 rotate_left
 ·simp only [q_, i64_w, i32_w]; rfl
 refine pure_ (i:=24) (N:=some 62) (v:=?_) (a':=?_) ⟨m_ 26 33554431⟩ rfl rfl (any_of HT_.out (by kernel_rfl)) (fun _ _ _ h=>h) (Or.inl ⟨rfl, ?_⟩) ?_ ?_; rotate_left
 ·intro w'; go_simp; with_reducible rfl
 rotate_left
 ·simp only [q_, i64_w, i32_w]; rfl
 refine one_ (i:=25) (N:=none) ⟨m_ 26 67108863⟩ rfl rfl (one_of HT_.out (by kernel_rfl)) (by decide) (fun K hK => ?_)
 have hs8 : w7.cell? ⟨gb101, 0, none⟩ = some (.int .u64 0) := bc_ BK101 0 rfl
 have hfs8 := blk_frozen BK101.out 0
 have hs9 : w7.cell? ⟨gb101, 1, none⟩ = some (.int .u64 0) := bc_ BK101 1 rfl
 have hfs9 := blk_frozen BK101.out 1
 refine skip_ (w1 := ?_) (by rfl) rfl ?_ ?_
 rotate_left
 ·go_simp; rfl
 refine hK.out _ _ trivial (fun hHeld => ?_); clear hK K
 refine done_ (done_of HT_.out (by kernel_rfl)) ?_
 try go_wp2
 refine bodyPost_ret (results_cell_row rfl _ _ gb101 82 #[.int .u64 (IntKind.u64.wrap ((IntKind.u64.wrap ((IntKind.u64.wrap ((IntKind.u64.wrap (Int.tdiv a0 4294967296)) * (IntKind.u64.wrap (Int.tdiv a1 4294967296)))) + (IntKind.u64.wrap (Int.tdiv (IntKind.u64.wrap ((IntKind.u64.wrap ((IntKind.u64.wrap (Int.tdiv a0 4294967296)) * (Int.tmod a1 4294967296))) + (IntKind.u64.wrap (Int.tdiv (IntKind.u64.wrap ((Int.tmod a0 4294967296) * (Int.tmod a1 4294967296))) 4294967296)))) 4294967296)))) + (IntKind.u64.wrap (Int.tdiv (IntKind.u64.wrap ((IntKind.u64.wrap ((Int.tmod a0 4294967296) * (IntKind.u64.wrap (Int.tdiv a1 4294967296)))) + (Int.tmod (IntKind.u64.wrap ((IntKind.u64.wrap ((IntKind.u64.wrap (Int.tdiv a0 4294967296)) * (Int.tmod a1 4294967296))) + (IntKind.u64.wrap (Int.tdiv (IntKind.u64.wrap ((Int.tmod a0 4294967296) * (Int.tmod a1 4294967296))) 4294967296)))) 4294967296))) 4294967296)))), .int .u64 (IntKind.u64.wrap ((IntKind.u64.wrap ((Int.tmod (IntKind.u64.wrap ((IntKind.u64.wrap ((Int.tmod a0 4294967296) * (IntKind.u64.wrap (Int.tdiv a1 4294967296)))) + (Int.tmod (IntKind.u64.wrap ((IntKind.u64.wrap ((IntKind.u64.wrap (Int.tdiv a0 4294967296)) * (Int.tmod a1 4294967296))) + (IntKind.u64.wrap (Int.tdiv (IntKind.u64.wrap ((Int.tmod a0 4294967296) * (Int.tmod a1 4294967296))) 4294967296)))) 4294967296))) 4294967296) * 4294967296)) + (Int.tmod (IntKind.u64.wrap ((Int.tmod a0 4294967296) * (Int.tmod a1 4294967296))) 4294967296)))] (0, 0) _ rfl (by (with_reducible repeat (first | refine blk_drewN ?_ _ | refine blk_drew ?_ | refine blk_alloc ?_ _)); refine blk_put (cs := #[.int .u64 (IntKind.u64.wrap ((IntKind.u64.wrap ((IntKind.u64.wrap ((IntKind.u64.wrap (Int.tdiv a0 4294967296)) * (IntKind.u64.wrap (Int.tdiv a1 4294967296)))) + (IntKind.u64.wrap (Int.tdiv (IntKind.u64.wrap ((IntKind.u64.wrap ((IntKind.u64.wrap (Int.tdiv a0 4294967296)) * (Int.tmod a1 4294967296))) + (IntKind.u64.wrap (Int.tdiv (IntKind.u64.wrap ((Int.tmod a0 4294967296) * (Int.tmod a1 4294967296))) 4294967296)))) 4294967296)))) + (IntKind.u64.wrap (Int.tdiv (IntKind.u64.wrap ((IntKind.u64.wrap ((Int.tmod a0 4294967296) * (IntKind.u64.wrap (Int.tdiv a1 4294967296)))) + (Int.tmod (IntKind.u64.wrap ((IntKind.u64.wrap ((IntKind.u64.wrap (Int.tdiv a0 4294967296)) * (Int.tmod a1 4294967296))) + (IntKind.u64.wrap (Int.tdiv (IntKind.u64.wrap ((Int.tmod a0 4294967296) * (Int.tmod a1 4294967296))) 4294967296)))) 4294967296))) 4294967296)))), .int .u64 0]) ?_ 1 _ rfl; refine blk_put (cs := #[.int .u64 0, .int .u64 0]) ?_ 0 _ rfl; (with_reducible repeat (first | refine blk_drewN ?_ _ | refine blk_drew ?_ | refine blk_alloc ?_ _)); exact BK101.out) Try.underlying82 rfl (by kernel_rfl)) rfl ?_
 exact ⟨by first | rfl | (simp [errW_none, errW_some] <;> rfl) | (simp [*, errW_none, errW_some] <;> rfl), by repeat (first | (with_reducible first | exact HB.out | apply below_alloc | apply pw_below_drewN | apply below_drew1 | refine below_set ?_ GE101.out) | exact HB.out)⟩

end Go.Proofs.Ytfcpkehldmehjaa.X
