/- Contracts of the functions that the law LabelLattice reaches, and what they answer (a session's own texts, joined; part 1). -/
import Derived.Test.YtfcpkehldmehjaaDoorBLabelLattice0
namespace Go.Proofs.YtfcpkehldmehjaaDoor.X
open Go.RowKit Go.Proofs.YtfcpkehldmehjaaDoorW.PrintWords Go.Proofs.YtfcpkehldmehjaaDoorW.PrintLast Go.Proofs.YtfcpkehldmehjaaDoorW.PrintMore
attribute [local go_sem] max2_int min2_int max_two min_two max_three min_three max_four min_four   -- for this text's walks alone
set_option linter.unusedVariables false
set_option linter.unusedSimpArgs false

attribute [local go_sem high] eqA24
/-! ### oculuslaw02_alive: function 10 -/
def oculuslaw02_alive.f (k : Nat)  : Option (Bool) := (label_Parse.f k (⟨#[50, 58, 48, 44, 53]⟩ : ByteArray)).bind fun bt101 => (if bt101.2.2 = true then (if (bt101.1 == 2 && (bt101.2.1 == 33)) = true then ((label_Text.f k bt101.1 bt101.2.1).bind fun t105 => (if t105.toList = ([50, 58, 48, 44, 53] : List UInt8) then ((label_Top.f).bind fun bt106 => ((label_Text.f k bt106.1 bt106.2).bind fun t108 => (if t108.toList = ([116, 111, 112] : List UInt8) then ((label_Bottom.f).bind fun bt109 => ((label_Below.f bt109.1 bt109.2 bt101.1 bt101.2.1).bind fun t111 => (if t111 = true then ((label_Below.f bt101.1 bt101.2.1 9 0).bind fun t112 => (some (!t112))) else (none)))) else (none)))) else (none))) else (none)) else (none))
def oculuslaw02_alive.T2 : Bool × List (List Nat × List Nat) := (true, [([], []), ([0], [0]), ([1], [1]), ([1], [1]), ([2, 3, 1], [1, 2, 3]), ([1, 4], [1, 4]), ([5, 1], [5]), ([6], [6]), ([7, 6, 6], [6, 7]), ([8, 6], [6, 8]), ([6, 9], [6, 9]), ([10, 8], [10]), ([11, 11], [11]), ([12, 12, 11], [11, 12]), ([13, 11], [11, 13]), ([11, 14], [11, 14]), ([15, 13], [15]), ([16, 16], [16]), ([16], [16]), ([17, 18, 17, 16], [16, 17, 18]), ([16, 19], [16, 19]), ([20, 19], [20]), ([21], [21]), ([21], [21]), ([22, 23, 21, 21], [21, 22, 23]), ([24, 21], [21, 24]), ([21, 25], [21, 25]), ([26, 24, 0, 1, 2, 3, 4, 5, 6, 7, 8, 9, 10, 11, 12, 13, 14, 15, 16, 17, 18, 19, 20, 21, 22, 23, 24, 25, 26], [26])])
def oculuslaw02_alive.B2 : List Nat := [0, 1, 3, 3, 15, 31, 63, 127, 255, 511, 1023, 2047, 4095, 8191, 16383, 32767, 65535, 131071, 131071, 524287, 1048575, 2097151, 4194303, 4194303, 16777215, 33554431, 67108863, 134217727]
theorem oculuslaw02_alive.tab2 : rtab .any (opsOf Tryd.f10 2) = oculuslaw02_alive.T2 := by kernel_rfl
theorem oculuslaw02_alive.bits2 : waitsOk oculuslaw02_alive.T2.2 oculuslaw02_alive.B2 = true := by kernel_rfl
set_option maxHeartbeats 8000000 in
set_option maxRecDepth 100000 in
theorem oculuslaw02_alive.calls (k : Nat)  (r : Bool) (w : World) (hT : Aside0 (Tab w)) (h : oculuslaw02_alive.f k  = some r) :
  Calls Tryd.prog 10 #[] w fun e w' => e = .returned (.bool r) ∧ Below w.heap.size w w' := by
 have hu24 := Tryd.underlying24; have HB := Aside0.mk (Below.refl w.heap.size w)
 have H : ((label_Parse.f k (⟨#[50, 58, 48, 44, 53]⟩ : ByteArray)).bind fun bt101 => (if bt101.2.2 = true then (if (bt101.1 == 2 && (bt101.2.1 == 33)) = true then ((label_Text.f k bt101.1 bt101.2.1).bind fun t105 => (if t105.toList = ([50, 58, 48, 44, 53] : List UInt8) then ((label_Top.f).bind fun bt106 => ((label_Text.f k bt106.1 bt106.2).bind fun t108 => (if t108.toList = ([116, 111, 112] : List UInt8) then ((label_Bottom.f).bind fun bt109 => ((label_Below.f bt109.1 bt109.2 bt101.1 bt101.2.1).bind fun t111 => (if t111 = true then ((label_Below.f bt101.1 bt101.2.1 9 0).bind fun t112 => (some (!t112))) else (none)))) else (none)))) else (none))) else (none)) else (none))) = some r := h
 clear h; replace H := Option.bind_eq_some_iff.mp H; obtain ⟨⟨t101, t102, t103⟩, A10, H⟩ := H
 replace H : (if t103 = true then (if (t101 == 2 && (t102 == 33)) = true then ((label_Text.f k t101 t102).bind fun t105 => (if t105.toList = ([50, 58, 48, 44, 53] : List UInt8) then ((label_Top.f).bind fun bt106 => ((label_Text.f k bt106.1 bt106.2).bind fun t108 => (if t108.toList = ([116, 111, 112] : List UInt8) then ((label_Bottom.f).bind fun bt109 => ((label_Below.f bt109.1 bt109.2 t101 t102).bind fun t111 => (if t111 = true then ((label_Below.f t101 t102 9 0).bind fun t112 => (some (!t112))) else (none)))) else (none)))) else (none))) else (none)) else (none)) = some r := H
 have A1 := Aside0.mk A10; clear A10
 by_cases c2 : t103 = true
 ·subst c2
  have H1 : (if (t101 == 2 && (t102 == 33)) = true then ((label_Text.f k t101 t102).bind fun t105 => (if t105.toList = ([50, 58, 48, 44, 53] : List UInt8) then ((label_Top.f).bind fun bt106 => ((label_Text.f k bt106.1 bt106.2).bind fun t108 => (if t108.toList = ([116, 111, 112] : List UInt8) then ((label_Bottom.f).bind fun bt109 => ((label_Below.f bt109.1 bt109.2 t101 t102).bind fun t111 => (if t111 = true then ((label_Below.f t101 t102 9 0).bind fun t112 => (some (!t112))) else (none)))) else (none)))) else (none))) else (none)) = some r := by rw [if_pos rfl] at H; exact H
  clear H; have H := H1; clear H1
  by_cases c3 : (t101 == 2 && (t102 == 33)) = true
  ·rw [if_pos c3] at H
   have c3b0 : (t101 == 2 && (t102 == 33)) = true := c3
   (try (have c3b1 : decide (t101 = 2 && (t102 == 33)) = true := by simpa using c3)); (try (have c3b2 : (t101 == 2 && (t102 == 33)) = true := by simpa using c3))
   clear c3; replace H := Option.bind_eq_some_iff.mp H; obtain ⟨t105, A40, H⟩ := H
   replace H : (if t105.toList = ([50, 58, 48, 44, 53] : List UInt8) then ((label_Top.f).bind fun bt106 => ((label_Text.f k bt106.1 bt106.2).bind fun t108 => (if t108.toList = ([116, 111, 112] : List UInt8) then ((label_Bottom.f).bind fun bt109 => ((label_Below.f bt109.1 bt109.2 t101 t102).bind fun t111 => (if t111 = true then ((label_Below.f t101 t102 9 0).bind fun t112 => (some (!t112))) else (none)))) else (none)))) else (none)) = some r := H
   have A4 := Aside0.mk A40; clear A40
   by_cases c5 : t105.toList = ([50, 58, 48, 44, 53] : List UInt8)
   ·rw [if_pos c5] at H; have c5b0 : (t105.toList == ([50, 58, 48, 44, 53] : List UInt8)) = true := beq_iff_eq.mpr c5; have c5b1 : (t105.toList != ([50, 58, 48, 44, 53] : List UInt8)) = false := bne_eq_false_iff_eq.mpr c5; clear c5; replace H := Option.bind_eq_some_iff.mp H; obtain ⟨⟨t106, t107⟩, A60, H⟩ := H
    replace H : ((label_Text.f k t106 t107).bind fun t108 => (if t108.toList = ([116, 111, 112] : List UInt8) then ((label_Bottom.f).bind fun bt109 => ((label_Below.f bt109.1 bt109.2 t101 t102).bind fun t111 => (if t111 = true then ((label_Below.f t101 t102 9 0).bind fun t112 => (some (!t112))) else (none)))) else (none))) = some r := H
    have A6 := Aside0.mk A60; clear A60; replace H := Option.bind_eq_some_iff.mp H; obtain ⟨t108, A70, H⟩ := H
    replace H : (if t108.toList = ([116, 111, 112] : List UInt8) then ((label_Bottom.f).bind fun bt109 => ((label_Below.f bt109.1 bt109.2 t101 t102).bind fun t111 => (if t111 = true then ((label_Below.f t101 t102 9 0).bind fun t112 => (some (!t112))) else (none)))) else (none)) = some r := H
    have A7 := Aside0.mk A70; clear A70
    by_cases c8 : t108.toList = ([116, 111, 112] : List UInt8)
    ·rw [if_pos c8] at H; have c8b0 : (t108.toList == ([116, 111, 112] : List UInt8)) = true := beq_iff_eq.mpr c8; have c8b1 : (t108.toList != ([116, 111, 112] : List UInt8)) = false := bne_eq_false_iff_eq.mpr c8; clear c8; replace H := Option.bind_eq_some_iff.mp H; obtain ⟨⟨t109, t110⟩, A90, H⟩ := H
     replace H : ((label_Below.f t109 t110 t101 t102).bind fun t111 => (if t111 = true then ((label_Below.f t101 t102 9 0).bind fun t112 => (some (!t112))) else (none))) = some r := H
     have A9 := Aside0.mk A90; clear A90; replace H := Option.bind_eq_some_iff.mp H; obtain ⟨t111, A100, H⟩ := H
     replace H : (if t111 = true then ((label_Below.f t101 t102 9 0).bind fun t112 => (some (!t112))) else (none)) = some r := H
     have A10 := Aside0.mk A100; clear A100
     by_cases c11 : t111 = true
     ·subst c11
      have H1 : ((label_Below.f t101 t102 9 0).bind fun t112 => (some (!t112))) = some r := by rw [if_pos rfl] at H; exact H
      clear H; have H := H1; clear H1; replace H := Option.bind_eq_some_iff.mp H; obtain ⟨t112, A120, H⟩ := H
      replace H : (some (!t112)) = some r := H
      have A12 := Aside0.mk A120; clear A120; obtain rfl := Option.some.inj H
      go_enter Tryd.func10, Tryd.ntmps10
      try go_wp2_with (first | ((with_reducible refine gate_callee (f:=12) rfl ?_); refine goesL_ (some 4) rfl rfl Tryd.func12 (by kernel_rfl) rfl #[.string (⟨#[50, 58, 48, 44, 53]⟩ : ByteArray)] rfl (by (try simp only [List.map_toArray, List.map_cons, List.map_nil]); first | done | rfl | (simp only [List.length_drop, List.length_take]; rfl)) ?_; (with_reducible refine (label_Parse.calls k (⟨#[50, 58, 48, 44, 53]⟩ : ByteArray) t101 t102 true _ (by refine tb_ ?_ hT; repeat' (first | exact pbx HB | assumption | refine below_set ?_ (Aside0.out ?_))) A1.out).mono ?_); rintro e w13 ⟨rfl, hb⟩; refine ⟨_, rfl, ?_⟩; replace HB := bs_ HB hb; (try clear hb); (try clear hb2); (try clear hk); (try clear hi)) | ((with_reducible refine gate_dst (N:=1) rfl ?_); refine box_event ?hg (N:=1) ?hd (cs := #[.int .i64 0, .int .u64 0]) (t:=24) ?hr ?_; (case hd => rfl); (case hg => rfl); (case hr => first | (go_simp; done) | (go_simp; rfl)); intro gb104 hg w14 hbox hb; have BK104 := Aside0.mk (hbox); have GW104 := hs_ HB hg; have GE104 := hs_ HB hg; replace HB := bs_ HB hb; clear hb hbox hg; have hcz15_0 : w14.cell? ⟨gb104, 0, none⟩ = some (.int .i64 0) := bc_ BK104 0 rfl; have hcz15_1 : w14.cell? ⟨gb104, 1, none⟩ = some (.int .u64 0) := bc_ BK104 1 rfl; have hfz15_0 := blk_frozen BK104.out 0; have hfz15_1 := blk_frozen BK104.out 1))
      have n0_ : Aside0 (((w14.setCell ⟨gb104, 0, none⟩ (.int .i64 t101)).setCell ⟨gb104, 1, none⟩ (.int .u64 t102)).heap[gb104]? = some (.cells #[.int .i64 t101, .int .u64 t102] 24 (0, 0))) := ⟨by (with_reducible repeat (first | refine blk_drewN ?_ _ | refine blk_drew ?_ | refine blk_alloc ?_ _)); refine blk_put (cs := #[.int .i64 t101, .int .u64 0]) ?_ 1 _ rfl; refine blk_put (cs := #[.int .i64 0, .int .u64 0]) ?_ 0 _ rfl; (with_reducible repeat (first | refine blk_drewN ?_ _ | refine blk_drew ?_ | refine blk_alloc ?_ _)); exact BK104.out⟩; have n1_ : Aside0 (Below w.heap.size w ((w14.setCell ⟨gb104, 0, none⟩ (.int .i64 t101)).setCell ⟨gb104, 1, none⟩ (.int .u64 t102))) := ⟨by repeat (first | (with_reducible first | exact HB.out | apply below_alloc | apply pw_below_drewN | apply below_drew1 | refine below_set ?_ GE104.out) | exact HB.out)⟩
      (try clear BK104); (try clear HB)
      generalize ((w14.setCell ⟨gb104, 0, none⟩ (.int .i64 t101)).setCell ⟨gb104, 1, none⟩ (.int .u64 t102)) = w16 at n0_ n1_ ⊢; have BK104 := n0_; have HB := n1_; clear n0_ n1_; (try (rw [drewN_self w16]; generalize hq_ : World.drewN w16 _ = w16; have n0_ : Aside0 (w16.heap[gb104]? = some (.cells #[.int .i64 t101, .int .u64 t102] 24 (0, 0))) := ⟨by rw [← hq_]; exact (pkx BK104)⟩; have n1_ : Aside0 (Below w.heap.size w w16) := ⟨by rw [← hq_]; exact (pbx HB)⟩; clear BK104 HB hq_; have BK104 := n0_; have HB := n1_; clear n0_ n1_))
      replace BK104 := Aside0.mk (blk_drew BK104.out); replace HB := Aside0.mk (below_drew1 HB.out)
      refine start_ (n:=28) (S := fun w' => w'.cell? ⟨gb104, 0, none⟩ = some (.int .i64 t101) ∧ w'.cell? ⟨gb104, 1, none⟩ = some (.int .u64 t102)) (ds := []) #[F,F,F,F,F,F,F,F,F,F,F,F,F,F,F,F,F,F,F,F,F,F,F,F,F,F,F,F] (by kernel_rfl) rfl rfl ⟨bc_ BK104 0 rfl, bc_ BK104 1 rfl⟩ (fun hHeld => ?_); refine with_tabW oculuslaw02_alive.tab2 oculuslaw02_alive.bits2 (fun HT_ HW_ => ?_)
      generalize w16.drew = w17 at BK104 HB hHeld ⊢; refine pure_ (i:=0) (N:=some 7) (v:=?_) (a':=?_) ⟨m_ 28 1⟩ rfl rfl (any_of HT_.out (by kernel_rfl)) (fun _ _ _ h=>h) (Or.inl ⟨rfl, ?_⟩) ?_ ?_; rotate_left
      ·intro w'; go_simp; with_reducible rfl
      rotate_left
      ·simp only [q_, i64_w, i32_w]; rfl
      refine pure_ (i:=1) (N:=some 8) (v:=?_) (a':=?_) ⟨m_ 28 3⟩ rfl rfl (any_of HT_.out (by kernel_rfl)) (fun _ _ _ h=>h) (Or.inl ⟨rfl, ?_⟩) ?_ ?_; rotate_left
      ·intro w'; go_simp; with_reducible rfl
      rotate_left
      ·simp only [q_, i64_w, i32_w]; rfl
      refine pure_ (i:=3) (N:=some 10) (v:=?_) (a':=?_) ⟨m_ 28 11⟩ rfl rfl (any_of HT_.out (by kernel_rfl)) (fun _ _ _ h=>h) (Or.inl ⟨rfl, ?_⟩) ?_ ?_; rotate_left
      ·intro w'; go_simp; with_reducible rfl
      rotate_left
      ·simp only [q_, i64_w, i32_w]; rfl
      refine take_ (i:=2) (N:=some 9) (v:=?_) (a':=?_) ⟨m_ 28 15⟩ rfl rfl (take_ofW HT_.out HW_.out (by kernel_rfl)) (fun _ _ _ h=>h) (Or.inl ⟨rfl, ?_⟩) hHeld ?_ ?_; rotate_left
      ·rintro w' ⟨s0, s1⟩; go_simp; with_reducible rfl
      rotate_left
      ·simp only [q_, i64_w, i32_w]; rfl
      refine pure_ (i:=4) (N:=some 11) (v:=?_) (a':=?_) ⟨m_ 28 31⟩ rfl rfl (any_of HT_.out (by kernel_rfl)) (fun _ _ _ h=>h) (Or.inl ⟨rfl, ?_⟩) ?_ ?_; rotate_left
      ·intro w'; go_simp; with_reducible rfl
      rotate_left
      ·simp only [q_, i64_w, i32_w]; rfl
      refine pure_ (i:=5) (N:=some 12) (v:=?_) (a':=?_) ⟨m_ 28 63⟩ rfl rfl (any_of HT_.out (by kernel_rfl)) (fun _ _ _ h=>h) (Or.inl ⟨rfl, ?_⟩) ?_ ?_; rotate_left
      ·intro w'; go_simp; with_reducible rfl
      rotate_left
      ·simp only [q_, i64_w, i32_w]; rfl
      refine pure_ (i:=6) (N:=some 13) (v:=?_) (a':=?_) ⟨m_ 28 127⟩ rfl rfl (any_of HT_.out (by kernel_rfl)) (fun _ _ _ h=>h) (Or.inl ⟨rfl, ?_⟩) ?_ ?_; rotate_left
      ·intro w'; go_simp; with_reducible rfl
      rotate_left
      ·simp only [q_, i64_w, i32_w]; rfl
      refine take_ (i:=7) (N:=some 14) (v:=?_) (a':=?_) ⟨m_ 28 255⟩ rfl rfl (take_ofW HT_.out HW_.out (by kernel_rfl)) (fun _ _ _ h=>h) (Or.inl ⟨rfl, ?_⟩) hHeld ?_ ?_; rotate_left
      ·rintro w' ⟨s0, s1⟩; go_simp; with_reducible rfl
      rotate_left
      ·simp only [q_, i64_w, i32_w]; rfl
      refine one_ (i:=8) (N:=some 15) ⟨m_ 28 511⟩ rfl rfl (one_of HT_.out (by kernel_rfl)) (by decide) (fun K hK => ?_); refine goes_ Tryd.func11 (by kernel_rfl) rfl #[.agg #[.int .i64 t101, .int .u64 t102]] (by rfl) rfl rfl (by (try simp only [List.map_toArray, List.map_cons, List.map_nil]); first | done | rfl | (simp only [List.length_drop, List.length_take]; rfl)) ?_; with_reducible refine (label_Text.calls k t101 t102 t105 _ (by refine tb_ ?_ hT; repeat' (first | exact pbx HB | assumption | refine below_set ?_ (Aside0.out ?_))) A4.out).mono ?_; rintro e w18 ⟨rfl, hb⟩; refine ⟨_, rfl, ?_⟩
      replace BK104 := bb_ BK104 hb; replace HB := bs_ HB hb; (try clear hb); (try clear hb2); (try clear hk); (try clear hi); refine hK.out _ _ ⟨bc_ BK104 0 rfl, bc_ BK104 1 rfl⟩ (fun hHeld => ?_); clear hK K; refine norm_ (a':=?_) ?_ ?_; rotate_left
      ·show Act.put _ (some 15) _ = _; simp only [q_, i64_w, i32_w]; rfl
      refine pure_ (i:=9) (N:=some 16) (v:=?_) (a':=?_) ⟨m_ 28 1023⟩ rfl rfl (any_of HT_.out (by kernel_rfl)) (fun _ _ _ h=>h) (Or.inl ⟨rfl, ?_⟩) ?_ ?_; rotate_left
      ·intro w'; go_simp; with_reducible rfl
      rotate_left
      ·simp only [q_, i64_w, i32_w]; rfl
      refine pure_ (i:=10) (N:=some 17) (v:=?_) (a':=?_) ⟨m_ 28 2047⟩ rfl rfl (any_of HT_.out (by kernel_rfl)) (fun _ _ _ h=>h) (Or.inl ⟨rfl, ?_⟩) ?_ ?_; rotate_left
      ·intro w'; go_simp; with_reducible rfl
      rotate_left
      ·simp only [q_, i64_w, i32_w]; rfl
      refine pure_ (i:=11) (N:=some 18) (v:=?_) (a':=?_) ⟨m_ 28 4095⟩ rfl rfl (any_of HT_.out (by kernel_rfl)) (fun _ _ _ h=>h) (Or.inl ⟨rfl, ?_⟩) ?_ ?_; rotate_left
      ·intro w'; go_simp; with_reducible rfl
      rotate_left
      ·simp only [q_, i64_w, i32_w]; rfl
      refine one_ (i:=12) (N:=some 19) ⟨m_ 28 8191⟩ rfl rfl (one_of HT_.out (by kernel_rfl)) (by decide) (fun K hK => ?_); refine goes_ Tryd.func43 (by kernel_rfl) rfl #[] (by rfl) rfl rfl (by (try simp only [List.map_toArray, List.map_cons, List.map_nil]); first | done | rfl | (simp only [List.length_drop, List.length_take]; rfl)) ?_; with_reducible refine (label_Top.calls  t106 t107 _ A6.out).mono ?_; rintro e w19 ⟨rfl, hb⟩; refine ⟨_, rfl, ?_⟩
      replace BK104 := bb_ BK104 hb; replace HB := bs_ HB hb; (try clear hb); (try clear hb2); (try clear hk); (try clear hi); refine hK.out _ _ ⟨bc_ BK104 0 rfl, bc_ BK104 1 rfl⟩ (fun hHeld => ?_); clear hK K; refine norm_ (a':=?_) ?_ ?_; rotate_left
      ·show Act.put _ (some 19) _ = _; simp only [q_, i64_w, i32_w]; rfl
      refine one_ (i:=13) (N:=some 20) ⟨m_ 28 16383⟩ rfl rfl (one_of HT_.out (by kernel_rfl)) (by decide) (fun K hK => ?_); refine goes_ Tryd.func11 (by kernel_rfl) rfl #[.agg #[.int .i64 t106, .int .u64 t107]] (by rfl) rfl rfl (by (try simp only [List.map_toArray, List.map_cons, List.map_nil]); first | done | rfl | (simp only [List.length_drop, List.length_take]; rfl)) ?_; with_reducible refine (label_Text.calls k t106 t107 t108 _ (by refine tb_ ?_ hT; repeat' (first | exact pbx HB | assumption | refine below_set ?_ (Aside0.out ?_))) A7.out).mono ?_; rintro e w20 ⟨rfl, hb⟩; refine ⟨_, rfl, ?_⟩
      replace BK104 := bb_ BK104 hb; replace HB := bs_ HB hb; (try clear hb); (try clear hb2); (try clear hk); (try clear hi); refine hK.out _ _ ⟨bc_ BK104 0 rfl, bc_ BK104 1 rfl⟩ (fun hHeld => ?_); clear hK K; refine norm_ (a':=?_) ?_ ?_; rotate_left
      ·show Act.put _ (some 20) _ = _; simp only [q_, i64_w, i32_w]; rfl
      refine pure_ (i:=14) (N:=some 21) (v:=?_) (a':=?_) ⟨m_ 28 32767⟩ rfl rfl (any_of HT_.out (by kernel_rfl)) (fun _ _ _ h=>h) (Or.inl ⟨rfl, ?_⟩) ?_ ?_; rotate_left
      ·intro w'; go_simp; with_reducible rfl
      rotate_left
      ·simp only [q_, i64_w, i32_w]; rfl
      refine pure_ (i:=15) (N:=some 22) (v:=?_) (a':=?_) ⟨m_ 28 65535⟩ rfl rfl (any_of HT_.out (by kernel_rfl)) (fun _ _ _ h=>h) (Or.inl ⟨rfl, ?_⟩) ?_ ?_; rotate_left
      ·intro w'; go_simp; with_reducible rfl
      rotate_left
      ·simp only [q_, i64_w, i32_w]; rfl
      refine pure_ (i:=16) (N:=some 23) (v:=?_) (a':=?_) ⟨m_ 28 131071⟩ rfl rfl (any_of HT_.out (by kernel_rfl)) (fun _ _ _ h=>h) (Or.inl ⟨rfl, ?_⟩) ?_ ?_; rotate_left
      ·intro w'; go_simp; with_reducible rfl
      rotate_left
      ·simp only [q_, i64_w, i32_w]; rfl
      refine take_ (i:=18) (N:=some 25) (v:=?_) (a':=?_) ⟨m_ 28 393215⟩ rfl rfl (take_ofW HT_.out HW_.out (by kernel_rfl)) (fun _ _ _ h=>h) (Or.inl ⟨rfl, ?_⟩) hHeld ?_ ?_; rotate_left
      ·rintro w' ⟨s0, s1⟩; go_simp; with_reducible rfl
      rotate_left
      ·simp only [q_, i64_w, i32_w]; rfl
      refine one_ (i:=17) (N:=some 24) ⟨m_ 28 524287⟩ rfl rfl (one_of HT_.out (by kernel_rfl)) (by decide) (fun K hK => ?_); refine goes_ Tryd.func42 (by kernel_rfl) rfl #[] (by rfl) rfl rfl (by (try simp only [List.map_toArray, List.map_cons, List.map_nil]); first | done | rfl | (simp only [List.length_drop, List.length_take]; rfl)) ?_; with_reducible refine (label_Bottom.calls  t109 t110 _ A9.out).mono ?_; rintro e w21 ⟨rfl, hb⟩; refine ⟨_, rfl, ?_⟩
      replace BK104 := bb_ BK104 hb; replace HB := bs_ HB hb; (try clear hb); (try clear hb2); (try clear hk); (try clear hi); refine hK.out _ _ ⟨bc_ BK104 0 rfl, bc_ BK104 1 rfl⟩ (fun hHeld => ?_); clear hK K; refine norm_ (a':=?_) ?_ ?_; rotate_left
      ·show Act.put _ (some 24) _ = _; simp only [q_, i64_w, i32_w]; rfl
      refine one_ (i:=19) (N:=some 26) ⟨m_ 28 1048575⟩ rfl rfl (one_of HT_.out (by kernel_rfl)) (by decide) (fun K hK => ?_); refine goes_ Tryd.func27 (by kernel_rfl) rfl #[.agg #[.int .i64 t109, .int .u64 t110], .agg #[.int .i64 t101, .int .u64 t102]] (by rfl) rfl rfl (by (try simp only [List.map_toArray, List.map_cons, List.map_nil]); first | done | rfl | (simp only [List.length_drop, List.length_take]; rfl)) ?_; with_reducible refine (label_Below.calls t109 t110 t101 t102 true _ A10.out).mono ?_; rintro e w22 ⟨rfl, hb⟩; refine ⟨_, rfl, ?_⟩
      replace BK104 := bb_ BK104 hb; replace HB := bs_ HB hb; (try clear hb); (try clear hb2); (try clear hk); (try clear hi); refine hK.out _ _ ⟨bc_ BK104 0 rfl, bc_ BK104 1 rfl⟩ (fun hHeld => ?_); clear hK K; refine norm_ (a':=?_) ?_ ?_; rotate_left
      ·show Act.put _ (some 26) _ = _; simp only [q_, i64_w, i32_w]; rfl
      refine pure_ (i:=20) (N:=some 27) (v:=?_) (a':=?_) ⟨m_ 28 2097151⟩ rfl rfl (any_of HT_.out (by kernel_rfl)) (fun _ _ _ h=>h) (Or.inl ⟨rfl, ?_⟩) ?_ ?_; rotate_left
      ·intro w'; go_simp; with_reducible rfl
      rotate_left
      ·simp only [q_, i64_w, i32_w]; rfl
      refine pure_ (i:=21) (N:=some 28) (v:=?_) (a':=?_) ⟨m_ 28 4194303⟩ rfl rfl (any_of HT_.out (by kernel_rfl)) (fun _ _ _ h=>h) (Or.inl ⟨rfl, ?_⟩) ?_ ?_; rotate_left
      ·intro w'; go_simp; with_reducible rfl
      rotate_left
      ·simp only [q_, i64_w, i32_w]; rfl
      refine pure_ (i:=23) (N:=some 30) (v:=?_) (a':=?_) ⟨m_ 28 12582911⟩ rfl rfl (any_of HT_.out (by kernel_rfl)) (fun _ _ _ h=>h) (Or.inl ⟨rfl, ?_⟩) ?_ ?_; rotate_left
      ·intro w'; go_simp; with_reducible rfl
      rotate_left
      ·simp only [q_, i64_w, i32_w]; rfl
      refine take_ (i:=22) (N:=some 29) (v:=?_) (a':=?_) ⟨m_ 28 16777215⟩ rfl rfl (take_ofW HT_.out HW_.out (by kernel_rfl)) (fun _ _ _ h=>h) (Or.inl ⟨rfl, ?_⟩) hHeld ?_ ?_; rotate_left
      ·rintro w' ⟨s0, s1⟩; go_simp; with_reducible rfl
      rotate_left
      ·simp only [q_, i64_w, i32_w]; rfl
      refine one_ (i:=24) (N:=some 31) ⟨m_ 28 33554431⟩ rfl rfl (one_of HT_.out (by kernel_rfl)) (by decide) (fun K hK => ?_); refine goes_ Tryd.func27 (by kernel_rfl) rfl #[.agg #[.int .i64 t101, .int .u64 t102], .agg #[.int .i64 9, .int .u64 0]] (by rfl) rfl rfl (by (try simp only [List.map_toArray, List.map_cons, List.map_nil]); first | done | rfl | (simp only [List.length_drop, List.length_take]; rfl)) ?_; with_reducible refine (label_Below.calls t101 t102 9 0 t112 _ A12.out).mono ?_; rintro e w23 ⟨rfl, hb⟩; refine ⟨_, rfl, ?_⟩
      replace BK104 := bb_ BK104 hb; replace HB := bs_ HB hb; (try clear hb); (try clear hb2); (try clear hk); (try clear hi); refine hK.out _ _ ⟨bc_ BK104 0 rfl, bc_ BK104 1 rfl⟩ (fun hHeld => ?_); clear hK K; refine norm_ (a':=?_) ?_ ?_; rotate_left
      ·show Act.put _ (some 31) _ = _; simp only [q_, i64_w, i32_w]; rfl
      refine pure_ (i:=25) (N:=some 32) (v:=?_) (a':=?_) ⟨m_ 28 67108863⟩ rfl rfl (any_of HT_.out (by kernel_rfl)) (fun _ _ _ h=>h) (Or.inl ⟨rfl, ?_⟩) ?_ ?_; rotate_left
      ·intro w'; go_simp; with_reducible rfl
      rotate_left
      ·simp only [q_, i64_w, i32_w]; rfl
      refine pure_ (i:=26) (N:=some 33) (v:=?_) (a':=?_) ⟨m_ 28 134217727⟩ rfl rfl (any_of HT_.out (by kernel_rfl)) (fun _ _ _ h=>h) (Or.inl ⟨rfl, ?_⟩) ?_ ?_; rotate_left
      ·intro w'; go_simp; with_reducible rfl
      rotate_left
      ·simp only [q_, i64_w, i32_w]; rfl
      refine pure_ (i:=27) (N:=some 0) (v:=?_) (a':=?_) ⟨m_ 28 268435455⟩ rfl rfl (any_of HT_.out (by kernel_rfl)) (fun _ _ _ h=>h) (Or.inl ⟨rfl, ?_⟩) ?_ ?_; rotate_left
      ·intro w'; go_simp; with_reducible rfl
      rotate_left
      ·simp only [q_, i64_w, i32_w]; rfl
      refine done_ (done_of HT_.out (by kernel_rfl)) ?_
      try go_wp2
      go_ret
      exact ⟨by first | rfl | (simp [errW_none, errW_some] <;> rfl) | (simp [*, errW_none, errW_some] <;> rfl), pbx HB⟩
     ·replace c11 := Bool.eq_false_iff.mpr c11; subst c11
      have H1 : (none) = some r := by rw [if_neg (show ¬ (false = true) by decide)] at H; exact H
      clear H; have H := H1; clear H1
      exact absurd H (by simp)
    ·rw [if_neg c8] at H; have c8b0 : (t108.toList == ([116, 111, 112] : List UInt8)) = false := beq_eq_false_iff_ne.mpr c8; have c8b1 : (t108.toList != ([116, 111, 112] : List UInt8)) = true := bne_iff_ne.mpr c8
     exact absurd H (by simp)
   ·rw [if_neg c5] at H; have c5b0 : (t105.toList == ([50, 58, 48, 44, 53] : List UInt8)) = false := beq_eq_false_iff_ne.mpr c5; have c5b1 : (t105.toList != ([50, 58, 48, 44, 53] : List UInt8)) = true := bne_iff_ne.mpr c5
    exact absurd H (by simp)
  ·rw [if_neg c3] at H
   have c3b0 : (t101 == 2 && (t102 == 33)) = false := by simpa using c3
   (try (have c3b1 : decide (t101 = 2 && (t102 == 33)) = false := by simpa using c3)); (try (have c3b2 : (t101 == 2 && (t102 == 33)) = false := by simpa using c3)); (try (have c3b3 : ¬ (t101 = 2 && (t102 == 33)) := by simpa using c3)); clear c3
   exact absurd H (by simp)
 ·replace c2 := Bool.eq_false_iff.mpr c2; subst c2
  have H1 : (none) = some r := by rw [if_neg (show ¬ (false = true) by decide)] at H; exact H
  clear H; have H := H1; clear H1
  exact absurd H (by simp)

end Go.Proofs.YtfcpkehldmehjaaDoor.X
namespace Go.Proofs.YtfcpkehldmehjaaDoor.X
open Go.RowKit Go.Proofs.YtfcpkehldmehjaaDoorW.PrintWords Go.Proofs.YtfcpkehldmehjaaDoorW.PrintLast Go.Proofs.YtfcpkehldmehjaaDoorW.PrintMore
attribute [local go_sem] max2_int min2_int max_two min_two max_three min_three max_four min_four   -- for this text's walks alone
set_option linter.unusedVariables false
set_option linter.unusedSimpArgs false

/-! ### label_Join: function 25 -/
def label_Join.f (a0_0 : Int) (a0_1 : Int) (a1_0 : Int) (a1_1 : Int) : Option (Int × Int) := some (mx a0_0 a1_0, Go.bits .or .u64 a0_1 a1_1)
set_option maxHeartbeats 8000000 in
set_option maxRecDepth 100000 in
theorem label_Join.calls (a0_0 : Int) (a0_1 : Int) (a1_0 : Int) (a1_1 : Int) (r1 : Int) (r2 : Int) (w : World) (h : label_Join.f a0_0 a0_1 a1_0 a1_1 = some (r1, r2)) :
  Calls Tryd.prog 25 #[.agg #[.int .i64 a0_0, .int .u64 a0_1], .agg #[.int .i64 a1_0, .int .u64 a1_1]] w fun e w' => e = .returned (.agg #[.int .i64 r1, .int .u64 r2]) ∧ Below w.heap.size w w' := by
 have hu24 := Tryd.underlying24; have HB := Aside0.mk (Below.refl w.heap.size w)
 have H : (some (mx a0_0 a1_0, Go.bits .or .u64 a0_1 a1_1)) = some (r1, r2) := h
 clear h; obtain ⟨ji3, hji3⟩ : ∃ j_ : Int, (mx a0_0 a1_0) = j_ := ⟨_, rfl⟩
 replace H : (some (ji3, Go.bits .or .u64 a0_1 a1_1)) = some (r1, r2) := by first | (rw [hji3] at H; exact H) | (simp only [hji3] at H ⊢; exact H)
 have hji3_ : (if a0_0 < a1_0 then a1_0 else a0_0) = ji3 := hji3
 simp only [Option.some.injEq, Prod.mk.injEq] at H
 obtain ⟨rfl, rfl⟩ := H
 go_enter Tryd.func25, Tryd.ntmps25
 go_wp2_with (first | ((with_reducible refine gate_dst (N:=2) rfl ?_); refine box_event ?hg (N:=2) ?hd (cs := #[.int .i64 a0_0, .int .u64 a0_1]) (t:=24) ?hr ?_; (case hd => rfl); (case hg => rfl); (case hr => first | (go_simp; done) | (go_simp; rfl)); intro gb101 hg w4 hbox hb; have BK101 := Aside0.mk (hbox); have GW101 := hs_ HB hg; have GE101 := hs_ HB hg; replace HB := bs_ HB hb; clear hb hbox hg) | ((with_reducible refine gate_dst (N:=3) rfl ?_); refine box_event ?hg (N:=3) ?hd (cs := #[.int .i64 a1_0, .int .u64 a1_1]) (t:=24) ?hr ?_; (case hd => rfl); (case hg => rfl); (case hr => first | (go_simp; done) | (go_simp; rfl)); intro gb102 hg w5 hbox hb; have BK102 := Aside0.mk (hbox); have GW102 := hs_ HB hg; have GE102 := hs_ HB hg; have NB101_102 := hl_ BK101 hg; have NB102_101 := hr_ BK101 hg; replace BK101 := bb_ BK101 hb; replace HB := bs_ HB hb; clear hb hbox hg) | ((with_reducible refine gate_dst (N:=4) rfl ?_); refine box_event ?hg (N:=4) ?hd (cs := #[.int .i64 0, .int .u64 0]) (t:=24) ?hr ?_; (case hd => rfl); (case hg => rfl); (case hr => first | (go_simp; done) | (go_simp; rfl)); intro gb103 hg w6 hbox hb; have BK103 := Aside0.mk (hbox); have GW103 := hs_ HB hg; have GE103 := hs_ HB hg; have NB101_103 := hl_ BK101 hg; have NB103_101 := hr_ BK101 hg; have NB102_103 := hl_ BK102 hg; have NB103_102 := hr_ BK102 hg; replace BK101 := bb_ BK101 hb; replace BK102 := bb_ BK102 hb; replace HB := bs_ HB hb; clear hb hbox hg; have hnb7 := NB101_102.out; have hnc7 := NB102_101.out; have hnb8 := NB101_103.out; have hnc8 := NB103_101.out; have hcz9_0 : w6.cell? ⟨gb101, 0, none⟩ = some (.int .i64 a0_0) := bc_ BK101 0 rfl; have hcz9_1 : w6.cell? ⟨gb101, 1, none⟩ = some (.int .u64 a0_1) := bc_ BK101 1 rfl; have hfz9_0 := blk_frozen BK101.out 0; have hfz9_1 := blk_frozen BK101.out 1; have hnb10 := NB102_103.out; have hnc10 := NB103_102.out; have hcz11_0 : w6.cell? ⟨gb102, 0, none⟩ = some (.int .i64 a1_0) := bc_ BK102 0 rfl; have hcz11_1 : w6.cell? ⟨gb102, 1, none⟩ = some (.int .u64 a1_1) := bc_ BK102 1 rfl; have hfz11_0 := blk_frozen BK102.out 0; have hfz11_1 := blk_frozen BK102.out 1; have hcz12_0 : w6.cell? ⟨gb103, 0, none⟩ = some (.int .i64 0) := bc_ BK103 0 rfl; have hcz12_1 : w6.cell? ⟨gb103, 1, none⟩ = some (.int .u64 0) := bc_ BK103 1 rfl; have hfz12_0 := blk_frozen BK103.out 0; have hfz12_1 := blk_frozen BK103.out 1))
 refine bodyPost_ret (results_cell_row rfl _ _ gb103 24 #[.int .i64 ji3, .int .u64 (Go.bits .or .u64 a0_1 a1_1)] (0, 0) _ rfl (by (with_reducible repeat (first | refine blk_drewN ?_ _ | refine blk_drew ?_ | refine blk_alloc ?_ _)); refine blk_put (cs := #[.int .i64 ji3, .int .u64 0]) ?_ 1 _ rfl; refine blk_put (cs := #[.int .i64 0, .int .u64 0]) ?_ 0 _ rfl; (with_reducible repeat (first | refine blk_drewN ?_ _ | refine blk_drew ?_ | refine blk_alloc ?_ _)); exact BK103.out) Tryd.underlying24 rfl (by kernel_rfl)) rfl ?_
 exact ⟨by first | rfl | (simp [errW_none, errW_some] <;> rfl) | (simp only [← hji3]; first | rfl | (simp [errW_none, errW_some] <;> rfl)) | (simp [*, errW_none, errW_some] <;> rfl), by repeat (first | (with_reducible first | exact HB.out | apply below_alloc | apply pw_below_drewN | apply below_drew1 | refine below_set ?_ GE101.out | refine below_set ?_ GE102.out | refine below_set ?_ GE103.out) | exact HB.out)⟩

end Go.Proofs.YtfcpkehldmehjaaDoor.X
namespace Go.Proofs.YtfcpkehldmehjaaDoor.X
open Go.RowKit Go.Proofs.YtfcpkehldmehjaaDoorW.PrintWords Go.Proofs.YtfcpkehldmehjaaDoorW.PrintLast Go.Proofs.YtfcpkehldmehjaaDoorW.PrintMore
attribute [local go_sem] max2_int min2_int max_two min_two max_three min_three max_four min_four   -- for this text's walks alone
set_option linter.unusedVariables false
set_option linter.unusedSimpArgs false

/-! ### label_Meet: function 26 -/
def label_Meet.f (a0_0 : Int) (a0_1 : Int) (a1_0 : Int) (a1_1 : Int) : Option (Int × Int) := some (mn a0_0 a1_0, Go.bits .and .u64 a0_1 a1_1)
set_option maxHeartbeats 8000000 in
set_option maxRecDepth 100000 in
theorem label_Meet.calls (a0_0 : Int) (a0_1 : Int) (a1_0 : Int) (a1_1 : Int) (r1 : Int) (r2 : Int) (w : World) (h : label_Meet.f a0_0 a0_1 a1_0 a1_1 = some (r1, r2)) :
  Calls Tryd.prog 26 #[.agg #[.int .i64 a0_0, .int .u64 a0_1], .agg #[.int .i64 a1_0, .int .u64 a1_1]] w fun e w' => e = .returned (.agg #[.int .i64 r1, .int .u64 r2]) ∧ Below w.heap.size w w' := by
 have hu24 := Tryd.underlying24; have HB := Aside0.mk (Below.refl w.heap.size w)
 have H : (some (mn a0_0 a1_0, Go.bits .and .u64 a0_1 a1_1)) = some (r1, r2) := h
 clear h; obtain ⟨ji3, hji3⟩ : ∃ j_ : Int, (mn a0_0 a1_0) = j_ := ⟨_, rfl⟩
 replace H : (some (ji3, Go.bits .and .u64 a0_1 a1_1)) = some (r1, r2) := by first | (rw [hji3] at H; exact H) | (simp only [hji3] at H ⊢; exact H)
 have hji3_ : (if a1_0 < a0_0 then a1_0 else a0_0) = ji3 := hji3
 simp only [Option.some.injEq, Prod.mk.injEq] at H
 obtain ⟨rfl, rfl⟩ := H
 go_enter Tryd.func26, Tryd.ntmps26
 go_wp2_with (first | ((with_reducible refine gate_dst (N:=2) rfl ?_); refine box_event ?hg (N:=2) ?hd (cs := #[.int .i64 a0_0, .int .u64 a0_1]) (t:=24) ?hr ?_; (case hd => rfl); (case hg => rfl); (case hr => first | (go_simp; done) | (go_simp; rfl)); intro gb101 hg w4 hbox hb; have BK101 := Aside0.mk (hbox); have GW101 := hs_ HB hg; have GE101 := hs_ HB hg; replace HB := bs_ HB hb; clear hb hbox hg) | ((with_reducible refine gate_dst (N:=3) rfl ?_); refine box_event ?hg (N:=3) ?hd (cs := #[.int .i64 a1_0, .int .u64 a1_1]) (t:=24) ?hr ?_; (case hd => rfl); (case hg => rfl); (case hr => first | (go_simp; done) | (go_simp; rfl)); intro gb102 hg w5 hbox hb; have BK102 := Aside0.mk (hbox); have GW102 := hs_ HB hg; have GE102 := hs_ HB hg; have NB101_102 := hl_ BK101 hg; have NB102_101 := hr_ BK101 hg; replace BK101 := bb_ BK101 hb; replace HB := bs_ HB hb; clear hb hbox hg) | ((with_reducible refine gate_dst (N:=4) rfl ?_); refine box_event ?hg (N:=4) ?hd (cs := #[.int .i64 0, .int .u64 0]) (t:=24) ?hr ?_; (case hd => rfl); (case hg => rfl); (case hr => first | (go_simp; done) | (go_simp; rfl)); intro gb103 hg w6 hbox hb; have BK103 := Aside0.mk (hbox); have GW103 := hs_ HB hg; have GE103 := hs_ HB hg; have NB101_103 := hl_ BK101 hg; have NB103_101 := hr_ BK101 hg; have NB102_103 := hl_ BK102 hg; have NB103_102 := hr_ BK102 hg; replace BK101 := bb_ BK101 hb; replace BK102 := bb_ BK102 hb; replace HB := bs_ HB hb; clear hb hbox hg; have hnb7 := NB101_102.out; have hnc7 := NB102_101.out; have hnb8 := NB101_103.out; have hnc8 := NB103_101.out; have hcz9_0 : w6.cell? ⟨gb101, 0, none⟩ = some (.int .i64 a0_0) := bc_ BK101 0 rfl; have hcz9_1 : w6.cell? ⟨gb101, 1, none⟩ = some (.int .u64 a0_1) := bc_ BK101 1 rfl; have hfz9_0 := blk_frozen BK101.out 0; have hfz9_1 := blk_frozen BK101.out 1; have hnb10 := NB102_103.out; have hnc10 := NB103_102.out; have hcz11_0 : w6.cell? ⟨gb102, 0, none⟩ = some (.int .i64 a1_0) := bc_ BK102 0 rfl; have hcz11_1 : w6.cell? ⟨gb102, 1, none⟩ = some (.int .u64 a1_1) := bc_ BK102 1 rfl; have hfz11_0 := blk_frozen BK102.out 0; have hfz11_1 := blk_frozen BK102.out 1; have hcz12_0 : w6.cell? ⟨gb103, 0, none⟩ = some (.int .i64 0) := bc_ BK103 0 rfl; have hcz12_1 : w6.cell? ⟨gb103, 1, none⟩ = some (.int .u64 0) := bc_ BK103 1 rfl; have hfz12_0 := blk_frozen BK103.out 0; have hfz12_1 := blk_frozen BK103.out 1))
 refine bodyPost_ret (results_cell_row rfl _ _ gb103 24 #[.int .i64 ji3, .int .u64 (Go.bits .and .u64 a0_1 a1_1)] (0, 0) _ rfl (by (with_reducible repeat (first | refine blk_drewN ?_ _ | refine blk_drew ?_ | refine blk_alloc ?_ _)); refine blk_put (cs := #[.int .i64 ji3, .int .u64 0]) ?_ 1 _ rfl; refine blk_put (cs := #[.int .i64 0, .int .u64 0]) ?_ 0 _ rfl; (with_reducible repeat (first | refine blk_drewN ?_ _ | refine blk_drew ?_ | refine blk_alloc ?_ _)); exact BK103.out) Tryd.underlying24 rfl (by kernel_rfl)) rfl ?_
 exact ⟨by first | rfl | (simp [errW_none, errW_some] <;> rfl) | (simp only [← hji3]; first | rfl | (simp [errW_none, errW_some] <;> rfl)) | (simp [*, errW_none, errW_some] <;> rfl), by repeat (first | (with_reducible first | exact HB.out | apply below_alloc | apply pw_below_drewN | apply below_drew1 | refine below_set ?_ GE101.out | refine below_set ?_ GE102.out | refine below_set ?_ GE103.out) | exact HB.out)⟩

end Go.Proofs.YtfcpkehldmehjaaDoor.X
