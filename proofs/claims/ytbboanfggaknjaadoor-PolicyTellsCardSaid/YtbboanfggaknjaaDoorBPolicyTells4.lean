/- Contracts of the functions that the law PolicyTells reaches, and what they answer (a session's own texts, joined; part 4). -/
import Derived.Shelf.Spec.TrailingZeros
import Derived.Test.YtbboanfggaknjaaDoorBPolicyTells3
namespace Go.Proofs.YtbboanfggaknjaaDoor.X
open Go.RowKit Go.Proofs.YtbboanfggaknjaaDoorW.PrintWords Go.Proofs.YtbboanfggaknjaaDoorW.PrintLast Go.Proofs.YtbboanfggaknjaaDoorW.PrintMore
attribute [local go_sem] max2_int min2_int max_two min_two max_three min_three max_four min_four
set_option linter.unusedVariables false
set_option linter.unusedSimpArgs false
attribute [local go_sem high] eqA38
def span_Text.j0 : Nat → Bool → Int → Int → Int → Int → Option (ByteArray)
 | 0, _, _, _, _, _ => none
 | k + 1, x3, x102000, x102001, x102002, x102003 => if x3 = true then (some (⟨#[]⟩ : ByteArray)) else (if (x102000 == x102002 && (x102001 == x102003)) = true then ((addr_Name.f k x102000 x102001).bind fun t103 => (some t103)) else ((addr_Name.f k x102000 x102001).bind fun t104 => (if t104.size + 1 ≤ 9223372036854775807 then ((addr_Name.f k x102002 x102003).bind fun t105 => (if (t104 ++ (⟨#[58]⟩ : ByteArray)).size + t105.size ≤ 9223372036854775807 then (some ((t104 ++ (⟨#[58]⟩ : ByteArray)) ++ t105)) else (none))) else (none))))
def span_Text.f (k : Nat) (a0_0 : Int) (a0_1 : Int) (a0_2 : Int) (a0_3 : Int) : Option (ByteArray) := (span_May.f a0_0 a0_1 a0_2 a0_3).bind fun t102 => (span_Text.j0 k (!t102) a0_0 a0_1 a0_2 a0_3)
theorem span_Text.mono_l : ∀ k, (∀ y0 y1 y2 y3 y4, LeO (span_Text.j0 k y0 y1 y2 y3 y4) (span_Text.j0 (k + 1) y0 y1 y2 y3 y4))
 | 0 => fun _ _ _ _ _ r h => by simp [span_Text.j0] at h
 | k + 1 => by
  have ih0 := span_Text.mono_l k
  ·intro y0 y1 y2 y3 y4
   unfold span_Text.j0
   repeat' first
   | (with_reducible exact ih0 _ _ _ _ _)
   | (with_reducible exact addr_Name.mono _ _ _)
   | (with_reducible exact LeO.refl _)
   | (with_reducible exact LeO.none _)
   | (with_reducible refine LeO.ite ?_ ?_)
   | (with_reducible refine LeO.bind ?_ (fun _ => ?_))
theorem span_Text.mono : ∀ a0 a1 a2 a3 k, LeO (span_Text.f k a0 a1 a2 a3) (span_Text.f (k + 1) a0 a1 a2 a3) := by
 intro a0 a1 a2 a3 k; have ih0 := span_Text.mono_l k
 unfold span_Text.f
 repeat' first
   | (with_reducible exact ih0 _ _ _ _ _)
   | (with_reducible exact addr_Name.mono _ _ _)
   | (with_reducible exact LeO.refl _)
   | (with_reducible exact LeO.none _)
   | (with_reducible refine LeO.ite ?_ ?_)
   | (with_reducible refine LeO.bind ?_ (fun _ => ?_))
def span_Text.T5 : Bool × List (List Nat × List Nat) := (true, [([], []), ([0], [0]), ([1], [1]), ([2], [2]), ([], []), ([4], [4]), ([5, 2], [5]), ([3, 6], [3, 6]), ([7, 6, 0, 1, 2, 3, 4, 5, 6, 7], [7])])
def span_Text.B5 : List Nat := [0, 1, 3, 7, 0, 16, 55, 127, 255]
theorem span_Text.tab5 : rtab .any (opsOf Tryd.f20 5) = span_Text.T5 := by kernel_rfl
theorem span_Text.bits5 : waitsOk span_Text.T5.2 span_Text.B5 = true := by kernel_rfl
set_option maxHeartbeats 8000000 in
set_option maxRecDepth 100000 in
theorem span_Text.calls (k : Nat) (a0_0 : Int) (a0_1 : Int) (a0_2 : Int) (a0_3 : Int) (r : ByteArray) (w : World) (hT : Aside0 (Tab w)) (h : span_Text.f k a0_0 a0_1 a0_2 a0_3 = some r) :
  Calls Tryd.prog 20 #[.agg #[.int .i64 a0_0, .int .i64 a0_1, .int .i64 a0_2, .int .i64 a0_3]] w fun e w' => e = .returned (.string r) ∧ Below w.heap.size w w' := by
 have hu56 := Tryd.underlying56; have hu38 := Tryd.underlying38; have HB := Aside0.mk (Below.refl w.heap.size w)
 have H : ((span_May.f a0_0 a0_1 a0_2 a0_3).bind fun t102 => (span_Text.j0 k (!t102) a0_0 a0_1 a0_2 a0_3)) = some r := h
 clear h; have HC2 := Aside0.mk H; clear H
 go_enter Tryd.func20, Tryd.ntmps20
 go_upto_region 1 with (first | ((with_reducible refine gate_dst (N:=1) rfl ?_); refine be_ (N:=1) (cs := #[.int .i64 a0_0, .int .i64 a0_1, .int .i64 a0_2, .int .i64 a0_3]) (t:=56) ?_; intro gb101 hg w3 hbox hb; have BK101 := Aside0.mk (hbox); have GW101 := hs_ HB hg; have GE101 := hs_ HB hg; replace HB := bs_ HB hb; clear hb hbox hg))
 (try simp only [q_])
 go_cut [3] (fun v3 wc => ∃ (kq : Nat) (x3_1 : Bool), v3 = .bool x3_1 ∧ Aside0 (span_Text.j0 kq x3_1 a0_0 a0_1 a0_2 a0_3 = some r) ∧ Aside0 (kq ≤ k) ∧ Aside0 (wc.heap[gb101]? = some (.cells #[.int .i64 a0_0, .int .i64 a0_1, .int .i64 a0_2, .int .i64 a0_3] 56 (0, 0))) ∧ Aside0 (Below w.heap.size w wc))
 case first =>
  have H := HC2.out; clear HC2; replace H := Option.bind_eq_some_iff.mp H; obtain ⟨t102, A40, H⟩ := H
  replace H : (span_Text.j0 k (!t102) a0_0 a0_1 a0_2 a0_3) = some r := H
  have A4 := Aside0.mk A40; clear A40
  have H' := Aside0.mk H
  clear H
  have hcz5_0 : w3.cell? ⟨gb101, 0, none⟩ = some (.int .i64 a0_0) := bc_ BK101 0 rfl
  have hcz5_1 : w3.cell? ⟨gb101, 1, none⟩ = some (.int .i64 a0_1) := bc_ BK101 1 rfl
  have hcz5_2 : w3.cell? ⟨gb101, 2, none⟩ = some (.int .i64 a0_2) := bc_ BK101 2 rfl
  have hcz5_3 : w3.cell? ⟨gb101, 3, none⟩ = some (.int .i64 a0_3) := bc_ BK101 3 rfl
  have hfz5_0 := blk_frozen BK101.out 0; have hfz5_1 := blk_frozen BK101.out 1; have hfz5_2 := blk_frozen BK101.out 2; have hfz5_3 := blk_frozen BK101.out 3
  go_wp2_with (first | ((with_reducible refine gate_callee (f:=38) rfl ?_); refine gL_ (some 5) rfl rfl Tryd.func38 rfl #[.agg #[.int .i64 a0_0, .int .i64 a0_1, .int .i64 a0_2, .int .i64 a0_3]] rfl ?_; (with_reducible refine (span_May.calls a0_0 a0_1 a0_2 a0_3 t102 _ A4.out).mono ?_); rintro e w6 ⟨rfl, hb⟩; refine ⟨_, rfl, ?_⟩; replace BK101 := bb_ BK101 hb; replace HB := bs_ HB hb; (try clear hb); (try clear hb2); (try clear hk); (try clear hi)))
  go_meet
  case rel => exact ⟨_, (!t102), (by first | rfl | (simp; done) | (simp [*]; done) | (cases t102 <;> simp; done)), H', ⟨by first | omega | exact Nat.le_refl _⟩, ⟨pkx BK101⟩, ⟨pbx HB⟩⟩
 case rest =>
  clear HC2; (try clear c2); (try clear p2); (try clear c3); (try clear hcz5_0); (try clear hcz5_1); (try clear hcz5_2); (try clear hcz5_3); (try clear hfz5_0); (try clear hfz5_1); (try clear hfz5_2); (try clear hfz5_3); obtain ⟨kq, x3_1, rfl, HA, HJ1, BK101, HB⟩ := hcut
  cases kq with
  | zero => exact absurd HA.out (by simp [span_Text.j0])
  | succ kj1 =>
   have H := HA.out; clear HA
   simp only [span_Text.j0] at H
   by_cases c7 : x3_1 = true
   ·subst c7
    have H1 : (some (⟨#[]⟩ : ByteArray)) = some r := by rw [if_pos rfl] at H; exact H
    clear H; have H := H1; clear H1; obtain rfl := Option.some.inj H
    go_wp2
    go_ret
    exact ⟨by first | rfl | (simp [errW_none, errW_some] <;> rfl) | (simp [*, errW_none, errW_some] <;> rfl), pbx HB⟩
   ·replace c7 := Bool.eq_false_iff.mpr c7; subst c7
    have H1 : (if (a0_0 == a0_2 && (a0_1 == a0_3)) = true then ((addr_Name.f kj1 a0_0 a0_1).bind fun t103 => (some t103)) else ((addr_Name.f kj1 a0_0 a0_1).bind fun t104 => (if t104.size + 1 ≤ 9223372036854775807 then ((addr_Name.f kj1 a0_2 a0_3).bind fun t105 => (if (t104 ++ (⟨#[58]⟩ : ByteArray)).size + t105.size ≤ 9223372036854775807 then (some ((t104 ++ (⟨#[58]⟩ : ByteArray)) ++ t105)) else (none))) else (none)))) = some r := by rw [if_neg (show ¬ (false = true) by decide)] at H; exact H
    clear H; have H := H1; clear H1
    by_cases c8 : (a0_0 == a0_2 && (a0_1 == a0_3)) = true
    ·rw [if_pos c8] at H
     have c8b0 : (a0_0 == a0_2 && (a0_1 == a0_3)) = true := c8
     (try (have c8b1 : decide (a0_0 = a0_2 && (a0_1 == a0_3)) = true := by simpa using c8)); (try (have c8b2 : (a0_0 == a0_2 && (a0_1 == a0_3)) = true := by simpa using c8))
     clear c8; replace H := Option.bind_eq_some_iff.mp H; obtain ⟨t103, A90, H⟩ := H
     replace H : (some t103) = some r := H
     have A9 := Aside0.mk A90; clear A90; obtain rfl := Option.some.inj H
     have hcz10_0 : wc.cell? ⟨gb101, 0, none⟩ = some (.int .i64 a0_0) := bc_ BK101 0 rfl
     have hcz10_1 : wc.cell? ⟨gb101, 1, none⟩ = some (.int .i64 a0_1) := bc_ BK101 1 rfl
     have hcz10_2 : wc.cell? ⟨gb101, 2, none⟩ = some (.int .i64 a0_2) := bc_ BK101 2 rfl
     have hcz10_3 : wc.cell? ⟨gb101, 3, none⟩ = some (.int .i64 a0_3) := bc_ BK101 3 rfl
     have hfz10_0 := blk_frozen BK101.out 0; have hfz10_1 := blk_frozen BK101.out 1; have hfz10_2 := blk_frozen BK101.out 2; have hfz10_3 := blk_frozen BK101.out 3
     go_wp2_with (first | ((with_reducible refine gate_callee (f:=39) rfl ?_); refine gL_ (some 15) rfl rfl Tryd.func39 rfl #[.agg #[.int .i64 a0_0, .int .i64 a0_1]] rfl ?_; (with_reducible refine (addr_Name.calls kj1 a0_0 a0_1 t103 _ (by refine tb_ ?_ hT; repeat' (first | exact pbx HB | exact Below.refl _ _ | assumption | refine below_set ?_ (Aside0.out ?_))) A9.out).mono ?_); rintro e w11 ⟨rfl, hb⟩; refine ⟨_, rfl, ?_⟩; replace BK101 := bb_ BK101 hb; replace HB := bs_ HB hb; (try clear hb); (try clear hb2); (try clear hk); (try clear hi)))
     go_ret
     exact ⟨by first | rfl | (simp [errW_none, errW_some] <;> rfl) | (simp [*, errW_none, errW_some] <;> rfl), pbx HB⟩
    ·rw [if_neg c8] at H
     have c8b0 : (a0_0 == a0_2 && (a0_1 == a0_3)) = false := by simpa using c8
     (try (have c8b1 : decide (a0_0 = a0_2 && (a0_1 == a0_3)) = false := by simpa using c8)); (try (have c8b2 : (a0_0 == a0_2 && (a0_1 == a0_3)) = false := by simpa using c8)); (try (have c8b3 : ¬ (a0_0 = a0_2 && (a0_1 == a0_3)) := by simpa using c8))
     clear c8; replace H := Option.bind_eq_some_iff.mp H; obtain ⟨t104, A120, H⟩ := H
     replace H : (if t104.size + 1 ≤ 9223372036854775807 then ((addr_Name.f kj1 a0_2 a0_3).bind fun t105 => (if (t104 ++ (⟨#[58]⟩ : ByteArray)).size + t105.size ≤ 9223372036854775807 then (some ((t104 ++ (⟨#[58]⟩ : ByteArray)) ++ t105)) else (none))) else (none)) = some r := H
     have A12 := Aside0.mk A120; clear A120
     by_cases c13 : t104.size + 1 ≤ 9223372036854775807
     ·rw [if_pos c13] at H; have c13b0 := eq_true c13; have c13b1 : decide (t104.size + 1 ≤ 9223372036854775807) = true := decide_eq_true c13
      try have c13b2 : (9223372036854775807 < t104.size + 1) = False := eq_false (Nat.not_lt.2 c13)
      replace H := Option.bind_eq_some_iff.mp H; obtain ⟨t105, A140, H⟩ := H
      replace H : (if (t104 ++ (⟨#[58]⟩ : ByteArray)).size + t105.size ≤ 9223372036854775807 then (some ((t104 ++ (⟨#[58]⟩ : ByteArray)) ++ t105)) else (none)) = some r := H
      have A14 := Aside0.mk A140; clear A140
      by_cases c15 : (t104 ++ (⟨#[58]⟩ : ByteArray)).size + t105.size ≤ 9223372036854775807
      ·rw [if_pos c15] at H; have c15b0 := eq_true c15; have c15b1 : decide ((t104 ++ (⟨#[58]⟩ : ByteArray)).size + t105.size ≤ 9223372036854775807) = true := decide_eq_true c15
       try have c15b2 : (9223372036854775807 < (t104 ++ (⟨#[58]⟩ : ByteArray)).size + t105.size) = False := eq_false (Nat.not_lt.2 c15)
       try have c15b2z : (9223372036854775807 < t104.size + 1 + t105.size) = False := by have h9_ := c15b2; rw [ByteArray.size_append] at h9_; exact h9_
       obtain rfl := Option.some.inj H
       have hcz16_0 : wc.cell? ⟨gb101, 0, none⟩ = some (.int .i64 a0_0) := bc_ BK101 0 rfl
       have hcz16_1 : wc.cell? ⟨gb101, 1, none⟩ = some (.int .i64 a0_1) := bc_ BK101 1 rfl
       have hcz16_2 : wc.cell? ⟨gb101, 2, none⟩ = some (.int .i64 a0_2) := bc_ BK101 2 rfl
       have hcz16_3 : wc.cell? ⟨gb101, 3, none⟩ = some (.int .i64 a0_3) := bc_ BK101 3 rfl
       have hfz16_0 := blk_frozen BK101.out 0; have hfz16_1 := blk_frozen BK101.out 1; have hfz16_2 := blk_frozen BK101.out 2; have hfz16_3 := blk_frozen BK101.out 3
       try go_wp2
       (try (rw [drewN_self wc]; generalize hq_ : World.drewN wc _ = wc; have n0_ : Aside0 (wc.heap[gb101]? = some (.cells #[.int .i64 a0_0, .int .i64 a0_1, .int .i64 a0_2, .int .i64 a0_3] 56 (0, 0))) := ⟨by rw [← hq_]; exact (pkx BK101)⟩; have n1_ : Aside0 (Below w.heap.size w wc) := ⟨by rw [← hq_]; exact (pbx HB)⟩; clear BK101 HB hq_; have BK101 := n0_; have HB := n1_; clear n0_ n1_))
       replace BK101 := Aside0.mk (blk_drew BK101.out); replace HB := Aside0.mk (below_drew1 HB.out)
       refine start_ (n:=9) (S := fun w' => w'.cell? ⟨gb101, 0, none⟩ = some (.int .i64 a0_0) ∧ w'.cell? ⟨gb101, 1, none⟩ = some (.int .i64 a0_1) ∧ w'.cell? ⟨gb101, 2, none⟩ = some (.int .i64 a0_2) ∧ w'.cell? ⟨gb101, 3, none⟩ = some (.int .i64 a0_3)) (ds := []) #[F,F,F,F,F,F,F,F,F] (by kernel_rfl) rfl rfl ⟨bc_ BK101 0 rfl, bc_ BK101 1 rfl, bc_ BK101 2 rfl, bc_ BK101 3 rfl⟩ (fun hHeld => ?_); refine with_tabW span_Text.tab5 span_Text.bits5 (fun HT_ HW_ => ?_)
       generalize wc.drew = w17 at BK101 HB hHeld ⊢; refine pure_ (i:=0) (N:=some 16) (v:=?_) (a':=?_) ⟨m_ 9 1⟩ rfl rfl (any_of HT_.out (by kernel_rfl)) (fun _ _ _ h=>h) (Or.inl ⟨rfl, ?_⟩) ?_ ?_; rotate_left
       ·intro w'; go_simp; with_reducible rfl
       rotate_left
       ·simp only [q_, i64_w, i32_w]; rfl
       refine pure_ (i:=4) (N:=some 20) (v:=?_) (a':=?_) ⟨m_ 9 17⟩ rfl rfl (any_of HT_.out (by kernel_rfl)) (fun _ _ _ h=>h) (Or.inl ⟨rfl, ?_⟩) ?_ ?_; rotate_left
       ·intro w'; go_simp; with_reducible rfl
       rotate_left
       ·simp only [q_, i64_w, i32_w]; rfl
       refine take_ (i:=1) (N:=some 17) (v:=?_) (a':=?_) ⟨m_ 9 19⟩ rfl rfl (take_ofW HT_.out HW_.out (by kernel_rfl)) (fun _ _ _ h=>h) (Or.inl ⟨rfl, ?_⟩) hHeld ?_ ?_; rotate_left
       ·rintro w' ⟨s0, s1, s2, s3⟩; go_simp; with_reducible rfl
       rotate_left
       ·simp only [q_, i64_w, i32_w]; rfl
       refine take_ (i:=5) (N:=some 21) (v:=?_) (a':=?_) ⟨m_ 9 51⟩ rfl rfl (take_ofW HT_.out HW_.out (by kernel_rfl)) (fun _ _ _ h=>h) (Or.inl ⟨rfl, ?_⟩) hHeld ?_ ?_; rotate_left
       ·rintro w' ⟨s0, s1, s2, s3⟩; go_simp; with_reducible rfl
       rotate_left
       ·simp only [q_, i64_w, i32_w]; rfl
       refine one_ (i:=2) (N:=some 18) ⟨m_ 9 55⟩ rfl rfl (one_of HT_.out (by kernel_rfl)) (by decide) (fun K hK => ?_); refine goes_ Tryd.func39 (by kernel_rfl) rfl #[.agg #[.int .i64 a0_0, .int .i64 a0_1]] (by rfl) rfl rfl (by (try simp only [List.map_toArray, List.map_cons, List.map_nil]); first | done | rfl | (simp only [List.length_drop, List.length_take]; rfl)) ?_; with_reducible refine (addr_Name.calls kj1 a0_0 a0_1 t104 _ (by refine tb_ ?_ hT; repeat' (first | exact pbx HB | exact Below.refl _ _ | assumption | refine below_set ?_ (Aside0.out ?_))) A12.out).mono ?_; rintro e w18 ⟨rfl, hb⟩; refine ⟨_, rfl, ?_⟩
       replace BK101 := bb_ BK101 hb; replace HB := bs_ HB hb; (try clear hb); (try clear hb2); (try clear hk); (try clear hi); refine hK.out _ _ ⟨bc_ BK101 0 rfl, bc_ BK101 1 rfl, bc_ BK101 2 rfl, bc_ BK101 3 rfl⟩ (fun hHeld => ?_); clear hK K; refine norm_ (a':=?_) ?_ ?_; rotate_left
       ·show Act.put _ (some 18) _ = _; simp only [q_, i64_w, i32_w]; rfl
       refine pure_ (i:=3) (N:=some 19) (v:=?_) (a':=?_) ⟨m_ 9 63⟩ rfl rfl (any_of HT_.out (by kernel_rfl)) (fun _ _ _ h=>h) (Or.inl ⟨rfl, ?_⟩) ?_ ?_; rotate_left
       ·intro w'; go_simp; with_reducible rfl
       rotate_left
       ·simp only [q_, i64_w, i32_w]; rfl
       refine one_ (i:=6) (N:=some 22) ⟨m_ 9 127⟩ rfl rfl (one_of HT_.out (by kernel_rfl)) (by decide) (fun K hK => ?_); refine goes_ Tryd.func39 (by kernel_rfl) rfl #[.agg #[.int .i64 a0_2, .int .i64 a0_3]] (by rfl) rfl rfl (by (try simp only [List.map_toArray, List.map_cons, List.map_nil]); first | done | rfl | (simp only [List.length_drop, List.length_take]; rfl)) ?_; with_reducible refine (addr_Name.calls kj1 a0_2 a0_3 t105 _ (by refine tb_ ?_ hT; repeat' (first | exact pbx HB | exact Below.refl _ _ | assumption | refine below_set ?_ (Aside0.out ?_))) A14.out).mono ?_; rintro e w19 ⟨rfl, hb⟩; refine ⟨_, rfl, ?_⟩
       replace BK101 := bb_ BK101 hb; replace HB := bs_ HB hb; (try clear hb); (try clear hb2); (try clear hk); (try clear hi); refine hK.out _ _ ⟨bc_ BK101 0 rfl, bc_ BK101 1 rfl, bc_ BK101 2 rfl, bc_ BK101 3 rfl⟩ (fun hHeld => ?_); clear hK K; refine norm_ (a':=?_) ?_ ?_; rotate_left
       ·show Act.put _ (some 22) _ = _; simp only [q_, i64_w, i32_w]; rfl
       refine pure_ (i:=7) (N:=some 23) (v:=?_) (a':=?_) ⟨m_ 9 255⟩ rfl rfl (any_of HT_.out (by kernel_rfl)) (fun _ _ _ h=>h) (Or.inl ⟨rfl, ?_⟩) ?_ ?_; rotate_left
       ·intro w'; go_simp; with_reducible rfl
       rotate_left
       ·simp only [q_, i64_w, i32_w]; rfl
       refine pure_ (i:=8) (N:=some 2) (v:=?_) (a':=?_) ⟨m_ 9 511⟩ rfl rfl (any_of HT_.out (by kernel_rfl)) (fun _ _ _ h=>h) (Or.inl ⟨rfl, ?_⟩) ?_ ?_; rotate_left
       ·intro w'; go_simp; with_reducible rfl
       rotate_left
       ·simp only [q_, i64_w, i32_w]; rfl
       refine done_ (done_of HT_.out (by kernel_rfl)) ?_
       try go_wp2
       go_ret
       exact ⟨by first | rfl | (simp [errW_none, errW_some] <;> rfl) | (simp [*, errW_none, errW_some] <;> rfl), pbx HB⟩
      ·rw [if_neg c15] at H
       exact absurd H (by simp)
     ·rw [if_neg c13] at H
      exact absurd H (by simp)

end Go.Proofs.YtbboanfggaknjaaDoor.X
/- The contract of math/bits.TrailingZeros64: where the table is laid. -/
set_option linter.unusedVariables false
namespace Go.Proofs.YtbboanfggaknjaaDoor.X
open Go.RowKit Go.Proofs.YtbboanfggaknjaaDoorW.PrintWords Go.Proofs.YtbboanfggaknjaaDoorW.PrintLast Go.Proofs.YtbboanfggaknjaaDoorW.PrintMore
def bits_TrailingZeros64.f (a0 : Int) : Option Int := if 0 ≤ a0 ∧ a0 < 18446744073709551616 then some ((Lib.ctz 64 a0.toNat : Nat) : Int) else none
theorem bru_at : ∀ k, k < 64 → bru64.getD k 0 = ((Lib.deBruijn64tab.getD k 0 : Nat) : Int) := by decide +kernel
set_option maxHeartbeats 1000000 in
theorem bits_TrailingZeros64.core (x k idx : Nat) (w : World) (hx0 : ((x : Int) == 0) = false)
    (key : IntKind.u64.wrap (bits BinOp.and IntKind.u64 (x : Int) (IntKind.u64.wrap (-(x : Int))) * 285870213051353865) / 288230376151711744 = (idx : Int))
    (hi : idx < 64) (hk : k < 64) (hcell : w.cell? ⟨2, idx, none⟩ = some (.int .u8 k)) :
    Calls Tryd.prog 80 #[.int .u64 x] w fun e w' => e = .returned (.int .i64 k) ∧ w' = w := by
  go_enter Tryd.func80, Tryd.ntmps80
  go_wp2_with (simp only [key])
  go_ret
  exact ⟨rfl, rfl⟩
theorem bits_TrailingZeros64.zero (w : World) :
    Calls Tryd.prog 80 #[.int .u64 0] w fun e w' => e = .returned (.int .i64 64) ∧ w' = w := by
  go_enter Tryd.func80, Tryd.ntmps80
  go_wp2
  go_ret
  exact ⟨rfl, rfl⟩
theorem bits_TrailingZeros64.calls (a0 : Int) (r : Int) (w : World) (hT : Aside0 (Tab w)) (h : bits_TrailingZeros64.f a0 = some r) :
    Calls Tryd.prog 80 #[.int .u64 a0] w fun e w' => e = .returned (.int .i64 r) ∧ Drawn0 w w' := by
  unfold bits_TrailingZeros64.f at h
  by_cases hs : 0 ≤ a0 ∧ a0 < 18446744073709551616
  · rw [if_pos hs] at h
    obtain rfl := Option.some.inj h
    obtain ⟨x, rfl⟩ : ∃ x : Nat, a0 = (x : Int) := ⟨a0.toNat, by omega⟩
    have hx : x < 18446744073709551616 := by omega
    rw [Int.toNat_natCast]
    by_cases hx0 : x = 0
    · subst hx0
      refine (bits_TrailingZeros64.zero w).mono ?_
      rintro e w' ⟨rfl, rfl⟩
      exact ⟨rfl, Drawn0.refl _⟩
    · obtain ⟨hlow, hk⟩ := Lib.lowest_bit 64 x hx0 hx
      obtain ⟨hi, htab⟩ := Lib.deBruijn64_at _ hk
      have hcell := hT.out.bru.cell (g := 2) (by kernel_rfl) _ (show _ < bru64.length from hi)
      rw [bru_at _ hi, htab] at hcell
      refine (bits_TrailingZeros64.core x _ _ w (by simp; omega) (tz64_key x _ hx hx0 hlow) hi hk hcell).mono ?_
      rintro e w' ⟨rfl, rfl⟩
      exact ⟨rfl, Drawn0.refl _⟩
  · rw [if_neg hs] at h
    cases h
end Go.Proofs.YtbboanfggaknjaaDoor.X
namespace Go.Proofs.YtbboanfggaknjaaDoor.X
open Go.RowKit Go.Proofs.YtbboanfggaknjaaDoorW.PrintWords Go.Proofs.YtbboanfggaknjaaDoorW.PrintLast Go.Proofs.YtbboanfggaknjaaDoorW.PrintMore
attribute [local go_sem] max2_int min2_int max_two min_two max_three min_three max_four min_four
set_option linter.unusedVariables false
set_option linter.unusedSimpArgs false
def cats_List.l0 : Nat → Int → List Int → Option (List Int)
 | 0, _, _ => none
 | k + 1, x0, x3 => if x0 = 0 then (some x3) else ((bits_TrailingZeros64.f x0).bind fun t101 => (if x3.length < 17592186044416 then (cats_List.l0 k (Go.bits .and .u64 x0 (IntKind.u64.wrap (x0 - 1))) (x3 ++ [t101])) else (none)))
def cats_List.f (k : Nat) (a0 : Int) : Option (List Int) := cats_List.l0 k a0 ([] : List Int)
theorem cats_List.mono_l : ∀ k, (∀ y0 y1, LeO (cats_List.l0 k y0 y1) (cats_List.l0 (k + 1) y0 y1))
 | 0 => fun _ _ r h => by simp [cats_List.l0] at h
 | k + 1 => by
  have ih0 := cats_List.mono_l k
  ·intro y0 y1
   unfold cats_List.l0
   repeat' first
   | (with_reducible exact ih0 _ _)
   | (with_reducible exact LeO.refl _)
   | (with_reducible exact LeO.none _)
   | (with_reducible refine LeO.ite ?_ ?_)
   | (with_reducible refine LeO.bind ?_ (fun _ => ?_))
theorem cats_List.mono : ∀ a0 k, LeO (cats_List.f k a0) (cats_List.f (k + 1) a0) := by
 intro a0 k; have ih0 := cats_List.mono_l k
 unfold cats_List.f
 repeat' first
   | (with_reducible exact ih0 _ _)
   | (with_reducible exact LeO.refl _)
   | (with_reducible exact LeO.none _)
   | (with_reducible refine LeO.ite ?_ ?_)
   | (with_reducible refine LeO.bind ?_ (fun _ => ?_))
set_option maxHeartbeats 8000000 in
set_option maxRecDepth 100000 in
theorem cats_List.calls (k : Nat) (a0 : Int) (r : List Int) (w : World) (hT : Aside0 (Tab w)) (h : cats_List.f k a0 = some r) :
  Calls Tryd.prog 63 #[.int .u64 a0] w fun e w' => ∃ v0_ : Value, e = .returned (v0_) ∧ Kd.R (Kd.int .i64) 3 w' w.heap.size (fun _ => True) v0_ r ∧ Below w.heap.size w w' := by
 have HB := Aside0.mk (Below.refl w.heap.size w)
 have H : (cats_List.l0 k a0 ([] : List Int)) = some r := h
 clear h
 have H' := Aside0.mk H
 clear H
 go_enter Tryd.func63, Tryd.ntmps63
 go_wp2
 go_loopg [0, 3] k (fun kq v0 v3 w' => ∃ (x0_1 : Int) (x3_1 : List Int), v0 = .int .u64 x0_1 ∧ Aside0 (cats_List.l0 kq x0_1 x3_1 = some r) ∧ Aside0 (kq ≤ k) ∧ Aside0 (Kd.R (Kd.int .i64) 3 w' w.heap.size (fun _ => True) v3 x3_1) ∧ Aside0 (Below w.heap.size w w'))
 case atStart => exact ⟨(a0), (([] : List Int)), (by first | rfl | (simp; done) | (simp [*]; done)), H', ⟨Nat.le_refl _⟩, ⟨by first | exact Kd.R_nil _ _ _ _ _ | exact Kd.N_nil _ _ _ _ _ | exact Kd.V_nil _ _ _ _ _ | exact Kd.Q_nil _ _ _ _ _ | exact Kd.S_nil _ _ _ _ _⟩, ⟨pbx HB⟩⟩
 case round =>
  clear H'; obtain ⟨x0_1, x3_1, rfl, HA, HK1, HO_3, HB⟩ := hrel
  cases gk with
  | zero => exact absurd HA.out (by simp [cats_List.l0])
  | succ k1 =>
   have H := HA.out; clear HA
   simp only [cats_List.l0] at H
   by_cases c2 : x0_1 = 0
   ·rw [if_pos c2] at H; have c2b0 : (x0_1 == 0) = true := beq_iff_eq.mpr c2; have c2b1 : (x0_1 != 0) = false := bne_eq_false_iff_eq.mpr c2; clear c2; obtain rfl := Option.some.inj H
    go_wp2
    go_ret
    exact ⟨_, by first | rfl | (simp [errW_none, errW_some] <;> rfl) | (simp [*, errW_none, errW_some] <;> rfl), by (with_reducible repeat (first | apply Kd.R_alloc | apply Kd.R_drewN | apply Kd.R_drew)); exact HO_3.out, pbx HB⟩
   ·rw [if_neg c2] at H; have c2b0 : (x0_1 == 0) = false := beq_eq_false_iff_ne.mpr c2; have c2b1 : (x0_1 != 0) = true := bne_iff_ne.mpr c2; replace H := Option.bind_eq_some_iff.mp H; obtain ⟨t101, A30, H⟩ := H
    replace H : (if x3_1.length < 17592186044416 then (cats_List.l0 k1 (Go.bits .and .u64 x0_1 (IntKind.u64.wrap (x0_1 - 1))) (x3_1 ++ [t101])) else (none)) = some r := H
    have A3 := Aside0.mk A30; clear A30
    by_cases c4 : x3_1.length < 17592186044416
    ·rw [if_pos c4] at H; have LMc4 := Aside0.mk c4; clear c4; obtain ⟨y102, hy102⟩ : ∃ y_ : List Int, y_ = (x3_1 ++ [t101]) := ⟨_, rfl⟩
     replace H : (cats_List.l0 k1 (Go.bits .and .u64 x0_1 (IntKind.u64.wrap (x0_1 - 1))) y102) = some r := by first | (rw [hy102]; with_reducible exact H) | (have H2_ := (Option.bind_some _ _).symm.trans H; rw [hy102]; with_reducible exact H2_) | (have H2_ := (Option.bind_some _ _).symm.trans H; with_reducible exact H2_) | with_reducible exact H | (rw [hy102]; exact H) | exact H
     have Ny102 := Aside0.mk hy102; clear hy102
     have H' := Aside0.mk H
     clear H
     go_wp2_with (first | ((with_reducible refine gate_callee (f:=80) rfl ?_); refine gL_ (some 8) rfl rfl Tryd.func80 rfl #[.int .u64 x0_1] rfl ?_; (with_reducible refine (bits_TrailingZeros64.calls x0_1 t101 _ (by refine tb_ ?_ hT; repeat' (first | exact pbx HB | exact Below.refl _ _ | assumption | refine below_set ?_ (Aside0.out ?_))) A3.out).mono ?_); rintro e w' ⟨rfl, ⟨nd, rfl⟩⟩; refine ⟨_, rfl, ?_⟩) | ((with_reducible refine gate_builtin (b := .append) (xs := #[.tmp 6, .tmp 9]) rfl ?_); at_builtin; refine Kd.R_append (Kd.int .i64) (w0 := w) w.heap.size rfl (.tmp 6) (.tmp 9) 102 3 (.int .i64 0) 8 rfl Tryd.underlying102 info3 rfl (by decide) (by omega) u3 x3_1 t101 [.int .i64 t101] (fun _ => True) (fun _ => False) rfl rfl ?aP (fun _ hk => hk.elim) ?aF ?aO ?aB ?aS ?aL ?_; (case aP => exact rfl); (case aB => exact (pbx HB)); (case aF => exact (fun _ _ => trivial)); (case aO => exact (by (with_reducible repeat (first | apply Kd.R_alloc | apply Kd.R_drewN | apply Kd.R_drew)); exact HO_3.out)); (case aS => exact (below_size (pbx HB))); (case aL => have := LMc4.out; omega); intro v103 w5 ho hb hg hat; rw [← Ny102.out] at ho; have HO104 := Aside0.mk (ho); replace HB := Aside0.mk (hb); clear HO_3; clear ho hb hg hat))
     go_roundg k1
     case measure => have := HK1.out; omega
     case rel => exact ⟨(Go.bits .and .u64 x0_1 (IntKind.u64.wrap (x0_1 - 1))), (y102), (by first | rfl | (simp; done) | (simp [*]; done)), H', ⟨by have := HK1.out; omega⟩, ⟨by (with_reducible repeat (first | apply Kd.R_alloc | apply Kd.R_drewN | apply Kd.R_drew)); exact HO104.out⟩, ⟨pbx HB⟩⟩
    ·rw [if_neg c4] at H
     exact absurd H (by simp)

end Go.Proofs.YtbboanfggaknjaaDoor.X
/- The contract of cats.Text: its categories, told through strings.Builder. -/
set_option linter.unusedVariables false
namespace Go.Proofs.YtbboanfggaknjaaDoor.X
open Go.RowKit Go.Shelf Go.Proofs.YtbboanfggaknjaaDoorW.PrintWords Go.Proofs.YtbboanfggaknjaaDoorW.PrintLast Go.Proofs.YtbboanfggaknjaaDoorW.PrintMore
def texG : Nat → List Int → List UInt8
  | _, [] => []
  | i, c :: r => (if i = 0 then [] else [44]) ++ (Lib.decDigits c.toNat ++ texG (i + 1) r)
def cats_Text.f (k : Nat) (a0 : Int) : Option ByteArray := (cats_List.f k a0).bind fun l => if l.length ≤ 1000 ∧ (∀ c ∈ l, 0 ≤ c ∧ c < 100) then some ⟨(texG 0 l).toArray⟩ else none
theorem cats_Text.mono : ∀ a0 k, LeO (cats_Text.f k a0) (cats_Text.f (k + 1) a0) := fun a0 k => LeO.bind (cats_List.mono a0 k) (fun _ => LeO.refl _)
theorem dec_len (n : Nat) (h : n < 100) : (Lib.decDigits n).length ≤ 2 := by
  rw [Lib.decDigits]
  split
  · simp
  · rw [Lib.decDigits, dif_pos (by omega)]; simp
set_option maxHeartbeats 4000000 in
set_option maxRecDepth 1000000 in
theorem cats_Text.calls (k : Nat) (a0 : Int) (r : ByteArray) (w : World) (hT : Aside0 (Tab w)) (h : cats_Text.f k a0 = some r) :
    Calls Tryd.prog 42 #[.int .u64 a0] w fun e w' => e = .returned (.string r) ∧ Below w.heap.size w w' := by
  unfold cats_Text.f at h
  obtain ⟨l, hl, h⟩ := Option.bind_eq_some_iff.1 h
  by_cases hs : l.length ≤ 1000 ∧ (∀ c ∈ l, 0 ≤ c ∧ c < 100)
  rotate_left
  · rw [if_neg hs] at h; cases h
  rw [if_pos hs] at h
  obtain rfl := Option.some.inj h
  clear h
  obtain ⟨hn, hc⟩ := hs
  have hb0 : Below w.heap.size w (w.alloc (.cells #[.pointer none, .slice none 0 0] 45)) := (Below.refl _ w).alloc (Nat.le_refl _) _
  have hT1 : Aside0 (Tab (w.alloc (.cells #[.pointer none, .slice none 0 0] 45))) := tb_ hb0 hT
  have hnew : (w.alloc (.cells #[.pointer none, .slice none 0 0] 45)).heap[w.heap.size]? = some (.cells #[.pointer none, .slice none 0 0] 45 (0, 0)) := by
    show (w.heap.push _)[w.heap.size]? = some _
    simp
  have hsz : (w.alloc (.cells #[.pointer none, .slice none 0 0] 45)).heap.size = w.heap.size + 1 := by simp
  go_enter Tryd.func42, Tryd.ntmps42
  go_wp2_with (go_at_call 63; refine (cats_List.calls k a0 l _ hT1 hl).mono ?_; rintro e w1 ⟨v, rfl, hR, hb1⟩; obtain ⟨A, cp, rfl, hrd⟩ := Kd.R_reads hR; obtain ⟨inner, hown⟩ := Kd.R_own hR)
  have hbk : w1.heap[w.heap.size]? = some (.cells #[.pointer none, .slice none 0 0] 45 (0, 0)) := (hb1.block _ (by rw [hsz]; omega)).trans hnew
  have hI0 : Lib.IsBuilderF 45 5 w.heap.size w.heap.size (Lib.byteCells []) w1 := Or.inl ⟨Nat.le_refl _, .slice none 0 0, hbk, ⟨rfl, Or.inl ⟨rfl, rfl⟩⟩, by simp [Value.ownBlock]⟩
  have hbw1 : Below w.heap.size w w1 := hb0.trans (hb1.mono (by rw [hsz]; omega))
  have hs1 : w.heap.size + 1 ≤ w1.heap.size := by have := hb1.size; rw [hsz] at this; exact this
  -- what the row's block is, if there is one
  have hrow : ∀ i : Nat, i < l.length → ∃ g cur, A = some ⟨g, 0, none⟩ ∧ w.heap.size + 1 ≤ g ∧ w1.heap[g]? = some (.cells cur 3 (0, 0)) ∧ w1.cell? ⟨g, i, none⟩ = some (.int .i64 (l.getD i 0)) := by
    intro i hi
    obtain ⟨ad, c, hA, hcl, hcr, hcell⟩ := ReadsRow.get_ hrd.2 0 (i : Int) (by omega) (by omega)
    rcases hown.2 with ⟨_, h0⟩ | ⟨g, cap, cur, hv, hg1, hg2, _⟩
    · omega
    · injection hv with hv1 hv2 hv3
      subst hv1
      injection hA with hA
      subst hA
      refine ⟨g, cur, rfl, by rw [hsz] at hg1; exact hg1, hg2, ?_⟩
      have hce : c = [.int .i64 (l.getD (Int.toNat (i : Int)) 0)] := hcr
      have := hcell 0 (.int .i64 (l.getD (Int.toNat (i : Int)) 0)) (by rw [hce]; rfl)
      rw [Int.toNat_natCast] at this
      have e : (⟨g, 0, none⟩ : Addr).add (i * (Kd.int .i64).sz + 0) = ⟨g, i, none⟩ := by
        simp [Addr.add, Kd.int, Kd.scalar]
        try exact fun h => h.symm
      rw [e] at this
      exact this
  have HROW := Aside0.mk hrow
  clear hrow hown hrd hR hnew hbk hT1 hb1 hb0
  have HB1 := Aside0.mk hbw1
  have HI0 := Aside0.mk hI0
  clear hbw1 hI0
  go_wp2
  go_loopg [9] (l.length + 1) (fun kq v9 wr => ∃ (i : Nat) (acc : List UInt8), v9 = .int .i64 (i : Int) ∧ Aside0 (i + kq = l.length + 1 ∧ i ≤ l.length) ∧ Aside0 (Lib.IsBuilderF 45 5 w.heap.size w.heap.size (Lib.byteCells acc) wr) ∧ Aside0 (Below w.heap.size w wr) ∧ Aside0 (Lib.OthersKept 5 (some w.heap.size) w1 wr) ∧ Aside0 (acc ++ texG i (l.drop i) = texG 0 l) ∧ Aside0 (acc.length ≤ 3 * i))
  case atStart => exact ⟨0, [], rfl, ⟨by omega, by omega⟩, HI0, HB1, ⟨Lib.OthersKept.refl _ _ _⟩, ⟨rfl⟩, ⟨by simp⟩⟩
  case round =>
    obtain ⟨i, acc, rfl, HQ, HI, HB, HK, HA, HL⟩ := hrel
    have hq := HQ.out
    cases gk with
    | zero =>
      exfalso
      have := HL.out
      omega
    | succ k1 =>
      by_cases hi : i < l.length
      · have hd : decide ((i : Int) < (l.length : Int)) = true := decide_eq_true (by omega)
        obtain ⟨g, cur, hA, hg1, hg2, hcell⟩ := HROW.out i hi
        subst hA
        have hgk : wr.heap[g]? = some (.cells cur 3 (0, 0)) := HK.out g _ hg2 (by intro e; injection e with e; omega) (by intro c fz e; injection e with e1 e2 e3; exact absurd e2 (by decide))
        have hcw : wr.cell? ⟨g, i, none⟩ = some (.int .i64 (l.getD i 0)) := by rw [World.cell?_of_block (w := w1) (w' := wr) (a := ⟨g, i, none⟩) (by show wr.heap[g]? = w1.heap[g]?; rw [hgk, hg2])]; exact hcell
        obtain ⟨c, hce, hc1, hc2⟩ : ∃ c : Nat, l.getD i 0 = (c : Int) ∧ c < 100 ∧ l.drop i = (c : Int) :: l.drop (i + 1) := by
          have e : l.getD i 0 = l[i] := by rw [List.getD_eq_getElem?_getD, List.getElem?_eq_getElem hi]; rfl
          have := hc l[i] (List.getElem_mem hi)
          refine ⟨l[i].toNat, by rw [e]; omega, by omega, ?_⟩
          rw [List.drop_eq_getElem_cons hi]
          congr 1
          omega
        rw [hce] at hcw
        have hdl := dec_len c hc1
        have hal := HL.out
        have hwz : w.heap.size ≤ wr.heap.size := HB.out.size
        have hacc := HA.out
        rw [hc2, texG, Int.toNat_natCast] at hacc
        by_cases h0 : i = 0
        · subst h0
          have hd2 : decide (((0 : Nat) : Int) > 0) = false := by decide
          go_wp2_with (first
            | (go_at_call 19; refine (Tryd.strconv_Itoa_small c hc1 _).mono ?_; rintro e w2 ⟨rfl, rfl⟩)
            | (go_at_call 16; refine (bld_string_k w.heap.size w.heap.size _ ⟨(Lib.decDigits c).toArray⟩ _ (by exact HI.out) (by rw [Lib.byteCells_length]; have e1 : (⟨(Lib.decDigits c).toArray⟩ : ByteArray).size = (Lib.decDigits c).length := rfl; rw [e1]; omega) (by exact hwz)).mono ?_; rintro e w3 ⟨rfl, h3, hb3, hk3⟩))
          go_roundg k1
          case measure => omega
          case rel =>
            refine ⟨1, acc ++ Lib.decDigits c, rfl, ⟨by omega, by omega⟩, ⟨Or.inr ?_⟩, ⟨HB.out.trans hb3⟩, ⟨HK.out.trans hk3⟩, ⟨?_⟩, ⟨?_⟩⟩
            · rw [Lib.byteCells_append]; exact h3
            · rw [← hacc]; simp
            · rw [List.length_append]; omega
        · have hd2 : decide ((i : Int) > 0) = true := decide_eq_true (by omega)
          go_wp2_with (first
            | (go_at_call 18; refine (bld_byte_k w.heap.size w.heap.size _ 44 _ (by exact HI.out) (by rw [Lib.byteCells_length]; omega) (by exact hwz)).mono ?_; rintro e w2 ⟨rfl, h2, hb2, hk2⟩)
            | (go_at_call 19; refine (Tryd.strconv_Itoa_small c hc1 _).mono ?_; rintro e w2_ ⟨rfl, rfl⟩)
            | (go_at_call 16; refine (bld_string_k w.heap.size w.heap.size (Lib.byteCells (acc ++ [44])) ⟨(Lib.decDigits c).toArray⟩ _ (by rw [Lib.byteCells_append]; exact Or.inr h2) (by rw [Lib.byteCells_length, List.length_append]; have e1 : (⟨(Lib.decDigits c).toArray⟩ : ByteArray).size = (Lib.decDigits c).length := rfl; rw [e1]; simp; omega) (by exact Nat.le_trans hwz hb2.size)).mono ?_; rintro e w3 ⟨rfl, h3, hb3, hk3⟩))
          go_roundg k1
          case measure => omega
          case rel =>
            refine ⟨i + 1, acc ++ [44] ++ Lib.decDigits c, by go_num, ⟨by omega, by omega⟩, ⟨Or.inr ?_⟩, ⟨(HB.out.trans hb2).trans hb3⟩, ⟨(HK.out.trans hk2).trans hk3⟩, ⟨?_⟩, ⟨?_⟩⟩
            · rw [Lib.byteCells_append]; exact h3
            · rw [← hacc, if_neg h0]; simp
            · rw [List.length_append, List.length_append]; simp; omega
      · have hd : decide ((i : Int) < (l.length : Int)) = false := decide_eq_false (by omega)
        have hwz : w.heap.size ≤ wr.heap.size := HB.out.size
        have hacc := HA.out
        rw [List.drop_eq_nil_of_le (by omega), texG, List.append_nil] at hacc
        subst hacc
        go_wp2_with (go_at_call 22; refine (Tryd.Builder_String_any_k w.heap.size w.heap.size _ _ (by exact HI.out) (by exact hwz)).mono ?_; rintro e w2 ⟨rfl, _, hb2, _⟩)
        go_ret
        exact ⟨rfl, HB.out.trans hb2⟩
end Go.Proofs.YtbboanfggaknjaaDoor.X
namespace Go.Proofs.YtbboanfggaknjaaDoor.X
open Go.RowKit Go.Proofs.YtbboanfggaknjaaDoorW.PrintWords Go.Proofs.YtbboanfggaknjaaDoorW.PrintLast Go.Proofs.YtbboanfggaknjaaDoorW.PrintMore
attribute [local go_sem] max2_int min2_int max_two min_two max_three min_three max_four min_four
set_option linter.unusedVariables false
set_option linter.unusedSimpArgs false
attribute [local go_sem high] eqA59
def label_Text.j0 : Nat → Bool → Int → Int → Option (ByteArray)
 | 0, _, _, _ => none
 | k + 1, x7, x102000, x102001 => if x7 = true then (some (⟨#[116, 111, 112]⟩ : ByteArray)) else (if x102001 = 0 then ((strconv_Itoa.f x102000).bind fun t105 => (some t105)) else ((strconv_Itoa.f x102000).bind fun t106 => (if t106.size + 1 ≤ 9223372036854775807 then ((cats_Text.f k x102001).bind fun t107 => (if (t106 ++ (⟨#[58]⟩ : ByteArray)).size + t107.size ≤ 9223372036854775807 then (some ((t106 ++ (⟨#[58]⟩ : ByteArray)) ++ t107)) else (none))) else (none))))
def label_Text.f (k : Nat) (a0_0 : Int) (a0_1 : Int) : Option (ByteArray) := (label_May.f a0_0 a0_1).bind fun t102 => (if t102 = true then ((label_Top.f).bind fun bt103 => (label_Text.j0 k (a0_0 == bt103.1 && (a0_1 == bt103.2)) a0_0 a0_1)) else (some (⟨#[]⟩ : ByteArray)))
theorem label_Text.mono_l : ∀ k, (∀ y0 y1 y2, LeO (label_Text.j0 k y0 y1 y2) (label_Text.j0 (k + 1) y0 y1 y2))
 | 0 => fun _ _ _ r h => by simp [label_Text.j0] at h
 | k + 1 => by
  have ih0 := label_Text.mono_l k
  ·intro y0 y1 y2
   unfold label_Text.j0
   repeat' first
   | (with_reducible exact ih0 _ _ _)
   | (with_reducible exact cats_Text.mono _ _)
   | (with_reducible exact LeO.refl _)
   | (with_reducible exact LeO.none _)
   | (with_reducible refine LeO.ite ?_ ?_)
   | (with_reducible refine LeO.bind ?_ (fun _ => ?_))
theorem label_Text.mono : ∀ a0 a1 k, LeO (label_Text.f k a0 a1) (label_Text.f (k + 1) a0 a1) := by
 intro a0 a1 k; have ih0 := label_Text.mono_l k
 unfold label_Text.f
 repeat' first
   | (with_reducible exact ih0 _ _ _)
   | (with_reducible exact cats_Text.mono _ _)
   | (with_reducible exact LeO.refl _)
   | (with_reducible exact LeO.none _)
   | (with_reducible refine LeO.ite ?_ ?_)
   | (with_reducible refine LeO.bind ?_ (fun _ => ?_))
def label_Text.T7 : Bool × List (List Nat × List Nat) := (true, [([], []), ([0], [0]), ([1], [1]), ([2], [2]), ([], []), ([4], [4]), ([5, 2], [5]), ([3, 6], [3, 6]), ([7, 6, 0, 1, 2, 3, 4, 5, 6, 7], [7])])
def label_Text.B7 : List Nat := [0, 1, 3, 7, 0, 16, 55, 127, 255]
theorem label_Text.tab7 : rtab .any (opsOf Tryd.f21 7) = label_Text.T7 := by kernel_rfl
theorem label_Text.bits7 : waitsOk label_Text.T7.2 label_Text.B7 = true := by kernel_rfl
set_option maxHeartbeats 8000000 in
set_option maxRecDepth 100000 in
theorem label_Text.calls (k : Nat) (a0_0 : Int) (a0_1 : Int) (r : ByteArray) (w : World) (hT : Aside0 (Tab w)) (h : label_Text.f k a0_0 a0_1 = some r) :
  Calls Tryd.prog 21 #[.agg #[.int .i64 a0_0, .int .u64 a0_1]] w fun e w' => e = .returned (.string r) ∧ Below w.heap.size w w' := by
 have hu59 := Tryd.underlying59; have HB := Aside0.mk (Below.refl w.heap.size w)
 have H : ((label_May.f a0_0 a0_1).bind fun t102 => (if t102 = true then ((label_Top.f).bind fun bt103 => (label_Text.j0 k (a0_0 == bt103.1 && (a0_1 == bt103.2)) a0_0 a0_1)) else (some (⟨#[]⟩ : ByteArray)))) = some r := h
 clear h; replace H := Option.bind_eq_some_iff.mp H; obtain ⟨t102, A20, H⟩ := H
 replace H : (if t102 = true then ((label_Top.f).bind fun bt103 => (label_Text.j0 k (a0_0 == bt103.1 && (a0_1 == bt103.2)) a0_0 a0_1)) else (some (⟨#[]⟩ : ByteArray))) = some r := H
 have A2 := Aside0.mk A20; clear A20
 by_cases c3 : t102 = true
 ·subst c3
  have H1 : ((label_Top.f).bind fun bt103 => (label_Text.j0 k (a0_0 == bt103.1 && (a0_1 == bt103.2)) a0_0 a0_1)) = some r := by rw [if_pos rfl] at H; exact H
  clear H; have H := H1; clear H1; have HC4 := Aside0.mk H; clear H
  go_enter Tryd.func21, Tryd.ntmps21
  go_upto_region 3 with (first | ((with_reducible refine gate_dst (N:=1) rfl ?_); refine be_ (N:=1) (cs := #[.int .i64 a0_0, .int .u64 a0_1]) (t:=59) ?_; intro gb101 hg w5 hbox hb; have BK101 := Aside0.mk (hbox); have GW101 := hs_ HB hg; have GE101 := hs_ HB hg; replace HB := bs_ HB hb; clear hb hbox hg; have hcz6_0 : w5.cell? ⟨gb101, 0, none⟩ = some (.int .i64 a0_0) := bc_ BK101 0 rfl; have hcz6_1 : w5.cell? ⟨gb101, 1, none⟩ = some (.int .u64 a0_1) := bc_ BK101 1 rfl; have hfz6_0 := blk_frozen BK101.out 0; have hfz6_1 := blk_frozen BK101.out 1) | ((with_reducible refine gate_callee (f:=40) rfl ?_); refine gL_ (some 5) rfl rfl Tryd.func40 rfl #[.agg #[.int .i64 a0_0, .int .u64 a0_1]] rfl ?_; (with_reducible refine (label_May.calls a0_0 a0_1 true _ A2.out).mono ?_); rintro e w7 ⟨rfl, hb⟩; refine ⟨_, rfl, ?_⟩; replace BK101 := bb_ BK101 hb; replace HB := bs_ HB hb; (try clear hb); (try clear hb2); (try clear hk); (try clear hi)))
  (try simp only [q_])
  go_cut [7] (fun v7 wc => ∃ (kq : Nat) (x7_3 : Bool), v7 = .bool x7_3 ∧ Aside0 (label_Text.j0 kq x7_3 a0_0 a0_1 = some r) ∧ Aside0 (kq ≤ k) ∧ Aside0 (wc.heap[gb101]? = some (.cells #[.int .i64 a0_0, .int .u64 a0_1] 59 (0, 0))) ∧ Aside0 (Below w.heap.size w wc))
  case first =>
   have H := HC4.out; clear HC4; replace H := Option.bind_eq_some_iff.mp H; obtain ⟨⟨t103, t104⟩, A80, H⟩ := H
   replace H : (label_Text.j0 k (a0_0 == t103 && (a0_1 == t104)) a0_0 a0_1) = some r := H
   have A8 := Aside0.mk A80; clear A80
   have H' := Aside0.mk H
   clear H
   try go_wp2
   (try (rw [drewN_self w7]; generalize hq_ : World.drewN w7 _ = w7; have n0_ : Aside0 (w7.heap[gb101]? = some (.cells #[.int .i64 a0_0, .int .u64 a0_1] 59 (0, 0))) := ⟨by rw [← hq_]; exact (pkx BK101)⟩; have n1_ : Aside0 (Below w.heap.size w w7) := ⟨by rw [← hq_]; exact (pbx HB)⟩; clear BK101 HB hq_; have BK101 := n0_; have HB := n1_; clear n0_ n1_))
   replace BK101 := Aside0.mk (blk_drew BK101.out); replace HB := Aside0.mk (below_drew1 HB.out)
   refine start_ (n:=4) (S := fun w' => w'.cell? ⟨gb101, 0, none⟩ = some (.int .i64 a0_0) ∧ w'.cell? ⟨gb101, 1, none⟩ = some (.int .u64 a0_1)) (ds := []) #[F,F,F,F] (by kernel_rfl) rfl rfl ⟨bc_ BK101 0 rfl, bc_ BK101 1 rfl⟩ (fun hHeld => ?_)
   generalize w7.drew = w9 at BK101 HB hHeld ⊢; refine take_ (i:=0) (N:=some 8) (v:=?_) (a':=?_) ⟨m_ 4 1⟩ rfl rfl (by kernel_rfl) (fun _ _ _ h=>h) (Or.inl ⟨rfl, ?_⟩) hHeld ?_ ?_; rotate_left
   ·rintro w' ⟨s0, s1⟩; go_simp; with_reducible rfl
   rotate_left
   ·simp only [q_, i64_w, i32_w]; rfl
   refine one_ (i:=1) (N:=some 9) ⟨m_ 4 3⟩ rfl rfl (by kernel_rfl) (by decide) (fun K hK => ?_); refine goes_ Tryd.func41 (by kernel_rfl) rfl #[] (by rfl) rfl rfl (by (try simp only [List.map_toArray, List.map_cons, List.map_nil]); first | done | rfl | (simp only [List.length_drop, List.length_take]; rfl)) ?_; with_reducible refine (label_Top.calls  t103 t104 _ A8.out).mono ?_; rintro e w10 ⟨rfl, hb⟩; refine ⟨_, rfl, ?_⟩
   replace BK101 := bb_ BK101 hb; replace HB := bs_ HB hb; (try clear hb); (try clear hb2); (try clear hk); (try clear hi); refine hK.out _ _ ⟨bc_ BK101 0 rfl, bc_ BK101 1 rfl⟩ (fun hHeld => ?_); clear hK K; refine norm_ (a':=?_) ?_ ?_; rotate_left
   ·show Act.put _ (some 9) _ = _; simp only [q_, i64_w, i32_w]; rfl
   refine pure_ (i:=2) (N:=some 10) (v:=?_) (a':=?_) ⟨m_ 4 7⟩ rfl rfl (by kernel_rfl) (fun _ _ _ h=>h) (Or.inl ⟨rfl, ?_⟩) ?_ ?_; rotate_left
   ·intro w'; go_simp; with_reducible rfl
   rotate_left
   ·simp only [q_, i64_w, i32_w]; rfl
   refine pure_ (i:=3) (N:=some 7) (v:=?_) (a':=?_) ⟨m_ 4 15⟩ rfl rfl (by kernel_rfl) (fun _ _ _ h=>h) (Or.inl ⟨rfl, ?_⟩) ?_ ?_; rotate_left
   ·intro w'; go_simp; with_reducible rfl
   rotate_left
   ·simp only [q_, i64_w, i32_w]; rfl
   refine done_ (by kernel_rfl) ?_
   try go_wp2
   go_meet
   case rel => exact ⟨_, ((a0_0 == t103 && (a0_1 == t104))), (by first | rfl | (simp; done) | (simp [*]; done) | (cases t103 <;> simp; done) | (cases t104 <;> simp; done)), H', ⟨by first | omega | exact Nat.le_refl _⟩, ⟨pkx BK101⟩, ⟨pbx HB⟩⟩
  case rest =>
   clear HC4; (try clear c2); (try clear p2); (try clear c3); (try clear c4); (try clear hcz6_0); (try clear hcz6_1); (try clear hfz6_0); (try clear hfz6_1); obtain ⟨kq, x7_3, rfl, HA, HJ3, BK101, HB⟩ := hcut
   cases kq with
   | zero => exact absurd HA.out (by simp [label_Text.j0])
   | succ kj3 =>
    have H := HA.out; clear HA
    simp only [label_Text.j0] at H
    by_cases c11 : x7_3 = true
    ·subst c11
     have H1 : (some (⟨#[116, 111, 112]⟩ : ByteArray)) = some r := by rw [if_pos rfl] at H; exact H
     clear H; have H := H1; clear H1; obtain rfl := Option.some.inj H
     go_wp2
     go_ret
     exact ⟨by first | rfl | (simp [errW_none, errW_some] <;> rfl) | (simp [*, errW_none, errW_some] <;> rfl), pbx HB⟩
    ·replace c11 := Bool.eq_false_iff.mpr c11; subst c11
     have H1 : (if a0_1 = 0 then ((strconv_Itoa.f a0_0).bind fun t105 => (some t105)) else ((strconv_Itoa.f a0_0).bind fun t106 => (if t106.size + 1 ≤ 9223372036854775807 then ((cats_Text.f kj3 a0_1).bind fun t107 => (if (t106 ++ (⟨#[58]⟩ : ByteArray)).size + t107.size ≤ 9223372036854775807 then (some ((t106 ++ (⟨#[58]⟩ : ByteArray)) ++ t107)) else (none))) else (none)))) = some r := by rw [if_neg (show ¬ (false = true) by decide)] at H; exact H
     clear H; have H := H1; clear H1
     by_cases c12 : a0_1 = 0
     ·rw [if_pos c12] at H; have c12b0 : (a0_1 == 0) = true := beq_iff_eq.mpr c12; have c12b1 : (a0_1 != 0) = false := bne_eq_false_iff_eq.mpr c12; clear c12; replace H := Option.bind_eq_some_iff.mp H; obtain ⟨t105, A130, H⟩ := H
      replace H : (some t105) = some r := H
      have A13 := Aside0.mk A130; clear A130; obtain rfl := Option.some.inj H
      have hcz14_0 : wc.cell? ⟨gb101, 0, none⟩ = some (.int .i64 a0_0) := bc_ BK101 0 rfl
      have hcz14_1 : wc.cell? ⟨gb101, 1, none⟩ = some (.int .u64 a0_1) := bc_ BK101 1 rfl
      have hfz14_0 := blk_frozen BK101.out 0; have hfz14_1 := blk_frozen BK101.out 1
      go_wp2_with (first | ((with_reducible refine gate_callee (f:=19) rfl ?_); refine gL_ (some 17) rfl rfl Tryd.func19 rfl #[.int .i64 a0_0] rfl ?_; (with_reducible refine (strconv_Itoa.calls a0_0 t105 _ (by refine tb_ ?_ hT; repeat' (first | exact pbx HB | exact Below.refl _ _ | assumption | refine below_set ?_ (Aside0.out ?_))) A13.out).mono ?_); rintro e w15 ⟨rfl, hb⟩; refine ⟨_, rfl, ?_⟩; replace BK101 := bb_ BK101 hb; replace HB := bs_ HB hb; (try clear hb); (try clear hb2); (try clear hk); (try clear hi)))
      go_ret
      exact ⟨by first | rfl | (simp [errW_none, errW_some] <;> rfl) | (simp [*, errW_none, errW_some] <;> rfl), pbx HB⟩
     ·rw [if_neg c12] at H; have c12b0 : (a0_1 == 0) = false := beq_eq_false_iff_ne.mpr c12; have c12b1 : (a0_1 != 0) = true := bne_iff_ne.mpr c12; replace H := Option.bind_eq_some_iff.mp H; obtain ⟨t106, A160, H⟩ := H
      replace H : (if t106.size + 1 ≤ 9223372036854775807 then ((cats_Text.f kj3 a0_1).bind fun t107 => (if (t106 ++ (⟨#[58]⟩ : ByteArray)).size + t107.size ≤ 9223372036854775807 then (some ((t106 ++ (⟨#[58]⟩ : ByteArray)) ++ t107)) else (none))) else (none)) = some r := H
      have A16 := Aside0.mk A160; clear A160
      by_cases c17 : t106.size + 1 ≤ 9223372036854775807
      ·rw [if_pos c17] at H; have c17b0 := eq_true c17; have c17b1 : decide (t106.size + 1 ≤ 9223372036854775807) = true := decide_eq_true c17
       try have c17b2 : (9223372036854775807 < t106.size + 1) = False := eq_false (Nat.not_lt.2 c17)
       replace H := Option.bind_eq_some_iff.mp H; obtain ⟨t107, A180, H⟩ := H
       replace H : (if (t106 ++ (⟨#[58]⟩ : ByteArray)).size + t107.size ≤ 9223372036854775807 then (some ((t106 ++ (⟨#[58]⟩ : ByteArray)) ++ t107)) else (none)) = some r := H
       have A18 := Aside0.mk A180; clear A180
       by_cases c19 : (t106 ++ (⟨#[58]⟩ : ByteArray)).size + t107.size ≤ 9223372036854775807
       ·rw [if_pos c19] at H; have c19b0 := eq_true c19; have c19b1 : decide ((t106 ++ (⟨#[58]⟩ : ByteArray)).size + t107.size ≤ 9223372036854775807) = true := decide_eq_true c19
        try have c19b2 : (9223372036854775807 < (t106 ++ (⟨#[58]⟩ : ByteArray)).size + t107.size) = False := eq_false (Nat.not_lt.2 c19)
        try have c19b2z : (9223372036854775807 < t106.size + 1 + t107.size) = False := by have h9_ := c19b2; rw [ByteArray.size_append] at h9_; exact h9_
        obtain rfl := Option.some.inj H
        have hcz20_0 : wc.cell? ⟨gb101, 0, none⟩ = some (.int .i64 a0_0) := bc_ BK101 0 rfl
        have hcz20_1 : wc.cell? ⟨gb101, 1, none⟩ = some (.int .u64 a0_1) := bc_ BK101 1 rfl
        have hfz20_0 := blk_frozen BK101.out 0; have hfz20_1 := blk_frozen BK101.out 1
        try go_wp2
        (try (rw [drewN_self wc]; generalize hq_ : World.drewN wc _ = wc; have n0_ : Aside0 (wc.heap[gb101]? = some (.cells #[.int .i64 a0_0, .int .u64 a0_1] 59 (0, 0))) := ⟨by rw [← hq_]; exact (pkx BK101)⟩; have n1_ : Aside0 (Below w.heap.size w wc) := ⟨by rw [← hq_]; exact (pbx HB)⟩; clear BK101 HB hq_; have BK101 := n0_; have HB := n1_; clear n0_ n1_))
        replace BK101 := Aside0.mk (blk_drew BK101.out); replace HB := Aside0.mk (below_drew1 HB.out)
        refine start_ (n:=9) (S := fun w' => w'.cell? ⟨gb101, 0, none⟩ = some (.int .i64 a0_0) ∧ w'.cell? ⟨gb101, 1, none⟩ = some (.int .u64 a0_1)) (ds := []) #[F,F,F,F,F,F,F,F,F] (by kernel_rfl) rfl rfl ⟨bc_ BK101 0 rfl, bc_ BK101 1 rfl⟩ (fun hHeld => ?_); refine with_tabW label_Text.tab7 label_Text.bits7 (fun HT_ HW_ => ?_)
        generalize wc.drew = w21 at BK101 HB hHeld ⊢; refine pure_ (i:=0) (N:=some 18) (v:=?_) (a':=?_) ⟨m_ 9 1⟩ rfl rfl (any_of HT_.out (by kernel_rfl)) (fun _ _ _ h=>h) (Or.inl ⟨rfl, ?_⟩) ?_ ?_; rotate_left
        ·intro w'; go_simp; with_reducible rfl
        rotate_left
        ·simp only [q_, i64_w, i32_w]; rfl
        refine pure_ (i:=4) (N:=some 22) (v:=?_) (a':=?_) ⟨m_ 9 17⟩ rfl rfl (any_of HT_.out (by kernel_rfl)) (fun _ _ _ h=>h) (Or.inl ⟨rfl, ?_⟩) ?_ ?_; rotate_left
        ·intro w'; go_simp; with_reducible rfl
        rotate_left
        ·simp only [q_, i64_w, i32_w]; rfl
        refine take_ (i:=1) (N:=some 19) (v:=?_) (a':=?_) ⟨m_ 9 19⟩ rfl rfl (take_ofW HT_.out HW_.out (by kernel_rfl)) (fun _ _ _ h=>h) (Or.inl ⟨rfl, ?_⟩) hHeld ?_ ?_; rotate_left
        ·rintro w' ⟨s0, s1⟩; go_simp; with_reducible rfl
        rotate_left
        ·simp only [q_, i64_w, i32_w]; rfl
        refine take_ (i:=5) (N:=some 23) (v:=?_) (a':=?_) ⟨m_ 9 51⟩ rfl rfl (take_ofW HT_.out HW_.out (by kernel_rfl)) (fun _ _ _ h=>h) (Or.inl ⟨rfl, ?_⟩) hHeld ?_ ?_; rotate_left
        ·rintro w' ⟨s0, s1⟩; go_simp; with_reducible rfl
        rotate_left
        ·simp only [q_, i64_w, i32_w]; rfl
        refine one_ (i:=2) (N:=some 20) ⟨m_ 9 55⟩ rfl rfl (one_of HT_.out (by kernel_rfl)) (by decide) (fun K hK => ?_); refine goes_ Tryd.func19 (by kernel_rfl) rfl #[.int .i64 a0_0] (by rfl) rfl rfl (by (try simp only [List.map_toArray, List.map_cons, List.map_nil]); first | done | rfl | (simp only [List.length_drop, List.length_take]; rfl)) ?_; with_reducible refine (strconv_Itoa.calls a0_0 t106 _ (by refine tb_ ?_ hT; repeat' (first | exact pbx HB | exact Below.refl _ _ | assumption | refine below_set ?_ (Aside0.out ?_))) A16.out).mono ?_; rintro e w22 ⟨rfl, hb⟩; refine ⟨_, rfl, ?_⟩
        replace BK101 := bb_ BK101 hb; replace HB := bs_ HB hb; (try clear hb); (try clear hb2); (try clear hk); (try clear hi); refine hK.out _ _ ⟨bc_ BK101 0 rfl, bc_ BK101 1 rfl⟩ (fun hHeld => ?_); clear hK K; refine norm_ (a':=?_) ?_ ?_; rotate_left
        ·show Act.put _ (some 20) _ = _; simp only [q_, i64_w, i32_w]; rfl
        refine pure_ (i:=3) (N:=some 21) (v:=?_) (a':=?_) ⟨m_ 9 63⟩ rfl rfl (any_of HT_.out (by kernel_rfl)) (fun _ _ _ h=>h) (Or.inl ⟨rfl, ?_⟩) ?_ ?_; rotate_left
        ·intro w'; go_simp; with_reducible rfl
        rotate_left
        ·simp only [q_, i64_w, i32_w]; rfl
        refine one_ (i:=6) (N:=some 24) ⟨m_ 9 127⟩ rfl rfl (one_of HT_.out (by kernel_rfl)) (by decide) (fun K hK => ?_); refine goes_ Tryd.func42 (by kernel_rfl) rfl #[.int .u64 a0_1] (by rfl) rfl rfl (by (try simp only [List.map_toArray, List.map_cons, List.map_nil]); first | done | rfl | (simp only [List.length_drop, List.length_take]; rfl)) ?_; with_reducible refine (cats_Text.calls kj3 a0_1 t107 _ (by refine tb_ ?_ hT; repeat' (first | exact pbx HB | exact Below.refl _ _ | assumption | refine below_set ?_ (Aside0.out ?_))) A18.out).mono ?_; rintro e w23 ⟨rfl, hb⟩; refine ⟨_, rfl, ?_⟩
        replace BK101 := bb_ BK101 hb; replace HB := bs_ HB hb; (try clear hb); (try clear hb2); (try clear hk); (try clear hi); refine hK.out _ _ ⟨bc_ BK101 0 rfl, bc_ BK101 1 rfl⟩ (fun hHeld => ?_); clear hK K; refine norm_ (a':=?_) ?_ ?_; rotate_left
        ·show Act.put _ (some 24) _ = _; simp only [q_, i64_w, i32_w]; rfl
        refine pure_ (i:=7) (N:=some 25) (v:=?_) (a':=?_) ⟨m_ 9 255⟩ rfl rfl (any_of HT_.out (by kernel_rfl)) (fun _ _ _ h=>h) (Or.inl ⟨rfl, ?_⟩) ?_ ?_; rotate_left
        ·intro w'; go_simp; with_reducible rfl
        rotate_left
        ·simp only [q_, i64_w, i32_w]; rfl
        refine pure_ (i:=8) (N:=some 2) (v:=?_) (a':=?_) ⟨m_ 9 511⟩ rfl rfl (any_of HT_.out (by kernel_rfl)) (fun _ _ _ h=>h) (Or.inl ⟨rfl, ?_⟩) ?_ ?_; rotate_left
        ·intro w'; go_simp; with_reducible rfl
        rotate_left
        ·simp only [q_, i64_w, i32_w]; rfl
        refine done_ (done_of HT_.out (by kernel_rfl)) ?_
        try go_wp2
        go_ret
        exact ⟨by first | rfl | (simp [errW_none, errW_some] <;> rfl) | (simp [*, errW_none, errW_some] <;> rfl), pbx HB⟩
       ·rw [if_neg c19] at H
        exact absurd H (by simp)
      ·rw [if_neg c17] at H
       exact absurd H (by simp)
 ·replace c3 := Bool.eq_false_iff.mpr c3; subst c3
  have H1 : (some (⟨#[]⟩ : ByteArray)) = some r := by rw [if_neg (show ¬ (false = true) by decide)] at H; exact H
  clear H; have H := H1; clear H1; obtain rfl := Option.some.inj H
  go_enter Tryd.func21, Tryd.ntmps21
  go_wp2_with (first | ((with_reducible refine gate_dst (N:=1) rfl ?_); refine be_ (N:=1) (cs := #[.int .i64 a0_0, .int .u64 a0_1]) (t:=59) ?_; intro gb101 hg w24 hbox hb; have BK101 := Aside0.mk (hbox); have GW101 := hs_ HB hg; have GE101 := hs_ HB hg; replace HB := bs_ HB hb; clear hb hbox hg; have hcz25_0 : w24.cell? ⟨gb101, 0, none⟩ = some (.int .i64 a0_0) := bc_ BK101 0 rfl; have hcz25_1 : w24.cell? ⟨gb101, 1, none⟩ = some (.int .u64 a0_1) := bc_ BK101 1 rfl; have hfz25_0 := blk_frozen BK101.out 0; have hfz25_1 := blk_frozen BK101.out 1) | ((with_reducible refine gate_callee (f:=40) rfl ?_); refine gL_ (some 5) rfl rfl Tryd.func40 rfl #[.agg #[.int .i64 a0_0, .int .u64 a0_1]] rfl ?_; (with_reducible refine (label_May.calls a0_0 a0_1 false _ A2.out).mono ?_); rintro e w26 ⟨rfl, hb⟩; refine ⟨_, rfl, ?_⟩; replace BK101 := bb_ BK101 hb; replace HB := bs_ HB hb; (try clear hb); (try clear hb2); (try clear hk); (try clear hi)))
  go_ret
  exact ⟨by first | rfl | (simp [errW_none, errW_some] <;> rfl) | (simp [*, errW_none, errW_some] <;> rfl), pbx HB⟩

end Go.Proofs.YtbboanfggaknjaaDoor.X
/- policy.Text: what it computes, and its closure 'line', walked. -/
set_option linter.unusedVariables false
set_option linter.unusedSimpArgs false
namespace Go.Proofs.YtbboanfggaknjaaDoor.X
open Go.RowKit Go.Shelf Go.Proofs.YtbboanfggaknjaaDoorW.PrintWords Go.Proofs.YtbboanfggaknjaaDoorW.PrintLast Go.Proofs.YtbboanfggaknjaaDoorW.PrintMore
def lineT (ws : List ByteArray) : List UInt8 := joinL [32] (ws.map by_) ++ [10]
def addL (acc : List UInt8) (ws : List ByteArray) : Option (List UInt8) :=
  if ws.length ≤ 10 ∧ sizesT ws ≤ 1000000 ∧ acc.length ≤ 1000000000 then some (acc ++ lineT ws) else none
def ptz (k : Nat) : List UInt8 → List S61 → Option (List UInt8)
  | acc, [] => some acc
  | acc, z :: l => (span_Text.f k z.f0.f0.f0 z.f0.f0.f1 z.f0.f1.f0 z.f0.f1.f1).bind fun a => (label_Text.f k z.f1.f0 z.f1.f1).bind fun b =>
    (addL acc [⟨#[122, 111, 110, 101]⟩, a, b]).bind fun o => ptz k o l
def ptu (k : Nat) : List UInt8 → List S65 → Option (List UInt8)
  | acc, [] => some acc
  | acc, z :: l => (label_Text.f k z.f1.f0 z.f1.f1).bind fun b => (addL acc [⟨#[117, 115, 101, 114]⟩, z.f0, b]).bind fun o => ptu k o l
def ptg (k : Nat) : List UInt8 → List S67 → Option (List UInt8)
  | acc, [] => some acc
  | acc, z :: l => (label_Text.f k z.f1.f0 z.f1.f1).bind fun a => (label_Text.f k z.f2.f0 z.f2.f1).bind fun b => (addL acc [⟨#[103, 114, 97, 110, 116]⟩, z.f0, a, b]).bind fun o => ptg k o l
def policy_Text.f (k : Nat) (r c : Int) (zs : List S61) (us : List S65) (gs : List S67) : Option ByteArray :=
  (policy_Wrong.f k r c zs us gs).bind fun e => if e.2 = 0 then
    (strconv_Itoa.f r).bind fun a => (strconv_Itoa.f c).bind fun b => (addL [] [⟨#[103, 114, 105, 100]⟩, a, b]).bind fun o =>
    (ptz k o zs).bind fun o => (ptu k o us).bind fun o => (ptg k o gs).bind fun o => some (tx o)
  else some ⟨#[]⟩
theorem ptz.mono (k : Nat) : ∀ l acc, LeO (ptz k acc l) (ptz (k + 1) acc l)
  | [], acc => LeO.refl _
  | z :: l, acc => LeO.bind (span_Text.mono _ _ _ _ _) fun _ => LeO.bind (label_Text.mono _ _ _) fun _ => LeO.bind (LeO.refl _) fun _ => ptz.mono k l _
theorem ptu.mono (k : Nat) : ∀ l acc, LeO (ptu k acc l) (ptu (k + 1) acc l)
  | [], acc => LeO.refl _
  | z :: l, acc => LeO.bind (label_Text.mono _ _ _) fun _ => LeO.bind (LeO.refl _) fun _ => ptu.mono k l _
theorem ptg.mono (k : Nat) : ∀ l acc, LeO (ptg k acc l) (ptg (k + 1) acc l)
  | [], acc => LeO.refl _
  | z :: l, acc => LeO.bind (label_Text.mono _ _ _) fun _ => LeO.bind (label_Text.mono _ _ _) fun _ => LeO.bind (LeO.refl _) fun _ => ptg.mono k l _
theorem bld_below {T e : TypeId} {B b : Nat} {p : Value} {bs : List Value} {W W' : World} (h : Lib.BuilderAtF T e B b p bs W) (hb : Below W.heap.size W W') : Lib.BuilderAtF T e B b p bs W' := by
  have hlt := h.lt
  obtain ⟨hB, v, hv, hown, hne⟩ := h
  exact ⟨hB, v, (hb.block b hlt).trans hv, hown.kept (row := none) ⟨hb.os, hb.tape, hb.output, hb.size, fun k hk _ => hb.block k hk⟩ (Classical.em _), hne⟩
theorem isbld_below {T e : TypeId} {B b : Nat} {bs : List Value} {W W' : World} (h : Lib.IsBuilderF T e B b bs W) (hb : Below W.heap.size W W') : Lib.IsBuilderF T e B b bs W' :=
  h.elim (fun x => .inl (bld_below x hb)) (fun x => .inr (bld_below x hb))
theorem joinL_len (l : List ByteArray) : (joinL [32] (l.map by_)).length ≤ sizesT l + l.length := by
  cases l with
  | nil => simp [joinL]
  | cons x xs =>
    have e : ∀ xs : List ByteArray, ((xs.map by_).flatMap fun y => [32] ++ y).length = sizesT xs + xs.length := by
      intro xs
      induction xs with
      | nil => rfl
      | cons y ys ih =>
        rw [List.map_cons, List.flatMap_cons, List.length_append, ih]
        have h1 : ([32] ++ by_ y).length = y.size + 1 := by rw [size_by, List.length_append]; simp; omega
        have h2 : sizesT (y :: ys) = y.size + sizesT ys := by simp [sizesT]
        rw [h1, h2, List.length_cons]
        omega
    rw [List.map_cons]
    unfold joinL
    rw [List.length_append, e xs, ← size_by]
    have h2 : sizesT (x :: xs) = x.size + sizesT xs := by simp [sizesT]
    rw [h2, List.length_cons]
    omega
set_option maxHeartbeats 4000000 in
set_option maxRecDepth 100000 in
theorem line_calls (B b : Nat) (acc o : List UInt8) (A : Option Addr) (cap : Nat) (ws : List ByteArray) (w : World) (hI : Aside0 (Lib.IsBuilderF 45 5 B b (Lib.byteCells acc) w)) (hB : Aside0 (B ≤ w.heap.size)) (hW : Aside0 (Kd.C Kd.string w A ws.length ws)) (hc : ws.length ≤ cap) (h : addL acc ws = some o) :
    Calls Tryd.prog 15 #[.slice A ws.length cap, .pointer (some ⟨b, 0, none⟩)] w fun e w' => e = .returned (.tuple #[]) ∧ Lib.IsBuilderF 45 5 B b (Lib.byteCells o) w' ∧ Below B w w' := by
  unfold addL at h
  by_cases hg : ws.length ≤ 10 ∧ sizesT ws ≤ 1000000 ∧ acc.length ≤ 1000000000
  rotate_left
  · rw [if_neg hg] at h; cases h
  rw [if_pos hg] at h
  obtain rfl := Option.some.inj h
  have hl := joinL_len ws
  have HJ : Aside0 (strings_Join.f ws ⟨#[32]⟩ = some (tx (joinL [32] (ws.map by_)))) := ⟨if_pos ⟨by omega, by decide, by omega⟩⟩
  have HL : Aside0 ((joinL [32] (ws.map by_)).length ≤ 1000010) := ⟨by omega⟩
  have HA : Aside0 (acc.length ≤ 1000000000) := ⟨hg.2.2⟩
  have HC := Aside0.mk hc
  unfold lineT
  generalize joinL [32] (ws.map by_) = j at HJ HL ⊢
  clear hl hg h hc
  go_enter Tryd.func15, Tryd.ntmps15
  go_wp2_with (first
    | (go_at_call 17; (with_reducible refine (strings_Join.calls A cap ws ⟨#[32]⟩ (tx j) _ hW.out HC.out HJ.out).mono ?_); rintro e w1 ⟨rfl, hb⟩; have HI1 := Aside0.mk (isbld_below hI.out hb); have HB1 := Aside0.mk (hb.mono hB.out); clear hb)
    | (go_at_call 16; (with_reducible refine (bld_string_k B b (Lib.byteCells acc) (tx j) _ HI1.out ?hA ?hC).mono ?_); (case hA => rw [Lib.byteCells_length, size_by, by_tx]; have := HL.out; have := HA.out; omega); (case hC => exact Nat.le_trans hB.out HB1.out.size); rintro e w2 ⟨rfl, h2, hb2, hk2⟩; have HI2 := Aside0.mk h2; have HB2 := Aside0.mk (HB1.out.trans hb2); clear h2 hb2 hk2)
    | (go_at_call 18; (with_reducible refine (bld_byte_k B b (Lib.byteCells acc ++ Lib.strCells (tx j)) 10 _ ?hI ?hA ?hC).mono ?_); (case hI => exact Or.inr HI2.out); (case hA => rw [List.length_append, Lib.byteCells_length, Lib.strCells_length, size_by, by_tx]; have := HL.out; have := HA.out; omega); (case hC => exact Nat.le_trans hB.out HB2.out.size); rintro e w3 ⟨rfl, h3, hb3, hk3⟩; have HI3 := Aside0.mk h3; have HB3 := Aside0.mk (HB2.out.trans hb3); clear h3 hb3 hk3))
  go_end0
  refine ⟨rfl, Or.inr ?_, HB3.out⟩
  have h3 := HI3.out
  rw [Lib.byteCells_append, Lib.byteCells_append, ← List.append_assoc]
  exact h3
end Go.Proofs.YtbboanfggaknjaaDoor.X
namespace Go.Proofs.YtbboanfggaknjaaDoor.X
open Go.RowKit Go.Proofs.YtbboanfggaknjaaDoorW.PrintWords Go.Proofs.YtbboanfggaknjaaDoorW.PrintLast Go.Proofs.YtbboanfggaknjaaDoorW.PrintMore
attribute [local go_sem] max2_int min2_int max_two min_two max_three min_three max_four min_four
set_option linter.unusedVariables false
set_option linter.unusedSimpArgs false
def oculuslaw07_small.f (a0_0 : Int) (a0_1 : Int) (l0_2 : List (S61)) (l0_3 : List (S65)) (l0_4 : List (S67)) : Option (Bool) := if (l0_2.length : Int) ≤ 50 then (if (l0_3.length : Int) ≤ 30 then (some (decide ((l0_4.length : Int) ≤ 50))) else (some false)) else (some false)
set_option maxHeartbeats 8000000 in
set_option maxRecDepth 100000 in
theorem oculuslaw07_small.calls (a0_0 : Int) (a0_1 : Int) (A0_2 : Option Addr) (c0_2 : Nat) (l0_2 : List (S61)) (A0_3 : Option Addr) (c0_3 : Nat) (l0_3 : List (S65)) (A0_4 : Option Addr) (c0_4 : Nat) (l0_4 : List (S67)) (r : Bool) (w : World) (hr0_2 : Kd.C k61 w A0_2 l0_2.length l0_2) (hc0_2 : l0_2.length ≤ c0_2) (hr0_3 : Kd.C k65 w A0_3 l0_3.length l0_3) (hc0_3 : l0_3.length ≤ c0_3) (hr0_4 : Kd.C k67 w A0_4 l0_4.length l0_4) (hc0_4 : l0_4.length ≤ c0_4) (h : oculuslaw07_small.f a0_0 a0_1 l0_2 l0_3 l0_4 = some r) :
  Calls Tryd.prog 5 #[.agg #[.int .i64 a0_0, .int .i64 a0_1, .slice A0_2 l0_2.length c0_2, .slice A0_3 l0_3.length c0_3, .slice A0_4 l0_4.length c0_4]] w fun e w' => e = .returned (.bool r) ∧ Below w.heap.size w w' := by
 have hu26 := Tryd.underlying26; have HR0_2 := Aside0.mk hr0_2; have HC0_2 := Aside0.mk hc0_2; clear hr0_2 hc0_2; have HR0_3 := Aside0.mk hr0_3; have HC0_3 := Aside0.mk hc0_3; clear hr0_3 hc0_3; have HR0_4 := Aside0.mk hr0_4; have HC0_4 := Aside0.mk hc0_4; clear hr0_4 hc0_4; have HB := Aside0.mk (Below.refl w.heap.size w)
 have H : (if (l0_2.length : Int) ≤ 50 then (if (l0_3.length : Int) ≤ 30 then (some (decide ((l0_4.length : Int) ≤ 50))) else (some false)) else (some false)) = some r := h
 clear h
 by_cases c2 : (l0_2.length : Int) ≤ 50
 ·rw [if_pos c2] at H; have c2b0 : decide ((l0_2.length : Int) ≤ 50) = true := decide_eq_true c2; have c2b1 : decide (l0_2.length ≤ 50) = true := decide_eq_true (by omega); clear c2
  by_cases c3 : (l0_3.length : Int) ≤ 30
  ·rw [if_pos c3] at H; have c3b0 : decide ((l0_3.length : Int) ≤ 30) = true := decide_eq_true c3; have c3b1 : decide (l0_3.length ≤ 30) = true := decide_eq_true (by omega); clear c3; obtain rfl := Option.some.inj H
   go_enter Tryd.func5, Tryd.ntmps5
   go_wp2_with (first | ((with_reducible refine gate_dst (N:=1) rfl ?_); (try (refine gate_guard (by rfl) ?_; dsimp only)); refine be_ (N:=1) (cs := #[.int .i64 a0_0, .int .i64 a0_1, .slice A0_2 l0_2.length c0_2, .slice A0_3 l0_3.length c0_3, .slice A0_4 l0_4.length c0_4]) (t:=26) ?_; intro gb101 hg w4 hbox hb; have BK101 := Aside0.mk (hbox); replace HB := bs_ HB hb; clear hb hbox hg; have hcz5_0 : w4.cell? ⟨gb101, 0, none⟩ = some (.int .i64 a0_0) := bc_ BK101 0 rfl; have hcz5_1 : w4.cell? ⟨gb101, 1, none⟩ = some (.int .i64 a0_1) := bc_ BK101 1 rfl; have hcz5_2 : w4.cell? ⟨gb101, 2, none⟩ = some (.slice A0_2 l0_2.length c0_2) := bc_ BK101 2 rfl; have hcz5_3 : w4.cell? ⟨gb101, 3, none⟩ = some (.slice A0_3 l0_3.length c0_3) := bc_ BK101 3 rfl; have hcz5_4 : w4.cell? ⟨gb101, 4, none⟩ = some (.slice A0_4 l0_4.length c0_4) := bc_ BK101 4 rfl))
   go_ret
   exact ⟨by first | rfl | (simp [errW_none, errW_some] <;> rfl) | (simp [*, errW_none, errW_some] <;> rfl), pbx HB⟩
  ·rw [if_neg c3] at H; have c3b0 : decide ((l0_3.length : Int) ≤ 30) = false := decide_eq_false c3; have c3b1 : decide (l0_3.length ≤ 30) = false := decide_eq_false (by omega); clear c3; obtain rfl := Option.some.inj H
   go_enter Tryd.func5, Tryd.ntmps5
   go_wp2_with (first | ((with_reducible refine gate_dst (N:=1) rfl ?_); (try (refine gate_guard (by rfl) ?_; dsimp only)); refine be_ (N:=1) (cs := #[.int .i64 a0_0, .int .i64 a0_1, .slice A0_2 l0_2.length c0_2, .slice A0_3 l0_3.length c0_3, .slice A0_4 l0_4.length c0_4]) (t:=26) ?_; intro gb101 hg w6 hbox hb; have BK101 := Aside0.mk (hbox); replace HB := bs_ HB hb; clear hb hbox hg; have hcz7_0 : w6.cell? ⟨gb101, 0, none⟩ = some (.int .i64 a0_0) := bc_ BK101 0 rfl; have hcz7_1 : w6.cell? ⟨gb101, 1, none⟩ = some (.int .i64 a0_1) := bc_ BK101 1 rfl; have hcz7_2 : w6.cell? ⟨gb101, 2, none⟩ = some (.slice A0_2 l0_2.length c0_2) := bc_ BK101 2 rfl; have hcz7_3 : w6.cell? ⟨gb101, 3, none⟩ = some (.slice A0_3 l0_3.length c0_3) := bc_ BK101 3 rfl; have hcz7_4 : w6.cell? ⟨gb101, 4, none⟩ = some (.slice A0_4 l0_4.length c0_4) := bc_ BK101 4 rfl))
   go_ret
   exact ⟨by first | rfl | (simp [errW_none, errW_some] <;> rfl) | (simp [*, errW_none, errW_some] <;> rfl), pbx HB⟩
 ·rw [if_neg c2] at H; have c2b0 : decide ((l0_2.length : Int) ≤ 50) = false := decide_eq_false c2; have c2b1 : decide (l0_2.length ≤ 50) = false := decide_eq_false (by omega); clear c2; obtain rfl := Option.some.inj H
  go_enter Tryd.func5, Tryd.ntmps5
  go_wp2_with (first | ((with_reducible refine gate_dst (N:=1) rfl ?_); (try (refine gate_guard (by rfl) ?_; dsimp only)); refine be_ (N:=1) (cs := #[.int .i64 a0_0, .int .i64 a0_1, .slice A0_2 l0_2.length c0_2, .slice A0_3 l0_3.length c0_3, .slice A0_4 l0_4.length c0_4]) (t:=26) ?_; intro gb101 hg w8 hbox hb; have BK101 := Aside0.mk (hbox); replace HB := bs_ HB hb; clear hb hbox hg; have hcz9_0 : w8.cell? ⟨gb101, 0, none⟩ = some (.int .i64 a0_0) := bc_ BK101 0 rfl; have hcz9_1 : w8.cell? ⟨gb101, 1, none⟩ = some (.int .i64 a0_1) := bc_ BK101 1 rfl; have hcz9_2 : w8.cell? ⟨gb101, 2, none⟩ = some (.slice A0_2 l0_2.length c0_2) := bc_ BK101 2 rfl; have hcz9_3 : w8.cell? ⟨gb101, 3, none⟩ = some (.slice A0_3 l0_3.length c0_3) := bc_ BK101 3 rfl; have hcz9_4 : w8.cell? ⟨gb101, 4, none⟩ = some (.slice A0_4 l0_4.length c0_4) := bc_ BK101 4 rfl))
  go_ret
  exact ⟨by first | rfl | (simp [errW_none, errW_some] <;> rfl) | (simp [*, errW_none, errW_some] <;> rfl), pbx HB⟩

def oculusref03_May.f (a0_0 : Int) (a0_1 : Int) : Option (Bool) := if a0_0 ≥ 0 then (if a0_0 ≤ 998 then (if a0_1 ≥ 0 then (some (decide (a0_1 ≤ 701))) else (some false)) else (some false)) else (some false)
set_option maxHeartbeats 8000000 in
set_option maxRecDepth 100000 in
theorem oculusref03_May.calls (a0_0 : Int) (a0_1 : Int) (r : Bool) (w : World) (h : oculusref03_May.f a0_0 a0_1 = some r) :
  Calls Tryd.prog 64 #[.agg #[.int .i64 a0_0, .int .i64 a0_1]] w fun e w' => e = .returned (.bool r) ∧ Below w.heap.size w w' := by
 have hu38 := Tryd.underlying38; have HB := Aside0.mk (Below.refl w.heap.size w)
 have H : (if a0_0 ≥ 0 then (if a0_0 ≤ 998 then (if a0_1 ≥ 0 then (some (decide (a0_1 ≤ 701))) else (some false)) else (some false)) else (some false)) = some r := h
 clear h
 by_cases c2 : a0_0 ≥ 0
 ·rw [if_pos c2] at H; have c2b0 : decide (0 ≤ a0_0) = true := decide_eq_true c2; clear c2
  by_cases c3 : a0_0 ≤ 998
  ·rw [if_pos c3] at H; have c3b0 : decide (a0_0 ≤ 998) = true := decide_eq_true c3; clear c3
   by_cases c4 : a0_1 ≥ 0
   ·rw [if_pos c4] at H; have c4b0 : decide (0 ≤ a0_1) = true := decide_eq_true c4; clear c4; obtain rfl := Option.some.inj H
    go_enter Tryd.func64, Tryd.ntmps64
    go_wp2_with (first | ((with_reducible refine gate_dst (N:=1) rfl ?_); refine be_ (N:=1) (cs := #[.int .i64 a0_0, .int .i64 a0_1]) (t:=38) ?_; intro gb101 hg w5 hbox hb; have BK101 := Aside0.mk (hbox); replace HB := bs_ HB hb; clear hb hbox hg; have hcz6_0 : w5.cell? ⟨gb101, 0, none⟩ = some (.int .i64 a0_0) := bc_ BK101 0 rfl; have hcz6_1 : w5.cell? ⟨gb101, 1, none⟩ = some (.int .i64 a0_1) := bc_ BK101 1 rfl))
    go_ret
    exact ⟨by first | rfl | (simp [errW_none, errW_some] <;> rfl) | (simp [*, errW_none, errW_some] <;> rfl), pbx HB⟩
   ·rw [if_neg c4] at H; have c4b0 : decide (0 ≤ a0_1) = false := decide_eq_false c4; clear c4; obtain rfl := Option.some.inj H
    go_enter Tryd.func64, Tryd.ntmps64
    go_wp2_with (first | ((with_reducible refine gate_dst (N:=1) rfl ?_); refine be_ (N:=1) (cs := #[.int .i64 a0_0, .int .i64 a0_1]) (t:=38) ?_; intro gb101 hg w7 hbox hb; have BK101 := Aside0.mk (hbox); replace HB := bs_ HB hb; clear hb hbox hg; have hcz8_0 : w7.cell? ⟨gb101, 0, none⟩ = some (.int .i64 a0_0) := bc_ BK101 0 rfl; have hcz8_1 : w7.cell? ⟨gb101, 1, none⟩ = some (.int .i64 a0_1) := bc_ BK101 1 rfl))
    go_ret
    exact ⟨by first | rfl | (simp [errW_none, errW_some] <;> rfl) | (simp [*, errW_none, errW_some] <;> rfl), pbx HB⟩
  ·rw [if_neg c3] at H; have c3b0 : decide (a0_0 ≤ 998) = false := decide_eq_false c3; clear c3; obtain rfl := Option.some.inj H
   go_enter Tryd.func64, Tryd.ntmps64
   go_wp2_with (first | ((with_reducible refine gate_dst (N:=1) rfl ?_); refine be_ (N:=1) (cs := #[.int .i64 a0_0, .int .i64 a0_1]) (t:=38) ?_; intro gb101 hg w9 hbox hb; have BK101 := Aside0.mk (hbox); replace HB := bs_ HB hb; clear hb hbox hg; have hcz10_0 : w9.cell? ⟨gb101, 0, none⟩ = some (.int .i64 a0_0) := bc_ BK101 0 rfl; have hcz10_1 : w9.cell? ⟨gb101, 1, none⟩ = some (.int .i64 a0_1) := bc_ BK101 1 rfl))
   go_ret
   exact ⟨by first | rfl | (simp [errW_none, errW_some] <;> rfl) | (simp [*, errW_none, errW_some] <;> rfl), pbx HB⟩
 ·rw [if_neg c2] at H; have c2b0 : decide (0 ≤ a0_0) = false := decide_eq_false c2; clear c2; obtain rfl := Option.some.inj H
  go_enter Tryd.func64, Tryd.ntmps64
  go_wp2_with (first | ((with_reducible refine gate_dst (N:=1) rfl ?_); refine be_ (N:=1) (cs := #[.int .i64 a0_0, .int .i64 a0_1]) (t:=38) ?_; intro gb101 hg w11 hbox hb; have BK101 := Aside0.mk (hbox); replace HB := bs_ HB hb; clear hb hbox hg; have hcz12_0 : w11.cell? ⟨gb101, 0, none⟩ = some (.int .i64 a0_0) := bc_ BK101 0 rfl; have hcz12_1 : w11.cell? ⟨gb101, 1, none⟩ = some (.int .i64 a0_1) := bc_ BK101 1 rfl))
  go_ret
  exact ⟨by first | rfl | (simp [errW_none, errW_some] <;> rfl) | (simp [*, errW_none, errW_some] <;> rfl), pbx HB⟩

def oculusref04_May.f (a0_0 : Int) (a0_1 : Int) (a0_2 : Int) (a0_3 : Int) : Option (Bool) := (oculusref03_May.f a0_0 a0_1).bind fun t102 => (if t102 = true then ((oculusref03_May.f a0_2 a0_3).bind fun t103 => (some t103)) else (some false))
set_option maxHeartbeats 8000000 in
set_option maxRecDepth 100000 in
theorem oculusref04_May.calls (a0_0 : Int) (a0_1 : Int) (a0_2 : Int) (a0_3 : Int) (r : Bool) (w : World) (h : oculusref04_May.f a0_0 a0_1 a0_2 a0_3 = some r) :
  Calls Tryd.prog 43 #[.agg #[.int .i64 a0_0, .int .i64 a0_1, .int .i64 a0_2, .int .i64 a0_3]] w fun e w' => e = .returned (.bool r) ∧ Below w.heap.size w w' := by
 have hu56 := Tryd.underlying56; have hu38 := Tryd.underlying38; have HB := Aside0.mk (Below.refl w.heap.size w)
 have H : ((oculusref03_May.f a0_0 a0_1).bind fun t102 => (if t102 = true then ((oculusref03_May.f a0_2 a0_3).bind fun t103 => (some t103)) else (some false))) = some r := h
 clear h; replace H := Option.bind_eq_some_iff.mp H; obtain ⟨t102, A20, H⟩ := H
 replace H : (if t102 = true then ((oculusref03_May.f a0_2 a0_3).bind fun t103 => (some t103)) else (some false)) = some r := H
 have A2 := Aside0.mk A20; clear A20
 by_cases c3 : t102 = true
 ·subst c3
  have H1 : ((oculusref03_May.f a0_2 a0_3).bind fun t103 => (some t103)) = some r := by rw [if_pos rfl] at H; exact H
  clear H; have H := H1; clear H1; replace H := Option.bind_eq_some_iff.mp H; obtain ⟨t103, A40, H⟩ := H
  replace H : (some t103) = some r := H
  have A4 := Aside0.mk A40; clear A40; obtain rfl := Option.some.inj H
  go_enter Tryd.func43, Tryd.ntmps43
  go_wp2_with (first | ((with_reducible refine gate_dst (N:=1) rfl ?_); refine be_ (N:=1) (cs := #[.int .i64 a0_0, .int .i64 a0_1, .int .i64 a0_2, .int .i64 a0_3]) (t:=56) ?_; intro gb101 hg w5 hbox hb; have BK101 := Aside0.mk (hbox); replace HB := bs_ HB hb; clear hb hbox hg; have hcz6_0 : w5.cell? ⟨gb101, 0, none⟩ = some (.int .i64 a0_0) := bc_ BK101 0 rfl; have hcz6_1 : w5.cell? ⟨gb101, 1, none⟩ = some (.int .i64 a0_1) := bc_ BK101 1 rfl; have hcz6_2 : w5.cell? ⟨gb101, 2, none⟩ = some (.int .i64 a0_2) := bc_ BK101 2 rfl; have hcz6_3 : w5.cell? ⟨gb101, 3, none⟩ = some (.int .i64 a0_3) := bc_ BK101 3 rfl) | ((with_reducible refine gate_callee (f:=64) rfl ?_); refine gL_ (some 5) rfl rfl Tryd.func64 rfl #[.agg #[.int .i64 a0_0, .int .i64 a0_1]] rfl ?_; (with_reducible refine (oculusref03_May.calls a0_0 a0_1 true _ A2.out).mono ?_); rintro e w7 ⟨rfl, hb⟩; refine ⟨_, rfl, ?_⟩; replace BK101 := bb_ BK101 hb; replace HB := bs_ HB hb; (try clear hb); (try clear hb2); (try clear hk); (try clear hi); have hcz8_0 : w7.cell? ⟨gb101, 0, none⟩ = some (.int .i64 a0_0) := bc_ BK101 0 rfl; have hcz8_1 : w7.cell? ⟨gb101, 1, none⟩ = some (.int .i64 a0_1) := bc_ BK101 1 rfl; have hcz8_2 : w7.cell? ⟨gb101, 2, none⟩ = some (.int .i64 a0_2) := bc_ BK101 2 rfl; have hcz8_3 : w7.cell? ⟨gb101, 3, none⟩ = some (.int .i64 a0_3) := bc_ BK101 3 rfl) | (go_at_call 64; (with_reducible refine (oculusref03_May.calls a0_2 a0_3 t103 _ A4.out).mono ?_); rintro e w9 ⟨rfl, hb⟩; replace BK101 := bb_ BK101 hb; replace HB := bs_ HB hb; (try clear hb); (try clear hb2); (try clear hk); (try clear hi)))
  go_ret
  exact ⟨by first | rfl | (simp [errW_none, errW_some] <;> rfl) | (simp [*, errW_none, errW_some] <;> rfl), pbx HB⟩
 ·replace c3 := Bool.eq_false_iff.mpr c3; subst c3
  have H1 : (some false) = some r := by rw [if_neg (show ¬ (false = true) by decide)] at H; exact H
  clear H; have H := H1; clear H1; obtain rfl := Option.some.inj H
  go_enter Tryd.func43, Tryd.ntmps43
  go_wp2_with (first | ((with_reducible refine gate_dst (N:=1) rfl ?_); refine be_ (N:=1) (cs := #[.int .i64 a0_0, .int .i64 a0_1, .int .i64 a0_2, .int .i64 a0_3]) (t:=56) ?_; intro gb101 hg w10 hbox hb; have BK101 := Aside0.mk (hbox); replace HB := bs_ HB hb; clear hb hbox hg; have hcz11_0 : w10.cell? ⟨gb101, 0, none⟩ = some (.int .i64 a0_0) := bc_ BK101 0 rfl; have hcz11_1 : w10.cell? ⟨gb101, 1, none⟩ = some (.int .i64 a0_1) := bc_ BK101 1 rfl; have hcz11_2 : w10.cell? ⟨gb101, 2, none⟩ = some (.int .i64 a0_2) := bc_ BK101 2 rfl; have hcz11_3 : w10.cell? ⟨gb101, 3, none⟩ = some (.int .i64 a0_3) := bc_ BK101 3 rfl) | ((with_reducible refine gate_callee (f:=64) rfl ?_); refine gL_ (some 5) rfl rfl Tryd.func64 rfl #[.agg #[.int .i64 a0_0, .int .i64 a0_1]] rfl ?_; (with_reducible refine (oculusref03_May.calls a0_0 a0_1 false _ A2.out).mono ?_); rintro e w12 ⟨rfl, hb⟩; refine ⟨_, rfl, ?_⟩; replace BK101 := bb_ BK101 hb; replace HB := bs_ HB hb; (try clear hb); (try clear hb2); (try clear hk); (try clear hi)))
  go_ret
  exact ⟨by first | rfl | (simp [errW_none, errW_some] <;> rfl) | (simp [*, errW_none, errW_some] <;> rfl), pbx HB⟩

mutual
def oculusref05_Wrong.l0 : Nat → List (S61) → Int → Int → Int → Option (Int × Int)
 | 0, _, _, _, _ => none
 | k + 1, x0, x1, x2, x7 => if x7 < (x0.length : Int) then (if 0 ≤ x7 then (if x7 > 31 then (some (x7, 10)) else ((oculusref04_May.f ((rd_T61 x0 x7).f0.f0.f0) ((rd_T61 x0 x7).f0.f0.f1) ((rd_T61 x0 x7).f0.f1.f0) ((rd_T61 x0 x7).f0.f1.f1)).bind fun t104 => (if t104 = true then (if ((rd_T61 x0 x7).f0.f0.f0) > ((rd_T61 x0 x7).f0.f1.f0) then (oculusref05_Wrong.j1 k x0 x1 x2 x7 true ((rd_T61 x0 x7).f0.f0.f0) ((rd_T61 x0 x7).f0.f0.f1) ((rd_T61 x0 x7).f0.f1.f0) ((rd_T61 x0 x7).f0.f1.f1) ((rd_T61 x0 x7).f1.f0) ((rd_T61 x0 x7).f1.f1)) else (oculusref05_Wrong.j1 k x0 x1 x2 x7 (decide (((rd_T61 x0 x7).f0.f0.f1) > ((rd_T61 x0 x7).f0.f1.f1))) ((rd_T61 x0 x7).f0.f0.f0) ((rd_T61 x0 x7).f0.f0.f1) ((rd_T61 x0 x7).f0.f1.f0) ((rd_T61 x0 x7).f0.f1.f1) ((rd_T61 x0 x7).f1.f0) ((rd_T61 x0 x7).f1.f1))) else (oculusref05_Wrong.j1 k x0 x1 x2 x7 true ((rd_T61 x0 x7).f0.f0.f0) ((rd_T61 x0 x7).f0.f0.f1) ((rd_T61 x0 x7).f0.f1.f0) ((rd_T61 x0 x7).f0.f1.f1) ((rd_T61 x0 x7).f1.f0) ((rd_T61 x0 x7).f1.f1))))) else (none)) else (some (0, 0))
def oculusref05_Wrong.j1 : Nat → List (S61) → Int → Int → Int → Bool → Int → Int → Int → Int → Int → Int → Option (Int × Int)
 | 0, _, _, _, _, _, _, _, _, _, _, _ => none
 | k + 1, x0, x1, x2, x7, x48, x104000, x104001, x104002, x104003, x104004, x104005 => if x48 = true then (some (x7, 1)) else (if x104002 ≥ x1 then (oculusref05_Wrong.j2 k x0 x1 x2 x7 true x104000 x104001 x104002 x104003 x104004 x104005) else (oculusref05_Wrong.j2 k x0 x1 x2 x7 (decide (x104003 ≥ x2)) x104000 x104001 x104002 x104003 x104004 x104005))
def oculusref05_Wrong.j2 : Nat → List (S61) → Int → Int → Int → Bool → Int → Int → Int → Int → Int → Int → Option (Int × Int)
 | 0, _, _, _, _, _, _, _, _, _, _, _ => none
 | k + 1, x0, x1, x2, x7, x64, x104000, x104001, x104002, x104003, x104004, x104005 => if x64 = true then (some (x7, 2)) else (if x104004 < 0 then (some (x7, 7)) else (if x104004 > 15 then (some (x7, 7)) else (oculusref05_Wrong.l0 k x0 x1 x2 (wrap64 (x7 + 1)))))
end
def oculusref05_Wrong.f (k : Nat) (l0 : List (S61)) (a1 : Int) (a2 : Int) : Option (Int × Int) := oculusref05_Wrong.l0 k l0 a1 a2 0
set_option maxHeartbeats 8000000 in
set_option maxRecDepth 100000 in
theorem oculusref05_Wrong.calls (k : Nat) (A0 : Option Addr) (c0 : Nat) (l0 : List (S61)) (a1 : Int) (a2 : Int) (r1 : Int) (r2 : Int) (w : World) (hr0 : Kd.C k61 w A0 l0.length l0) (hc0 : l0.length ≤ c0) (h : oculusref05_Wrong.f k l0 a1 a2 = some (r1, r2)) :
  Calls Tryd.prog 29 #[.slice A0 l0.length c0, .int .i64 a1, .int .i64 a2] w fun e w' => e = .returned (.agg #[.int .i64 r1, .int .i64 r2]) ∧ Below w.heap.size w w' := by
 have hu34 := Tryd.underlying34; have hu61 := Tryd.underlying61; have hu56 := Tryd.underlying56; have HR0 := Aside0.mk hr0; have HC0 := Aside0.mk hc0; clear hr0 hc0; have HB := Aside0.mk (Below.refl w.heap.size w)
 have H : (oculusref05_Wrong.l0 k l0 a1 a2 0) = some (r1, r2) := h
 clear h
 have H' := Aside0.mk H
 clear H
 go_enter Tryd.func29, Tryd.ntmps29
 go_wp2_with (first | ((with_reducible refine gate_dst (N:=6) rfl ?_); refine be_ (N:=6) (cs := #[.int .i64 0, .int .i64 0]) (t:=34) ?_; intro gb101 hg w4 hbox hb; have BK101 := Aside0.mk (hbox); have GW101 := hs_ HB hg; have GE101 := hs_ HB hg; replace HB := bs_ HB hb; clear hb hbox hg))
 go_loopg [7] k (fun kq v7 w' => ∃ (x7_1 : Int) (x102000_1 : Int) (x102001_1 : Int), v7 = .int .i64 x7_1 ∧ Aside0 (oculusref05_Wrong.l0 kq l0 a1 a2 x7_1 = some (r1, r2)) ∧ Aside0 (kq ≤ k) ∧ Aside0 (w'.heap[gb101]? = some (.cells #[.int .i64 x102000_1, .int .i64 x102001_1] 34 (0, 0))) ∧ Aside0 (Below w.heap.size w w'))
 case atStart => exact ⟨(0), (0), (0), (by first | rfl | (simp; done) | (simp [*]; done)), H', ⟨Nat.le_refl _⟩, ⟨pkx BK101⟩, ⟨pbx HB⟩⟩
 case round =>
  clear H'; (try clear c2); (try clear p2); obtain ⟨x7_1, x102000_1, x102001_1, rfl, HA, HK1, BK101, HB⟩ := hrel
  cases gk with
  | zero => exact absurd HA.out (by simp [oculusref05_Wrong.l0])
  | succ k1 =>
   have H := HA.out; clear HA
   simp only [oculusref05_Wrong.l0] at H
   by_cases c5 : x7_1 < (l0.length : Int)
   ·rw [if_pos c5] at H; have c5b0 : decide (x7_1 < (l0.length : Int)) = true := decide_eq_true c5; clear c5
    by_cases c6 : 0 ≤ x7_1
    ·rw [if_pos c6] at H; have c6b0 : decide (0 ≤ x7_1) = true := decide_eq_true c6; clear c6
     by_cases c7 : x7_1 > 31
     ·rw [if_pos c7] at H; have c7b0 : decide (31 < x7_1) = true := decide_eq_true c7; clear c7
      simp only [Option.some.injEq, Prod.mk.injEq] at H
      obtain ⟨rfl, rfl⟩ := H
      have p102 : 0 ≤ (x7_1 : Int) := of_decide_eq_true (by first | (with_reducible assumption) | assumption)
      have q102 : x7_1 < (l0.length : Int) := of_decide_eq_true (by first | (with_reducible assumption) | assumption)
      obtain ⟨ad102, e102, hx102_0, hx102_1, hx102_2, hx102_3, hx102_4, hx102_5⟩ := at_T61 HR0.out x7_1 p102 q102
      cases e102
      replace hx102_0 := (HB.out.cell (World.block_lt_of_cell? w _ hx102_0)).trans hx102_0; replace hx102_1 := (HB.out.cell (World.block_lt_of_cell? w _ hx102_1)).trans hx102_1; replace hx102_2 := (HB.out.cell (World.block_lt_of_cell? w _ hx102_2)).trans hx102_2; replace hx102_3 := (HB.out.cell (World.block_lt_of_cell? w _ hx102_3)).trans hx102_3; replace hx102_4 := (HB.out.cell (World.block_lt_of_cell? w _ hx102_4)).trans hx102_4; replace hx102_5 := (HB.out.cell (World.block_lt_of_cell? w _ hx102_5)).trans hx102_5; replace p102 := eq_true p102; replace q102 := eq_true q102
      go_wp2_with (first | ((with_reducible refine gate_dst (N:=8) rfl ?_); refine be_ (N:=8) (cs := #[.int .i64 0, .int .i64 0, .int .i64 0, .int .i64 0, .int .i64 0, .int .u64 0]) (t:=61) ?_; intro gb103 hg w8 hbox hb; have BK103 := Aside0.mk (hbox); have GW103 := hs_ HB hg; have GE103 := hs_ HB hg; have NB101_103 := hl_ BK101 hg; have NB103_101 := hr_ BK101 hg; replace BK101 := bb_ BK101 hb; replace HB := bs_ HB hb; clear hb hbox hg; have hnb9 := NB103_101.out; have hnc9 := NB101_103.out; have hcz10_0 : w8.cell? ⟨gb103, 0, none⟩ = some (.int .i64 0) := bc_ BK103 0 rfl; have hcz10_1 : w8.cell? ⟨gb103, 1, none⟩ = some (.int .i64 0) := bc_ BK103 1 rfl; have hcz10_2 : w8.cell? ⟨gb103, 2, none⟩ = some (.int .i64 0) := bc_ BK103 2 rfl; have hcz10_3 : w8.cell? ⟨gb103, 3, none⟩ = some (.int .i64 0) := bc_ BK103 3 rfl; have hcz10_4 : w8.cell? ⟨gb103, 4, none⟩ = some (.int .i64 0) := bc_ BK103 4 rfl; have hcz10_5 : w8.cell? ⟨gb103, 5, none⟩ = some (.int .u64 0) := bc_ BK103 5 rfl; have hfz10_0 := blk_frozen BK103.out 0; have hfz10_1 := blk_frozen BK103.out 1; have hfz10_2 := blk_frozen BK103.out 2; have hfz10_3 := blk_frozen BK103.out 3; have hfz10_4 := blk_frozen BK103.out 4; have hfz10_5 := blk_frozen BK103.out 5; have hcz11_0 : w8.cell? ⟨gb101, 0, none⟩ = some (.int .i64 x102000_1) := bc_ BK101 0 rfl; have hcz11_1 : w8.cell? ⟨gb101, 1, none⟩ = some (.int .i64 x102001_1) := bc_ BK101 1 rfl; have hfz11_0 := blk_frozen BK101.out 0; have hfz11_1 := blk_frozen BK101.out 1))
      refine bodyPost_ret (results_cell_row rfl _ _ gb101 34 #[.int .i64 x7_1, .int .i64 10] (0, 0) _ rfl (by refine pp_ (cs := #[.int .i64 x7_1, .int .i64 x102001_1]) 1 ?_ rfl; refine blk_put (cs := #[.int .i64 x102000_1, .int .i64 x102001_1]) ?_ 0 _ rfl; refine pf_ ?_ NB101_103.out; refine blk_far ?_ NB101_103.out _; refine blk_far ?_ NB101_103.out _; refine blk_far ?_ NB101_103.out _; refine blk_far ?_ NB101_103.out _; refine blk_far ?_ NB101_103.out _; exact pkx BK101) Tryd.underlying34 rfl (by kernel_rfl)) rfl ?_
      exact ⟨by first | rfl | (simp [errW_none, errW_some] <;> rfl) | (simp [*, errW_none, errW_some] <;> rfl), by repeat (first | (with_reducible first | exact HB.out | apply below_alloc | apply pw_below_drewN | apply below_drew1 | refine below_set ?_ GE101.out | refine below_set ?_ GE103.out) | exact HB.out)⟩
     ·rw [if_neg c7] at H; have c7b0 : decide (31 < x7_1) = false := decide_eq_false c7; clear c7; have HC12 := Aside0.mk H; clear H
      have p102 : 0 ≤ (x7_1 : Int) := of_decide_eq_true (by first | (with_reducible assumption) | assumption)
      have q102 : x7_1 < (l0.length : Int) := of_decide_eq_true (by first | (with_reducible assumption) | assumption)
      obtain ⟨ad102, e102, hx102_0, hx102_1, hx102_2, hx102_3, hx102_4, hx102_5⟩ := at_T61 HR0.out x7_1 p102 q102
      cases e102
      replace hx102_0 := (HB.out.cell (World.block_lt_of_cell? w _ hx102_0)).trans hx102_0; replace hx102_1 := (HB.out.cell (World.block_lt_of_cell? w _ hx102_1)).trans hx102_1; replace hx102_2 := (HB.out.cell (World.block_lt_of_cell? w _ hx102_2)).trans hx102_2; replace hx102_3 := (HB.out.cell (World.block_lt_of_cell? w _ hx102_3)).trans hx102_3; replace hx102_4 := (HB.out.cell (World.block_lt_of_cell? w _ hx102_4)).trans hx102_4; replace hx102_5 := (HB.out.cell (World.block_lt_of_cell? w _ hx102_5)).trans hx102_5; replace p102 := eq_true p102; replace q102 := eq_true q102
      go_upto_region 7 with (first | ((with_reducible refine gate_dst (N:=8) rfl ?_); refine be_ (N:=8) (cs := #[.int .i64 0, .int .i64 0, .int .i64 0, .int .i64 0, .int .i64 0, .int .u64 0]) (t:=61) ?_; intro gb103 hg w13 hbox hb; have BK103 := Aside0.mk (hbox); have GW103 := hs_ HB hg; have GE103 := hs_ HB hg; have NB101_103 := hl_ BK101 hg; have NB103_101 := hr_ BK101 hg; replace BK101 := bb_ BK101 hb; replace HB := bs_ HB hb; clear hb hbox hg; have hnb14 := NB103_101.out; have hnc14 := NB101_103.out; have hcz15_0 : w13.cell? ⟨gb103, 0, none⟩ = some (.int .i64 0) := bc_ BK103 0 rfl; have hcz15_1 : w13.cell? ⟨gb103, 1, none⟩ = some (.int .i64 0) := bc_ BK103 1 rfl; have hcz15_2 : w13.cell? ⟨gb103, 2, none⟩ = some (.int .i64 0) := bc_ BK103 2 rfl; have hcz15_3 : w13.cell? ⟨gb103, 3, none⟩ = some (.int .i64 0) := bc_ BK103 3 rfl; have hcz15_4 : w13.cell? ⟨gb103, 4, none⟩ = some (.int .i64 0) := bc_ BK103 4 rfl; have hcz15_5 : w13.cell? ⟨gb103, 5, none⟩ = some (.int .u64 0) := bc_ BK103 5 rfl; have hfz15_0 := blk_frozen BK103.out 0; have hfz15_1 := blk_frozen BK103.out 1; have hfz15_2 := blk_frozen BK103.out 2; have hfz15_3 := blk_frozen BK103.out 3; have hfz15_4 := blk_frozen BK103.out 4; have hfz15_5 := blk_frozen BK103.out 5))
      (try simp only [q_])
      go_cut [48] (fun v48 wc => ∃ (kq : Nat) (x48_11 : Bool), v48 = .bool x48_11 ∧ Aside0 (oculusref05_Wrong.j1 kq l0 a1 a2 x7_1 x48_11 ((rd_T61 l0 x7_1).f0.f0.f0) ((rd_T61 l0 x7_1).f0.f0.f1) ((rd_T61 l0 x7_1).f0.f1.f0) ((rd_T61 l0 x7_1).f0.f1.f1) ((rd_T61 l0 x7_1).f1.f0) ((rd_T61 l0 x7_1).f1.f1) = some (r1, r2)) ∧ Aside0 (kq ≤ k1) ∧ Aside0 (wc.heap[gb101]? = some (.cells #[.int .i64 x102000_1, .int .i64 x102001_1] 34 (0, 0))) ∧ Aside0 (wc.heap[gb103]? = some (.cells #[.int .i64 ((rd_T61 l0 x7_1).f0.f0.f0), .int .i64 ((rd_T61 l0 x7_1).f0.f0.f1), .int .i64 ((rd_T61 l0 x7_1).f0.f1.f0), .int .i64 ((rd_T61 l0 x7_1).f0.f1.f1), .int .i64 ((rd_T61 l0 x7_1).f1.f0), .int .u64 ((rd_T61 l0 x7_1).f1.f1)] 61 (0, 0))) ∧ Aside0 (Below w.heap.size w wc))
      case first =>
       have H := HC12.out; clear HC12; replace H := Option.bind_eq_some_iff.mp H; obtain ⟨t104, A160, H⟩ := H
       replace H : (if t104 = true then (if ((rd_T61 l0 x7_1).f0.f0.f0) > ((rd_T61 l0 x7_1).f0.f1.f0) then (oculusref05_Wrong.j1 k1 l0 a1 a2 x7_1 true ((rd_T61 l0 x7_1).f0.f0.f0) ((rd_T61 l0 x7_1).f0.f0.f1) ((rd_T61 l0 x7_1).f0.f1.f0) ((rd_T61 l0 x7_1).f0.f1.f1) ((rd_T61 l0 x7_1).f1.f0) ((rd_T61 l0 x7_1).f1.f1)) else (oculusref05_Wrong.j1 k1 l0 a1 a2 x7_1 (decide (((rd_T61 l0 x7_1).f0.f0.f1) > ((rd_T61 l0 x7_1).f0.f1.f1))) ((rd_T61 l0 x7_1).f0.f0.f0) ((rd_T61 l0 x7_1).f0.f0.f1) ((rd_T61 l0 x7_1).f0.f1.f0) ((rd_T61 l0 x7_1).f0.f1.f1) ((rd_T61 l0 x7_1).f1.f0) ((rd_T61 l0 x7_1).f1.f1))) else (oculusref05_Wrong.j1 k1 l0 a1 a2 x7_1 true ((rd_T61 l0 x7_1).f0.f0.f0) ((rd_T61 l0 x7_1).f0.f0.f1) ((rd_T61 l0 x7_1).f0.f1.f0) ((rd_T61 l0 x7_1).f0.f1.f1) ((rd_T61 l0 x7_1).f1.f0) ((rd_T61 l0 x7_1).f1.f1))) = some (r1, r2) := H
       have A16 := Aside0.mk A160; clear A160
       by_cases c17 : t104 = true
       ·subst c17
        have H1 : (if ((rd_T61 l0 x7_1).f0.f0.f0) > ((rd_T61 l0 x7_1).f0.f1.f0) then (oculusref05_Wrong.j1 k1 l0 a1 a2 x7_1 true ((rd_T61 l0 x7_1).f0.f0.f0) ((rd_T61 l0 x7_1).f0.f0.f1) ((rd_T61 l0 x7_1).f0.f1.f0) ((rd_T61 l0 x7_1).f0.f1.f1) ((rd_T61 l0 x7_1).f1.f0) ((rd_T61 l0 x7_1).f1.f1)) else (oculusref05_Wrong.j1 k1 l0 a1 a2 x7_1 (decide (((rd_T61 l0 x7_1).f0.f0.f1) > ((rd_T61 l0 x7_1).f0.f1.f1))) ((rd_T61 l0 x7_1).f0.f0.f0) ((rd_T61 l0 x7_1).f0.f0.f1) ((rd_T61 l0 x7_1).f0.f1.f0) ((rd_T61 l0 x7_1).f0.f1.f1) ((rd_T61 l0 x7_1).f1.f0) ((rd_T61 l0 x7_1).f1.f1))) = some (r1, r2) := by rw [if_pos rfl] at H; exact H
        clear H; have H := H1; clear H1
        by_cases c18 : ((rd_T61 l0 x7_1).f0.f0.f0) > ((rd_T61 l0 x7_1).f0.f1.f0)
        ·rw [if_pos c18] at H; have c18b0 : decide (((rd_T61 l0 x7_1).f0.f1.f0) < ((rd_T61 l0 x7_1).f0.f0.f0)) = true := decide_eq_true c18; clear c18; (first | rw [c18b0] | (simp only [i64_w, i32_w]; rw [c18b0]) | skip)
         have H' := Aside0.mk H
         clear H; have hnb19 := NB103_101.out; have hnc19 := NB101_103.out
         have hcz20_0 : w13.cell? ⟨gb103, 0, none⟩ = some (.int .i64 0) := bc_ BK103 0 rfl
         have hcz20_1 : w13.cell? ⟨gb103, 1, none⟩ = some (.int .i64 0) := bc_ BK103 1 rfl
         have hcz20_2 : w13.cell? ⟨gb103, 2, none⟩ = some (.int .i64 0) := bc_ BK103 2 rfl
         have hcz20_3 : w13.cell? ⟨gb103, 3, none⟩ = some (.int .i64 0) := bc_ BK103 3 rfl
         have hcz20_4 : w13.cell? ⟨gb103, 4, none⟩ = some (.int .i64 0) := bc_ BK103 4 rfl
         have hcz20_5 : w13.cell? ⟨gb103, 5, none⟩ = some (.int .u64 0) := bc_ BK103 5 rfl
         have hfz20_0 := blk_frozen BK103.out 0; have hfz20_1 := blk_frozen BK103.out 1; have hfz20_2 := blk_frozen BK103.out 2; have hfz20_3 := blk_frozen BK103.out 3; have hfz20_4 := blk_frozen BK103.out 4; have hfz20_5 := blk_frozen BK103.out 5
         go_wp2_with (first | ((with_reducible refine gate_callee (f:=43) rfl ?_); refine gL_ (some 25) rfl rfl Tryd.func43 rfl #[.agg #[.int .i64 ((rd_T61 l0 x7_1).f0.f0.f0), .int .i64 ((rd_T61 l0 x7_1).f0.f0.f1), .int .i64 ((rd_T61 l0 x7_1).f0.f1.f0), .int .i64 ((rd_T61 l0 x7_1).f0.f1.f1)]] rfl ?_; (with_reducible refine (oculusref04_May.calls ((rd_T61 l0 x7_1).f0.f0.f0) ((rd_T61 l0 x7_1).f0.f0.f1) ((rd_T61 l0 x7_1).f0.f1.f0) ((rd_T61 l0 x7_1).f0.f1.f1) true _ A16.out).mono ?_); rintro e w21 ⟨rfl, hb⟩; refine ⟨_, rfl, ?_⟩; replace BK101 := Aside0.mk (blk_below (g:=gb101) (o := .cells #[.int .i64 x102000_1, .int .i64 x102001_1] 34 (0, 0)) (by refine pf_ ?_ NB101_103.out; refine blk_far ?_ NB101_103.out _; refine blk_far ?_ NB101_103.out _; refine blk_far ?_ NB101_103.out _; refine blk_far ?_ NB101_103.out _; refine blk_far ?_ NB101_103.out _; exact pkx BK101) hb); replace BK103 := Aside0.mk (blk_below (g:=gb103) (o := .cells #[.int .i64 ((rd_T61 l0 x7_1).f0.f0.f0), .int .i64 ((rd_T61 l0 x7_1).f0.f0.f1), .int .i64 ((rd_T61 l0 x7_1).f0.f1.f0), .int .i64 ((rd_T61 l0 x7_1).f0.f1.f1), .int .i64 ((rd_T61 l0 x7_1).f1.f0), .int .u64 ((rd_T61 l0 x7_1).f1.f1)] 61 (0, 0)) (by refine pp_ (cs := #[.int .i64 ((rd_T61 l0 x7_1).f0.f0.f0), .int .i64 ((rd_T61 l0 x7_1).f0.f0.f1), .int .i64 ((rd_T61 l0 x7_1).f0.f1.f0), .int .i64 ((rd_T61 l0 x7_1).f0.f1.f1), .int .i64 ((rd_T61 l0 x7_1).f1.f0), .int .u64 0]) 5 ?_ rfl; refine blk_put (cs := #[.int .i64 ((rd_T61 l0 x7_1).f0.f0.f0), .int .i64 ((rd_T61 l0 x7_1).f0.f0.f1), .int .i64 ((rd_T61 l0 x7_1).f0.f1.f0), .int .i64 ((rd_T61 l0 x7_1).f0.f1.f1), .int .i64 0, .int .u64 0]) ?_ 4 _ rfl; refine blk_put (cs := #[.int .i64 ((rd_T61 l0 x7_1).f0.f0.f0), .int .i64 ((rd_T61 l0 x7_1).f0.f0.f1), .int .i64 ((rd_T61 l0 x7_1).f0.f1.f0), .int .i64 0, .int .i64 0, .int .u64 0]) ?_ 3 _ rfl; refine blk_put (cs := #[.int .i64 ((rd_T61 l0 x7_1).f0.f0.f0), .int .i64 ((rd_T61 l0 x7_1).f0.f0.f1), .int .i64 0, .int .i64 0, .int .i64 0, .int .u64 0]) ?_ 2 _ rfl; refine blk_put (cs := #[.int .i64 ((rd_T61 l0 x7_1).f0.f0.f0), .int .i64 0, .int .i64 0, .int .i64 0, .int .i64 0, .int .u64 0]) ?_ 1 _ rfl; refine blk_put (cs := #[.int .i64 0, .int .i64 0, .int .i64 0, .int .i64 0, .int .i64 0, .int .u64 0]) ?_ 0 _ rfl; exact pkx BK103) hb); replace HB := Aside0.mk (below_step (by repeat (first | (with_reducible first | exact HB.out | apply below_alloc | apply pw_below_drewN | apply below_drew1 | refine below_set ?_ GE101.out | refine below_set ?_ GE103.out) | exact HB.out)) hb); (try clear hb); (try clear hb2); (try clear hk); (try clear hi); have hcz22_0 : w21.cell? ⟨gb103, 0, none⟩ = some (.int .i64 ((rd_T61 l0 x7_1).f0.f0.f0)) := bc_ BK103 0 rfl; have hcz22_1 : w21.cell? ⟨gb103, 1, none⟩ = some (.int .i64 ((rd_T61 l0 x7_1).f0.f0.f1)) := bc_ BK103 1 rfl; have hcz22_2 : w21.cell? ⟨gb103, 2, none⟩ = some (.int .i64 ((rd_T61 l0 x7_1).f0.f1.f0)) := bc_ BK103 2 rfl; have hcz22_3 : w21.cell? ⟨gb103, 3, none⟩ = some (.int .i64 ((rd_T61 l0 x7_1).f0.f1.f1)) := bc_ BK103 3 rfl; have hcz22_4 : w21.cell? ⟨gb103, 4, none⟩ = some (.int .i64 ((rd_T61 l0 x7_1).f1.f0)) := bc_ BK103 4 rfl; have hcz22_5 : w21.cell? ⟨gb103, 5, none⟩ = some (.int .u64 ((rd_T61 l0 x7_1).f1.f1)) := bc_ BK103 5 rfl; have hfz22_0 := blk_frozen BK103.out 0; have hfz22_1 := blk_frozen BK103.out 1; have hfz22_2 := blk_frozen BK103.out 2; have hfz22_3 := blk_frozen BK103.out 3; have hfz22_4 := blk_frozen BK103.out 4; have hfz22_5 := blk_frozen BK103.out 5))
         go_meet
         case rel => exact ⟨_, (true), (by first | rfl | (simp; done) | (simp [*]; done)), H', ⟨by have := HK1.out; first | omega | exact Nat.le_refl _⟩, ⟨pkx BK101⟩, ⟨pkx BK103⟩, ⟨pbx HB⟩⟩
        ·rw [if_neg c18] at H; have c18b0 : decide (((rd_T61 l0 x7_1).f0.f1.f0) < ((rd_T61 l0 x7_1).f0.f0.f0)) = false := decide_eq_false c18; clear c18; (first | rw [c18b0] | (simp only [i64_w, i32_w]; rw [c18b0]) | skip)
         have H' := Aside0.mk H
         clear H; have hnb23 := NB103_101.out; have hnc23 := NB101_103.out
         have hcz24_0 : w13.cell? ⟨gb103, 0, none⟩ = some (.int .i64 0) := bc_ BK103 0 rfl
         have hcz24_1 : w13.cell? ⟨gb103, 1, none⟩ = some (.int .i64 0) := bc_ BK103 1 rfl
         have hcz24_2 : w13.cell? ⟨gb103, 2, none⟩ = some (.int .i64 0) := bc_ BK103 2 rfl
         have hcz24_3 : w13.cell? ⟨gb103, 3, none⟩ = some (.int .i64 0) := bc_ BK103 3 rfl
         have hcz24_4 : w13.cell? ⟨gb103, 4, none⟩ = some (.int .i64 0) := bc_ BK103 4 rfl
         have hcz24_5 : w13.cell? ⟨gb103, 5, none⟩ = some (.int .u64 0) := bc_ BK103 5 rfl
         have hfz24_0 := blk_frozen BK103.out 0; have hfz24_1 := blk_frozen BK103.out 1; have hfz24_2 := blk_frozen BK103.out 2; have hfz24_3 := blk_frozen BK103.out 3; have hfz24_4 := blk_frozen BK103.out 4; have hfz24_5 := blk_frozen BK103.out 5
         go_wp2_with (first | ((with_reducible refine gate_callee (f:=43) rfl ?_); refine gL_ (some 25) rfl rfl Tryd.func43 rfl #[.agg #[.int .i64 ((rd_T61 l0 x7_1).f0.f0.f0), .int .i64 ((rd_T61 l0 x7_1).f0.f0.f1), .int .i64 ((rd_T61 l0 x7_1).f0.f1.f0), .int .i64 ((rd_T61 l0 x7_1).f0.f1.f1)]] rfl ?_; (with_reducible refine (oculusref04_May.calls ((rd_T61 l0 x7_1).f0.f0.f0) ((rd_T61 l0 x7_1).f0.f0.f1) ((rd_T61 l0 x7_1).f0.f1.f0) ((rd_T61 l0 x7_1).f0.f1.f1) true _ A16.out).mono ?_); rintro e w25 ⟨rfl, hb⟩; refine ⟨_, rfl, ?_⟩; replace BK101 := Aside0.mk (blk_below (g:=gb101) (o := .cells #[.int .i64 x102000_1, .int .i64 x102001_1] 34 (0, 0)) (by refine pf_ ?_ NB101_103.out; refine blk_far ?_ NB101_103.out _; refine blk_far ?_ NB101_103.out _; refine blk_far ?_ NB101_103.out _; refine blk_far ?_ NB101_103.out _; refine blk_far ?_ NB101_103.out _; exact pkx BK101) hb); replace BK103 := Aside0.mk (blk_below (g:=gb103) (o := .cells #[.int .i64 ((rd_T61 l0 x7_1).f0.f0.f0), .int .i64 ((rd_T61 l0 x7_1).f0.f0.f1), .int .i64 ((rd_T61 l0 x7_1).f0.f1.f0), .int .i64 ((rd_T61 l0 x7_1).f0.f1.f1), .int .i64 ((rd_T61 l0 x7_1).f1.f0), .int .u64 ((rd_T61 l0 x7_1).f1.f1)] 61 (0, 0)) (by refine pp_ (cs := #[.int .i64 ((rd_T61 l0 x7_1).f0.f0.f0), .int .i64 ((rd_T61 l0 x7_1).f0.f0.f1), .int .i64 ((rd_T61 l0 x7_1).f0.f1.f0), .int .i64 ((rd_T61 l0 x7_1).f0.f1.f1), .int .i64 ((rd_T61 l0 x7_1).f1.f0), .int .u64 0]) 5 ?_ rfl; refine blk_put (cs := #[.int .i64 ((rd_T61 l0 x7_1).f0.f0.f0), .int .i64 ((rd_T61 l0 x7_1).f0.f0.f1), .int .i64 ((rd_T61 l0 x7_1).f0.f1.f0), .int .i64 ((rd_T61 l0 x7_1).f0.f1.f1), .int .i64 0, .int .u64 0]) ?_ 4 _ rfl; refine blk_put (cs := #[.int .i64 ((rd_T61 l0 x7_1).f0.f0.f0), .int .i64 ((rd_T61 l0 x7_1).f0.f0.f1), .int .i64 ((rd_T61 l0 x7_1).f0.f1.f0), .int .i64 0, .int .i64 0, .int .u64 0]) ?_ 3 _ rfl; refine blk_put (cs := #[.int .i64 ((rd_T61 l0 x7_1).f0.f0.f0), .int .i64 ((rd_T61 l0 x7_1).f0.f0.f1), .int .i64 0, .int .i64 0, .int .i64 0, .int .u64 0]) ?_ 2 _ rfl; refine blk_put (cs := #[.int .i64 ((rd_T61 l0 x7_1).f0.f0.f0), .int .i64 0, .int .i64 0, .int .i64 0, .int .i64 0, .int .u64 0]) ?_ 1 _ rfl; refine blk_put (cs := #[.int .i64 0, .int .i64 0, .int .i64 0, .int .i64 0, .int .i64 0, .int .u64 0]) ?_ 0 _ rfl; exact pkx BK103) hb); replace HB := Aside0.mk (below_step (by repeat (first | (with_reducible first | exact HB.out | apply below_alloc | apply pw_below_drewN | apply below_drew1 | refine below_set ?_ GE101.out | refine below_set ?_ GE103.out) | exact HB.out)) hb); (try clear hb); (try clear hb2); (try clear hk); (try clear hi); have hcz26_0 : w25.cell? ⟨gb103, 0, none⟩ = some (.int .i64 ((rd_T61 l0 x7_1).f0.f0.f0)) := bc_ BK103 0 rfl; have hcz26_1 : w25.cell? ⟨gb103, 1, none⟩ = some (.int .i64 ((rd_T61 l0 x7_1).f0.f0.f1)) := bc_ BK103 1 rfl; have hcz26_2 : w25.cell? ⟨gb103, 2, none⟩ = some (.int .i64 ((rd_T61 l0 x7_1).f0.f1.f0)) := bc_ BK103 2 rfl; have hcz26_3 : w25.cell? ⟨gb103, 3, none⟩ = some (.int .i64 ((rd_T61 l0 x7_1).f0.f1.f1)) := bc_ BK103 3 rfl; have hcz26_4 : w25.cell? ⟨gb103, 4, none⟩ = some (.int .i64 ((rd_T61 l0 x7_1).f1.f0)) := bc_ BK103 4 rfl; have hcz26_5 : w25.cell? ⟨gb103, 5, none⟩ = some (.int .u64 ((rd_T61 l0 x7_1).f1.f1)) := bc_ BK103 5 rfl; have hfz26_0 := blk_frozen BK103.out 0; have hfz26_1 := blk_frozen BK103.out 1; have hfz26_2 := blk_frozen BK103.out 2; have hfz26_3 := blk_frozen BK103.out 3; have hfz26_4 := blk_frozen BK103.out 4; have hfz26_5 := blk_frozen BK103.out 5))
         go_meet
         case rel => exact ⟨_, (decide (((rd_T61 l0 x7_1).f0.f0.f1) > ((rd_T61 l0 x7_1).f0.f1.f1))), (by first | rfl | (simp; done) | (simp [*]; done)), H', ⟨by have := HK1.out; first | omega | exact Nat.le_refl _⟩, ⟨pkx BK101⟩, ⟨pkx BK103⟩, ⟨pbx HB⟩⟩
       ·replace c17 := Bool.eq_false_iff.mpr c17; subst c17
        have H1 : (oculusref05_Wrong.j1 k1 l0 a1 a2 x7_1 true ((rd_T61 l0 x7_1).f0.f0.f0) ((rd_T61 l0 x7_1).f0.f0.f1) ((rd_T61 l0 x7_1).f0.f1.f0) ((rd_T61 l0 x7_1).f0.f1.f1) ((rd_T61 l0 x7_1).f1.f0) ((rd_T61 l0 x7_1).f1.f1)) = some (r1, r2) := by rw [if_neg (show ¬ (false = true) by decide)] at H; exact H
        clear H; have H := H1; clear H1
        have H' := Aside0.mk H
        clear H; have hnb27 := NB103_101.out; have hnc27 := NB101_103.out
        have hcz28_0 : w13.cell? ⟨gb103, 0, none⟩ = some (.int .i64 0) := bc_ BK103 0 rfl
        have hcz28_1 : w13.cell? ⟨gb103, 1, none⟩ = some (.int .i64 0) := bc_ BK103 1 rfl
        have hcz28_2 : w13.cell? ⟨gb103, 2, none⟩ = some (.int .i64 0) := bc_ BK103 2 rfl
        have hcz28_3 : w13.cell? ⟨gb103, 3, none⟩ = some (.int .i64 0) := bc_ BK103 3 rfl
        have hcz28_4 : w13.cell? ⟨gb103, 4, none⟩ = some (.int .i64 0) := bc_ BK103 4 rfl
        have hcz28_5 : w13.cell? ⟨gb103, 5, none⟩ = some (.int .u64 0) := bc_ BK103 5 rfl
        have hfz28_0 := blk_frozen BK103.out 0; have hfz28_1 := blk_frozen BK103.out 1; have hfz28_2 := blk_frozen BK103.out 2; have hfz28_3 := blk_frozen BK103.out 3; have hfz28_4 := blk_frozen BK103.out 4; have hfz28_5 := blk_frozen BK103.out 5
        go_wp2_with (first | ((with_reducible refine gate_callee (f:=43) rfl ?_); refine gL_ (some 25) rfl rfl Tryd.func43 rfl #[.agg #[.int .i64 ((rd_T61 l0 x7_1).f0.f0.f0), .int .i64 ((rd_T61 l0 x7_1).f0.f0.f1), .int .i64 ((rd_T61 l0 x7_1).f0.f1.f0), .int .i64 ((rd_T61 l0 x7_1).f0.f1.f1)]] rfl ?_; (with_reducible refine (oculusref04_May.calls ((rd_T61 l0 x7_1).f0.f0.f0) ((rd_T61 l0 x7_1).f0.f0.f1) ((rd_T61 l0 x7_1).f0.f1.f0) ((rd_T61 l0 x7_1).f0.f1.f1) false _ A16.out).mono ?_); rintro e w29 ⟨rfl, hb⟩; refine ⟨_, rfl, ?_⟩; replace BK101 := Aside0.mk (blk_below (g:=gb101) (o := .cells #[.int .i64 x102000_1, .int .i64 x102001_1] 34 (0, 0)) (by refine pf_ ?_ NB101_103.out; refine blk_far ?_ NB101_103.out _; refine blk_far ?_ NB101_103.out _; refine blk_far ?_ NB101_103.out _; refine blk_far ?_ NB101_103.out _; refine blk_far ?_ NB101_103.out _; exact pkx BK101) hb); replace BK103 := Aside0.mk (blk_below (g:=gb103) (o := .cells #[.int .i64 ((rd_T61 l0 x7_1).f0.f0.f0), .int .i64 ((rd_T61 l0 x7_1).f0.f0.f1), .int .i64 ((rd_T61 l0 x7_1).f0.f1.f0), .int .i64 ((rd_T61 l0 x7_1).f0.f1.f1), .int .i64 ((rd_T61 l0 x7_1).f1.f0), .int .u64 ((rd_T61 l0 x7_1).f1.f1)] 61 (0, 0)) (by refine pp_ (cs := #[.int .i64 ((rd_T61 l0 x7_1).f0.f0.f0), .int .i64 ((rd_T61 l0 x7_1).f0.f0.f1), .int .i64 ((rd_T61 l0 x7_1).f0.f1.f0), .int .i64 ((rd_T61 l0 x7_1).f0.f1.f1), .int .i64 ((rd_T61 l0 x7_1).f1.f0), .int .u64 0]) 5 ?_ rfl; refine blk_put (cs := #[.int .i64 ((rd_T61 l0 x7_1).f0.f0.f0), .int .i64 ((rd_T61 l0 x7_1).f0.f0.f1), .int .i64 ((rd_T61 l0 x7_1).f0.f1.f0), .int .i64 ((rd_T61 l0 x7_1).f0.f1.f1), .int .i64 0, .int .u64 0]) ?_ 4 _ rfl; refine blk_put (cs := #[.int .i64 ((rd_T61 l0 x7_1).f0.f0.f0), .int .i64 ((rd_T61 l0 x7_1).f0.f0.f1), .int .i64 ((rd_T61 l0 x7_1).f0.f1.f0), .int .i64 0, .int .i64 0, .int .u64 0]) ?_ 3 _ rfl; refine blk_put (cs := #[.int .i64 ((rd_T61 l0 x7_1).f0.f0.f0), .int .i64 ((rd_T61 l0 x7_1).f0.f0.f1), .int .i64 0, .int .i64 0, .int .i64 0, .int .u64 0]) ?_ 2 _ rfl; refine blk_put (cs := #[.int .i64 ((rd_T61 l0 x7_1).f0.f0.f0), .int .i64 0, .int .i64 0, .int .i64 0, .int .i64 0, .int .u64 0]) ?_ 1 _ rfl; refine blk_put (cs := #[.int .i64 0, .int .i64 0, .int .i64 0, .int .i64 0, .int .i64 0, .int .u64 0]) ?_ 0 _ rfl; exact pkx BK103) hb); replace HB := Aside0.mk (below_step (by repeat (first | (with_reducible first | exact HB.out | apply below_alloc | apply pw_below_drewN | apply below_drew1 | refine below_set ?_ GE101.out | refine below_set ?_ GE103.out) | exact HB.out)) hb); (try clear hb); (try clear hb2); (try clear hk); (try clear hi)))
        go_meet
        case rel => exact ⟨_, (true), (by first | rfl | (simp; done) | (simp [*]; done)), H', ⟨by have := HK1.out; first | omega | exact Nat.le_refl _⟩, ⟨pkx BK101⟩, ⟨pkx BK103⟩, ⟨pbx HB⟩⟩
      case rest =>
       clear HC12; (try clear c1); (try clear p1); (try clear q1); (try clear hx1); (try clear c2); (try clear p2); (try clear c4); (try clear c5); (try clear c5b0); (try clear c6); (try clear c6b0); (try clear c7); (try clear c7b0); (try clear c9); (try clear p10); (try clear q10); (try clear hx10); (try clear c14); (try clear c17); (try clear c18); (try clear c18b0); (try clear c19); (try clear c23); (try clear c27); (try clear c29); (try clear hcz10_0); (try clear hcz10_1); (try clear hcz10_2); (try clear hcz10_3); (try clear hcz10_4); (try clear hcz10_5); (try clear hcz11_0); (try clear hcz11_1); (try clear hcz15_0); (try clear hcz15_1); (try clear hcz15_2); (try clear hcz15_3); (try clear hcz15_4); (try clear hcz15_5); (try clear hcz20_0); (try clear hcz20_1); (try clear hcz20_2); (try clear hcz20_3); (try clear hcz20_4); (try clear hcz20_5); (try clear hcz22_0); (try clear hcz22_1); (try clear hcz22_2); (try clear hcz22_3); (try clear hcz22_4); (try clear hcz22_5); (try clear hcz24_0); (try clear hcz24_1); (try clear hcz24_2); (try clear hcz24_3); (try clear hcz24_4); (try clear hcz24_5); (try clear hcz26_0); (try clear hcz26_1); (try clear hcz26_2); (try clear hcz26_3); (try clear hcz26_4); (try clear hcz26_5); (try clear hcz28_0); (try clear hcz28_1); (try clear hcz28_2); (try clear hcz28_3); (try clear hcz28_4); (try clear hcz28_5); (try clear hfz10_0); (try clear hfz10_1); (try clear hfz10_2); (try clear hfz10_3); (try clear hfz10_4); (try clear hfz10_5); (try clear hfz11_0); (try clear hfz11_1); (try clear hfz15_0); (try clear hfz15_1); (try clear hfz15_2); (try clear hfz15_3); (try clear hfz15_4); (try clear hfz15_5); (try clear hfz20_0); (try clear hfz20_1); (try clear hfz20_2); (try clear hfz20_3); (try clear hfz20_4); (try clear hfz20_5); (try clear hfz22_0)
       (try clear hfz22_1); (try clear hfz22_2); (try clear hfz22_3); (try clear hfz22_4); (try clear hfz22_5); (try clear hfz24_0); (try clear hfz24_1); (try clear hfz24_2); (try clear hfz24_3); (try clear hfz24_4); (try clear hfz24_5); (try clear hfz26_0); (try clear hfz26_1); (try clear hfz26_2); (try clear hfz26_3); (try clear hfz26_4); (try clear hfz26_5); (try clear hfz28_0); (try clear hfz28_1); (try clear hfz28_2); (try clear hfz28_3); (try clear hfz28_4); (try clear hfz28_5); (try clear hx102_0); (try clear hx102_1); (try clear hx102_2); (try clear hx102_3); (try clear hx102_4); (try clear hx102_5); (try clear p102); (try clear p2); (try clear q102); obtain ⟨kq, x48_11, rfl, HA, HJ11, BK101, BK103, HB⟩ := hcut
       cases kq with
       | zero => exact absurd HA.out (by simp [oculusref05_Wrong.j1])
       | succ kj11 =>
        have H := HA.out; clear HA
        simp only [oculusref05_Wrong.j1] at H
        by_cases c30 : x48_11 = true
        ·subst c30
         have H1 : (some (x7_1, 1)) = some (r1, r2) := by rw [if_pos rfl] at H; exact H
         clear H; have H := H1; clear H1
         simp only [Option.some.injEq, Prod.mk.injEq] at H
         obtain ⟨rfl, rfl⟩ := H; have hnb31 := NB101_103.out; have hnc31 := NB103_101.out
         have hcz32_0 : wc.cell? ⟨gb101, 0, none⟩ = some (.int .i64 x102000_1) := bc_ BK101 0 rfl
         have hcz32_1 : wc.cell? ⟨gb101, 1, none⟩ = some (.int .i64 x102001_1) := bc_ BK101 1 rfl
         have hfz32_0 := blk_frozen BK101.out 0; have hfz32_1 := blk_frozen BK101.out 1
         go_wp2
         refine bodyPost_ret (results_cell_row rfl _ _ gb101 34 #[.int .i64 x7_1, .int .i64 1] (0, 0) _ rfl (by refine pp_ (cs := #[.int .i64 x7_1, .int .i64 x102001_1]) 1 ?_ rfl; refine blk_put (cs := #[.int .i64 x102000_1, .int .i64 x102001_1]) ?_ 0 _ rfl; exact pkx BK101) Tryd.underlying34 rfl (by kernel_rfl)) rfl ?_
         exact ⟨by first | rfl | (simp [errW_none, errW_some] <;> rfl) | (simp [*, errW_none, errW_some] <;> rfl), by repeat (first | (with_reducible first | exact HB.out | apply below_alloc | apply pw_below_drewN | apply below_drew1 | refine below_set ?_ GE101.out | refine below_set ?_ GE103.out) | exact HB.out)⟩
        ·replace c30 := Bool.eq_false_iff.mpr c30; subst c30
         have H1 : (if ((rd_T61 l0 x7_1).f0.f1.f0) ≥ a1 then (oculusref05_Wrong.j2 kj11 l0 a1 a2 x7_1 true ((rd_T61 l0 x7_1).f0.f0.f0) ((rd_T61 l0 x7_1).f0.f0.f1) ((rd_T61 l0 x7_1).f0.f1.f0) ((rd_T61 l0 x7_1).f0.f1.f1) ((rd_T61 l0 x7_1).f1.f0) ((rd_T61 l0 x7_1).f1.f1)) else (oculusref05_Wrong.j2 kj11 l0 a1 a2 x7_1 (decide (((rd_T61 l0 x7_1).f0.f1.f1) ≥ a2)) ((rd_T61 l0 x7_1).f0.f0.f0) ((rd_T61 l0 x7_1).f0.f0.f1) ((rd_T61 l0 x7_1).f0.f1.f0) ((rd_T61 l0 x7_1).f0.f1.f1) ((rd_T61 l0 x7_1).f1.f0) ((rd_T61 l0 x7_1).f1.f1))) = some (r1, r2) := by rw [if_neg (show ¬ (false = true) by decide)] at H; exact H
         clear H; have H := H1; clear H1; have HC33 := Aside0.mk H; clear H
         go_upto_region 9 with (fail)
         go_cut [64] (fun v64 wc => ∃ (kq : Nat) (x64_32 : Bool), v64 = .bool x64_32 ∧ Aside0 (oculusref05_Wrong.j2 kq l0 a1 a2 x7_1 x64_32 ((rd_T61 l0 x7_1).f0.f0.f0) ((rd_T61 l0 x7_1).f0.f0.f1) ((rd_T61 l0 x7_1).f0.f1.f0) ((rd_T61 l0 x7_1).f0.f1.f1) ((rd_T61 l0 x7_1).f1.f0) ((rd_T61 l0 x7_1).f1.f1) = some (r1, r2)) ∧ Aside0 (kq ≤ kj11) ∧ Aside0 (wc.heap[gb101]? = some (.cells #[.int .i64 x102000_1, .int .i64 x102001_1] 34 (0, 0))) ∧ Aside0 (wc.heap[gb103]? = some (.cells #[.int .i64 ((rd_T61 l0 x7_1).f0.f0.f0), .int .i64 ((rd_T61 l0 x7_1).f0.f0.f1), .int .i64 ((rd_T61 l0 x7_1).f0.f1.f0), .int .i64 ((rd_T61 l0 x7_1).f0.f1.f1), .int .i64 ((rd_T61 l0 x7_1).f1.f0), .int .u64 ((rd_T61 l0 x7_1).f1.f1)] 61 (0, 0))) ∧ Aside0 (Below w.heap.size w wc))
         case first =>
          have H := HC33.out; clear HC33
          by_cases c34 : ((rd_T61 l0 x7_1).f0.f1.f0) ≥ a1
          ·rw [if_pos c34] at H; have c34b0 : decide (a1 ≤ ((rd_T61 l0 x7_1).f0.f1.f0)) = true := decide_eq_true c34; clear c34; (first | rw [c34b0] | (simp only [i64_w, i32_w]; rw [c34b0]) | skip)
           have H' := Aside0.mk H
           clear H; have hnb35 := NB103_101.out; have hnc35 := NB101_103.out
           have hcz36_0 : wc.cell? ⟨gb103, 0, none⟩ = some (.int .i64 ((rd_T61 l0 x7_1).f0.f0.f0)) := bc_ BK103 0 rfl
           have hcz36_1 : wc.cell? ⟨gb103, 1, none⟩ = some (.int .i64 ((rd_T61 l0 x7_1).f0.f0.f1)) := bc_ BK103 1 rfl
           have hcz36_2 : wc.cell? ⟨gb103, 2, none⟩ = some (.int .i64 ((rd_T61 l0 x7_1).f0.f1.f0)) := bc_ BK103 2 rfl
           have hcz36_3 : wc.cell? ⟨gb103, 3, none⟩ = some (.int .i64 ((rd_T61 l0 x7_1).f0.f1.f1)) := bc_ BK103 3 rfl
           have hcz36_4 : wc.cell? ⟨gb103, 4, none⟩ = some (.int .i64 ((rd_T61 l0 x7_1).f1.f0)) := bc_ BK103 4 rfl
           have hcz36_5 : wc.cell? ⟨gb103, 5, none⟩ = some (.int .u64 ((rd_T61 l0 x7_1).f1.f1)) := bc_ BK103 5 rfl
           have hfz36_0 := blk_frozen BK103.out 0; have hfz36_1 := blk_frozen BK103.out 1; have hfz36_2 := blk_frozen BK103.out 2; have hfz36_3 := blk_frozen BK103.out 3; have hfz36_4 := blk_frozen BK103.out 4; have hfz36_5 := blk_frozen BK103.out 5
           go_wp2
           go_meet
           case rel => exact ⟨_, (true), (by first | rfl | (simp; done) | (simp [*]; done)), H', ⟨by have := HK1.out; have := HJ11.out; first | omega | exact Nat.le_refl _⟩, ⟨pkx BK101⟩, ⟨pkx BK103⟩, ⟨pbx HB⟩⟩
          ·rw [if_neg c34] at H; have c34b0 : decide (a1 ≤ ((rd_T61 l0 x7_1).f0.f1.f0)) = false := decide_eq_false c34; clear c34; (first | rw [c34b0] | (simp only [i64_w, i32_w]; rw [c34b0]) | skip)
           have H' := Aside0.mk H
           clear H; have hnb37 := NB103_101.out; have hnc37 := NB101_103.out
           have hcz38_0 : wc.cell? ⟨gb103, 0, none⟩ = some (.int .i64 ((rd_T61 l0 x7_1).f0.f0.f0)) := bc_ BK103 0 rfl
           have hcz38_1 : wc.cell? ⟨gb103, 1, none⟩ = some (.int .i64 ((rd_T61 l0 x7_1).f0.f0.f1)) := bc_ BK103 1 rfl
           have hcz38_2 : wc.cell? ⟨gb103, 2, none⟩ = some (.int .i64 ((rd_T61 l0 x7_1).f0.f1.f0)) := bc_ BK103 2 rfl
           have hcz38_3 : wc.cell? ⟨gb103, 3, none⟩ = some (.int .i64 ((rd_T61 l0 x7_1).f0.f1.f1)) := bc_ BK103 3 rfl
           have hcz38_4 : wc.cell? ⟨gb103, 4, none⟩ = some (.int .i64 ((rd_T61 l0 x7_1).f1.f0)) := bc_ BK103 4 rfl
           have hcz38_5 : wc.cell? ⟨gb103, 5, none⟩ = some (.int .u64 ((rd_T61 l0 x7_1).f1.f1)) := bc_ BK103 5 rfl
           have hfz38_0 := blk_frozen BK103.out 0; have hfz38_1 := blk_frozen BK103.out 1; have hfz38_2 := blk_frozen BK103.out 2; have hfz38_3 := blk_frozen BK103.out 3; have hfz38_4 := blk_frozen BK103.out 4; have hfz38_5 := blk_frozen BK103.out 5
           go_wp2
           go_meet
           case rel => exact ⟨_, (decide (((rd_T61 l0 x7_1).f0.f1.f1) ≥ a2)), (by first | rfl | (simp; done) | (simp [*]; done)), H', ⟨by have := HK1.out; have := HJ11.out; first | omega | exact Nat.le_refl _⟩, ⟨pkx BK101⟩, ⟨pkx BK103⟩, ⟨pbx HB⟩⟩
         case rest =>
          clear HC33; (try clear c1); (try clear p1); (try clear q1); (try clear hx1); (try clear c2); (try clear p2); (try clear c3); (try clear c4); (try clear c5); (try clear c5b0); (try clear c6); (try clear c6b0); (try clear c7); (try clear c7b0); (try clear c9); (try clear p10); (try clear q10); (try clear hx10); (try clear c14); (try clear c17); (try clear c18); (try clear c18b0); (try clear c19); (try clear c23); (try clear c27); (try clear c29); (try clear c30); (try clear c31); (try clear c34); (try clear c34b0); (try clear c35); (try clear c37); (try clear hcz10_0); (try clear hcz10_1); (try clear hcz10_2); (try clear hcz10_3); (try clear hcz10_4); (try clear hcz10_5); (try clear hcz11_0); (try clear hcz11_1); (try clear hcz15_0); (try clear hcz15_1); (try clear hcz15_2); (try clear hcz15_3); (try clear hcz15_4); (try clear hcz15_5); (try clear hcz20_0); (try clear hcz20_1); (try clear hcz20_2); (try clear hcz20_3); (try clear hcz20_4); (try clear hcz20_5); (try clear hcz22_0); (try clear hcz22_1); (try clear hcz22_2); (try clear hcz22_3); (try clear hcz22_4); (try clear hcz22_5); (try clear hcz24_0); (try clear hcz24_1); (try clear hcz24_2); (try clear hcz24_3); (try clear hcz24_4); (try clear hcz24_5); (try clear hcz26_0); (try clear hcz26_1); (try clear hcz26_2); (try clear hcz26_3); (try clear hcz26_4); (try clear hcz26_5); (try clear hcz28_0); (try clear hcz28_1); (try clear hcz28_2); (try clear hcz28_3); (try clear hcz28_4); (try clear hcz28_5); (try clear hcz32_0); (try clear hcz32_1); (try clear hcz36_0); (try clear hcz36_1); (try clear hcz36_2); (try clear hcz36_3); (try clear hcz36_4); (try clear hcz36_5); (try clear hcz38_0); (try clear hcz38_1); (try clear hcz38_2); (try clear hcz38_3); (try clear hcz38_4); (try clear hcz38_5); (try clear hfz10_0); (try clear hfz10_1)
          (try clear hfz10_2); (try clear hfz10_3); (try clear hfz10_4); (try clear hfz10_5); (try clear hfz11_0); (try clear hfz11_1); (try clear hfz15_0); (try clear hfz15_1); (try clear hfz15_2); (try clear hfz15_3); (try clear hfz15_4); (try clear hfz15_5); (try clear hfz20_0); (try clear hfz20_1); (try clear hfz20_2); (try clear hfz20_3); (try clear hfz20_4); (try clear hfz20_5); (try clear hfz22_0); (try clear hfz22_1); (try clear hfz22_2); (try clear hfz22_3); (try clear hfz22_4); (try clear hfz22_5); (try clear hfz24_0); (try clear hfz24_1); (try clear hfz24_2); (try clear hfz24_3); (try clear hfz24_4); (try clear hfz24_5); (try clear hfz26_0); (try clear hfz26_1); (try clear hfz26_2); (try clear hfz26_3); (try clear hfz26_4); (try clear hfz26_5); (try clear hfz28_0); (try clear hfz28_1); (try clear hfz28_2); (try clear hfz28_3); (try clear hfz28_4); (try clear hfz28_5); (try clear hfz32_0)
          (try clear hfz32_1); (try clear hfz36_0); (try clear hfz36_1); (try clear hfz36_2); (try clear hfz36_3); (try clear hfz36_4); (try clear hfz36_5); (try clear hfz38_0); (try clear hfz38_1); (try clear hfz38_2); (try clear hfz38_3); (try clear hfz38_4); (try clear hfz38_5); (try clear hx102_0); (try clear hx102_1); (try clear hx102_2); (try clear hx102_3); (try clear hx102_4); (try clear hx102_5); (try clear p1); (try clear p10); (try clear p102); (try clear p2); (try clear q1); (try clear q10); (try clear q102); obtain ⟨kq, x64_32, rfl, HA, HJ32, BK101, BK103, HB⟩ := hcut
          cases kq with
          | zero => exact absurd HA.out (by simp [oculusref05_Wrong.j2])
          | succ kj32 =>
           have H := HA.out; clear HA
           simp only [oculusref05_Wrong.j2] at H
           by_cases c39 : x64_32 = true
           ·subst c39
            have H1 : (some (x7_1, 2)) = some (r1, r2) := by rw [if_pos rfl] at H; exact H
            clear H; have H := H1; clear H1
            simp only [Option.some.injEq, Prod.mk.injEq] at H
            obtain ⟨rfl, rfl⟩ := H; have hnb40 := NB101_103.out; have hnc40 := NB103_101.out
            have hcz41_0 : wc.cell? ⟨gb101, 0, none⟩ = some (.int .i64 x102000_1) := bc_ BK101 0 rfl
            have hcz41_1 : wc.cell? ⟨gb101, 1, none⟩ = some (.int .i64 x102001_1) := bc_ BK101 1 rfl
            have hfz41_0 := blk_frozen BK101.out 0; have hfz41_1 := blk_frozen BK101.out 1
            go_wp2
            refine bodyPost_ret (results_cell_row rfl _ _ gb101 34 #[.int .i64 x7_1, .int .i64 2] (0, 0) _ rfl (by refine pp_ (cs := #[.int .i64 x7_1, .int .i64 x102001_1]) 1 ?_ rfl; refine blk_put (cs := #[.int .i64 x102000_1, .int .i64 x102001_1]) ?_ 0 _ rfl; exact pkx BK101) Tryd.underlying34 rfl (by kernel_rfl)) rfl ?_
            exact ⟨by first | rfl | (simp [errW_none, errW_some] <;> rfl) | (simp [*, errW_none, errW_some] <;> rfl), by repeat (first | (with_reducible first | exact HB.out | apply below_alloc | apply pw_below_drewN | apply below_drew1 | refine below_set ?_ GE101.out | refine below_set ?_ GE103.out) | exact HB.out)⟩
           ·replace c39 := Bool.eq_false_iff.mpr c39; subst c39
            have H1 : (if ((rd_T61 l0 x7_1).f1.f0) < 0 then (some (x7_1, 7)) else (if ((rd_T61 l0 x7_1).f1.f0) > 15 then (some (x7_1, 7)) else (oculusref05_Wrong.l0 kj32 l0 a1 a2 (wrap64 (x7_1 + 1))))) = some (r1, r2) := by rw [if_neg (show ¬ (false = true) by decide)] at H; exact H
            clear H; have H := H1; clear H1
            by_cases c42 : ((rd_T61 l0 x7_1).f1.f0) < 0
            ·rw [if_pos c42] at H; have c42b0 : decide (((rd_T61 l0 x7_1).f1.f0) < 0) = true := decide_eq_true c42; clear c42
             simp only [Option.some.injEq, Prod.mk.injEq] at H
             obtain ⟨rfl, rfl⟩ := H; have hnb43 := NB103_101.out; have hnc43 := NB101_103.out
             have hcz44_0 : wc.cell? ⟨gb103, 0, none⟩ = some (.int .i64 ((rd_T61 l0 x7_1).f0.f0.f0)) := bc_ BK103 0 rfl
             have hcz44_1 : wc.cell? ⟨gb103, 1, none⟩ = some (.int .i64 ((rd_T61 l0 x7_1).f0.f0.f1)) := bc_ BK103 1 rfl
             have hcz44_2 : wc.cell? ⟨gb103, 2, none⟩ = some (.int .i64 ((rd_T61 l0 x7_1).f0.f1.f0)) := bc_ BK103 2 rfl
             have hcz44_3 : wc.cell? ⟨gb103, 3, none⟩ = some (.int .i64 ((rd_T61 l0 x7_1).f0.f1.f1)) := bc_ BK103 3 rfl
             have hcz44_4 : wc.cell? ⟨gb103, 4, none⟩ = some (.int .i64 ((rd_T61 l0 x7_1).f1.f0)) := bc_ BK103 4 rfl
             have hcz44_5 : wc.cell? ⟨gb103, 5, none⟩ = some (.int .u64 ((rd_T61 l0 x7_1).f1.f1)) := bc_ BK103 5 rfl
             have hfz44_0 := blk_frozen BK103.out 0; have hfz44_1 := blk_frozen BK103.out 1; have hfz44_2 := blk_frozen BK103.out 2; have hfz44_3 := blk_frozen BK103.out 3; have hfz44_4 := blk_frozen BK103.out 4; have hfz44_5 := blk_frozen BK103.out 5
             have hcz45_0 : wc.cell? ⟨gb101, 0, none⟩ = some (.int .i64 x102000_1) := bc_ BK101 0 rfl
             have hcz45_1 : wc.cell? ⟨gb101, 1, none⟩ = some (.int .i64 x102001_1) := bc_ BK101 1 rfl
             have hfz45_0 := blk_frozen BK101.out 0; have hfz45_1 := blk_frozen BK101.out 1
             go_wp2
             refine bodyPost_ret (results_cell_row rfl _ _ gb101 34 #[.int .i64 x7_1, .int .i64 7] (0, 0) _ rfl (by refine pp_ (cs := #[.int .i64 x7_1, .int .i64 x102001_1]) 1 ?_ rfl; refine blk_put (cs := #[.int .i64 x102000_1, .int .i64 x102001_1]) ?_ 0 _ rfl; exact pkx BK101) Tryd.underlying34 rfl (by kernel_rfl)) rfl ?_
             exact ⟨by first | rfl | (simp [errW_none, errW_some] <;> rfl) | (simp [*, errW_none, errW_some] <;> rfl), by repeat (first | (with_reducible first | exact HB.out | apply below_alloc | apply pw_below_drewN | apply below_drew1 | refine below_set ?_ GE101.out | refine below_set ?_ GE103.out) | exact HB.out)⟩
            ·rw [if_neg c42] at H; have c42b0 : decide (((rd_T61 l0 x7_1).f1.f0) < 0) = false := decide_eq_false c42; clear c42
             by_cases c46 : ((rd_T61 l0 x7_1).f1.f0) > 15
             ·rw [if_pos c46] at H; have c46b0 : decide (15 < ((rd_T61 l0 x7_1).f1.f0)) = true := decide_eq_true c46; clear c46
              simp only [Option.some.injEq, Prod.mk.injEq] at H
              obtain ⟨rfl, rfl⟩ := H; have hnb47 := NB103_101.out; have hnc47 := NB101_103.out
              have hcz48_0 : wc.cell? ⟨gb103, 0, none⟩ = some (.int .i64 ((rd_T61 l0 x7_1).f0.f0.f0)) := bc_ BK103 0 rfl
              have hcz48_1 : wc.cell? ⟨gb103, 1, none⟩ = some (.int .i64 ((rd_T61 l0 x7_1).f0.f0.f1)) := bc_ BK103 1 rfl
              have hcz48_2 : wc.cell? ⟨gb103, 2, none⟩ = some (.int .i64 ((rd_T61 l0 x7_1).f0.f1.f0)) := bc_ BK103 2 rfl
              have hcz48_3 : wc.cell? ⟨gb103, 3, none⟩ = some (.int .i64 ((rd_T61 l0 x7_1).f0.f1.f1)) := bc_ BK103 3 rfl
              have hcz48_4 : wc.cell? ⟨gb103, 4, none⟩ = some (.int .i64 ((rd_T61 l0 x7_1).f1.f0)) := bc_ BK103 4 rfl
              have hcz48_5 : wc.cell? ⟨gb103, 5, none⟩ = some (.int .u64 ((rd_T61 l0 x7_1).f1.f1)) := bc_ BK103 5 rfl
              have hfz48_0 := blk_frozen BK103.out 0; have hfz48_1 := blk_frozen BK103.out 1; have hfz48_2 := blk_frozen BK103.out 2; have hfz48_3 := blk_frozen BK103.out 3; have hfz48_4 := blk_frozen BK103.out 4; have hfz48_5 := blk_frozen BK103.out 5
              have hcz49_0 : wc.cell? ⟨gb101, 0, none⟩ = some (.int .i64 x102000_1) := bc_ BK101 0 rfl
              have hcz49_1 : wc.cell? ⟨gb101, 1, none⟩ = some (.int .i64 x102001_1) := bc_ BK101 1 rfl
              have hfz49_0 := blk_frozen BK101.out 0; have hfz49_1 := blk_frozen BK101.out 1
              go_wp2
              refine bodyPost_ret (results_cell_row rfl _ _ gb101 34 #[.int .i64 x7_1, .int .i64 7] (0, 0) _ rfl (by refine pp_ (cs := #[.int .i64 x7_1, .int .i64 x102001_1]) 1 ?_ rfl; refine blk_put (cs := #[.int .i64 x102000_1, .int .i64 x102001_1]) ?_ 0 _ rfl; exact pkx BK101) Tryd.underlying34 rfl (by kernel_rfl)) rfl ?_
              exact ⟨by first | rfl | (simp [errW_none, errW_some] <;> rfl) | (simp [*, errW_none, errW_some] <;> rfl), by repeat (first | (with_reducible first | exact HB.out | apply below_alloc | apply pw_below_drewN | apply below_drew1 | refine below_set ?_ GE101.out | refine below_set ?_ GE103.out) | exact HB.out)⟩
             ·rw [if_neg c46] at H; have c46b0 : decide (15 < ((rd_T61 l0 x7_1).f1.f0)) = false := decide_eq_false c46; clear c46
              have H' := Aside0.mk H
              clear H; have hnb50 := NB103_101.out; have hnc50 := NB101_103.out
              have hcz51_0 : wc.cell? ⟨gb103, 0, none⟩ = some (.int .i64 ((rd_T61 l0 x7_1).f0.f0.f0)) := bc_ BK103 0 rfl
              have hcz51_1 : wc.cell? ⟨gb103, 1, none⟩ = some (.int .i64 ((rd_T61 l0 x7_1).f0.f0.f1)) := bc_ BK103 1 rfl
              have hcz51_2 : wc.cell? ⟨gb103, 2, none⟩ = some (.int .i64 ((rd_T61 l0 x7_1).f0.f1.f0)) := bc_ BK103 2 rfl
              have hcz51_3 : wc.cell? ⟨gb103, 3, none⟩ = some (.int .i64 ((rd_T61 l0 x7_1).f0.f1.f1)) := bc_ BK103 3 rfl
              have hcz51_4 : wc.cell? ⟨gb103, 4, none⟩ = some (.int .i64 ((rd_T61 l0 x7_1).f1.f0)) := bc_ BK103 4 rfl
              have hcz51_5 : wc.cell? ⟨gb103, 5, none⟩ = some (.int .u64 ((rd_T61 l0 x7_1).f1.f1)) := bc_ BK103 5 rfl
              have hfz51_0 := blk_frozen BK103.out 0; have hfz51_1 := blk_frozen BK103.out 1; have hfz51_2 := blk_frozen BK103.out 2; have hfz51_3 := blk_frozen BK103.out 3; have hfz51_4 := blk_frozen BK103.out 4; have hfz51_5 := blk_frozen BK103.out 5
              go_wp2
              go_roundg kj32
              case measure => have := HK1.out; have := HJ11.out; have := HJ32.out; omega
              case rel => exact ⟨(wrap64 (x7_1 + 1)), (x102000_1), (x102001_1), (by first | rfl | (simp; done) | (simp [*]; done)), H', ⟨by have := HK1.out; have := HJ11.out; have := HJ32.out; omega⟩, ⟨pkx BK101⟩, ⟨pbx HB⟩⟩
    ·rw [if_neg c6] at H
     exact absurd H (by simp)
   ·rw [if_neg c5] at H; have c5b0 : decide (x7_1 < (l0.length : Int)) = false := decide_eq_false c5; clear c5
    simp only [Option.some.injEq, Prod.mk.injEq] at H
    obtain ⟨rfl, rfl⟩ := H
    have hcz52_0 : wr.cell? ⟨gb101, 0, none⟩ = some (.int .i64 x102000_1) := bc_ BK101 0 rfl
    have hcz52_1 : wr.cell? ⟨gb101, 1, none⟩ = some (.int .i64 x102001_1) := bc_ BK101 1 rfl
    have hfz52_0 := blk_frozen BK101.out 0; have hfz52_1 := blk_frozen BK101.out 1
    go_wp2
    refine bodyPost_ret (results_cell_row rfl _ _ gb101 34 #[.int .i64 0, .int .i64 0] (0, 0) _ rfl (by refine pp_ (cs := #[.int .i64 0, .int .i64 x102001_1]) 1 ?_ rfl; refine blk_put (cs := #[.int .i64 x102000_1, .int .i64 x102001_1]) ?_ 0 _ rfl; exact pkx BK101) Tryd.underlying34 rfl (by kernel_rfl)) rfl ?_
    exact ⟨by first | rfl | (simp [errW_none, errW_some] <;> rfl) | (simp [*, errW_none, errW_some] <;> rfl), by repeat (first | (with_reducible first | exact HB.out | apply below_alloc | apply pw_below_drewN | apply below_drew1 | refine below_set ?_ GE101.out) | exact HB.out)⟩

def oculusref06_may.f (a0_0 : Int) (a0_1 : Int) : Option (Bool) := if a0_0 ≥ 0 then (some (decide (a0_0 ≤ 15))) else (some false)
set_option maxHeartbeats 8000000 in
set_option maxRecDepth 100000 in
theorem oculusref06_may.calls (a0_0 : Int) (a0_1 : Int) (r : Bool) (w : World) (h : oculusref06_may.f a0_0 a0_1 = some r) :
  Calls Tryd.prog 52 #[.agg #[.int .i64 a0_0, .int .u64 a0_1]] w fun e w' => e = .returned (.bool r) ∧ Below w.heap.size w w' := by
 have hu59 := Tryd.underlying59; have HB := Aside0.mk (Below.refl w.heap.size w)
 have H : (if a0_0 ≥ 0 then (some (decide (a0_0 ≤ 15))) else (some false)) = some r := h
 clear h
 by_cases c2 : a0_0 ≥ 0
 ·rw [if_pos c2] at H; have c2b0 : decide (0 ≤ a0_0) = true := decide_eq_true c2; clear c2; obtain rfl := Option.some.inj H
  go_enter Tryd.func52, Tryd.ntmps52
  go_wp2_with (first | ((with_reducible refine gate_dst (N:=1) rfl ?_); refine be_ (N:=1) (cs := #[.int .i64 a0_0, .int .u64 a0_1]) (t:=59) ?_; intro gb101 hg w3 hbox hb; have BK101 := Aside0.mk (hbox); replace HB := bs_ HB hb; clear hb hbox hg; have hcz4_0 : w3.cell? ⟨gb101, 0, none⟩ = some (.int .i64 a0_0) := bc_ BK101 0 rfl; have hcz4_1 : w3.cell? ⟨gb101, 1, none⟩ = some (.int .u64 a0_1) := bc_ BK101 1 rfl))
  go_ret
  exact ⟨by first | rfl | (simp [errW_none, errW_some] <;> rfl) | (simp [*, errW_none, errW_some] <;> rfl), pbx HB⟩
 ·rw [if_neg c2] at H; have c2b0 : decide (0 ≤ a0_0) = false := decide_eq_false c2; clear c2; obtain rfl := Option.some.inj H
  go_enter Tryd.func52, Tryd.ntmps52
  go_wp2_with (first | ((with_reducible refine gate_dst (N:=1) rfl ?_); refine be_ (N:=1) (cs := #[.int .i64 a0_0, .int .u64 a0_1]) (t:=59) ?_; intro gb101 hg w5 hbox hb; have BK101 := Aside0.mk (hbox); replace HB := bs_ HB hb; clear hb hbox hg; have hcz6_0 : w5.cell? ⟨gb101, 0, none⟩ = some (.int .i64 a0_0) := bc_ BK101 0 rfl; have hcz6_1 : w5.cell? ⟨gb101, 1, none⟩ = some (.int .u64 a0_1) := bc_ BK101 1 rfl))
  go_ret
  exact ⟨by first | rfl | (simp [errW_none, errW_some] <;> rfl) | (simp [*, errW_none, errW_some] <;> rfl), pbx HB⟩

def oculusref06_Find.l0 : Nat → List (S65) → ByteArray → Int → Option (Int)
 | 0, _, _, _ => none
 | k + 1, x0, x1, x5 => if x5 < (x0.length : Int) then (if 0 ≤ x5 then (if ((rd_T65 x0 x5).f0).toList = x1.toList then (some x5) else (oculusref06_Find.l0 k x0 x1 (wrap64 (x5 + 1)))) else (none)) else (some (-1))
def oculusref06_Find.f (k : Nat) (l0 : List (S65)) (a1 : ByteArray) : Option (Int) := oculusref06_Find.l0 k l0 a1 0
set_option maxHeartbeats 8000000 in
set_option maxRecDepth 100000 in
theorem oculusref06_Find.calls (k : Nat) (A0 : Option Addr) (c0 : Nat) (l0 : List (S65)) (a1 : ByteArray) (r : Int) (w : World) (hr0 : Kd.C k65 w A0 l0.length l0) (hc0 : l0.length ≤ c0) (h : oculusref06_Find.f k l0 a1 = some r) :
  Calls Tryd.prog 53 #[.slice A0 l0.length c0, .string a1] w fun e w' => e = .returned (.int .i64 r) ∧ Drawn0 w w' := by
 have HR0 := Aside0.mk hr0; have HC0 := Aside0.mk hc0; clear hr0 hc0
 have H : (oculusref06_Find.l0 k l0 a1 0) = some r := h
 clear h
 have H' := Aside0.mk H
 clear H
 go_enter Tryd.func53, Tryd.ntmps53
 go_wp2
 go_loopg [5] k (fun kq v5 w' => ∃ (x5_1 : Int), v5 = .int .i64 x5_1 ∧ Aside0 (oculusref06_Find.l0 kq l0 a1 x5_1 = some r) ∧ Aside0 (kq ≤ k) ∧ Drawn0 w w')
 case atStart => exact ⟨(0), (by first | rfl | (simp; done) | (simp [*]; done)), H', ⟨Nat.le_refl _⟩, by repeat (first | exact Drawn0.refl _ | apply Drawn0.step)⟩
 case round =>
  clear H'; (try clear p2); obtain ⟨x5_1, rfl, HA, HK1, ⟨m1, rfl⟩⟩ := hrel
  cases gk with
  | zero => exact absurd HA.out (by simp [oculusref06_Find.l0])
  | succ k1 =>
   have H := HA.out; clear HA
   simp only [oculusref06_Find.l0] at H
   by_cases c3 : x5_1 < (l0.length : Int)
   ·rw [if_pos c3] at H; have c3b0 : decide (x5_1 < (l0.length : Int)) = true := decide_eq_true c3; clear c3
    by_cases c4 : 0 ≤ x5_1
    ·rw [if_pos c4] at H; have c4b0 : decide (0 ≤ x5_1) = true := decide_eq_true c4; clear c4
     by_cases c5 : ((rd_T65 l0 x5_1).f0).toList = a1.toList
     ·rw [if_pos c5] at H; have c5b0 : (((rd_T65 l0 x5_1).f0).toList == a1.toList) = true := beq_iff_eq.mpr c5; have c5b1 : (((rd_T65 l0 x5_1).f0).toList != a1.toList) = false := bne_eq_false_iff_eq.mpr c5; clear c5; obtain rfl := Option.some.inj H
      have p101 : 0 ≤ (x5_1 : Int) := of_decide_eq_true (by first | (with_reducible assumption) | assumption)
      have q101 : x5_1 < (l0.length : Int) := of_decide_eq_true (by first | (with_reducible assumption) | assumption)
      obtain ⟨ad101, e101, hx101_0, hx101_1, hx101_2⟩ := at_T65 HR0.out x5_1 p101 q101
      cases e101
      replace p101 := eq_true p101; replace q101 := eq_true q101
      go_wp2
      go_ret
      exact ⟨by first | rfl | (simp; done) | (simp [*]; done), by repeat (first | exact Drawn0.refl _ | apply Drawn0.step)⟩
     ·rw [if_neg c5] at H; have c5b0 : (((rd_T65 l0 x5_1).f0).toList == a1.toList) = false := beq_eq_false_iff_ne.mpr c5; have c5b1 : (((rd_T65 l0 x5_1).f0).toList != a1.toList) = true := bne_iff_ne.mpr c5
      have H' := Aside0.mk H
      clear H
      have p101 : 0 ≤ (x5_1 : Int) := of_decide_eq_true (by first | (with_reducible assumption) | assumption)
      have q101 : x5_1 < (l0.length : Int) := of_decide_eq_true (by first | (with_reducible assumption) | assumption)
      obtain ⟨ad101, e101, hx101_0, hx101_1, hx101_2⟩ := at_T65 HR0.out x5_1 p101 q101
      cases e101
      replace p101 := eq_true p101; replace q101 := eq_true q101
      go_wp2
      go_roundg k1
      case measure => have := HK1.out; omega
      case rel => exact ⟨(wrap64 (x5_1 + 1)), (by first | rfl | (simp; done) | (simp [*]; done)), H', ⟨by have := HK1.out; omega⟩, by repeat (first | exact Drawn0.refl _ | apply Drawn0.step)⟩
    ·rw [if_neg c4] at H
     exact absurd H (by simp)
   ·rw [if_neg c3] at H; have c3b0 : decide (x5_1 < (l0.length : Int)) = false := decide_eq_false c3; clear c3; obtain rfl := Option.some.inj H
    go_wp2
    go_ret
    exact ⟨by first | rfl | (simp; done) | (simp [*]; done), by repeat (first | exact Drawn0.refl _ | apply Drawn0.step)⟩

def oculusref06_letter.f (a0 : Int) : Option (Bool) := if a0 ≥ 97 then (some (decide (a0 ≤ 122))) else (some false)
set_option maxHeartbeats 8000000 in
set_option maxRecDepth 100000 in
theorem oculusref06_letter.calls (a0 : Int) (r : Bool) (w : World) (h : oculusref06_letter.f a0 = some r) :
  Calls Tryd.prog 74 #[.int .u8 a0] w fun e w' => e = .returned (.bool r) ∧ Drawn0 w w' := by
 have H : (if a0 ≥ 97 then (some (decide (a0 ≤ 122))) else (some false)) = some r := h
 clear h
 by_cases c2 : a0 ≥ 97
 ·rw [if_pos c2] at H; have c2b0 : decide (97 ≤ a0) = true := decide_eq_true c2; clear c2; obtain rfl := Option.some.inj H
  go_enter Tryd.func74, Tryd.ntmps74
  go_wp2
  go_ret
  exact ⟨by first | rfl | (simp; done) | (simp [*]; done), by repeat (first | exact Drawn0.refl _ | apply Drawn0.step)⟩
 ·rw [if_neg c2] at H; have c2b0 : decide (97 ≤ a0) = false := decide_eq_false c2; clear c2; obtain rfl := Option.some.inj H
  go_enter Tryd.func74, Tryd.ntmps74
  go_wp2
  go_ret
  exact ⟨by first | rfl | (simp; done) | (simp [*]; done), by repeat (first | exact Drawn0.refl _ | apply Drawn0.step)⟩

mutual
def oculusref06_Name.j0 : Nat → ByteArray → Bool → Option (Bool)
 | 0, _, _ => none
 | k + 1, x0, x17 => if x17 = true then (some false) else (oculusref06_Name.l0 k x0 0)
def oculusref06_Name.l0 : Nat → ByteArray → Int → Option (Bool)
 | 0, _, _ => none
 | k + 1, x0, x3 => if x3 < (x0.size : Int) then (if 0 ≤ x3 then ((oculusref06_letter.f (bt x0 x3)).bind fun t102 => (if t102 = true then (oculusref06_Name.l0 k x0 (wrap64 (x3 + 1))) else (if (bt x0 x3) ≥ 48 then (if ((bt x0 x3) ≤ 57) then (oculusref06_Name.l0 k x0 (wrap64 (x3 + 1))) else (some false)) else (some false)))) else (none)) else (some true)
end
def oculusref06_Name.f (k : Nat) (a0 : ByteArray) : Option (Bool) := if (a0.size : Int) < 1 then (oculusref06_Name.j0 k a0 true) else (if (a0.size : Int) > 16 then (oculusref06_Name.j0 k a0 true) else (if 0 < (a0.size : Int) then ((oculusref06_letter.f (bt a0 0)).bind fun t101 => (oculusref06_Name.j0 k a0 (!t101))) else (none)))
set_option maxHeartbeats 8000000 in
set_option maxRecDepth 100000 in
theorem oculusref06_Name.calls (k : Nat) (a0 : ByteArray) (r : Bool) (w : World) (h : oculusref06_Name.f k a0 = some r) :
  Calls Tryd.prog 54 #[.string a0] w fun e w' => e = .returned (.bool r) ∧ Drawn0 w w' := by
 have H : (if (a0.size : Int) < 1 then (oculusref06_Name.j0 k a0 true) else (if (a0.size : Int) > 16 then (oculusref06_Name.j0 k a0 true) else (if 0 < (a0.size : Int) then ((oculusref06_letter.f (bt a0 0)).bind fun t101 => (oculusref06_Name.j0 k a0 (!t101))) else (none)))) = some r := h
 clear h; have HC2 := Aside0.mk H; clear H
 go_enter Tryd.func54, Tryd.ntmps54
 go_upto_region 1 with (fail)
 go_cut [17] (fun v17 wc => ∃ (kq : Nat) (x17_1 : Bool), v17 = .bool x17_1 ∧ Aside0 (oculusref06_Name.j0 kq a0 x17_1 = some r) ∧ Aside0 (kq ≤ k) ∧ Drawn0 w wc)
 case first =>
  have H := HC2.out; clear HC2
  by_cases c3 : (a0.size : Int) < 1
  ·rw [if_pos c3] at H; have c3b0 : decide ((a0.size : Int) < 1) = true := decide_eq_true c3; have c3b1 : decide (a0.size < 1) = true := decide_eq_true (by omega); clear c3; (first | rw [c3b0] | (simp only [i64_w, i32_w]; rw [c3b0]) | skip)
   have H' := Aside0.mk H
   clear H
   go_wp2
   go_meet
   case rel => exact ⟨_, (true), (by first | rfl | (simp; done) | (simp [*]; done)), H', ⟨by first | omega | exact Nat.le_refl _⟩, by repeat (first | exact Drawn0.refl _ | apply Drawn0.step)⟩
  ·rw [if_neg c3] at H; have c3b0 : decide ((a0.size : Int) < 1) = false := decide_eq_false c3; have c3b1 : decide (a0.size < 1) = false := decide_eq_false (by omega); clear c3; (first | rw [c3b0] | (simp only [i64_w, i32_w]; rw [c3b0]) | skip)
   by_cases c4 : (a0.size : Int) > 16
   ·rw [if_pos c4] at H; have c4b0 : decide (16 < (a0.size : Int)) = true := decide_eq_true c4; have c4b1 : decide (16 < a0.size) = true := decide_eq_true (by omega); clear c4
    have H' := Aside0.mk H
    clear H
    go_wp2
    go_meet
    case rel => exact ⟨_, (true), (by first | rfl | (simp; done) | (simp [*]; done)), H', ⟨by first | omega | exact Nat.le_refl _⟩, by repeat (first | exact Drawn0.refl _ | apply Drawn0.step)⟩
   ·rw [if_neg c4] at H; have c4b0 : decide (16 < (a0.size : Int)) = false := decide_eq_false c4; have c4b1 : decide (16 < a0.size) = false := decide_eq_false (by omega); clear c4
    by_cases c5 : 0 < (a0.size : Int)
    ·rw [if_pos c5] at H; have c5b0 : decide (0 < (a0.size : Int)) = true := decide_eq_true c5; have c5b1 : decide (0 < a0.size) = true := decide_eq_true (by omega); clear c5; replace H := Option.bind_eq_some_iff.mp H; obtain ⟨t101, A70, H⟩ := H
     replace H : (oculusref06_Name.j0 k a0 (!t101)) = some r := H
     have A7 := Aside0.mk A70; clear A70
     have H' := Aside0.mk H
     clear H
     have p6 : 0 ≤ (0 : Int) := (by omega)
     have q6 : 0 < a0.size := (by have : (0 : Int) < (a0.size : Int) := of_decide_eq_true (by first | (with_reducible assumption) | assumption); omega)
     have hx6 : ∀ h : 0 < a0.size, ((a0[0]'h).toNat : Int) = bt a0 0 := bt_at a0 0
     clear p6; have qi6 : (0 < (a0.size : Int)) = True := eq_true (of_decide_eq_true (by first | (with_reducible assumption) | assumption)); replace q6 := eq_true q6
     go_wp2_with (first | (go_at_call 74; (with_reducible refine (oculusref06_letter.calls (bt a0 0) t101 _ A7.out).mono ?_); rintro e w' ⟨rfl, ⟨nd, rfl⟩⟩))
     go_meet
     case rel => exact ⟨_, (!t101), (by first | rfl | (simp; done) | (simp [*]; done) | (cases t101 <;> simp; done)), H', ⟨by first | omega | exact Nat.le_refl _⟩, by repeat (first | exact Drawn0.refl _ | apply Drawn0.step)⟩
    ·rw [if_neg c5] at H
     exact absurd H (by simp)
 case rest =>
  clear HC2; (try clear p2); (try clear c3); (try clear c3b0); (try clear c3b1); (try clear c4); (try clear c4b0); (try clear c4b1); (try clear c5); (try clear c5b0); (try clear c5b1); (try clear p6); (try clear q6); (try clear hx6); (try clear qi6); (try clear p6); (try clear q6); obtain ⟨kq, x17_1, rfl, HA, HJ1, ⟨mc1, rfl⟩⟩ := hcut
  cases kq with
  | zero => exact absurd HA.out (by simp [oculusref06_Name.j0])
  | succ kj1 =>
   have H := HA.out; clear HA
   simp only [oculusref06_Name.j0] at H
   by_cases c8 : x17_1 = true
   ·subst c8
    have H1 : (some false) = some r := by rw [if_pos rfl] at H; exact H
    clear H; have H := H1; clear H1; obtain rfl := Option.some.inj H
    go_wp2
    go_ret
    exact ⟨by first | rfl | (simp; done) | (simp [*]; done), by repeat (first | exact Drawn0.refl _ | apply Drawn0.step)⟩
   ·replace c8 := Bool.eq_false_iff.mpr c8; subst c8
    have H1 : (oculusref06_Name.l0 kj1 a0 0) = some r := by rw [if_neg (show ¬ (false = true) by decide)] at H; exact H
    clear H; have H := H1; clear H1
    have H' := Aside0.mk H
    clear H
    go_wp2
    go_loopg [3] kj1 (fun kq v3 w' => ∃ (x3_2 : Int), v3 = .int .i64 x3_2 ∧ Aside0 (oculusref06_Name.l0 kq a0 x3_2 = some r) ∧ Aside0 (kq ≤ kj1) ∧ Drawn0 w w')
    case atStart => exact ⟨(0), (by first | rfl | (simp; done) | (simp [*]; done)), H', ⟨Nat.le_refl _⟩, by repeat (first | exact Drawn0.refl _ | apply Drawn0.step)⟩
    case round =>
     clear H'; (try clear c1); (try clear p2); (try clear c3); (try clear c3b0); (try clear c3b1); (try clear c4); (try clear c4b0); (try clear c4b1); (try clear c5); (try clear c5b0); (try clear c5b1); (try clear p6); (try clear q6); (try clear hx6); (try clear qi6); (try clear c8); (try clear p2); (try clear p6); (try clear q6); obtain ⟨x3_2, rfl, HA, HK2, ⟨m2, rfl⟩⟩ := hrel
     cases gk with
     | zero => exact absurd HA.out (by simp [oculusref06_Name.l0])
     | succ k2 =>
      have H := HA.out; clear HA
      simp only [oculusref06_Name.l0] at H
      by_cases c9 : x3_2 < (a0.size : Int)
      ·rw [if_pos c9] at H; have c9b0 : decide (x3_2 < (a0.size : Int)) = true := decide_eq_true c9; clear c9
       by_cases c10 : 0 ≤ x3_2
       ·rw [if_pos c10] at H; have c10b0 : decide (0 ≤ x3_2) = true := decide_eq_true c10; clear c10; replace H := Option.bind_eq_some_iff.mp H; obtain ⟨t102, A120, H⟩ := H
        replace H : (if t102 = true then (oculusref06_Name.l0 k2 a0 (wrap64 (x3_2 + 1))) else (if (bt a0 x3_2) ≥ 48 then (if ((bt a0 x3_2) ≤ 57) then (oculusref06_Name.l0 k2 a0 (wrap64 (x3_2 + 1))) else (some false)) else (some false))) = some r := H
        have A12 := Aside0.mk A120; clear A120
        by_cases c13 : t102 = true
        ·subst c13
         have H1 : (oculusref06_Name.l0 k2 a0 (wrap64 (x3_2 + 1))) = some r := by rw [if_pos rfl] at H; exact H
         clear H; have H := H1; clear H1
         have H' := Aside0.mk H
         clear H
         have p11 : 0 ≤ (x3_2 : Int) := of_decide_eq_true (by first | (with_reducible assumption) | assumption)
         have q11 : x3_2 < (a0.size : Int) := of_decide_eq_true (by first | (with_reducible assumption) | assumption)
         have hx11 := bt_at a0 x3_2; replace p11 := eq_true p11; replace q11 := eq_true q11
         go_wp2_with (first | ((with_reducible refine gate_callee (f:=74) rfl ?_); refine gL_ (some 27) rfl rfl Tryd.func74 rfl #[.int .u8 (bt a0 x3_2)] rfl ?_; (with_reducible refine (oculusref06_letter.calls (bt a0 x3_2) true _ A12.out).mono ?_); rintro e w' ⟨rfl, ⟨nd, rfl⟩⟩; refine ⟨_, rfl, ?_⟩))
         go_roundg k2
         case measure => have := HJ1.out; have := HK2.out; omega
         case rel => exact ⟨(wrap64 (x3_2 + 1)), (by first | rfl | (simp; done) | (simp [*]; done)), H', ⟨by have := HJ1.out; have := HK2.out; omega⟩, by repeat (first | exact Drawn0.refl _ | apply Drawn0.step)⟩
        ·replace c13 := Bool.eq_false_iff.mpr c13; subst c13
         have H1 : (if (bt a0 x3_2) ≥ 48 then (if ((bt a0 x3_2) ≤ 57) then (oculusref06_Name.l0 k2 a0 (wrap64 (x3_2 + 1))) else (some false)) else (some false)) = some r := by rw [if_neg (show ¬ (false = true) by decide)] at H; exact H
         clear H; have H := H1; clear H1
         by_cases c15 : (bt a0 x3_2) ≥ 48
         ·rw [if_pos c15] at H; have c15b0 : decide (48 ≤ (bt a0 x3_2)) = true := decide_eq_true c15; clear c15
          by_cases c17 : ((bt a0 x3_2) ≤ 57)
          ·rw [if_pos c17] at H; have c17b0 : decide ((bt a0 x3_2) ≤ 57) = true := decide_eq_true c17; clear c17
           have H' := Aside0.mk H
           clear H
           have p11 : 0 ≤ (x3_2 : Int) := of_decide_eq_true (by first | (with_reducible assumption) | assumption)
           have q11 : x3_2 < (a0.size : Int) := of_decide_eq_true (by first | (with_reducible assumption) | assumption)
           have hx11 := bt_at a0 x3_2; replace p11 := eq_true p11; replace q11 := eq_true q11
           go_wp2_with (first | ((with_reducible refine gate_callee (f:=74) rfl ?_); refine gL_ (some 27) rfl rfl Tryd.func74 rfl #[.int .u8 (bt a0 x3_2)] rfl ?_; (with_reducible refine (oculusref06_letter.calls (bt a0 x3_2) false _ A12.out).mono ?_); rintro e w' ⟨rfl, ⟨nd, rfl⟩⟩; refine ⟨_, rfl, ?_⟩; have p14 : 0 ≤ (x3_2 : Int) := of_decide_eq_true (by first | (with_reducible assumption) | assumption); have q14 : x3_2 < (a0.size : Int) := of_decide_eq_true (by first | (with_reducible assumption) | assumption); have hx14 := bt_at a0 x3_2; replace p14 := eq_true p14; replace q14 := eq_true q14; have p16 : 0 ≤ (x3_2 : Int) := of_decide_eq_true (by first | (with_reducible assumption) | assumption); have q16 : x3_2 < (a0.size : Int) := of_decide_eq_true (by first | (with_reducible assumption) | assumption); have hx16 := bt_at a0 x3_2; replace p16 := eq_true p16; replace q16 := eq_true q16))
           go_roundg k2
           case measure => have := HJ1.out; have := HK2.out; omega
           case rel => exact ⟨(wrap64 (x3_2 + 1)), (by first | rfl | (simp; done) | (simp [*]; done)), H', ⟨by have := HJ1.out; have := HK2.out; omega⟩, by repeat (first | exact Drawn0.refl _ | apply Drawn0.step)⟩
          ·rw [if_neg c17] at H; have c17b0 : decide ((bt a0 x3_2) ≤ 57) = false := decide_eq_false c17; clear c17; obtain rfl := Option.some.inj H
           have p11 : 0 ≤ (x3_2 : Int) := of_decide_eq_true (by first | (with_reducible assumption) | assumption)
           have q11 : x3_2 < (a0.size : Int) := of_decide_eq_true (by first | (with_reducible assumption) | assumption)
           have hx11 := bt_at a0 x3_2; replace p11 := eq_true p11; replace q11 := eq_true q11
           go_wp2_with (first | ((with_reducible refine gate_callee (f:=74) rfl ?_); refine gL_ (some 27) rfl rfl Tryd.func74 rfl #[.int .u8 (bt a0 x3_2)] rfl ?_; (with_reducible refine (oculusref06_letter.calls (bt a0 x3_2) false _ A12.out).mono ?_); rintro e w' ⟨rfl, ⟨nd, rfl⟩⟩; refine ⟨_, rfl, ?_⟩; have p14 : 0 ≤ (x3_2 : Int) := of_decide_eq_true (by first | (with_reducible assumption) | assumption); have q14 : x3_2 < (a0.size : Int) := of_decide_eq_true (by first | (with_reducible assumption) | assumption); have hx14 := bt_at a0 x3_2; replace p14 := eq_true p14; replace q14 := eq_true q14; have p16 : 0 ≤ (x3_2 : Int) := of_decide_eq_true (by first | (with_reducible assumption) | assumption); have q16 : x3_2 < (a0.size : Int) := of_decide_eq_true (by first | (with_reducible assumption) | assumption); have hx16 := bt_at a0 x3_2; replace p16 := eq_true p16; replace q16 := eq_true q16))
           go_ret
           exact ⟨by first | rfl | (simp; done) | (simp [*]; done), by repeat (first | exact Drawn0.refl _ | apply Drawn0.step)⟩
         ·rw [if_neg c15] at H; have c15b0 : decide (48 ≤ (bt a0 x3_2)) = false := decide_eq_false c15; clear c15; obtain rfl := Option.some.inj H
          have p11 : 0 ≤ (x3_2 : Int) := of_decide_eq_true (by first | (with_reducible assumption) | assumption)
          have q11 : x3_2 < (a0.size : Int) := of_decide_eq_true (by first | (with_reducible assumption) | assumption)
          have hx11 := bt_at a0 x3_2; replace p11 := eq_true p11; replace q11 := eq_true q11
          go_wp2_with (first | ((with_reducible refine gate_callee (f:=74) rfl ?_); refine gL_ (some 27) rfl rfl Tryd.func74 rfl #[.int .u8 (bt a0 x3_2)] rfl ?_; (with_reducible refine (oculusref06_letter.calls (bt a0 x3_2) false _ A12.out).mono ?_); rintro e w' ⟨rfl, ⟨nd, rfl⟩⟩; refine ⟨_, rfl, ?_⟩; have p14 : 0 ≤ (x3_2 : Int) := of_decide_eq_true (by first | (with_reducible assumption) | assumption); have q14 : x3_2 < (a0.size : Int) := of_decide_eq_true (by first | (with_reducible assumption) | assumption); have hx14 := bt_at a0 x3_2; replace p14 := eq_true p14; replace q14 := eq_true q14))
          go_ret
          exact ⟨by first | rfl | (simp; done) | (simp [*]; done), by repeat (first | exact Drawn0.refl _ | apply Drawn0.step)⟩
       ·rw [if_neg c10] at H
        exact absurd H (by simp)
      ·rw [if_neg c9] at H; have c9b0 : decide (x3_2 < (a0.size : Int)) = false := decide_eq_false c9; clear c9; obtain rfl := Option.some.inj H
       go_wp2
       go_ret
       exact ⟨by first | rfl | (simp; done) | (simp [*]; done), by repeat (first | exact Drawn0.refl _ | apply Drawn0.step)⟩

mutual
def oculusref06_Users.l0 : Nat → List (S65) → Int → Option (Int × Int)
 | 0, _, _ => none
 | k + 1, x0, x3 => if x3 < (x0.length : Int) then (if 0 ≤ x3 then ((oculusref06_may.f ((rd_T65 x0 x3).f1.f0) ((rd_T65 x0 x3).f1.f1)).bind fun t103 => (if t103 = true then (oculusref06_Users.j1 k x0 x3 0) else (oculusref06_Users.j1 k x0 x3 7))) else (none)) else (some (0, 0))
def oculusref06_Users.j1 : Nat → List (S65) → Int → Int → Option (Int × Int)
 | 0, _, _, _ => none
 | k + 1, x0, x3, x4 => if 0 ≤ x3 then (if x3 < (x0.length : Int) then ((oculusref06_Find.f k x0 ((rd_T65 x0 x3).f0)).bind fun t105 => (if t105 = x3 then (oculusref06_Users.j2 k x0 x3 x4) else (oculusref06_Users.j2 k x0 x3 8))) else (none)) else (none)
def oculusref06_Users.j2 : Nat → List (S65) → Int → Int → Option (Int × Int)
 | 0, _, _, _ => none
 | k + 1, x0, x3, x4 => if 0 ≤ x3 then (if x3 < (x0.length : Int) then ((oculusref06_Name.f k ((rd_T65 x0 x3).f0)).bind fun t107 => (if t107 = true then (oculusref06_Users.j3 k x0 x3 x4) else (oculusref06_Users.j3 k x0 x3 1))) else (none)) else (none)
def oculusref06_Users.j3 : Nat → List (S65) → Int → Int → Option (Int × Int)
 | 0, _, _, _ => none
 | k + 1, x0, x3, x4 => if x3 > 15 then (some (x3, 10)) else (if x4 = 0 then (oculusref06_Users.l0 k x0 (wrap64 (x3 + 1))) else (some (x3, x4)))
end
def oculusref06_Users.f (k : Nat) (l0 : List (S65)) : Option (Int × Int) := oculusref06_Users.l0 k l0 0
set_option maxHeartbeats 8000000 in
set_option maxRecDepth 100000 in
theorem oculusref06_Users.calls (k : Nat) (A0 : Option Addr) (c0 : Nat) (l0 : List (S65)) (r1 : Int) (r2 : Int) (w : World) (hr0 : Kd.C k65 w A0 l0.length l0) (hc0 : l0.length ≤ c0) (h : oculusref06_Users.f k l0 = some (r1, r2)) :
  Calls Tryd.prog 30 #[.slice A0 l0.length c0] w fun e w' => e = .returned (.agg #[.int .i64 r1, .int .i64 r2]) ∧ Below w.heap.size w w' := by
 have hu34 := Tryd.underlying34; have hu59 := Tryd.underlying59; have HR0 := Aside0.mk hr0; have HC0 := Aside0.mk hc0; clear hr0 hc0; have HB := Aside0.mk (Below.refl w.heap.size w)
 have H : (oculusref06_Users.l0 k l0 0) = some (r1, r2) := h
 clear h
 have H' := Aside0.mk H
 clear H
 go_enter Tryd.func30, Tryd.ntmps30
 go_wp2_with (first | ((with_reducible refine gate_dst (N:=2) rfl ?_); refine be_ (N:=2) (cs := #[.int .i64 0, .int .i64 0]) (t:=34) ?_; intro gb101 hg w2 hbox hb; have BK101 := Aside0.mk (hbox); have GW101 := hs_ HB hg; have GE101 := hs_ HB hg; replace HB := bs_ HB hb; clear hb hbox hg))
 go_loopg [3] k (fun kq v3 w' => ∃ (x3_1 : Int) (x102000_1 : Int) (x102001_1 : Int), v3 = .int .i64 x3_1 ∧ Aside0 (oculusref06_Users.l0 kq l0 x3_1 = some (r1, r2)) ∧ Aside0 (kq ≤ k) ∧ Aside0 (w'.heap[gb101]? = some (.cells #[.int .i64 x102000_1, .int .i64 x102001_1] 34 (0, 0))) ∧ Aside0 (Below w.heap.size w w'))
 case atStart => exact ⟨(0), (0), (0), (by first | rfl | (simp; done) | (simp [*]; done)), H', ⟨Nat.le_refl _⟩, ⟨pkx BK101⟩, ⟨pbx HB⟩⟩
 case round =>
  clear H'; (try clear p2); obtain ⟨x3_1, x102000_1, x102001_1, rfl, HA, HK1, BK101, HB⟩ := hrel
  cases gk with
  | zero => exact absurd HA.out (by simp [oculusref06_Users.l0])
  | succ k1 =>
   have H := HA.out; clear HA
   simp only [oculusref06_Users.l0] at H
   by_cases c3 : x3_1 < (l0.length : Int)
   ·rw [if_pos c3] at H; have c3b0 : decide (x3_1 < (l0.length : Int)) = true := decide_eq_true c3; clear c3
    by_cases c4 : 0 ≤ x3_1
    ·rw [if_pos c4] at H; have c4b0 : decide (0 ≤ x3_1) = true := decide_eq_true c4; clear c4; replace H := Option.bind_eq_some_iff.mp H; obtain ⟨t103, A50, H⟩ := H
     replace H : (if t103 = true then (oculusref06_Users.j1 k1 l0 x3_1 0) else (oculusref06_Users.j1 k1 l0 x3_1 7)) = some (r1, r2) := H
     have A5 := Aside0.mk A50; clear A50; have HC6 := Aside0.mk H; clear H
     have p102 : 0 ≤ (x3_1 : Int) := of_decide_eq_true (by first | (with_reducible assumption) | assumption)
     have q102 : x3_1 < (l0.length : Int) := of_decide_eq_true (by first | (with_reducible assumption) | assumption)
     obtain ⟨ad102, e102, hx102_0, hx102_1, hx102_2⟩ := at_T65 HR0.out x3_1 p102 q102
     cases e102
     replace hx102_0 := (HB.out.cell (World.block_lt_of_cell? w _ hx102_0)).trans hx102_0; replace hx102_1 := (HB.out.cell (World.block_lt_of_cell? w _ hx102_1)).trans hx102_1; replace hx102_2 := (HB.out.cell (World.block_lt_of_cell? w _ hx102_2)).trans hx102_2; replace p102 := eq_true p102; replace q102 := eq_true q102
     go_upto_if 17 with (first | ((with_reducible refine gate_callee (f:=52) rfl ?_); refine gL_ (some 16) rfl rfl Tryd.func52 rfl #[.agg #[.int .i64 ((rd_T65 l0 x3_1).f1.f0), .int .u64 ((rd_T65 l0 x3_1).f1.f1)]] rfl ?_; (with_reducible refine (oculusref06_may.calls ((rd_T65 l0 x3_1).f1.f0) ((rd_T65 l0 x3_1).f1.f1) t103 _ A5.out).mono ?_); rintro e w7 ⟨rfl, hb⟩; refine ⟨_, rfl, ?_⟩; replace BK101 := bb_ BK101 hb; replace HB := bs_ HB hb; (try clear hb); (try clear hb2); (try clear hk); (try clear hi)))
     (try simp only [q_])
     go_cut [4] (fun v4 wc => ∃ (kq : Nat) (x4_5 : Int), v4 = .int .i64 x4_5 ∧ Aside0 (oculusref06_Users.j1 kq l0 x3_1 x4_5 = some (r1, r2)) ∧ Aside0 (kq ≤ k1) ∧ Aside0 (wc.heap[gb101]? = some (.cells #[.int .i64 x102000_1, .int .i64 x102001_1] 34 (0, 0))) ∧ Aside0 (Below w.heap.size w wc))
     case first =>
      have H := HC6.out; clear HC6
      by_cases c8 : t103 = true
      ·subst c8
       have H1 : (oculusref06_Users.j1 k1 l0 x3_1 0) = some (r1, r2) := by rw [if_pos rfl] at H; exact H
       clear H; have H := H1; clear H1
       have H' := Aside0.mk H
       clear H
       go_wp2
       go_meet
       case rel => exact ⟨_, (0), (by first | rfl | (simp; done) | (simp [*]; done)), H', ⟨by have := HK1.out; first | omega | exact Nat.le_refl _⟩, ⟨pkx BK101⟩, ⟨pbx HB⟩⟩
      ·replace c8 := Bool.eq_false_iff.mpr c8; subst c8
       have H1 : (oculusref06_Users.j1 k1 l0 x3_1 7) = some (r1, r2) := by rw [if_neg (show ¬ (false = true) by decide)] at H; exact H
       clear H; have H := H1; clear H1
       have H' := Aside0.mk H
       clear H
       go_wp2
       go_meet
       case rel => exact ⟨_, (7), (by first | rfl | (simp; done) | (simp [*]; done)), H', ⟨by have := HK1.out; first | omega | exact Nat.le_refl _⟩, ⟨pkx BK101⟩, ⟨pbx HB⟩⟩
     case rest =>
      clear HC6; (try clear p1); (try clear q1); (try clear hx1); (try clear p2); (try clear c3); (try clear c3b0); (try clear c4); (try clear c4b0); (try clear c5); (try clear c8); (try clear hx102_0); (try clear hx102_1); (try clear hx102_2); (try clear p102); (try clear p2); (try clear q102); obtain ⟨kq, x4_5, rfl, HA, HJ5, BK101, HB⟩ := hcut
      cases kq with
      | zero => exact absurd HA.out (by simp [oculusref06_Users.j1])
      | succ kj5 =>
       have H := HA.out; clear HA
       simp only [oculusref06_Users.j1] at H
       by_cases c9 : 0 ≤ x3_1
       ·rw [if_pos c9] at H; have c9b0 : decide (0 ≤ x3_1) = true := decide_eq_true c9; clear c9
        by_cases c10 : x3_1 < (l0.length : Int)
        ·rw [if_pos c10] at H; have c10b0 : decide (x3_1 < (l0.length : Int)) = true := decide_eq_true c10; clear c10; replace H := Option.bind_eq_some_iff.mp H; obtain ⟨t105, A110, H⟩ := H
         replace H : (if t105 = x3_1 then (oculusref06_Users.j2 kj5 l0 x3_1 x4_5) else (oculusref06_Users.j2 kj5 l0 x3_1 8)) = some (r1, r2) := H
         have A11 := Aside0.mk A110; clear A110; have HC12 := Aside0.mk H; clear H
         have p104 : 0 ≤ (x3_1 : Int) := of_decide_eq_true (by first | (with_reducible assumption) | assumption)
         have q104 : x3_1 < (l0.length : Int) := of_decide_eq_true (by first | (with_reducible assumption) | assumption)
         obtain ⟨ad104, e104, hx104_0, hx104_1, hx104_2⟩ := at_T65 HR0.out x3_1 p104 q104; obtain rfl : ad102 = ad104 := (by injection e104); replace hx104_0 := (HB.out.cell (World.block_lt_of_cell? w _ hx104_0)).trans hx104_0; replace hx104_1 := (HB.out.cell (World.block_lt_of_cell? w _ hx104_1)).trans hx104_1; replace hx104_2 := (HB.out.cell (World.block_lt_of_cell? w _ hx104_2)).trans hx104_2; replace p104 := eq_true p104; replace q104 := eq_true q104
         go_upto_if 26 with (first | ((with_reducible refine gate_callee (f:=53) rfl ?_); refine gL_ (some 24) rfl rfl Tryd.func53 rfl #[.slice (some ad102) l0.length c0, .string ((rd_T65 l0 x3_1).f0)] rfl ?_; (with_reducible refine (oculusref06_Find.calls kj5 _ _ l0 ((rd_T65 l0 x3_1).f0) t105 _ ?side1 ?side2 A11.out).mono ?_); (case side1 => repeat (first | exact (Kd.C_below HR0.out HB.out) | (with_reducible refine Kd.C_alloc ?_ _) | (with_reducible refine Kd.C_drewN ?_ _) | (with_reducible refine Kd.C_drew ?_))); (case side2 => exact HC0.out); rintro e w' ⟨rfl, ⟨nd, rfl⟩⟩; refine ⟨_, rfl, ?_⟩))
         (try simp only [q_])
         go_cut [4] (fun v4 wc => ∃ (kq : Nat) (x4_11 : Int), v4 = .int .i64 x4_11 ∧ Aside0 (oculusref06_Users.j2 kq l0 x3_1 x4_11 = some (r1, r2)) ∧ Aside0 (kq ≤ kj5) ∧ Aside0 (wc.heap[gb101]? = some (.cells #[.int .i64 x102000_1, .int .i64 x102001_1] 34 (0, 0))) ∧ Aside0 (Below w.heap.size w wc))
         case first =>
          have H := HC12.out; clear HC12
          by_cases c13 : t105 = x3_1
          ·rw [if_pos c13] at H; have c13b0 : (t105 == x3_1) = true := beq_iff_eq.mpr c13; have c13b1 : (t105 != x3_1) = false := bne_eq_false_iff_eq.mpr c13; clear c13; (first | rw [c13b0] | (simp only [i64_w, i32_w]; rw [c13b0]) | skip)
           have H' := Aside0.mk H
           clear H
           go_wp2
           go_meet
           case rel => exact ⟨_, (x4_5), (by first | rfl | (simp; done) | (simp [*]; done)), H', ⟨by have := HK1.out; have := HJ5.out; first | omega | exact Nat.le_refl _⟩, ⟨pkx BK101⟩, ⟨pbx HB⟩⟩
          ·rw [if_neg c13] at H; have c13b0 : (t105 == x3_1) = false := beq_eq_false_iff_ne.mpr c13; have c13b1 : (t105 != x3_1) = true := bne_iff_ne.mpr c13; (first | rw [c13b0] | (simp only [i64_w, i32_w]; rw [c13b0]) | skip)
           have H' := Aside0.mk H
           clear H
           go_wp2
           go_meet
           case rel => exact ⟨_, (8), (by first | rfl | (simp; done) | (simp [*]; done)), H', ⟨by have := HK1.out; have := HJ5.out; first | omega | exact Nat.le_refl _⟩, ⟨pkx BK101⟩, ⟨pbx HB⟩⟩
         case rest =>
          clear HC12; (try clear c1); (try clear p1); (try clear q1); (try clear hx1); (try clear p2); (try clear c3); (try clear c3b0); (try clear c4); (try clear c4b0); (try clear c5); (try clear c8); (try clear c9); (try clear c9b0); (try clear c10); (try clear c10b0); (try clear p10); (try clear q10); (try clear hx10); (try clear c13); (try clear c13b0); (try clear c13b1); (try clear hx102_0); (try clear hx102_1); (try clear hx102_2); (try clear hx104_0); (try clear hx104_1); (try clear hx104_2); (try clear p1); (try clear p102); (try clear p104); (try clear p2); (try clear q1); (try clear q102); (try clear q104); obtain ⟨kq, x4_11, rfl, HA, HJ11, BK101, HB⟩ := hcut
          cases kq with
          | zero => exact absurd HA.out (by simp [oculusref06_Users.j2])
          | succ kj11 =>
           have H := HA.out; clear HA
           simp only [oculusref06_Users.j2] at H
           by_cases c14 : 0 ≤ x3_1
           ·rw [if_pos c14] at H; have c14b0 : decide (0 ≤ x3_1) = true := decide_eq_true c14; clear c14
            by_cases c15 : x3_1 < (l0.length : Int)
            ·rw [if_pos c15] at H; have c15b0 : decide (x3_1 < (l0.length : Int)) = true := decide_eq_true c15; clear c15; replace H := Option.bind_eq_some_iff.mp H; obtain ⟨t107, A160, H⟩ := H
             replace H : (if t107 = true then (oculusref06_Users.j3 kj11 l0 x3_1 x4_11) else (oculusref06_Users.j3 kj11 l0 x3_1 1)) = some (r1, r2) := H
             have A16 := Aside0.mk A160; clear A160; have HC17 := Aside0.mk H; clear H
             have p106 : 0 ≤ (x3_1 : Int) := of_decide_eq_true (by first | (with_reducible assumption) | assumption)
             have q106 : x3_1 < (l0.length : Int) := of_decide_eq_true (by first | (with_reducible assumption) | assumption)
             obtain ⟨ad106, e106, hx106_0, hx106_1, hx106_2⟩ := at_T65 HR0.out x3_1 p106 q106; obtain rfl : ad102 = ad106 := (by injection e106); replace hx106_0 := (HB.out.cell (World.block_lt_of_cell? w _ hx106_0)).trans hx106_0; replace hx106_1 := (HB.out.cell (World.block_lt_of_cell? w _ hx106_1)).trans hx106_1; replace hx106_2 := (HB.out.cell (World.block_lt_of_cell? w _ hx106_2)).trans hx106_2; replace p106 := eq_true p106; replace q106 := eq_true q106
             go_upto_if 33 with (first | ((with_reducible refine gate_callee (f:=54) rfl ?_); refine gL_ (some 32) rfl rfl Tryd.func54 rfl #[.string ((rd_T65 l0 x3_1).f0)] rfl ?_; (with_reducible refine (oculusref06_Name.calls kj11 ((rd_T65 l0 x3_1).f0) t107 _ A16.out).mono ?_); rintro e w' ⟨rfl, ⟨nd, rfl⟩⟩; refine ⟨_, rfl, ?_⟩))
             (try simp only [q_])
             go_cut [4] (fun v4 wc => ∃ (kq : Nat) (x4_16 : Int), v4 = .int .i64 x4_16 ∧ Aside0 (oculusref06_Users.j3 kq l0 x3_1 x4_16 = some (r1, r2)) ∧ Aside0 (kq ≤ kj11) ∧ Aside0 (wc.heap[gb101]? = some (.cells #[.int .i64 x102000_1, .int .i64 x102001_1] 34 (0, 0))) ∧ Aside0 (Below w.heap.size w wc))
             case first =>
              have H := HC17.out; clear HC17
              by_cases c18 : t107 = true
              ·subst c18
               have H1 : (oculusref06_Users.j3 kj11 l0 x3_1 x4_11) = some (r1, r2) := by rw [if_pos rfl] at H; exact H
               clear H; have H := H1; clear H1
               have H' := Aside0.mk H
               clear H
               go_wp2
               go_meet
               case rel => exact ⟨_, (x4_11), (by first | rfl | (simp; done) | (simp [*]; done)), H', ⟨by have := HK1.out; have := HJ5.out; have := HJ11.out; first | omega | exact Nat.le_refl _⟩, ⟨pkx BK101⟩, ⟨pbx HB⟩⟩
              ·replace c18 := Bool.eq_false_iff.mpr c18; subst c18
               have H1 : (oculusref06_Users.j3 kj11 l0 x3_1 1) = some (r1, r2) := by rw [if_neg (show ¬ (false = true) by decide)] at H; exact H
               clear H; have H := H1; clear H1
               have H' := Aside0.mk H
               clear H
               go_wp2
               go_meet
               case rel => exact ⟨_, (1), (by first | rfl | (simp; done) | (simp [*]; done)), H', ⟨by have := HK1.out; have := HJ5.out; have := HJ11.out; first | omega | exact Nat.le_refl _⟩, ⟨pkx BK101⟩, ⟨pbx HB⟩⟩
             case rest =>
              clear HC17; (try clear c1); (try clear p1); (try clear q1); (try clear hx1); (try clear p2); (try clear c3); (try clear c3b0); (try clear c4); (try clear c4b0); (try clear c5); (try clear c8); (try clear c9); (try clear c9b0); (try clear c10); (try clear c10b0); (try clear p10); (try clear q10); (try clear hx10); (try clear c13); (try clear c13b0); (try clear c13b1); (try clear c14); (try clear c14b0); (try clear c15); (try clear c15b0); (try clear c18); (try clear hx102_0); (try clear hx102_1); (try clear hx102_2); (try clear hx104_0); (try clear hx104_1); (try clear hx104_2); (try clear hx106_0); (try clear hx106_1); (try clear hx106_2); (try clear p1); (try clear p10); (try clear p102); (try clear p104); (try clear p106); (try clear p2); (try clear q1); (try clear q10); (try clear q102); (try clear q104); (try clear q106); obtain ⟨kq, x4_16, rfl, HA, HJ16, BK101, HB⟩ := hcut
              cases kq with
              | zero => exact absurd HA.out (by simp [oculusref06_Users.j3])
              | succ kj16 =>
               have H := HA.out; clear HA
               simp only [oculusref06_Users.j3] at H
               by_cases c19 : x3_1 > 15
               ·rw [if_pos c19] at H; have c19b0 : decide (15 < x3_1) = true := decide_eq_true c19; clear c19
                simp only [Option.some.injEq, Prod.mk.injEq] at H
                obtain ⟨rfl, rfl⟩ := H
                have hcz20_0 : wc.cell? ⟨gb101, 0, none⟩ = some (.int .i64 x102000_1) := bc_ BK101 0 rfl
                have hcz20_1 : wc.cell? ⟨gb101, 1, none⟩ = some (.int .i64 x102001_1) := bc_ BK101 1 rfl
                have hfz20_0 := blk_frozen BK101.out 0; have hfz20_1 := blk_frozen BK101.out 1
                go_wp2
                refine bodyPost_ret (results_cell_row rfl _ _ gb101 34 #[.int .i64 x3_1, .int .i64 10] (0, 0) _ rfl (by refine pp_ (cs := #[.int .i64 x3_1, .int .i64 x102001_1]) 1 ?_ rfl; refine blk_put (cs := #[.int .i64 x102000_1, .int .i64 x102001_1]) ?_ 0 _ rfl; exact pkx BK101) Tryd.underlying34 rfl (by kernel_rfl)) rfl ?_
                exact ⟨by first | rfl | (simp [errW_none, errW_some] <;> rfl) | (simp [*, errW_none, errW_some] <;> rfl), by repeat (first | (with_reducible first | exact HB.out | apply below_alloc | apply pw_below_drewN | apply below_drew1 | refine below_set ?_ GE101.out) | exact HB.out)⟩
               ·rw [if_neg c19] at H; have c19b0 : decide (15 < x3_1) = false := decide_eq_false c19; clear c19
                by_cases c21 : x4_16 = 0
                ·rw [if_pos c21] at H; have c21b0 : (x4_16 == 0) = true := beq_iff_eq.mpr c21; have c21b1 : (x4_16 != 0) = false := bne_eq_false_iff_eq.mpr c21; clear c21
                 have H' := Aside0.mk H
                 clear H
                 go_wp2
                 go_roundg kj16
                 case measure => have := HK1.out; have := HJ5.out; have := HJ11.out; have := HJ16.out; omega
                 case rel => exact ⟨(wrap64 (x3_1 + 1)), (x102000_1), (x102001_1), (by first | rfl | (simp; done) | (simp [*]; done)), H', ⟨by have := HK1.out; have := HJ5.out; have := HJ11.out; have := HJ16.out; omega⟩, ⟨pkx BK101⟩, ⟨pbx HB⟩⟩
                ·rw [if_neg c21] at H; have c21b0 : (x4_16 == 0) = false := beq_eq_false_iff_ne.mpr c21; have c21b1 : (x4_16 != 0) = true := bne_iff_ne.mpr c21
                 simp only [Option.some.injEq, Prod.mk.injEq] at H
                 obtain ⟨rfl, rfl⟩ := H
                 have hcz22_0 : wc.cell? ⟨gb101, 0, none⟩ = some (.int .i64 x102000_1) := bc_ BK101 0 rfl
                 have hcz22_1 : wc.cell? ⟨gb101, 1, none⟩ = some (.int .i64 x102001_1) := bc_ BK101 1 rfl
                 have hfz22_0 := blk_frozen BK101.out 0; have hfz22_1 := blk_frozen BK101.out 1
                 go_wp2
                 refine bodyPost_ret (results_cell_row rfl _ _ gb101 34 #[.int .i64 x3_1, .int .i64 x4_16] (0, 0) _ rfl (by refine pp_ (cs := #[.int .i64 x3_1, .int .i64 x102001_1]) 1 ?_ rfl; refine blk_put (cs := #[.int .i64 x102000_1, .int .i64 x102001_1]) ?_ 0 _ rfl; exact pkx BK101) Tryd.underlying34 rfl (by kernel_rfl)) rfl ?_
                 exact ⟨by first | rfl | (simp [errW_none, errW_some] <;> rfl) | (simp [*, errW_none, errW_some] <;> rfl), by repeat (first | (with_reducible first | exact HB.out | apply below_alloc | apply pw_below_drewN | apply below_drew1 | refine below_set ?_ GE101.out) | exact HB.out)⟩
            ·rw [if_neg c15] at H
             exact absurd H (by simp)
           ·rw [if_neg c14] at H
            exact absurd H (by simp)
        ·rw [if_neg c10] at H
         exact absurd H (by simp)
       ·rw [if_neg c9] at H
        exact absurd H (by simp)
    ·rw [if_neg c4] at H
     exact absurd H (by simp)
   ·rw [if_neg c3] at H; have c3b0 : decide (x3_1 < (l0.length : Int)) = false := decide_eq_false c3; clear c3
    simp only [Option.some.injEq, Prod.mk.injEq] at H
    obtain ⟨rfl, rfl⟩ := H
    have hcz23_0 : wr.cell? ⟨gb101, 0, none⟩ = some (.int .i64 x102000_1) := bc_ BK101 0 rfl
    have hcz23_1 : wr.cell? ⟨gb101, 1, none⟩ = some (.int .i64 x102001_1) := bc_ BK101 1 rfl
    have hfz23_0 := blk_frozen BK101.out 0; have hfz23_1 := blk_frozen BK101.out 1
    go_wp2
    refine bodyPost_ret (results_cell_row rfl _ _ gb101 34 #[.int .i64 0, .int .i64 0] (0, 0) _ rfl (by refine pp_ (cs := #[.int .i64 0, .int .i64 x102001_1]) 1 ?_ rfl; refine blk_put (cs := #[.int .i64 x102000_1, .int .i64 x102001_1]) ?_ 0 _ rfl; exact pkx BK101) Tryd.underlying34 rfl (by kernel_rfl)) rfl ?_
    exact ⟨by first | rfl | (simp [errW_none, errW_some] <;> rfl) | (simp [*, errW_none, errW_some] <;> rfl), by repeat (first | (with_reducible first | exact HB.out | apply below_alloc | apply pw_below_drewN | apply below_drew1 | refine below_set ?_ GE101.out) | exact HB.out)⟩

mutual
def oculusref06_Grants.l0 : Nat → List (S67) → List (S65) → Int → Option (Int × Int)
 | 0, _, _, _ => none
 | k + 1, x0, x1, x5 => if x5 < (x0.length : Int) then (if 0 ≤ x5 then ((oculusref06_may.f ((rd_T67 x0 x5).f1.f0) ((rd_T67 x0 x5).f1.f1)).bind fun t103 => (if t103 = true then ((oculusref06_may.f ((rd_T67 x0 x5).f2.f0) ((rd_T67 x0 x5).f2.f1)).bind fun t105 => (oculusref06_Grants.j1 k x0 x1 x5 0 (!t105))) else (oculusref06_Grants.j1 k x0 x1 x5 0 true))) else (none)) else (some (0, 0))
def oculusref06_Grants.j1 : Nat → List (S67) → List (S65) → Int → Int → Bool → Option (Int × Int)
 | 0, _, _, _, _, _ => none
 | k + 1, x0, x1, x5, x6, x28 => if x28 = true then (oculusref06_Grants.j2 k x0 x1 x5 7) else (oculusref06_Grants.j2 k x0 x1 x5 x6)
def oculusref06_Grants.j2 : Nat → List (S67) → List (S65) → Int → Int → Option (Int × Int)
 | 0, _, _, _, _ => none
 | k + 1, x0, x1, x5, x6 => if 0 ≤ x5 then (if x5 < (x0.length : Int) then ((oculusref06_Find.f k x1 ((rd_T67 x0 x5).f0)).bind fun t107 => (if t107 < 0 then (oculusref06_Grants.j3 k x0 x1 x5 11) else (oculusref06_Grants.j3 k x0 x1 x5 x6))) else (none)) else (none)
def oculusref06_Grants.j3 : Nat → List (S67) → List (S65) → Int → Int → Option (Int × Int)
 | 0, _, _, _, _ => none
 | k + 1, x0, x1, x5, x6 => if x5 > 31 then (some (x5, 10)) else (if x6 = 0 then (oculusref06_Grants.l0 k x0 x1 (wrap64 (x5 + 1))) else (some (x5, x6)))
end
def oculusref06_Grants.f (k : Nat) (l0 : List (S67)) (l1 : List (S65)) : Option (Int × Int) := oculusref06_Grants.l0 k l0 l1 0
set_option maxHeartbeats 8000000 in
set_option maxRecDepth 100000 in
theorem oculusref06_Grants.calls (k : Nat) (A0 : Option Addr) (c0 : Nat) (l0 : List (S67)) (A1 : Option Addr) (c1 : Nat) (l1 : List (S65)) (r1 : Int) (r2 : Int) (w : World) (hr0 : Kd.C k67 w A0 l0.length l0) (hc0 : l0.length ≤ c0) (hr1 : Kd.C k65 w A1 l1.length l1) (hc1 : l1.length ≤ c1) (h : oculusref06_Grants.f k l0 l1 = some (r1, r2)) :
  Calls Tryd.prog 31 #[.slice A0 l0.length c0, .slice A1 l1.length c1] w fun e w' => e = .returned (.agg #[.int .i64 r1, .int .i64 r2]) ∧ Below w.heap.size w w' := by
 have hu34 := Tryd.underlying34; have hu59 := Tryd.underlying59; have HR0 := Aside0.mk hr0; have HC0 := Aside0.mk hc0; clear hr0 hc0; have HR1 := Aside0.mk hr1; have HC1 := Aside0.mk hc1; clear hr1 hc1; have HB := Aside0.mk (Below.refl w.heap.size w)
 have H : (oculusref06_Grants.l0 k l0 l1 0) = some (r1, r2) := h
 clear h
 have H' := Aside0.mk H
 clear H
 go_enter Tryd.func31, Tryd.ntmps31
 go_wp2_with (first | ((with_reducible refine gate_dst (N:=4) rfl ?_); refine be_ (N:=4) (cs := #[.int .i64 0, .int .i64 0]) (t:=34) ?_; intro gb101 hg w3 hbox hb; have BK101 := Aside0.mk (hbox); have GW101 := hs_ HB hg; have GE101 := hs_ HB hg; replace HB := bs_ HB hb; clear hb hbox hg))
 go_loopg [5] k (fun kq v5 w' => ∃ (x5_1 : Int) (x102000_1 : Int) (x102001_1 : Int), v5 = .int .i64 x5_1 ∧ Aside0 (oculusref06_Grants.l0 kq l0 l1 x5_1 = some (r1, r2)) ∧ Aside0 (kq ≤ k) ∧ Aside0 (w'.heap[gb101]? = some (.cells #[.int .i64 x102000_1, .int .i64 x102001_1] 34 (0, 0))) ∧ Aside0 (Below w.heap.size w w'))
 case atStart => exact ⟨(0), (0), (0), (by first | rfl | (simp; done) | (simp [*]; done)), H', ⟨Nat.le_refl _⟩, ⟨pkx BK101⟩, ⟨pbx HB⟩⟩
 case round =>
  clear H'; (try clear c1); (try clear p2); (try clear c3); obtain ⟨x5_1, x102000_1, x102001_1, rfl, HA, HK1, BK101, HB⟩ := hrel
  cases gk with
  | zero => exact absurd HA.out (by simp [oculusref06_Grants.l0])
  | succ k1 =>
   have H := HA.out; clear HA
   simp only [oculusref06_Grants.l0] at H
   by_cases c4 : x5_1 < (l0.length : Int)
   ·rw [if_pos c4] at H; have c4b0 : decide (x5_1 < (l0.length : Int)) = true := decide_eq_true c4; clear c4; have HC5 := Aside0.mk H; clear H
    go_upto_region 5 with (fail)
    go_cut [28] (fun v28 wc => ∃ (kq : Nat) (x28_4 : Bool), v28 = .bool x28_4 ∧ Aside0 (oculusref06_Grants.j1 kq l0 l1 x5_1 0 x28_4 = some (r1, r2)) ∧ Aside0 (kq ≤ k1) ∧ Aside0 (wc.heap[gb101]? = some (.cells #[.int .i64 x102000_1, .int .i64 x102001_1] 34 (0, 0))) ∧ Aside0 (Below w.heap.size w wc))
    case first =>
     have H := HC5.out; clear HC5
     by_cases c6 : 0 ≤ x5_1
     ·rw [if_pos c6] at H; have c6b0 : decide (0 ≤ x5_1) = true := decide_eq_true c6; clear c6; (first | rw [c6b0] | (simp only [i64_w, i32_w]; rw [c6b0]) | skip)
      replace H := Option.bind_eq_some_iff.mp H; obtain ⟨t103, A70, H⟩ := H
      replace H : (if t103 = true then ((oculusref06_may.f ((rd_T67 l0 x5_1).f2.f0) ((rd_T67 l0 x5_1).f2.f1)).bind fun t105 => (oculusref06_Grants.j1 k1 l0 l1 x5_1 0 (!t105))) else (oculusref06_Grants.j1 k1 l0 l1 x5_1 0 true)) = some (r1, r2) := H
      have A7 := Aside0.mk A70; clear A70
      by_cases c8 : t103 = true
      ·subst c8
       have H1 : ((oculusref06_may.f ((rd_T67 l0 x5_1).f2.f0) ((rd_T67 l0 x5_1).f2.f1)).bind fun t105 => (oculusref06_Grants.j1 k1 l0 l1 x5_1 0 (!t105))) = some (r1, r2) := by rw [if_pos rfl] at H; exact H
       clear H; have H := H1; clear H1; replace H := Option.bind_eq_some_iff.mp H; obtain ⟨t105, A90, H⟩ := H
       replace H : (oculusref06_Grants.j1 k1 l0 l1 x5_1 0 (!t105)) = some (r1, r2) := H
       have A9 := Aside0.mk A90; clear A90
       have H' := Aside0.mk H
       clear H
       have p102 : 0 ≤ (x5_1 : Int) := of_decide_eq_true (by first | (with_reducible assumption) | assumption)
       have q102 : x5_1 < (l0.length : Int) := of_decide_eq_true (by first | (with_reducible assumption) | assumption)
       obtain ⟨ad102, e102, hx102_0, hx102_1, hx102_2, hx102_3, hx102_4⟩ := at_T67 HR0.out x5_1 p102 q102
       cases e102
       replace hx102_0 := (HB.out.cell (World.block_lt_of_cell? w _ hx102_0)).trans hx102_0; replace hx102_1 := (HB.out.cell (World.block_lt_of_cell? w _ hx102_1)).trans hx102_1; replace hx102_2 := (HB.out.cell (World.block_lt_of_cell? w _ hx102_2)).trans hx102_2; replace hx102_3 := (HB.out.cell (World.block_lt_of_cell? w _ hx102_3)).trans hx102_3; replace hx102_4 := (HB.out.cell (World.block_lt_of_cell? w _ hx102_4)).trans hx102_4; replace p102 := eq_true p102; replace q102 := eq_true q102
       go_wp2_with (first | ((with_reducible refine gate_callee (f:=52) rfl ?_); refine gL_ (some 18) rfl rfl Tryd.func52 rfl #[.agg #[.int .i64 ((rd_T67 l0 x5_1).f1.f0), .int .u64 ((rd_T67 l0 x5_1).f1.f1)]] rfl ?_; (with_reducible refine (oculusref06_may.calls ((rd_T67 l0 x5_1).f1.f0) ((rd_T67 l0 x5_1).f1.f1) true _ A7.out).mono ?_); rintro e w10 ⟨rfl, hb⟩; refine ⟨_, rfl, ?_⟩; replace BK101 := bb_ BK101 hb; replace HB := bs_ HB hb; (try clear hb); (try clear hb2); (try clear hk); (try clear hi); have p104 : 0 ≤ (x5_1 : Int) := of_decide_eq_true (by first | (with_reducible assumption) | assumption); have q104 : x5_1 < (l0.length : Int) := of_decide_eq_true (by first | (with_reducible assumption) | assumption); obtain ⟨ad104, e104, hx104_0, hx104_1, hx104_2, hx104_3, hx104_4⟩ := at_T67 HR0.out x5_1 p104 q104; obtain rfl : ad102 = ad104 := (by injection e104); replace hx104_0 := (HB.out.cell (World.block_lt_of_cell? w _ hx104_0)).trans hx104_0; replace hx104_1 := (HB.out.cell (World.block_lt_of_cell? w _ hx104_1)).trans hx104_1; replace hx104_2 := (HB.out.cell (World.block_lt_of_cell? w _ hx104_2)).trans hx104_2; replace hx104_3 := (HB.out.cell (World.block_lt_of_cell? w _ hx104_3)).trans hx104_3; replace hx104_4 := (HB.out.cell (World.block_lt_of_cell? w _ hx104_4)).trans hx104_4; replace p104 := eq_true p104; replace q104 := eq_true q104) | (go_at_call 52; (with_reducible refine (oculusref06_may.calls ((rd_T67 l0 x5_1).f2.f0) ((rd_T67 l0 x5_1).f2.f1) t105 _ A9.out).mono ?_); rintro e w11 ⟨rfl, hb⟩; replace BK101 := bb_ BK101 hb; replace HB := bs_ HB hb; (try clear hb); (try clear hb2); (try clear hk); (try clear hi)))
       go_meet
       case rel => exact ⟨_, (!t105), (by first | rfl | (simp; done) | (simp [*]; done) | (cases t105 <;> simp; done)), H', ⟨by have := HK1.out; first | omega | exact Nat.le_refl _⟩, ⟨pkx BK101⟩, ⟨pbx HB⟩⟩
      ·replace c8 := Bool.eq_false_iff.mpr c8; subst c8
       have H1 : (oculusref06_Grants.j1 k1 l0 l1 x5_1 0 true) = some (r1, r2) := by rw [if_neg (show ¬ (false = true) by decide)] at H; exact H
       clear H; have H := H1; clear H1
       have H' := Aside0.mk H
       clear H
       have p102 : 0 ≤ (x5_1 : Int) := of_decide_eq_true (by first | (with_reducible assumption) | assumption)
       have q102 : x5_1 < (l0.length : Int) := of_decide_eq_true (by first | (with_reducible assumption) | assumption)
       obtain ⟨ad102, e102, hx102_0, hx102_1, hx102_2, hx102_3, hx102_4⟩ := at_T67 HR0.out x5_1 p102 q102
       cases e102
       replace hx102_0 := (HB.out.cell (World.block_lt_of_cell? w _ hx102_0)).trans hx102_0; replace hx102_1 := (HB.out.cell (World.block_lt_of_cell? w _ hx102_1)).trans hx102_1; replace hx102_2 := (HB.out.cell (World.block_lt_of_cell? w _ hx102_2)).trans hx102_2; replace hx102_3 := (HB.out.cell (World.block_lt_of_cell? w _ hx102_3)).trans hx102_3; replace hx102_4 := (HB.out.cell (World.block_lt_of_cell? w _ hx102_4)).trans hx102_4; replace p102 := eq_true p102; replace q102 := eq_true q102
       go_wp2_with (first | ((with_reducible refine gate_callee (f:=52) rfl ?_); refine gL_ (some 18) rfl rfl Tryd.func52 rfl #[.agg #[.int .i64 ((rd_T67 l0 x5_1).f1.f0), .int .u64 ((rd_T67 l0 x5_1).f1.f1)]] rfl ?_; (with_reducible refine (oculusref06_may.calls ((rd_T67 l0 x5_1).f1.f0) ((rd_T67 l0 x5_1).f1.f1) false _ A7.out).mono ?_); rintro e w12 ⟨rfl, hb⟩; refine ⟨_, rfl, ?_⟩; replace BK101 := bb_ BK101 hb; replace HB := bs_ HB hb; (try clear hb); (try clear hb2); (try clear hk); (try clear hi)))
       go_meet
       case rel => exact ⟨_, (true), (by first | rfl | (simp; done) | (simp [*]; done)), H', ⟨by have := HK1.out; first | omega | exact Nat.le_refl _⟩, ⟨pkx BK101⟩, ⟨pbx HB⟩⟩
     ·rw [if_neg c6] at H
      exact absurd H (by simp)
    case rest =>
     clear HC5; (try clear c1); (try clear p1); (try clear q1); (try clear hx1); (try clear p2); (try clear c3); (try clear c4); (try clear c4b0); (try clear c5); (try clear c6); (try clear c6b0); (try clear c8); (try clear p10); (try clear q10); (try clear hx10); (try clear hx102_0); (try clear hx102_1); (try clear hx102_2); (try clear hx102_3); (try clear hx102_4); (try clear hx104_0); (try clear hx104_1); (try clear hx104_2); (try clear hx104_3); (try clear hx104_4); (try clear p102); (try clear p104); (try clear p2); (try clear q102); (try clear q104); obtain ⟨kq, x28_4, rfl, HA, HJ4, BK101, HB⟩ := hcut
     cases kq with
     | zero => exact absurd HA.out (by simp [oculusref06_Grants.j1])
     | succ kj4 =>
      have H := HA.out; clear HA
      simp only [oculusref06_Grants.j1] at H
      have HC13 := Aside0.mk H; clear H
      go_upto_if 28 with (fail)
      go_cut [6] (fun v6 wc => ∃ (kq : Nat) (x6_12 : Int), v6 = .int .i64 x6_12 ∧ Aside0 (oculusref06_Grants.j2 kq l0 l1 x5_1 x6_12 = some (r1, r2)) ∧ Aside0 (kq ≤ kj4) ∧ Aside0 (wc.heap[gb101]? = some (.cells #[.int .i64 x102000_1, .int .i64 x102001_1] 34 (0, 0))) ∧ Aside0 (Below w.heap.size w wc))
      case first =>
       have H := HC13.out; clear HC13
       by_cases c14 : x28_4 = true
       ·subst c14
        have H1 : (oculusref06_Grants.j2 kj4 l0 l1 x5_1 7) = some (r1, r2) := by rw [if_pos rfl] at H; exact H
        clear H; have H := H1; clear H1
        have H' := Aside0.mk H
        clear H
        go_wp2
        go_meet
        case rel => exact ⟨_, (7), (by first | rfl | (simp; done) | (simp [*]; done)), H', ⟨by have := HK1.out; have := HJ4.out; first | omega | exact Nat.le_refl _⟩, ⟨pkx BK101⟩, ⟨pbx HB⟩⟩
       ·replace c14 := Bool.eq_false_iff.mpr c14; subst c14
        have H1 : (oculusref06_Grants.j2 kj4 l0 l1 x5_1 0) = some (r1, r2) := by rw [if_neg (show ¬ (false = true) by decide)] at H; exact H
        clear H; have H := H1; clear H1
        have H' := Aside0.mk H
        clear H
        go_wp2
        go_meet
        case rel => exact ⟨_, (0), (by first | rfl | (simp; done) | (simp [*]; done)), H', ⟨by have := HK1.out; have := HJ4.out; first | omega | exact Nat.le_refl _⟩, ⟨pkx BK101⟩, ⟨pbx HB⟩⟩
      case rest =>
       clear HC13; (try clear c1); (try clear p1); (try clear q1); (try clear hx1); (try clear p2); (try clear c3); (try clear c4); (try clear c4b0); (try clear c5); (try clear c6); (try clear c6b0); (try clear c8); (try clear p10); (try clear q10); (try clear hx10); (try clear c14); (try clear hx102_0); (try clear hx102_1); (try clear hx102_2); (try clear hx102_3); (try clear hx102_4); (try clear hx104_0); (try clear hx104_1); (try clear hx104_2); (try clear hx104_3); (try clear hx104_4); (try clear p1); (try clear p10); (try clear p102); (try clear p104); (try clear p2); (try clear q1); (try clear q10); (try clear q102); (try clear q104); obtain ⟨kq, x6_12, rfl, HA, HJ12, BK101, HB⟩ := hcut
       cases kq with
       | zero => exact absurd HA.out (by simp [oculusref06_Grants.j2])
       | succ kj12 =>
        have H := HA.out; clear HA
        simp only [oculusref06_Grants.j2] at H
        by_cases c15 : 0 ≤ x5_1
        ·rw [if_pos c15] at H; have c15b0 : decide (0 ≤ x5_1) = true := decide_eq_true c15; clear c15
         by_cases c16 : x5_1 < (l0.length : Int)
         ·rw [if_pos c16] at H; have c16b0 : decide (x5_1 < (l0.length : Int)) = true := decide_eq_true c16; clear c16; replace H := Option.bind_eq_some_iff.mp H; obtain ⟨t107, A170, H⟩ := H
          replace H : (if t107 < 0 then (oculusref06_Grants.j3 kj12 l0 l1 x5_1 11) else (oculusref06_Grants.j3 kj12 l0 l1 x5_1 x6_12)) = some (r1, r2) := H
          have A17 := Aside0.mk A170; clear A170; have HC18 := Aside0.mk H; clear H
          have p106 : 0 ≤ (x5_1 : Int) := of_decide_eq_true (by first | (with_reducible assumption) | assumption)
          have q106 : x5_1 < (l0.length : Int) := of_decide_eq_true (by first | (with_reducible assumption) | assumption)
          obtain ⟨ad106, e106, hx106_0, hx106_1, hx106_2, hx106_3, hx106_4⟩ := at_T67 HR0.out x5_1 p106 q106
          cases e106
          replace hx106_0 := (HB.out.cell (World.block_lt_of_cell? w _ hx106_0)).trans hx106_0; replace hx106_1 := (HB.out.cell (World.block_lt_of_cell? w _ hx106_1)).trans hx106_1; replace hx106_2 := (HB.out.cell (World.block_lt_of_cell? w _ hx106_2)).trans hx106_2; replace hx106_3 := (HB.out.cell (World.block_lt_of_cell? w _ hx106_3)).trans hx106_3; replace hx106_4 := (HB.out.cell (World.block_lt_of_cell? w _ hx106_4)).trans hx106_4; replace p106 := eq_true p106; replace q106 := eq_true q106
          go_upto_if 36 with (first | ((with_reducible refine gate_callee (f:=53) rfl ?_); refine gL_ (some 35) rfl rfl Tryd.func53 rfl #[.slice A1 l1.length c1, .string ((rd_T67 l0 x5_1).f0)] rfl ?_; (with_reducible refine (oculusref06_Find.calls kj12 _ _ l1 ((rd_T67 l0 x5_1).f0) t107 _ ?side1 ?side2 A17.out).mono ?_); (case side1 => repeat (first | exact (Kd.C_below HR1.out HB.out) | (with_reducible refine Kd.C_alloc ?_ _) | (with_reducible refine Kd.C_drewN ?_ _) | (with_reducible refine Kd.C_drew ?_))); (case side2 => exact HC1.out); rintro e w' ⟨rfl, ⟨nd, rfl⟩⟩; refine ⟨_, rfl, ?_⟩))
          (try simp only [q_])
          go_cut [6] (fun v6 wc => ∃ (kq : Nat) (x6_17 : Int), v6 = .int .i64 x6_17 ∧ Aside0 (oculusref06_Grants.j3 kq l0 l1 x5_1 x6_17 = some (r1, r2)) ∧ Aside0 (kq ≤ kj12) ∧ Aside0 (wc.heap[gb101]? = some (.cells #[.int .i64 x102000_1, .int .i64 x102001_1] 34 (0, 0))) ∧ Aside0 (Below w.heap.size w wc))
          case first =>
           have H := HC18.out; clear HC18
           by_cases c19 : t107 < 0
           ·rw [if_pos c19] at H; have c19b0 : decide (t107 < 0) = true := decide_eq_true c19; clear c19; (first | rw [c19b0] | (simp only [i64_w, i32_w]; rw [c19b0]) | skip)
            have H' := Aside0.mk H
            clear H
            go_wp2
            go_meet
            case rel => exact ⟨_, (11), (by first | rfl | (simp; done) | (simp [*]; done)), H', ⟨by have := HK1.out; have := HJ4.out; have := HJ12.out; first | omega | exact Nat.le_refl _⟩, ⟨pkx BK101⟩, ⟨pbx HB⟩⟩
           ·rw [if_neg c19] at H; have c19b0 : decide (t107 < 0) = false := decide_eq_false c19; clear c19; (first | rw [c19b0] | (simp only [i64_w, i32_w]; rw [c19b0]) | skip)
            have H' := Aside0.mk H
            clear H
            go_wp2
            go_meet
            case rel => exact ⟨_, (x6_12), (by first | rfl | (simp; done) | (simp [*]; done)), H', ⟨by have := HK1.out; have := HJ4.out; have := HJ12.out; first | omega | exact Nat.le_refl _⟩, ⟨pkx BK101⟩, ⟨pbx HB⟩⟩
          case rest =>
           clear HC18; (try clear c1); (try clear p1); (try clear q1); (try clear hx1); (try clear p2); (try clear c3); (try clear c4); (try clear c4b0); (try clear c5); (try clear c6); (try clear c6b0); (try clear c8); (try clear p10); (try clear q10); (try clear hx10); (try clear c14); (try clear c15); (try clear c15b0); (try clear c16); (try clear c16b0); (try clear c19); (try clear c19b0); (try clear hx102_0); (try clear hx102_1); (try clear hx102_2); (try clear hx102_3); (try clear hx102_4); (try clear hx104_0); (try clear hx104_1); (try clear hx104_2); (try clear hx104_3); (try clear hx104_4); (try clear hx106_0); (try clear hx106_1); (try clear hx106_2); (try clear hx106_3); (try clear hx106_4); (try clear p1); (try clear p10); (try clear p102); (try clear p104); (try clear p106); (try clear p2); (try clear q1); (try clear q10); (try clear q102); (try clear q104); (try clear q106); obtain ⟨kq, x6_17, rfl, HA, HJ17, BK101, HB⟩ := hcut
           cases kq with
           | zero => exact absurd HA.out (by simp [oculusref06_Grants.j3])
           | succ kj17 =>
            have H := HA.out; clear HA
            simp only [oculusref06_Grants.j3] at H
            by_cases c20 : x5_1 > 31
            ·rw [if_pos c20] at H; have c20b0 : decide (31 < x5_1) = true := decide_eq_true c20; clear c20
             simp only [Option.some.injEq, Prod.mk.injEq] at H
             obtain ⟨rfl, rfl⟩ := H
             have hcz21_0 : wc.cell? ⟨gb101, 0, none⟩ = some (.int .i64 x102000_1) := bc_ BK101 0 rfl
             have hcz21_1 : wc.cell? ⟨gb101, 1, none⟩ = some (.int .i64 x102001_1) := bc_ BK101 1 rfl
             have hfz21_0 := blk_frozen BK101.out 0; have hfz21_1 := blk_frozen BK101.out 1
             go_wp2
             refine bodyPost_ret (results_cell_row rfl _ _ gb101 34 #[.int .i64 x5_1, .int .i64 10] (0, 0) _ rfl (by refine pp_ (cs := #[.int .i64 x5_1, .int .i64 x102001_1]) 1 ?_ rfl; refine blk_put (cs := #[.int .i64 x102000_1, .int .i64 x102001_1]) ?_ 0 _ rfl; exact pkx BK101) Tryd.underlying34 rfl (by kernel_rfl)) rfl ?_
             exact ⟨by first | rfl | (simp [errW_none, errW_some] <;> rfl) | (simp [*, errW_none, errW_some] <;> rfl), by repeat (first | (with_reducible first | exact HB.out | apply below_alloc | apply pw_below_drewN | apply below_drew1 | refine below_set ?_ GE101.out) | exact HB.out)⟩
            ·rw [if_neg c20] at H; have c20b0 : decide (31 < x5_1) = false := decide_eq_false c20; clear c20
             by_cases c22 : x6_17 = 0
             ·rw [if_pos c22] at H; have c22b0 : (x6_17 == 0) = true := beq_iff_eq.mpr c22; have c22b1 : (x6_17 != 0) = false := bne_eq_false_iff_eq.mpr c22; clear c22
              have H' := Aside0.mk H
              clear H
              go_wp2
              go_roundg kj17
              case measure => have := HK1.out; have := HJ4.out; have := HJ12.out; have := HJ17.out; omega
              case rel => exact ⟨(wrap64 (x5_1 + 1)), (x102000_1), (x102001_1), (by first | rfl | (simp; done) | (simp [*]; done)), H', ⟨by have := HK1.out; have := HJ4.out; have := HJ12.out; have := HJ17.out; omega⟩, ⟨pkx BK101⟩, ⟨pbx HB⟩⟩
             ·rw [if_neg c22] at H; have c22b0 : (x6_17 == 0) = false := beq_eq_false_iff_ne.mpr c22; have c22b1 : (x6_17 != 0) = true := bne_iff_ne.mpr c22
              simp only [Option.some.injEq, Prod.mk.injEq] at H
              obtain ⟨rfl, rfl⟩ := H
              have hcz23_0 : wc.cell? ⟨gb101, 0, none⟩ = some (.int .i64 x102000_1) := bc_ BK101 0 rfl
              have hcz23_1 : wc.cell? ⟨gb101, 1, none⟩ = some (.int .i64 x102001_1) := bc_ BK101 1 rfl
              have hfz23_0 := blk_frozen BK101.out 0; have hfz23_1 := blk_frozen BK101.out 1
              go_wp2
              refine bodyPost_ret (results_cell_row rfl _ _ gb101 34 #[.int .i64 x5_1, .int .i64 x6_17] (0, 0) _ rfl (by refine pp_ (cs := #[.int .i64 x5_1, .int .i64 x102001_1]) 1 ?_ rfl; refine blk_put (cs := #[.int .i64 x102000_1, .int .i64 x102001_1]) ?_ 0 _ rfl; exact pkx BK101) Tryd.underlying34 rfl (by kernel_rfl)) rfl ?_
              exact ⟨by first | rfl | (simp [errW_none, errW_some] <;> rfl) | (simp [*, errW_none, errW_some] <;> rfl), by repeat (first | (with_reducible first | exact HB.out | apply below_alloc | apply pw_below_drewN | apply below_drew1 | refine below_set ?_ GE101.out) | exact HB.out)⟩
         ·rw [if_neg c16] at H
          exact absurd H (by simp)
        ·rw [if_neg c15] at H
         exact absurd H (by simp)
   ·rw [if_neg c4] at H; have c4b0 : decide (x5_1 < (l0.length : Int)) = false := decide_eq_false c4; clear c4
    simp only [Option.some.injEq, Prod.mk.injEq] at H
    obtain ⟨rfl, rfl⟩ := H
    have hcz24_0 : wr.cell? ⟨gb101, 0, none⟩ = some (.int .i64 x102000_1) := bc_ BK101 0 rfl
    have hcz24_1 : wr.cell? ⟨gb101, 1, none⟩ = some (.int .i64 x102001_1) := bc_ BK101 1 rfl
    have hfz24_0 := blk_frozen BK101.out 0; have hfz24_1 := blk_frozen BK101.out 1
    go_wp2
    refine bodyPost_ret (results_cell_row rfl _ _ gb101 34 #[.int .i64 0, .int .i64 0] (0, 0) _ rfl (by refine pp_ (cs := #[.int .i64 0, .int .i64 x102001_1]) 1 ?_ rfl; refine blk_put (cs := #[.int .i64 x102000_1, .int .i64 x102001_1]) ?_ 0 _ rfl; exact pkx BK101) Tryd.underlying34 rfl (by kernel_rfl)) rfl ?_
    exact ⟨by first | rfl | (simp [errW_none, errW_some] <;> rfl) | (simp [*, errW_none, errW_some] <;> rfl), by repeat (first | (with_reducible first | exact HB.out | apply below_alloc | apply pw_below_drewN | apply below_drew1 | refine below_set ?_ GE101.out) | exact HB.out)⟩

end Go.Proofs.YtbboanfggaknjaaDoor.X
