/- Contracts of the functions that the law PolicyTells reaches, and what they answer (a session's own texts, joined; part 6). -/
import Derived.Deep.Slices
import Derived.ChangeArms
import Derived.SizedLaws
import Derived.OpenShut
import Derived.Lib.TrailingZeros
import Derived.Lib.SplitLaws
import Derived.Test.YtbboanfggaknjaaDoorBPolicyTells5
namespace Go.Proofs.YtbboanfggaknjaaDoor.X
open Go.RowKit Go.Proofs.YtbboanfggaknjaaDoorW.PrintWords Go.Proofs.YtbboanfggaknjaaDoorW.PrintLast Go.Proofs.YtbboanfggaknjaaDoorW.PrintMore
attribute [local go_sem] max2_int min2_int max_two min_two max_three min_three max_four min_four
set_option linter.unusedVariables false
set_option linter.unusedSimpArgs false
attribute [local go_sem high] eqA59
mutual
def oculusref02_Text.j0 : Nat → Bool → Int → Int → Option (ByteArray)
 | 0, _, _, _ => none
 | k + 1, x11, x102000, x102001 => if x11 = true then (some (⟨#[]⟩ : ByteArray)) else ((oculusref02_Top.f k).bind fun bt102 => (oculusref02_Text.j1 k (x102000 == bt102.1 && (x102001 == bt102.2)) x102000 x102001))
def oculusref02_Text.j1 : Nat → Bool → Int → Int → Option (ByteArray)
 | 0, _, _, _ => none
 | k + 1, x14, x102000, x102001 => if x14 = true then (some (⟨#[116, 111, 112]⟩ : ByteArray)) else ((oculusref01_Digits.f k x102000).bind fun t104 => (if x102001 = 0 then (some t104) else (if t104.size + 1 ≤ 9223372036854775807 then ((oculusref01_Text.f k x102001).bind fun t105 => (if (t104 ++ (⟨#[58]⟩ : ByteArray)).size + t105.size ≤ 9223372036854775807 then (some ((t104 ++ (⟨#[58]⟩ : ByteArray)) ++ t105)) else (none))) else (none))))
end
def oculusref02_Text.f (k : Nat) (a0_0 : Int) (a0_1 : Int) : Option (ByteArray) := if a0_0 < 0 then (oculusref02_Text.j0 k true a0_0 a0_1) else (oculusref02_Text.j0 k (decide (a0_0 > 15)) a0_0 a0_1)
theorem oculusref02_Text.mono_l : ∀ k, (∀ y0 y1 y2, LeO (oculusref02_Text.j0 k y0 y1 y2) (oculusref02_Text.j0 (k + 1) y0 y1 y2)) ∧ (∀ y0 y1 y2, LeO (oculusref02_Text.j1 k y0 y1 y2) (oculusref02_Text.j1 (k + 1) y0 y1 y2))
 | 0 => ⟨fun _ _ _ r h => by simp [oculusref02_Text.j0] at h, fun _ _ _ r h => by simp [oculusref02_Text.j1] at h⟩
 | k + 1 => by
  obtain ⟨ih0, ih1⟩ := oculusref02_Text.mono_l k
  refine ⟨?_, ?_⟩
  ·intro y0 y1 y2
   unfold oculusref02_Text.j0
   repeat' first
   | (with_reducible exact ih0 _ _ _)
   | (with_reducible exact ih1 _ _ _)
   | (with_reducible exact oculusref01_Digits.mono _ _)
   | (with_reducible exact oculusref01_Text.mono _ _)
   | (with_reducible exact oculusref02_Top.mono _)
   | (with_reducible exact LeO.refl _)
   | (with_reducible exact LeO.none _)
   | (with_reducible refine LeO.ite ?_ ?_)
   | (with_reducible refine LeO.bind ?_ (fun _ => ?_))
  ·intro y0 y1 y2
   unfold oculusref02_Text.j1
   repeat' first
   | (with_reducible exact ih0 _ _ _)
   | (with_reducible exact ih1 _ _ _)
   | (with_reducible exact oculusref01_Digits.mono _ _)
   | (with_reducible exact oculusref01_Text.mono _ _)
   | (with_reducible exact oculusref02_Top.mono _)
   | (with_reducible exact LeO.refl _)
   | (with_reducible exact LeO.none _)
   | (with_reducible refine LeO.ite ?_ ?_)
   | (with_reducible refine LeO.bind ?_ (fun _ => ?_))
theorem oculusref02_Text.mono : ∀ a0 a1 k, LeO (oculusref02_Text.f k a0 a1) (oculusref02_Text.f (k + 1) a0 a1) := by
 intro a0 a1 k; obtain ⟨ih0, ih1⟩ := oculusref02_Text.mono_l k
 unfold oculusref02_Text.f
 repeat' first
   | (with_reducible exact ih0 _ _ _)
   | (with_reducible exact ih1 _ _ _)
   | (with_reducible exact oculusref01_Digits.mono _ _)
   | (with_reducible exact oculusref01_Text.mono _ _)
   | (with_reducible exact oculusref02_Top.mono _)
   | (with_reducible exact LeO.refl _)
   | (with_reducible exact LeO.none _)
   | (with_reducible refine LeO.ite ?_ ?_)
   | (with_reducible refine LeO.bind ?_ (fun _ => ?_))
set_option maxHeartbeats 8000000 in
set_option maxRecDepth 100000 in
theorem oculusref02_Text.calls (k : Nat) (a0_0 : Int) (a0_1 : Int) (r : ByteArray) (w : World) (h : oculusref02_Text.f k a0_0 a0_1 = some r) :
  Calls Tryd.prog 25 #[.agg #[.int .i64 a0_0, .int .u64 a0_1]] w fun e w' => e = .returned (.string r) ∧ Below w.heap.size w w' := by
 have hu59 := Tryd.underlying59; have HB := Aside0.mk (Below.refl w.heap.size w)
 have H : (if a0_0 < 0 then (oculusref02_Text.j0 k true a0_0 a0_1) else (oculusref02_Text.j0 k (decide (a0_0 > 15)) a0_0 a0_1)) = some r := h
 clear h; have HC2 := Aside0.mk H; clear H
 go_enter Tryd.func25, Tryd.ntmps25
 go_upto_region 1 with (first | ((with_reducible refine gate_dst (N:=1) rfl ?_); refine be_ (N:=1) (cs := #[.int .i64 a0_0, .int .u64 a0_1]) (t:=59) ?_; intro gb101 hg w3 hbox hb; have BK101 := Aside0.mk (hbox); have GW101 := hs_ HB hg; have GE101 := hs_ HB hg; replace HB := bs_ HB hb; clear hb hbox hg))
 (try simp only [q_])
 go_cut [11] (fun v11 wc => ∃ (kq : Nat) (x11_1 : Bool), v11 = .bool x11_1 ∧ Aside0 (oculusref02_Text.j0 kq x11_1 a0_0 a0_1 = some r) ∧ Aside0 (kq ≤ k) ∧ Aside0 (wc.heap[gb101]? = some (.cells #[.int .i64 a0_0, .int .u64 a0_1] 59 (0, 0))) ∧ Aside0 (Below w.heap.size w wc))
 case first =>
  have H := HC2.out; clear HC2
  by_cases c4 : a0_0 < 0
  ·rw [if_pos c4] at H; have c4b0 : decide (a0_0 < 0) = true := decide_eq_true c4; clear c4; (first | rw [c4b0] | (simp only [i64_w, i32_w]; rw [c4b0]) | skip)
   have H' := Aside0.mk H
   clear H
   have hcz5_0 : w3.cell? ⟨gb101, 0, none⟩ = some (.int .i64 a0_0) := bc_ BK101 0 rfl
   have hcz5_1 : w3.cell? ⟨gb101, 1, none⟩ = some (.int .u64 a0_1) := bc_ BK101 1 rfl
   have hfz5_0 := blk_frozen BK101.out 0; have hfz5_1 := blk_frozen BK101.out 1
   go_wp2
   go_meet
   case rel => exact ⟨_, (true), (by first | rfl | (simp; done) | (simp [*]; done)), H', ⟨by first | omega | exact Nat.le_refl _⟩, ⟨pkx BK101⟩, ⟨pbx HB⟩⟩
  ·rw [if_neg c4] at H; have c4b0 : decide (a0_0 < 0) = false := decide_eq_false c4; clear c4; (first | rw [c4b0] | (simp only [i64_w, i32_w]; rw [c4b0]) | skip)
   have H' := Aside0.mk H
   clear H
   have hcz6_0 : w3.cell? ⟨gb101, 0, none⟩ = some (.int .i64 a0_0) := bc_ BK101 0 rfl
   have hcz6_1 : w3.cell? ⟨gb101, 1, none⟩ = some (.int .u64 a0_1) := bc_ BK101 1 rfl
   have hfz6_0 := blk_frozen BK101.out 0; have hfz6_1 := blk_frozen BK101.out 1
   go_wp2
   go_meet
   case rel => exact ⟨_, (decide (a0_0 > 15)), (by first | rfl | (simp; done) | (simp [*]; done)), H', ⟨by first | omega | exact Nat.le_refl _⟩, ⟨pkx BK101⟩, ⟨pbx HB⟩⟩
 case rest =>
  clear HC2; (try clear c2); (try clear p2); (try clear c4); (try clear c4b0); (try clear hcz5_0); (try clear hcz5_1); (try clear hcz6_0); (try clear hcz6_1); (try clear hfz5_0); (try clear hfz5_1); (try clear hfz6_0); (try clear hfz6_1); obtain ⟨kq, x11_1, rfl, HA, HJ1, BK101, HB⟩ := hcut
  cases kq with
  | zero => exact absurd HA.out (by simp [oculusref02_Text.j0])
  | succ kj1 =>
   have H := HA.out; clear HA
   simp only [oculusref02_Text.j0] at H
   by_cases c7 : x11_1 = true
   ·subst c7
    have H1 : (some (⟨#[]⟩ : ByteArray)) = some r := by rw [if_pos rfl] at H; exact H
    clear H; have H := H1; clear H1; obtain rfl := Option.some.inj H
    go_wp2
    go_ret
    exact ⟨by first | rfl | (simp [errW_none, errW_some] <;> rfl) | (simp [*, errW_none, errW_some] <;> rfl), pbx HB⟩
   ·replace c7 := Bool.eq_false_iff.mpr c7; subst c7
    have H1 : ((oculusref02_Top.f kj1).bind fun bt102 => (oculusref02_Text.j1 kj1 (a0_0 == bt102.1 && (a0_1 == bt102.2)) a0_0 a0_1)) = some r := by rw [if_neg (show ¬ (false = true) by decide)] at H; exact H
    clear H; have H := H1; clear H1; have HC8 := Aside0.mk H; clear H
    go_upto_region 3 with (fail)
    go_cut [14] (fun v14 wc => ∃ (kq : Nat) (x14_7 : Bool), v14 = .bool x14_7 ∧ Aside0 (oculusref02_Text.j1 kq x14_7 a0_0 a0_1 = some r) ∧ Aside0 (kq ≤ kj1) ∧ Aside0 (wc.heap[gb101]? = some (.cells #[.int .i64 a0_0, .int .u64 a0_1] 59 (0, 0))) ∧ Aside0 (Below w.heap.size w wc))
    case first =>
     have H := HC8.out; clear HC8; replace H := Option.bind_eq_some_iff.mp H; obtain ⟨⟨t102, t103⟩, A90, H⟩ := H
     replace H : (oculusref02_Text.j1 kj1 (a0_0 == t102 && (a0_1 == t103)) a0_0 a0_1) = some r := H
     have A9 := Aside0.mk A90; clear A90
     have H' := Aside0.mk H
     clear H
     try go_wp2
     (try (rw [drewN_self wc]; generalize hq_ : World.drewN wc _ = wc; have n0_ : Aside0 (wc.heap[gb101]? = some (.cells #[.int .i64 a0_0, .int .u64 a0_1] 59 (0, 0))) := ⟨by rw [← hq_]; exact (pkx BK101)⟩; have n1_ : Aside0 (Below w.heap.size w wc) := ⟨by rw [← hq_]; exact (pbx HB)⟩; clear BK101 HB hq_; have BK101 := n0_; have HB := n1_; clear n0_ n1_))
     replace BK101 := Aside0.mk (blk_drew BK101.out); replace HB := Aside0.mk (below_drew1 HB.out)
     refine start_ (n:=3) (S := fun w' => w'.cell? ⟨gb101, 0, none⟩ = some (.int .i64 a0_0) ∧ w'.cell? ⟨gb101, 1, none⟩ = some (.int .u64 a0_1)) (ds := []) #[F,F,F] (by kernel_rfl) rfl rfl ⟨bc_ BK101 0 rfl, bc_ BK101 1 rfl⟩ (fun hHeld => ?_)
     generalize wc.drew = w10 at BK101 HB hHeld ⊢; refine take_ (i:=0) (N:=some 12) (v:=?_) (a':=?_) #[T,F,F] rfl rfl (by kernel_rfl) (fun _ _ _ h=>h) (Or.inl ⟨rfl, ?_⟩) hHeld ?_ ?_; rotate_left
     ·rintro w' ⟨s0, s1⟩; go_simp; with_reducible rfl
     rotate_left
     ·simp only [q_, i64_w, i32_w]; rfl
     refine one_ (i:=1) (N:=some 13) #[T,T,F] rfl rfl (by kernel_rfl) (by decide) (fun K hK => ?_); refine goes_ Tryd.func45 (by kernel_rfl) rfl #[] (by rfl) rfl rfl (by (try simp only [List.map_toArray, List.map_cons, List.map_nil]); first | done | rfl | (simp only [List.length_drop, List.length_take]; rfl)) ?_; with_reducible refine (oculusref02_Top.calls kj1  t102 t103 _ A9.out).mono ?_; rintro e w11 ⟨rfl, hb⟩; refine ⟨_, rfl, ?_⟩
     replace BK101 := bb_ BK101 hb; replace HB := bs_ HB hb; (try clear hb); (try clear hb2); (try clear hk); (try clear hi); refine hK.out _ _ ⟨bc_ BK101 0 rfl, bc_ BK101 1 rfl⟩ (fun hHeld => ?_); clear hK K; refine norm_ (a':=?_) ?_ ?_; rotate_left
     ·show Act.put _ (some 13) _ = _; simp only [q_, i64_w, i32_w]; rfl
     refine pure_ (i:=2) (N:=some 14) (v:=?_) (a':=?_) #[T,T,T] rfl rfl (by kernel_rfl) (fun _ _ _ h=>h) (Or.inl ⟨rfl, ?_⟩) ?_ ?_; rotate_left
     ·intro w'; go_simp; with_reducible rfl
     rotate_left
     ·simp only [q_, i64_w, i32_w]; rfl
     refine done_ (by kernel_rfl) ?_
     try go_wp2
     go_meet
     case rel => exact ⟨_, ((a0_0 == t102 && (a0_1 == t103))), (by first | rfl | (simp; done) | (simp [*]; done) | (cases t102 <;> simp; done) | (cases t103 <;> simp; done)), H', ⟨by have := HJ1.out; first | omega | exact Nat.le_refl _⟩, ⟨pkx BK101⟩, ⟨pbx HB⟩⟩
    case rest =>
     clear HC8; (try clear c2); (try clear p2); (try clear c4); (try clear c4b0); (try clear c7); (try clear hcz5_0); (try clear hcz5_1); (try clear hcz6_0); (try clear hcz6_1); (try clear hfz5_0); (try clear hfz5_1); (try clear hfz6_0); (try clear hfz6_1); (try clear p2); obtain ⟨kq, x14_7, rfl, HA, HJ7, BK101, HB⟩ := hcut
     cases kq with
     | zero => exact absurd HA.out (by simp [oculusref02_Text.j1])
     | succ kj7 =>
      have H := HA.out; clear HA
      simp only [oculusref02_Text.j1] at H
      by_cases c12 : x14_7 = true
      ·subst c12
       have H1 : (some (⟨#[116, 111, 112]⟩ : ByteArray)) = some r := by rw [if_pos rfl] at H; exact H
       clear H; have H := H1; clear H1; obtain rfl := Option.some.inj H
       go_wp2
       go_ret
       exact ⟨by first | rfl | (simp [errW_none, errW_some] <;> rfl) | (simp [*, errW_none, errW_some] <;> rfl), pbx HB⟩
      ·replace c12 := Bool.eq_false_iff.mpr c12; subst c12
       have H1 : ((oculusref01_Digits.f kj7 a0_0).bind fun t104 => (if a0_1 = 0 then (some t104) else (if t104.size + 1 ≤ 9223372036854775807 then ((oculusref01_Text.f kj7 a0_1).bind fun t105 => (if (t104 ++ (⟨#[58]⟩ : ByteArray)).size + t105.size ≤ 9223372036854775807 then (some ((t104 ++ (⟨#[58]⟩ : ByteArray)) ++ t105)) else (none))) else (none)))) = some r := by rw [if_neg (show ¬ (false = true) by decide)] at H; exact H
       clear H; have H := H1; clear H1; replace H := Option.bind_eq_some_iff.mp H; obtain ⟨t104, A130, H⟩ := H
       replace H : (if a0_1 = 0 then (some t104) else (if t104.size + 1 ≤ 9223372036854775807 then ((oculusref01_Text.f kj7 a0_1).bind fun t105 => (if (t104 ++ (⟨#[58]⟩ : ByteArray)).size + t105.size ≤ 9223372036854775807 then (some ((t104 ++ (⟨#[58]⟩ : ByteArray)) ++ t105)) else (none))) else (none))) = some r := H
       have A13 := Aside0.mk A130; clear A130
       by_cases c14 : a0_1 = 0
       ·rw [if_pos c14] at H; have c14b0 : (a0_1 == 0) = true := beq_iff_eq.mpr c14; have c14b1 : (a0_1 != 0) = false := bne_eq_false_iff_eq.mpr c14; clear c14; obtain rfl := Option.some.inj H
        have hcz15_0 : wc.cell? ⟨gb101, 0, none⟩ = some (.int .i64 a0_0) := bc_ BK101 0 rfl
        have hcz15_1 : wc.cell? ⟨gb101, 1, none⟩ = some (.int .u64 a0_1) := bc_ BK101 1 rfl
        have hfz15_0 := blk_frozen BK101.out 0; have hfz15_1 := blk_frozen BK101.out 1
        go_wp2_with (first | ((with_reducible refine gate_callee (f:=23) rfl ?_); refine gL_ (some 17) rfl rfl Tryd.func23 rfl #[.int .i64 a0_0] rfl ?_; (with_reducible refine (oculusref01_Digits.calls kj7 a0_0 t104 _ A13.out).mono ?_); rintro e w16 ⟨rfl, hb⟩; refine ⟨_, rfl, ?_⟩; replace BK101 := bb_ BK101 hb; replace HB := bs_ HB hb; (try clear hb); (try clear hb2); (try clear hk); (try clear hi); have hcz17_0 : w16.cell? ⟨gb101, 0, none⟩ = some (.int .i64 a0_0) := bc_ BK101 0 rfl; have hcz17_1 : w16.cell? ⟨gb101, 1, none⟩ = some (.int .u64 a0_1) := bc_ BK101 1 rfl; have hfz17_0 := blk_frozen BK101.out 0; have hfz17_1 := blk_frozen BK101.out 1))
        go_ret
        exact ⟨by first | rfl | (simp [errW_none, errW_some] <;> rfl) | (simp [*, errW_none, errW_some] <;> rfl), pbx HB⟩
       ·rw [if_neg c14] at H; have c14b0 : (a0_1 == 0) = false := beq_eq_false_iff_ne.mpr c14; have c14b1 : (a0_1 != 0) = true := bne_iff_ne.mpr c14
        by_cases c18 : t104.size + 1 ≤ 9223372036854775807
        ·rw [if_pos c18] at H; have c18b0 := eq_true c18; have c18b1 : decide (t104.size + 1 ≤ 9223372036854775807) = true := decide_eq_true c18
         try have c18b2 : (9223372036854775807 < t104.size + 1) = False := eq_false (Nat.not_lt.2 c18)
         replace H := Option.bind_eq_some_iff.mp H; obtain ⟨t105, A190, H⟩ := H
         replace H : (if (t104 ++ (⟨#[58]⟩ : ByteArray)).size + t105.size ≤ 9223372036854775807 then (some ((t104 ++ (⟨#[58]⟩ : ByteArray)) ++ t105)) else (none)) = some r := H
         have A19 := Aside0.mk A190; clear A190
         by_cases c20 : (t104 ++ (⟨#[58]⟩ : ByteArray)).size + t105.size ≤ 9223372036854775807
         ·rw [if_pos c20] at H; have c20b0 := eq_true c20; have c20b1 : decide ((t104 ++ (⟨#[58]⟩ : ByteArray)).size + t105.size ≤ 9223372036854775807) = true := decide_eq_true c20
          try have c20b2 : (9223372036854775807 < (t104 ++ (⟨#[58]⟩ : ByteArray)).size + t105.size) = False := eq_false (Nat.not_lt.2 c20)
          try have c20b2z : (9223372036854775807 < t104.size + 1 + t105.size) = False := by have h9_ := c20b2; rw [ByteArray.size_append] at h9_; exact h9_
          obtain rfl := Option.some.inj H
          have hcz21_0 : wc.cell? ⟨gb101, 0, none⟩ = some (.int .i64 a0_0) := bc_ BK101 0 rfl
          have hcz21_1 : wc.cell? ⟨gb101, 1, none⟩ = some (.int .u64 a0_1) := bc_ BK101 1 rfl
          have hfz21_0 := blk_frozen BK101.out 0; have hfz21_1 := blk_frozen BK101.out 1
          go_wp2_with (first | ((with_reducible refine gate_callee (f:=23) rfl ?_); refine gL_ (some 17) rfl rfl Tryd.func23 rfl #[.int .i64 a0_0] rfl ?_; (with_reducible refine (oculusref01_Digits.calls kj7 a0_0 t104 _ A13.out).mono ?_); rintro e w22 ⟨rfl, hb⟩; refine ⟨_, rfl, ?_⟩; replace BK101 := bb_ BK101 hb; replace HB := bs_ HB hb; (try clear hb); (try clear hb2); (try clear hk); (try clear hi); have hcz23_0 : w22.cell? ⟨gb101, 0, none⟩ = some (.int .i64 a0_0) := bc_ BK101 0 rfl; have hcz23_1 : w22.cell? ⟨gb101, 1, none⟩ = some (.int .u64 a0_1) := bc_ BK101 1 rfl; have hfz23_0 := blk_frozen BK101.out 0; have hfz23_1 := blk_frozen BK101.out 1) | ((with_reducible refine gate_callee (f:=46) rfl ?_); refine gL_ (some 25) rfl rfl Tryd.func46 rfl #[.int .u64 a0_1] rfl ?_; (with_reducible refine (oculusref01_Text.calls kj7 a0_1 t105 _ A19.out).mono ?_); rintro e w24 ⟨rfl, hb⟩; refine ⟨_, rfl, ?_⟩; replace BK101 := bb_ BK101 hb; replace HB := bs_ HB hb; (try clear hb); (try clear hb2); (try clear hk); (try clear hi)))
          go_ret
          exact ⟨by first | rfl | (simp [errW_none, errW_some] <;> rfl) | (simp [*, errW_none, errW_some] <;> rfl), pbx HB⟩
         ·rw [if_neg c20] at H
          exact absurd H (by simp)
        ·rw [if_neg c18] at H
         exact absurd H (by simp)

end Go.Proofs.YtbboanfggaknjaaDoor.X
/- The reference's text of a policy: what it computes, walked by hand. -/
set_option linter.unusedVariables false
set_option linter.unusedSimpArgs false
namespace Go.Proofs.YtbboanfggaknjaaDoor.X
open Go.Sort Go.RowKit Go.Proofs.YtbboanfggaknjaaDoorW.PrintWords Go.Proofs.YtbboanfggaknjaaDoorW.PrintLast Go.Proofs.YtbboanfggaknjaaDoorW.PrintMore
attribute [local go_sem] Instr.field asAgg
abbrev bB : ByteArray := ⟨#[32]⟩
abbrev bN : ByteArray := ⟨#[10]⟩
def rtz (k : Nat) : ByteArray → List S61 → Option ByteArray
  | acc, [] => some acc
  | acc, z :: l => (oculusref04_Text.f k z.f0.f0.f0 z.f0.f0.f1 z.f0.f1.f0 z.f0.f1.f1).bind fun a => (oculusref02_Text.f k z.f1.f0 z.f1.f1).bind fun b =>
    if acc.size + a.size + b.size ≤ 2000000000 then rtz k (acc ++ ⟨#[122, 111, 110, 101, 32]⟩ ++ a ++ bB ++ b ++ bN) l else none
def rtu (k : Nat) : ByteArray → List S65 → Option ByteArray
  | acc, [] => some acc
  | acc, z :: l => (oculusref02_Text.f k z.f1.f0 z.f1.f1).bind fun b => if acc.size + z.f0.size + b.size ≤ 2000000000 then rtu k (acc ++ ⟨#[117, 115, 101, 114, 32]⟩ ++ z.f0 ++ bB ++ b ++ bN) l else none
def rtg (k : Nat) : ByteArray → List S67 → Option ByteArray
  | acc, [] => some acc
  | acc, z :: l => (oculusref02_Text.f k z.f1.f0 z.f1.f1).bind fun a => (oculusref02_Text.f k z.f2.f0 z.f2.f1).bind fun b => if acc.size + z.f0.size + a.size + b.size ≤ 2000000000 then rtg k (acc ++ ⟨#[103, 114, 97, 110, 116, 32]⟩ ++ z.f0 ++ bB ++ a ++ bB ++ b ++ bN) l else none
def oculusref07_Text.f (k : Nat) (r c : Int) (zs : List S61) (us : List S65) (gs : List S67) : Option ByteArray :=
  (oculusref07_Wrong.f k r c zs us gs).bind fun e => if e.2 = 0 then
    (oculusref01_Digits.f k r).bind fun a => (oculusref01_Digits.f k c).bind fun b => if a.size + b.size ≤ 2000000000 then
    (rtz k (⟨#[103, 114, 105, 100, 32]⟩ ++ a ++ bB ++ b ++ bN) zs).bind fun o => (rtu k o us).bind fun o => rtg k o gs else none
  else some ⟨#[]⟩
theorem rtz.mono (k : Nat) : ∀ l acc, LeO (rtz k acc l) (rtz (k + 1) acc l)
  | [], acc => LeO.refl _
  | z :: l, acc => LeO.bind (oculusref04_Text.mono _ _ _ _ _) fun _ => LeO.bind (oculusref02_Text.mono _ _ _) fun _ => LeO.ite (rtz.mono k l _) (LeO.refl _)
theorem rtu.mono (k : Nat) : ∀ l acc, LeO (rtu k acc l) (rtu (k + 1) acc l)
  | [], acc => LeO.refl _
  | z :: l, acc => LeO.bind (oculusref02_Text.mono _ _ _) fun _ => LeO.ite (rtu.mono k l _) (LeO.refl _)
theorem rtg.mono (k : Nat) : ∀ l acc, LeO (rtg k acc l) (rtg (k + 1) acc l)
  | [], acc => LeO.refl _
  | z :: l, acc => LeO.bind (oculusref02_Text.mono _ _ _) fun _ => LeO.bind (oculusref02_Text.mono _ _ _) fun _ => LeO.ite (rtg.mono k l _) (LeO.refl _)
theorem nov {n : Nat} (h : n ≤ 9223372036854775807) : (9223372036854775807 < n) = False := eq_false (Nat.not_lt.2 h)
set_option maxHeartbeats 4000000 in
set_option maxRecDepth 100000 in
theorem oculusref07_Text.calls (k : Nat) (a0_0 : Int) (a0_1 : Int) (A0_2 : Option Addr) (c0_2 : Nat) (l0_2 : List (S61)) (A0_3 : Option Addr) (c0_3 : Nat) (l0_3 : List (S65)) (A0_4 : Option Addr) (c0_4 : Nat) (l0_4 : List (S67)) (r : ByteArray) (w : World) (hr0_2 : Kd.C k61 w A0_2 l0_2.length l0_2) (hc0_2 : l0_2.length ≤ c0_2) (hr0_3 : Kd.C k65 w A0_3 l0_3.length l0_3) (hc0_3 : l0_3.length ≤ c0_3) (hr0_4 : Kd.C k67 w A0_4 l0_4.length l0_4) (hc0_4 : l0_4.length ≤ c0_4) (h : oculusref07_Text.f k a0_0 a0_1 l0_2 l0_3 l0_4 = some r) :
    Calls Tryd.prog 8 #[.agg #[.int .i64 a0_0, .int .i64 a0_1, .slice A0_2 l0_2.length c0_2, .slice A0_3 l0_3.length c0_3, .slice A0_4 l0_4.length c0_4]] w fun e w' => e = .returned (.string r) ∧ Below w.heap.size w w' := by
  have hu26 := Tryd.underlying26
  have hu61 := Tryd.underlying61
  have hu65 := Tryd.underlying65
  have hu67 := Tryd.underlying67
  have hu56 := Tryd.underlying56
  have hu59 := Tryd.underlying59
  have hu34 := Tryd.underlying34
  have HR : Aside0 (Rows7 w A0_2 c0_2 l0_2 A0_3 c0_3 l0_3 A0_4 c0_4 l0_4) := ⟨⟨hr0_2, hc0_2, hr0_3, hc0_3, hr0_4, hc0_4⟩⟩
  clear hr0_2 hc0_2 hr0_3 hc0_3 hr0_4 hc0_4
  obtain ⟨⟨e1, e2⟩, E1, H⟩ := Option.bind_eq_some_iff.mp h
  have HE := Aside0.mk E1
  have HH := Aside0.mk H
  clear h E1 H
  go_enter Tryd.func8, Tryd.ntmps8
  go_upto_region 1 with fail
  have HP := Aside0.mk (blk_new w (.cells #[.int .i64 a0_0, .int .i64 a0_1, .slice A0_2 l0_2.length c0_2, .slice A0_3 l0_3.length c0_3, .slice A0_4 l0_4.length c0_4] 26))
  have HB := Aside0.mk (new_below w (.cells #[.int .i64 a0_0, .int .i64 a0_1, .slice A0_2 l0_2.length c0_2, .slice A0_3 l0_3.length c0_3, .slice A0_4 l0_4.length c0_4] 26))
  replace HR := Rows7.below HR HB.out
  generalize w.alloc (.cells #[.int .i64 a0_0, .int .i64 a0_1, .slice A0_2 l0_2.length c0_2, .slice A0_3 l0_3.length c0_3, .slice A0_4 l0_4.length c0_4] 26) = w1 at HP HB HR ⊢
  generalize w.heap.size = g at HP ⊢
  obtain ⟨y0, y1, y2, y3, y4⟩ := cells5_ HP.out
  by_cases he : e2 = 0
  case neg =>
    have H := HH.out
    rw [if_neg he] at H
    obtain rfl := Option.some.inj H
    have d0 : (e2 == 0) = false := beq_eq_false_iff_ne.mpr he
    have d1 : (e2 != 0) = true := bne_iff_ne.mpr he
    clear he HH H
    go_wp2_with (go_at_call 10; (with_reducible refine (oculusref07_Wrong.calls k a0_0 a0_1 A0_2 c0_2 l0_2 A0_3 c0_3 l0_3 A0_4 c0_4 l0_4 e1 e2 _ HR.out.z HR.out.zl HR.out.u HR.out.ul HR.out.g HR.out.gl HE.out).mono ?_); rintro e w6 ⟨rfl, hb⟩; replace HB := Aside0.mk (below_step HB.out hb); clear hb)
    go_ret
    exact ⟨rfl, HB.out⟩
  have H := HH.out
  rw [if_pos he] at H
  have d0 : (e2 == 0) = true := beq_iff_eq.mpr he
  have d1 : (e2 != 0) = false := bne_eq_false_iff_eq.mpr he
  obtain ⟨ta, T1, H⟩ := Option.bind_eq_some_iff.mp H
  obtain ⟨tb, T2, H⟩ := Option.bind_eq_some_iff.mp H
  by_cases hsz : ta.size + tb.size ≤ 2000000000
  case neg => rw [if_neg hsz] at H; cases H
  rw [if_pos hsz] at H
  obtain ⟨o1, O1, H⟩ := Option.bind_eq_some_iff.mp H
  obtain ⟨o2, O2, H⟩ := Option.bind_eq_some_iff.mp H
  have HTA := Aside0.mk T1
  have HTB := Aside0.mk T2
  have HO1 := Aside0.mk O1
  have HO2 := Aside0.mk O2
  have HO3 := Aside0.mk H
  have HSZ := Aside0.mk hsz
  clear H HH T1 T2 O1 O2 he hsz
  go_upto_region 3 with (go_at_call 10; (with_reducible refine (oculusref07_Wrong.calls k a0_0 a0_1 A0_2 c0_2 l0_2 A0_3 c0_3 l0_3 A0_4 c0_4 l0_4 e1 e2 _ HR.out.z HR.out.zl HR.out.u HR.out.ul HR.out.g HR.out.gl HE.out).mono ?_); rintro e w6 ⟨rfl, hb⟩; replace HB := Aside0.mk (below_step HB.out hb); replace HP := Aside0.mk (blk_below HP.out hb); replace HR := Rows7.below HR hb; clear hb y0 y1 y2 y3 y4)
  clear d0 d1 HE
  obtain ⟨y0, y1, _⟩ := cells5_ HP.out
  have gy0 := cell_regrown y0
  have gy1 := cell_regrown y1
  have c0_ : ∀ d os, Calls Tryd.prog 23 #[.int .i64 a0_0] (grow (redrawn w6 d) os) fun e w'' => e = .returned (.string ta) ∧ ∃ p : Regrown, w'' = grow (redrawn w6 p.d) p.os := fun d os => Calls.regrown_of (oculusref01_Digits.calls k a0_0 ta _ HTA.out)
  have c1_ : ∀ d os, Calls Tryd.prog 23 #[.int .i64 a0_1] (grow (redrawn w6 d) os) fun e w'' => e = .returned (.string tb) ∧ ∃ p : Regrown, w'' = grow (redrawn w6 p.d) p.os := fun d os => Calls.regrown_of (oculusref01_Digits.calls k a0_1 tb _ HTB.out)
  have z0_ : (9223372036854775807 < 5 + ta.size) = False := nov (by have := HSZ.out; omega)
  have z1_ : (9223372036854775807 < 5 + ta.size + 1) = False := nov (by have := HSZ.out; omega)
  have z2_ : (9223372036854775807 < 5 + ta.size + 1 + tb.size) = False := nov (by have := HSZ.out; omega)
  have z3_ : (9223372036854775807 < 5 + ta.size + 1 + tb.size + 1) = False := nov (by have := HSZ.out; omega)
  clear y0 y1
  refine wp_region_quiet_below (by kernel_rfl) (by kernel_rfl) ?_
  repeat (quiet_step (first | (with_reducible exact c0_ _ _) | (with_reducible exact c1_ _ _)))
  refine wpQuiet_nil ?_
  rintro _ ⟨⟨dq, osq⟩, rfl⟩
  have hbq := below_regrown w6 dq osq
  clear gy0 gy1 c0_ c1_ z0_ z1_ z2_ z3_
  generalize grow (redrawn w6 dq) osq = w2 at hbq ⊢
  replace HB := Aside0.mk (below_step HB.out hbq)
  replace HP := Aside0.mk (blk_below HP.out hbq)
  replace HR := Rows7.below HR hbq
  clear hbq HTA HTB HSZ
  go_upto_block 0 with fail
  go_cut [3] (fun v3 wc => v3 = .string o1 ∧ Aside0 (Below w2.heap.size w2 wc))
  case first =>
    go_wp2_with fail
    go_loopw [3, 4] (fun v3 v w' => ∃ (j : Nat) (acc : ByteArray), v3 = .string acc ∧ v = .int .i64 (j : Int) ∧ Aside0 (j ≤ l0_2.length) ∧ Aside0 (Below w2.heap.size w2 w') ∧ Aside0 (rtz k acc (l0_2.drop j) = some o1)) (fun _ v _ => l0_2.length - (intOf v).toNat)
    case atStart => exact ⟨0, _, rfl, rfl, ⟨Nat.zero_le _⟩, ⟨Below.refl _ _⟩, HO1⟩
    case round =>
      obtain ⟨j, acc, rfl, rfl, HJ, HQ, HO⟩ := hrel
      obtain ⟨_, _, y2, _, _⟩ := cells5_ (blk_below HP.out HQ.out)
      have hj := HJ.out
      have hlen := (HR.out.z).2.1
      by_cases hlt : j < l0_2.length
      · have hd1 : decide (j < l0_2.length) = true := decide_eq_true hlt
        have hd2 : decide ((j : Int) < (l0_2.length : Int)) = true := decide_eq_true (by omega)
        have e1 : l0_2.drop j = rd_T61 l0_2 (j : Int) :: l0_2.drop (j + 1) := by
          rw [List.drop_eq_getElem_cons hlt, rd_get61 l0_2 j hlt]
        have H := HO.out
        rw [e1] at H
        clear e1 HO
        simp only [rtz] at H
        obtain ⟨ta, T1, H⟩ := Option.bind_eq_some_iff.mp H
        have HTA := Aside0.mk T1
        clear T1
        obtain ⟨tb, T2, H⟩ := Option.bind_eq_some_iff.mp H
        have HTB := Aside0.mk T2
        clear T2
        obtain ⟨ad, ead, q0, q1, q2, q3, q4, q5⟩ := at_T61 (Kd.C_below HR.out.z HQ.out) (j : Int) (by omega) (by omega)
        cases ead
        rw [Int.toNat_natCast] at q0 q1 q2 q3 q4 q5
        obtain ⟨z, hz⟩ : ∃ z, rd_T61 l0_2 (j : Int) = z := ⟨_, rfl⟩
        rw [hz] at q0 q1 q2 q3 q4 q5 HTA HTB
        clear hz
        by_cases hsz : acc.size + ta.size + tb.size ≤ 2000000000
        case neg => rw [if_neg hsz] at H; cases H
        rw [if_pos hsz] at H
        have HSZ := Aside0.mk hsz
        have HO := Aside0.mk H
        clear H hsz
        go_upto_region 7 with fail
        have hq1 : ((j : Int) < (l0_2.length : Int)) = True := eq_true (by omega)
        have hq2 : (j < l0_2.length) = True := eq_true hlt
        clear hd1 hd2 hj hlen
        have gy2 := cell_regrown y2
        have gq0 := cell_regrown q0
        have gq1 := cell_regrown q1
        have gq2 := cell_regrown q2
        have gq3 := cell_regrown q3
        have gq4 := cell_regrown q4
        have gq5 := cell_regrown q5
        have c0_ : ∀ d os, Calls Tryd.prog 24 #[.agg #[.int .i64 z.f0.f0.f0, .int .i64 z.f0.f0.f1, .int .i64 z.f0.f1.f0, .int .i64 z.f0.f1.f1]] (grow (redrawn wr d) os) fun e w'' => e = .returned (.string ta) ∧ ∃ p : Regrown, w'' = grow (redrawn wr p.d) p.os := fun d os => Calls.regrown_of (oculusref04_Text.calls k z.f0.f0.f0 z.f0.f0.f1 z.f0.f1.f0 z.f0.f1.f1 ta _ HTA.out)
        have c1_ : ∀ d os, Calls Tryd.prog 25 #[.agg #[.int .i64 z.f1.f0, .int .u64 z.f1.f1]] (grow (redrawn wr d) os) fun e w'' => e = .returned (.string tb) ∧ ∃ p : Regrown, w'' = grow (redrawn wr p.d) p.os := fun d os => Calls.regrown_of (oculusref02_Text.calls k z.f1.f0 z.f1.f1 tb _ HTB.out)
        have z0_ : (9223372036854775807 < acc.size + 5) = False := nov (by have := HSZ.out; omega)
        have z1_ : (9223372036854775807 < acc.size + 5 + ta.size) = False := nov (by have := HSZ.out; omega)
        have z2_ : (9223372036854775807 < acc.size + 5 + ta.size + 1) = False := nov (by have := HSZ.out; omega)
        have z3_ : (9223372036854775807 < acc.size + 5 + ta.size + 1 + tb.size) = False := nov (by have := HSZ.out; omega)
        have z4_ : (9223372036854775807 < acc.size + 5 + ta.size + 1 + tb.size + 1) = False := nov (by have := HSZ.out; omega)
        clear y2 q0 q1 q2 q3 q4 q5
        refine wp_region_quiet_below (by kernel_rfl) (by kernel_rfl) ?_
        repeat (quiet_step (first | (with_reducible exact c0_ _ _) | (with_reducible exact c1_ _ _)))
        refine wpQuiet_nil ?_
        rintro _ ⟨⟨dq, osq⟩, rfl⟩
        have hbq := below_regrown wr dq osq
        clear gy2 gq0 gq1 gq2 gq3 gq4 gq5 c0_ c1_ z0_ z1_ z2_ z3_ z4_
        generalize grow (redrawn wr dq) osq = w9 at hbq ⊢
        replace HQ := Aside0.mk (below_step HQ.out hbq)
        have hlen := (HR.out.z).2.1
        clear hq1 hq2 hbq
        go_wp2
        go_roundw
        case rel => exact ⟨j + 1, _, rfl, by go_num, ⟨by omega⟩, HQ, HO⟩
        case measure => simp [intOf]; omega
      · have hd1 : decide (j < l0_2.length) = false := decide_eq_false hlt
        have hd2 : decide ((j : Int) < (l0_2.length : Int)) = false := decide_eq_false (by omega)
        have e1 : l0_2.drop j = [] := List.drop_eq_nil_of_le (by omega)
        have H := HO.out
        rw [e1] at H
        clear e1 HO
        simp only [rtz, Option.some.injEq] at H
        subst H
        go_wp2
        go_meet
        exact ⟨rfl, HQ⟩
  case rest =>
    obtain ⟨rfl, HQ9⟩ := hcut
    have HQ := HQ9
    clear HQ9 HO1
    go_upto_block 2 with fail
    go_cut [3] (fun v3 wc => v3 = .string o2 ∧ Aside0 (Below w2.heap.size w2 wc))
    case first =>
      go_wp2_with fail
      go_loopw [3, 5] (fun v3 v w' => ∃ (j : Nat) (acc : ByteArray), v3 = .string acc ∧ v = .int .i64 (j : Int) ∧ Aside0 (j ≤ l0_3.length) ∧ Aside0 (Below w2.heap.size w2 w') ∧ Aside0 (rtu k acc (l0_3.drop j) = some o2)) (fun _ v _ => l0_3.length - (intOf v).toNat)
      case atStart => exact ⟨0, _, rfl, rfl, ⟨Nat.zero_le _⟩, HQ, HO2⟩
      case round =>
        clear HQ
        obtain ⟨j, acc, rfl, rfl, HJ, HQ, HO⟩ := hrel
        obtain ⟨_, _, _, y2, _⟩ := cells5_ (blk_below HP.out HQ.out)
        have hj := HJ.out
        have hlen := (HR.out.u).2.1
        by_cases hlt : j < l0_3.length
        · have hd1 : decide (j < l0_3.length) = true := decide_eq_true hlt
          have hd2 : decide ((j : Int) < (l0_3.length : Int)) = true := decide_eq_true (by omega)
          have e1 : l0_3.drop j = rd_T65 l0_3 (j : Int) :: l0_3.drop (j + 1) := by
            rw [List.drop_eq_getElem_cons hlt, rd_get65 l0_3 j hlt]
          have H := HO.out
          rw [e1] at H
          clear e1 HO
          simp only [rtu] at H
          obtain ⟨tb, T2, H⟩ := Option.bind_eq_some_iff.mp H
          have HTB := Aside0.mk T2
          clear T2
          obtain ⟨ad, ead, q0, q1, q2⟩ := at_T65 (Kd.C_below HR.out.u HQ.out) (j : Int) (by omega) (by omega)
          cases ead
          rw [Int.toNat_natCast] at q0 q1 q2
          obtain ⟨z, hz⟩ : ∃ z, rd_T65 l0_3 (j : Int) = z := ⟨_, rfl⟩
          rw [hz] at q0 q1 q2 HTB H
          clear hz
          by_cases hsz : acc.size + z.f0.size + tb.size ≤ 2000000000
          case neg => rw [if_neg hsz] at H; cases H
          rw [if_pos hsz] at H
          have HSZ := Aside0.mk hsz
          have HO := Aside0.mk H
          clear H hsz
          go_upto_region 11 with fail
          have hq1 : ((j : Int) < (l0_3.length : Int)) = True := eq_true (by omega)
          have hq2 : (j < l0_3.length) = True := eq_true hlt
          clear hd1 hd2 hj hlen
          have gy2 := cell_regrown y2
          have gq0 := cell_regrown q0
          have gq1 := cell_regrown q1
          have gq2 := cell_regrown q2
          have c0_ : ∀ d os, Calls Tryd.prog 25 #[.agg #[.int .i64 z.f1.f0, .int .u64 z.f1.f1]] (grow (redrawn wr d) os) fun e w'' => e = .returned (.string tb) ∧ ∃ p : Regrown, w'' = grow (redrawn wr p.d) p.os := fun d os => Calls.regrown_of (oculusref02_Text.calls k z.f1.f0 z.f1.f1 tb _ HTB.out)
          have z0_ : (9223372036854775807 < acc.size + 5) = False := nov (by have := HSZ.out; omega)
          have z1_ : (9223372036854775807 < acc.size + 5 + z.f0.size) = False := nov (by have := HSZ.out; omega)
          have z2_ : (9223372036854775807 < acc.size + 5 + z.f0.size + 1) = False := nov (by have := HSZ.out; omega)
          have z3_ : (9223372036854775807 < acc.size + 5 + z.f0.size + 1 + tb.size) = False := nov (by have := HSZ.out; omega)
          have z4_ : (9223372036854775807 < acc.size + 5 + z.f0.size + 1 + tb.size + 1) = False := nov (by have := HSZ.out; omega)
          clear y2 q0 q1 q2
          refine wp_region_quiet_below (by kernel_rfl) (by kernel_rfl) ?_
          repeat (quiet_step (first | (with_reducible exact c0_ _ _)))
          refine wpQuiet_nil ?_
          rintro _ ⟨⟨dq, osq⟩, rfl⟩
          have hbq := below_regrown wr dq osq
          clear gy2 gq0 gq1 gq2 c0_ z0_ z1_ z2_ z3_ z4_
          generalize grow (redrawn wr dq) osq = w9 at hbq ⊢
          replace HQ := Aside0.mk (below_step HQ.out hbq)
          have hlen := (HR.out.u).2.1
          clear hq1 hq2 hbq
          go_wp2
          go_roundw
          case rel => exact ⟨j + 1, _, rfl, by go_num, ⟨by omega⟩, HQ, HO⟩
          case measure => simp [intOf]; omega
        · have hd1 : decide (j < l0_3.length) = false := decide_eq_false hlt
          have hd2 : decide ((j : Int) < (l0_3.length : Int)) = false := decide_eq_false (by omega)
          have e1 : l0_3.drop j = [] := List.drop_eq_nil_of_le (by omega)
          have H := HO.out
          rw [e1] at H
          clear e1 HO
          simp only [rtu, Option.some.injEq] at H
          subst H
          go_wp2
          go_meet
          exact ⟨rfl, HQ⟩
    case rest =>
      obtain ⟨rfl, HQ9⟩ := hcut
      replace HQ := HQ9
      clear HQ9 HO2
      go_upto_block 4 with fail
      go_cut [3] (fun v3 wc => v3 = .string r ∧ Aside0 (Below w2.heap.size w2 wc))
      case first =>
        go_wp2_with fail
        go_loopw [3, 6] (fun v3 v w' => ∃ (j : Nat) (acc : ByteArray), v3 = .string acc ∧ v = .int .i64 (j : Int) ∧ Aside0 (j ≤ l0_4.length) ∧ Aside0 (Below w2.heap.size w2 w') ∧ Aside0 (rtg k acc (l0_4.drop j) = some r)) (fun _ v _ => l0_4.length - (intOf v).toNat)
        case atStart => exact ⟨0, _, rfl, rfl, ⟨Nat.zero_le _⟩, HQ, HO3⟩
        case round =>
          clear HQ
          obtain ⟨j, acc, rfl, rfl, HJ, HQ, HO⟩ := hrel
          obtain ⟨_, _, _, _, y2⟩ := cells5_ (blk_below HP.out HQ.out)
          have hj := HJ.out
          have hlen := (HR.out.g).2.1
          by_cases hlt : j < l0_4.length
          · have hd1 : decide (j < l0_4.length) = true := decide_eq_true hlt
            have hd2 : decide ((j : Int) < (l0_4.length : Int)) = true := decide_eq_true (by omega)
            have e1 : l0_4.drop j = rd_T67 l0_4 (j : Int) :: l0_4.drop (j + 1) := by
              rw [List.drop_eq_getElem_cons hlt, rd_get67 l0_4 j hlt]
            have H := HO.out
            rw [e1] at H
            clear e1 HO
            simp only [rtg] at H
            obtain ⟨ta, T1, H⟩ := Option.bind_eq_some_iff.mp H
            have HTA := Aside0.mk T1
            clear T1
            obtain ⟨tb, T2, H⟩ := Option.bind_eq_some_iff.mp H
            have HTB := Aside0.mk T2
            clear T2
            obtain ⟨ad, ead, q0, q1, q2, q3, q4⟩ := at_T67 (Kd.C_below HR.out.g HQ.out) (j : Int) (by omega) (by omega)
            cases ead
            rw [Int.toNat_natCast] at q0 q1 q2 q3 q4
            obtain ⟨z, hz⟩ : ∃ z, rd_T67 l0_4 (j : Int) = z := ⟨_, rfl⟩
            rw [hz] at q0 q1 q2 q3 q4 HTA HTB H
            clear hz
            by_cases hsz : acc.size + z.f0.size + ta.size + tb.size ≤ 2000000000
            case neg => rw [if_neg hsz] at H; cases H
            rw [if_pos hsz] at H
            have HSZ := Aside0.mk hsz
            have HO := Aside0.mk H
            clear H hsz
            go_upto_region 15 with fail
            have hq1 : ((j : Int) < (l0_4.length : Int)) = True := eq_true (by omega)
            have hq2 : (j < l0_4.length) = True := eq_true hlt
            clear hd1 hd2 hj hlen
            have gy2 := cell_regrown y2
            have gq0 := cell_regrown q0
            have gq1 := cell_regrown q1
            have gq2 := cell_regrown q2
            have gq3 := cell_regrown q3
            have gq4 := cell_regrown q4
            have c0_ : ∀ d os, Calls Tryd.prog 25 #[.agg #[.int .i64 z.f1.f0, .int .u64 z.f1.f1]] (grow (redrawn wr d) os) fun e w'' => e = .returned (.string ta) ∧ ∃ p : Regrown, w'' = grow (redrawn wr p.d) p.os := fun d os => Calls.regrown_of (oculusref02_Text.calls k z.f1.f0 z.f1.f1 ta _ HTA.out)
            have c1_ : ∀ d os, Calls Tryd.prog 25 #[.agg #[.int .i64 z.f2.f0, .int .u64 z.f2.f1]] (grow (redrawn wr d) os) fun e w'' => e = .returned (.string tb) ∧ ∃ p : Regrown, w'' = grow (redrawn wr p.d) p.os := fun d os => Calls.regrown_of (oculusref02_Text.calls k z.f2.f0 z.f2.f1 tb _ HTB.out)
            have z0_ : (9223372036854775807 < acc.size + 6) = False := nov (by have := HSZ.out; omega)
            have z1_ : (9223372036854775807 < acc.size + 6 + z.f0.size) = False := nov (by have := HSZ.out; omega)
            have z2_ : (9223372036854775807 < acc.size + 6 + z.f0.size + 1) = False := nov (by have := HSZ.out; omega)
            have z3_ : (9223372036854775807 < acc.size + 6 + z.f0.size + 1 + ta.size) = False := nov (by have := HSZ.out; omega)
            have z4_ : (9223372036854775807 < acc.size + 6 + z.f0.size + 1 + ta.size + 1) = False := nov (by have := HSZ.out; omega)
            have z5_ : (9223372036854775807 < acc.size + 6 + z.f0.size + 1 + ta.size + 1 + tb.size) = False := nov (by have := HSZ.out; omega)
            have z6_ : (9223372036854775807 < acc.size + 6 + z.f0.size + 1 + ta.size + 1 + tb.size + 1) = False := nov (by have := HSZ.out; omega)
            clear y2 q0 q1 q2 q3 q4
            refine wp_region_quiet_below (by kernel_rfl) (by kernel_rfl) ?_
            repeat (quiet_step (first | (with_reducible exact c0_ _ _) | (with_reducible exact c1_ _ _)))
            refine wpQuiet_nil ?_
            rintro _ ⟨⟨dq, osq⟩, rfl⟩
            have hbq := below_regrown wr dq osq
            clear gy2 gq0 gq1 gq2 gq3 gq4 c0_ c1_ z0_ z1_ z2_ z3_ z4_ z5_ z6_
            generalize grow (redrawn wr dq) osq = w9 at hbq ⊢
            replace HQ := Aside0.mk (below_step HQ.out hbq)
            have hlen := (HR.out.g).2.1
            clear hq1 hq2 hbq
            go_wp2
            go_roundw
            case rel => exact ⟨j + 1, _, rfl, by go_num, ⟨by omega⟩, HQ, HO⟩
            case measure => simp [intOf]; omega
          · have hd1 : decide (j < l0_4.length) = false := decide_eq_false hlt
            have hd2 : decide ((j : Int) < (l0_4.length : Int)) = false := decide_eq_false (by omega)
            have e1 : l0_4.drop j = [] := List.drop_eq_nil_of_le (by omega)
            have H := HO.out
            rw [e1] at H
            clear e1 HO
            simp only [rtg, Option.some.injEq] at H
            subst H
            go_wp2
            go_meet
            exact ⟨rfl, HQ⟩
      case rest =>
        obtain ⟨rfl, HQ9⟩ := hcut
        replace HQ := HQ9
        clear HQ9 HO3
        go_wp2
        go_ret
        exact ⟨rfl, below_step HB.out HQ.out⟩
end Go.Proofs.YtbboanfggaknjaaDoor.X
namespace Go.Proofs.YtbboanfggaknjaaDoor.X
open Go.RowKit Go.Proofs.YtbboanfggaknjaaDoorW.PrintWords Go.Proofs.YtbboanfggaknjaaDoorW.PrintLast Go.Proofs.YtbboanfggaknjaaDoorW.PrintMore
attribute [local go_sem] max2_int min2_int max_two min_two max_three min_three max_four min_four
set_option linter.unusedVariables false
set_option linter.unusedSimpArgs false
theorem eqA61 (d : Nat) (w : World) (x0 y0 : Int) (x1 y1 : Int) (x2 y2 : Int) (x3 y3 : Int) (x4 y4 : Int) (x5 y5 : Int) :
  (Op.equalIn (d + 4) 61 (.agg #[.int .i64 x0, .int .i64 x1, .int .i64 x2, .int .i64 x3, .int .i64 x4, .int .u64 x5]) (.agg #[.int .i64 y0, .int .i64 y1, .int .i64 y2, .int .i64 y3, .int .i64 y4, .int .u64 y5])).run Tryd.prog w = .ok (((x0 == y0 && (x1 == y1)) && ((x2 == y2 && (x3 == y3)))) && ((x4 == y4 && (x5 == y5)))) w := by
 refine eqA_of Tryd.underlying61 (by kernel_rfl) ?_
 refine eqf_cons (by rfl) (by go_simp) (by go_simp) (eqA56 (d + 0) w _ _ _ _ _ _ _ _) ?_
 exact eqf_last (by rfl) (by go_simp) (by go_simp) (eqA59 (d + 1) w _ _ _ _)
theorem eqA65 (d : Nat) (w : World) (x0 y0 : ByteArray) (x1 y1 : Int) (x2 y2 : Int) :
  (Op.equalIn (d + 3) 65 (.agg #[.string x0, .int .i64 x1, .int .u64 x2]) (.agg #[.string y0, .int .i64 y1, .int .u64 y2])).run Tryd.prog w = .ok (x0.toList == y0.toList && ((x1 == y1 && (x2 == y2)))) w := by
 refine eqA_of Tryd.underlying65 (by kernel_rfl) ?_
 refine eqf_cons (by rfl) (by go_simp; rfl) (by go_simp; rfl) (by go_simp) ?_
 exact eqf_last (by rfl) (by go_simp) (by go_simp) (eqA59 (d + 0) w _ _ _ _)
theorem eqA67 (d : Nat) (w : World) (x0 y0 : ByteArray) (x1 y1 : Int) (x2 y2 : Int) (x3 y3 : Int) (x4 y4 : Int) :
  (Op.equalIn (d + 3) 67 (.agg #[.string x0, .int .i64 x1, .int .u64 x2, .int .i64 x3, .int .u64 x4]) (.agg #[.string y0, .int .i64 y1, .int .u64 y2, .int .i64 y3, .int .u64 y4])).run Tryd.prog w = .ok (x0.toList == y0.toList && ((x1 == y1 && (x2 == y2)) && ((x3 == y3 && (x4 == y4))))) w := by
 refine eqA_of Tryd.underlying67 (by kernel_rfl) ?_
 refine eqf_cons (by rfl) (by go_simp; rfl) (by go_simp; rfl) (by go_simp) ?_
 refine eqf_cons (by rfl) (by go_simp) (by go_simp) (eqA59 (d + 0) w _ _ _ _) ?_
 exact eqf_last (by rfl) (by go_simp) (by go_simp) (eqA59 (d + 0) w _ _ _ _)
end Go.Proofs.YtbboanfggaknjaaDoor.X
namespace Go.Proofs.YtbboanfggaknjaaDoor.X
open Go.RowKit Go.Proofs.YtbboanfggaknjaaDoorW.PrintWords Go.Proofs.YtbboanfggaknjaaDoorW.PrintLast Go.Proofs.YtbboanfggaknjaaDoorW.PrintMore
attribute [local go_sem] max2_int min2_int max_two min_two max_three min_three max_four min_four
set_option linter.unusedVariables false
set_option linter.unusedSimpArgs false
attribute [local go_sem high] eqA61 eqA65 eqA67
mutual
def oculusref07_Same.j0 : Nat → Bool → Int → Int → List (S61) → List (S65) → List (S67) → Int → Int → List (S61) → List (S65) → List (S67) → Option (Bool)
 | 0, _, _, _, _, _, _, _, _, _, _, _ => none
 | k + 1, x46, x102000, x102001, x102002, x102003, x102004, x103000, x103001, x103002, x103003, x103004 => if x46 = true then (some false) else (oculusref07_Same.l0 k 0 x102000 x102001 x102002 x102003 x102004 x103000 x103001 x103002 x103003 x103004)
def oculusref07_Same.l0 : Nat → Int → Int → Int → List (S61) → List (S65) → List (S67) → Int → Int → List (S61) → List (S65) → List (S67) → Option (Bool)
 | 0, _, _, _, _, _, _, _, _, _, _, _ => none
 | k + 1, x5, x102000, x102001, x102002, x102003, x102004, x103000, x103001, x103002, x103003, x103004 => if x5 < (x102002.length : Int) then (if 0 ≤ x5 then (if x5 < (x103002.length : Int) then (if (((!(((rd_T61 x102002 x5).f0.f0.f0) == ((rd_T61 x103002 x5).f0.f0.f0)) || (!(((rd_T61 x102002 x5).f0.f0.f1) == ((rd_T61 x103002 x5).f0.f0.f1)))) || ((!(((rd_T61 x102002 x5).f0.f1.f0) == ((rd_T61 x103002 x5).f0.f1.f0)) || (!(((rd_T61 x102002 x5).f0.f1.f1) == ((rd_T61 x103002 x5).f0.f1.f1)))))) || ((!(((rd_T61 x102002 x5).f1.f0) == ((rd_T61 x103002 x5).f1.f0)) || (!(((rd_T61 x102002 x5).f1.f1) == ((rd_T61 x103002 x5).f1.f1)))))) = true then (some false) else (oculusref07_Same.l0 k (wrap64 (x5 + 1)) x102000 x102001 x102002 x102003 x102004 x103000 x103001 x103002 x103003 x103004)) else (none)) else (none)) else (oculusref07_Same.l1 k 0 x102000 x102001 x102002 x102003 x102004 x103000 x103001 x103002 x103003 x103004)
def oculusref07_Same.l1 : Nat → Int → Int → Int → List (S61) → List (S65) → List (S67) → Int → Int → List (S61) → List (S65) → List (S67) → Option (Bool)
 | 0, _, _, _, _, _, _, _, _, _, _, _ => none
 | k + 1, x6, x102000, x102001, x102002, x102003, x102004, x103000, x103001, x103002, x103003, x103004 => if x6 < (x102003.length : Int) then (if 0 ≤ x6 then (if x6 < (x103003.length : Int) then (if (!((((rd_T65 x102003 x6).f0).toList) == (((rd_T65 x103003 x6).f0).toList)) || ((!(((rd_T65 x102003 x6).f1.f0) == ((rd_T65 x103003 x6).f1.f0)) || (!(((rd_T65 x102003 x6).f1.f1) == ((rd_T65 x103003 x6).f1.f1)))))) = true then (some false) else (oculusref07_Same.l1 k (wrap64 (x6 + 1)) x102000 x102001 x102002 x102003 x102004 x103000 x103001 x103002 x103003 x103004)) else (none)) else (none)) else (oculusref07_Same.l2 k 0 x102000 x102001 x102002 x102003 x102004 x103000 x103001 x103002 x103003 x103004)
def oculusref07_Same.l2 : Nat → Int → Int → Int → List (S61) → List (S65) → List (S67) → Int → Int → List (S61) → List (S65) → List (S67) → Option (Bool)
 | 0, _, _, _, _, _, _, _, _, _, _, _ => none
 | k + 1, x7, x102000, x102001, x102002, x102003, x102004, x103000, x103001, x103002, x103003, x103004 => if x7 < (x102004.length : Int) then (if 0 ≤ x7 then (if x7 < (x103004.length : Int) then (if (!((((rd_T67 x102004 x7).f0).toList) == (((rd_T67 x103004 x7).f0).toList)) || ((!(((rd_T67 x102004 x7).f1.f0) == ((rd_T67 x103004 x7).f1.f0)) || (!(((rd_T67 x102004 x7).f1.f1) == ((rd_T67 x103004 x7).f1.f1)))) || ((!(((rd_T67 x102004 x7).f2.f0) == ((rd_T67 x103004 x7).f2.f0)) || (!(((rd_T67 x102004 x7).f2.f1) == ((rd_T67 x103004 x7).f2.f1))))))) = true then (some false) else (oculusref07_Same.l2 k (wrap64 (x7 + 1)) x102000 x102001 x102002 x102003 x102004 x103000 x103001 x103002 x103003 x103004)) else (none)) else (none)) else (some true)
end
def oculusref07_Same.f (k : Nat) (a0_0 : Int) (a0_1 : Int) (l0_2 : List (S61)) (l0_3 : List (S65)) (l0_4 : List (S67)) (a1_0 : Int) (a1_1 : Int) (l1_2 : List (S61)) (l1_3 : List (S65)) (l1_4 : List (S67)) : Option (Bool) := if a0_0 = a1_0 then (if a0_1 = a1_1 then (if (l0_2.length : Int) = (l1_2.length : Int) then (if (l0_3.length : Int) = (l1_3.length : Int) then (oculusref07_Same.j0 k ((l0_4.length : Int) != (l1_4.length : Int)) a0_0 a0_1 l0_2 l0_3 l0_4 a1_0 a1_1 l1_2 l1_3 l1_4) else (oculusref07_Same.j0 k true a0_0 a0_1 l0_2 l0_3 l0_4 a1_0 a1_1 l1_2 l1_3 l1_4)) else (oculusref07_Same.j0 k true a0_0 a0_1 l0_2 l0_3 l0_4 a1_0 a1_1 l1_2 l1_3 l1_4)) else (oculusref07_Same.j0 k true a0_0 a0_1 l0_2 l0_3 l0_4 a1_0 a1_1 l1_2 l1_3 l1_4)) else (oculusref07_Same.j0 k true a0_0 a0_1 l0_2 l0_3 l0_4 a1_0 a1_1 l1_2 l1_3 l1_4)
set_option maxHeartbeats 8000000 in
set_option maxRecDepth 100000 in
theorem oculusref07_Same.calls (k : Nat) (a0_0 : Int) (a0_1 : Int) (A0_2 : Option Addr) (c0_2 : Nat) (l0_2 : List (S61)) (A0_3 : Option Addr) (c0_3 : Nat) (l0_3 : List (S65)) (A0_4 : Option Addr) (c0_4 : Nat) (l0_4 : List (S67)) (a1_0 : Int) (a1_1 : Int) (A1_2 : Option Addr) (c1_2 : Nat) (l1_2 : List (S61)) (A1_3 : Option Addr) (c1_3 : Nat) (l1_3 : List (S65)) (A1_4 : Option Addr) (c1_4 : Nat) (l1_4 : List (S67)) (r : Bool) (w : World) (hr0_2 : Kd.C k61 w A0_2 l0_2.length l0_2) (hc0_2 : l0_2.length ≤ c0_2) (hr0_3 : Kd.C k65 w A0_3 l0_3.length l0_3) (hc0_3 : l0_3.length ≤ c0_3) (hr0_4 : Kd.C k67 w A0_4 l0_4.length l0_4) (hc0_4 : l0_4.length ≤ c0_4) (hr1_2 : Kd.C k61 w A1_2 l1_2.length l1_2) (hc1_2 : l1_2.length ≤ c1_2) (hr1_3 : Kd.C k65 w A1_3 l1_3.length l1_3) (hc1_3 : l1_3.length ≤ c1_3) (hr1_4 : Kd.C k67 w A1_4 l1_4.length l1_4) (hc1_4 : l1_4.length ≤ c1_4) (h : oculusref07_Same.f k a0_0 a0_1 l0_2 l0_3 l0_4 a1_0 a1_1 l1_2 l1_3 l1_4 = some r) :
  Calls Tryd.prog 11 #[.agg #[.int .i64 a0_0, .int .i64 a0_1, .slice A0_2 l0_2.length c0_2, .slice A0_3 l0_3.length c0_3, .slice A0_4 l0_4.length c0_4], .agg #[.int .i64 a1_0, .int .i64 a1_1, .slice A1_2 l1_2.length c1_2, .slice A1_3 l1_3.length c1_3, .slice A1_4 l1_4.length c1_4]] w fun e w' => e = .returned (.bool r) ∧ Below w.heap.size w w' := by
 have hu26 := Tryd.underlying26; have hu61 := Tryd.underlying61; have hu65 := Tryd.underlying65; have hu67 := Tryd.underlying67; have HR0_2 := Aside0.mk hr0_2; have HC0_2 := Aside0.mk hc0_2; clear hr0_2 hc0_2; have HR0_3 := Aside0.mk hr0_3; have HC0_3 := Aside0.mk hc0_3; clear hr0_3 hc0_3; have HR0_4 := Aside0.mk hr0_4; have HC0_4 := Aside0.mk hc0_4; clear hr0_4 hc0_4; have HR1_2 := Aside0.mk hr1_2; have HC1_2 := Aside0.mk hc1_2; clear hr1_2 hc1_2; have HR1_3 := Aside0.mk hr1_3; have HC1_3 := Aside0.mk hc1_3; clear hr1_3 hc1_3; have HR1_4 := Aside0.mk hr1_4; have HC1_4 := Aside0.mk hc1_4; clear hr1_4 hc1_4; have HB := Aside0.mk (Below.refl w.heap.size w)
 have H : (if a0_0 = a1_0 then (if a0_1 = a1_1 then (if (l0_2.length : Int) = (l1_2.length : Int) then (if (l0_3.length : Int) = (l1_3.length : Int) then (oculusref07_Same.j0 k ((l0_4.length : Int) != (l1_4.length : Int)) a0_0 a0_1 l0_2 l0_3 l0_4 a1_0 a1_1 l1_2 l1_3 l1_4) else (oculusref07_Same.j0 k true a0_0 a0_1 l0_2 l0_3 l0_4 a1_0 a1_1 l1_2 l1_3 l1_4)) else (oculusref07_Same.j0 k true a0_0 a0_1 l0_2 l0_3 l0_4 a1_0 a1_1 l1_2 l1_3 l1_4)) else (oculusref07_Same.j0 k true a0_0 a0_1 l0_2 l0_3 l0_4 a1_0 a1_1 l1_2 l1_3 l1_4)) else (oculusref07_Same.j0 k true a0_0 a0_1 l0_2 l0_3 l0_4 a1_0 a1_1 l1_2 l1_3 l1_4)) = some r := h
 clear h; have HC3 := Aside0.mk H; clear H
 go_enter Tryd.func11, Tryd.ntmps11
 go_upto_region 1 with (first | ((with_reducible refine gate_dst (N:=2) rfl ?_); (try (refine gate_guard (by rfl) ?_; dsimp only)); refine be_ (N:=2) (cs := #[.int .i64 a0_0, .int .i64 a0_1, .slice A0_2 l0_2.length c0_2, .slice A0_3 l0_3.length c0_3, .slice A0_4 l0_4.length c0_4]) (t:=26) ?_; intro gb101 hg w4 hbox hb; have BK101 := Aside0.mk (hbox); replace HB := bs_ HB hb; clear hb hbox hg) | ((with_reducible refine gate_dst (N:=3) rfl ?_); (try (refine gate_guard (by rfl) ?_; dsimp only)); refine be_ (N:=3) (cs := #[.int .i64 a1_0, .int .i64 a1_1, .slice A1_2 l1_2.length c1_2, .slice A1_3 l1_3.length c1_3, .slice A1_4 l1_4.length c1_4]) (t:=26) ?_; intro gb102 hg w5 hbox hb; have BK102 := Aside0.mk (hbox); replace BK101 := bb_ BK101 hb; replace HB := bs_ HB hb; clear hb hbox hg))
 repeat (go_quiet (first | ((with_reducible refine gate_dst (N:=2) rfl ?_); (try (refine gate_guard (by rfl) ?_; dsimp only)); refine be_ (N:=2) (cs := #[.int .i64 a0_0, .int .i64 a0_1, .slice A0_2 l0_2.length c0_2, .slice A0_3 l0_3.length c0_3, .slice A0_4 l0_4.length c0_4]) (t:=26) ?_; intro gb101 hg w4 hbox hb; have BK101 := Aside0.mk (hbox); replace HB := bs_ HB hb; clear hb hbox hg) | ((with_reducible refine gate_dst (N:=3) rfl ?_); (try (refine gate_guard (by rfl) ?_; dsimp only)); refine be_ (N:=3) (cs := #[.int .i64 a1_0, .int .i64 a1_1, .slice A1_2 l1_2.length c1_2, .slice A1_3 l1_3.length c1_3, .slice A1_4 l1_4.length c1_4]) (t:=26) ?_; intro gb102 hg w5 hbox hb; have BK102 := Aside0.mk (hbox); replace BK101 := bb_ BK101 hb; replace HB := bs_ HB hb; clear hb hbox hg)); go_upto_region 1 with (first | ((with_reducible refine gate_dst (N:=2) rfl ?_); (try (refine gate_guard (by rfl) ?_; dsimp only)); refine be_ (N:=2) (cs := #[.int .i64 a0_0, .int .i64 a0_1, .slice A0_2 l0_2.length c0_2, .slice A0_3 l0_3.length c0_3, .slice A0_4 l0_4.length c0_4]) (t:=26) ?_; intro gb101 hg w4 hbox hb; have BK101 := Aside0.mk (hbox); replace HB := bs_ HB hb; clear hb hbox hg) | ((with_reducible refine gate_dst (N:=3) rfl ?_); (try (refine gate_guard (by rfl) ?_; dsimp only)); refine be_ (N:=3) (cs := #[.int .i64 a1_0, .int .i64 a1_1, .slice A1_2 l1_2.length c1_2, .slice A1_3 l1_3.length c1_3, .slice A1_4 l1_4.length c1_4]) (t:=26) ?_; intro gb102 hg w5 hbox hb; have BK102 := Aside0.mk (hbox); replace BK101 := bb_ BK101 hb; replace HB := bs_ HB hb; clear hb hbox hg)))
 (try simp only [q_])
 go_cut [46] (fun v46 wc => ∃ (kq : Nat) (x46_2 : Bool), v46 = .bool x46_2 ∧ Aside0 (oculusref07_Same.j0 kq x46_2 a0_0 a0_1 l0_2 l0_3 l0_4 a1_0 a1_1 l1_2 l1_3 l1_4 = some r) ∧ Aside0 (kq ≤ k) ∧ Aside0 (wc.heap[gb101]? = some (.cells #[.int .i64 a0_0, .int .i64 a0_1, (.slice A0_2 l0_2.length c0_2), (.slice A0_3 l0_3.length c0_3), (.slice A0_4 l0_4.length c0_4)] 26 (0, 0))) ∧ Aside0 (wc.heap[gb102]? = some (.cells #[.int .i64 a1_0, .int .i64 a1_1, (.slice A1_2 l1_2.length c1_2), (.slice A1_3 l1_3.length c1_3), (.slice A1_4 l1_4.length c1_4)] 26 (0, 0))) ∧ Aside0 (Below w.heap.size w wc))
 case first =>
  have H := HC3.out; clear HC3
  by_cases c6 : a0_0 = a1_0
  ·rw [if_pos c6] at H; have c6b0 : (a0_0 == a1_0) = true := beq_iff_eq.mpr c6; have c6b1 : (a0_0 != a1_0) = false := bne_eq_false_iff_eq.mpr c6; clear c6; (first | rw [c6b0] | (simp only [i64_w, i32_w]; rw [c6b0]) | skip)
   by_cases c7 : a0_1 = a1_1
   ·rw [if_pos c7] at H; have c7b0 : (a0_1 == a1_1) = true := beq_iff_eq.mpr c7; have c7b1 : (a0_1 != a1_1) = false := bne_eq_false_iff_eq.mpr c7; clear c7
    by_cases c8 : (l0_2.length : Int) = (l1_2.length : Int)
    ·rw [if_pos c8] at H; have c8b0 : ((l0_2.length : Int) == (l1_2.length : Int)) = true := beq_iff_eq.mpr c8; have c8b1 : ((l0_2.length : Int) != (l1_2.length : Int)) = false := bne_eq_false_iff_eq.mpr c8
     have c8b2 : (l0_2.length == l1_2.length) = true := by first | simpa using c8 | (simp at c8 ⊢; omega)
     clear c8
     by_cases c9 : (l0_3.length : Int) = (l1_3.length : Int)
     ·rw [if_pos c9] at H; have c9b0 : ((l0_3.length : Int) == (l1_3.length : Int)) = true := beq_iff_eq.mpr c9; have c9b1 : ((l0_3.length : Int) != (l1_3.length : Int)) = false := bne_eq_false_iff_eq.mpr c9
      have c9b2 : (l0_3.length == l1_3.length) = true := by first | simpa using c9 | (simp at c9 ⊢; omega)
      clear c9
      have H' := Aside0.mk H
      clear H
      have hcz10_0 : w5.cell? ⟨gb101, 0, none⟩ = some (.int .i64 a0_0) := bc_ BK101 0 rfl
      have hcz10_1 : w5.cell? ⟨gb101, 1, none⟩ = some (.int .i64 a0_1) := bc_ BK101 1 rfl
      have hcz10_2 : w5.cell? ⟨gb101, 2, none⟩ = some (.slice A0_2 l0_2.length c0_2) := bc_ BK101 2 rfl
      have hcz10_3 : w5.cell? ⟨gb101, 3, none⟩ = some (.slice A0_3 l0_3.length c0_3) := bc_ BK101 3 rfl
      have hcz10_4 : w5.cell? ⟨gb101, 4, none⟩ = some (.slice A0_4 l0_4.length c0_4) := bc_ BK101 4 rfl
      have hcz11_0 : w5.cell? ⟨gb102, 0, none⟩ = some (.int .i64 a1_0) := bc_ BK102 0 rfl
      have hcz11_1 : w5.cell? ⟨gb102, 1, none⟩ = some (.int .i64 a1_1) := bc_ BK102 1 rfl
      have hcz11_2 : w5.cell? ⟨gb102, 2, none⟩ = some (.slice A1_2 l1_2.length c1_2) := bc_ BK102 2 rfl
      have hcz11_3 : w5.cell? ⟨gb102, 3, none⟩ = some (.slice A1_3 l1_3.length c1_3) := bc_ BK102 3 rfl
      have hcz11_4 : w5.cell? ⟨gb102, 4, none⟩ = some (.slice A1_4 l1_4.length c1_4) := bc_ BK102 4 rfl
      go_wp2
      repeat (go_quiet (fail); try go_wp2)
      go_meet
      case rel => exact ⟨_, (((l0_4.length : Int) != (l1_4.length : Int))), (by first | rfl | (simp; done) | (simp [*]; done)), H', ⟨by first | omega | exact Nat.le_refl _⟩, ⟨pkx BK101⟩, ⟨pkx BK102⟩, ⟨pbx HB⟩⟩
     ·rw [if_neg c9] at H; have c9b0 : ((l0_3.length : Int) == (l1_3.length : Int)) = false := beq_eq_false_iff_ne.mpr c9; have c9b1 : ((l0_3.length : Int) != (l1_3.length : Int)) = true := bne_iff_ne.mpr c9
      have c9b2 : (l0_3.length == l1_3.length) = false := by first | simpa using c9 | (simp at c9 ⊢; omega)
      have H' := Aside0.mk H
      clear H
      have hcz12_0 : w5.cell? ⟨gb101, 0, none⟩ = some (.int .i64 a0_0) := bc_ BK101 0 rfl
      have hcz12_1 : w5.cell? ⟨gb101, 1, none⟩ = some (.int .i64 a0_1) := bc_ BK101 1 rfl
      have hcz12_2 : w5.cell? ⟨gb101, 2, none⟩ = some (.slice A0_2 l0_2.length c0_2) := bc_ BK101 2 rfl
      have hcz12_3 : w5.cell? ⟨gb101, 3, none⟩ = some (.slice A0_3 l0_3.length c0_3) := bc_ BK101 3 rfl
      have hcz12_4 : w5.cell? ⟨gb101, 4, none⟩ = some (.slice A0_4 l0_4.length c0_4) := bc_ BK101 4 rfl
      have hcz13_0 : w5.cell? ⟨gb102, 0, none⟩ = some (.int .i64 a1_0) := bc_ BK102 0 rfl
      have hcz13_1 : w5.cell? ⟨gb102, 1, none⟩ = some (.int .i64 a1_1) := bc_ BK102 1 rfl
      have hcz13_2 : w5.cell? ⟨gb102, 2, none⟩ = some (.slice A1_2 l1_2.length c1_2) := bc_ BK102 2 rfl
      have hcz13_3 : w5.cell? ⟨gb102, 3, none⟩ = some (.slice A1_3 l1_3.length c1_3) := bc_ BK102 3 rfl
      have hcz13_4 : w5.cell? ⟨gb102, 4, none⟩ = some (.slice A1_4 l1_4.length c1_4) := bc_ BK102 4 rfl
      go_wp2
      repeat (go_quiet (fail); try go_wp2)
      go_meet
      case rel => exact ⟨_, (true), (by first | rfl | (simp; done) | (simp [*]; done)), H', ⟨by first | omega | exact Nat.le_refl _⟩, ⟨pkx BK101⟩, ⟨pkx BK102⟩, ⟨pbx HB⟩⟩
    ·rw [if_neg c8] at H; have c8b0 : ((l0_2.length : Int) == (l1_2.length : Int)) = false := beq_eq_false_iff_ne.mpr c8; have c8b1 : ((l0_2.length : Int) != (l1_2.length : Int)) = true := bne_iff_ne.mpr c8
     have c8b2 : (l0_2.length == l1_2.length) = false := by first | simpa using c8 | (simp at c8 ⊢; omega)
     have H' := Aside0.mk H
     clear H
     have hcz14_0 : w5.cell? ⟨gb101, 0, none⟩ = some (.int .i64 a0_0) := bc_ BK101 0 rfl
     have hcz14_1 : w5.cell? ⟨gb101, 1, none⟩ = some (.int .i64 a0_1) := bc_ BK101 1 rfl
     have hcz14_2 : w5.cell? ⟨gb101, 2, none⟩ = some (.slice A0_2 l0_2.length c0_2) := bc_ BK101 2 rfl
     have hcz14_3 : w5.cell? ⟨gb101, 3, none⟩ = some (.slice A0_3 l0_3.length c0_3) := bc_ BK101 3 rfl
     have hcz14_4 : w5.cell? ⟨gb101, 4, none⟩ = some (.slice A0_4 l0_4.length c0_4) := bc_ BK101 4 rfl
     have hcz15_0 : w5.cell? ⟨gb102, 0, none⟩ = some (.int .i64 a1_0) := bc_ BK102 0 rfl
     have hcz15_1 : w5.cell? ⟨gb102, 1, none⟩ = some (.int .i64 a1_1) := bc_ BK102 1 rfl
     have hcz15_2 : w5.cell? ⟨gb102, 2, none⟩ = some (.slice A1_2 l1_2.length c1_2) := bc_ BK102 2 rfl
     have hcz15_3 : w5.cell? ⟨gb102, 3, none⟩ = some (.slice A1_3 l1_3.length c1_3) := bc_ BK102 3 rfl
     have hcz15_4 : w5.cell? ⟨gb102, 4, none⟩ = some (.slice A1_4 l1_4.length c1_4) := bc_ BK102 4 rfl
     go_wp2
     repeat (go_quiet (fail); try go_wp2)
     go_meet
     case rel => exact ⟨_, (true), (by first | rfl | (simp; done) | (simp [*]; done)), H', ⟨by first | omega | exact Nat.le_refl _⟩, ⟨pkx BK101⟩, ⟨pkx BK102⟩, ⟨pbx HB⟩⟩
   ·rw [if_neg c7] at H; have c7b0 : (a0_1 == a1_1) = false := beq_eq_false_iff_ne.mpr c7; have c7b1 : (a0_1 != a1_1) = true := bne_iff_ne.mpr c7
    have H' := Aside0.mk H
    clear H
    have hcz16_0 : w5.cell? ⟨gb101, 0, none⟩ = some (.int .i64 a0_0) := bc_ BK101 0 rfl
    have hcz16_1 : w5.cell? ⟨gb101, 1, none⟩ = some (.int .i64 a0_1) := bc_ BK101 1 rfl
    have hcz16_2 : w5.cell? ⟨gb101, 2, none⟩ = some (.slice A0_2 l0_2.length c0_2) := bc_ BK101 2 rfl
    have hcz16_3 : w5.cell? ⟨gb101, 3, none⟩ = some (.slice A0_3 l0_3.length c0_3) := bc_ BK101 3 rfl
    have hcz16_4 : w5.cell? ⟨gb101, 4, none⟩ = some (.slice A0_4 l0_4.length c0_4) := bc_ BK101 4 rfl
    have hcz17_0 : w5.cell? ⟨gb102, 0, none⟩ = some (.int .i64 a1_0) := bc_ BK102 0 rfl
    have hcz17_1 : w5.cell? ⟨gb102, 1, none⟩ = some (.int .i64 a1_1) := bc_ BK102 1 rfl
    have hcz17_2 : w5.cell? ⟨gb102, 2, none⟩ = some (.slice A1_2 l1_2.length c1_2) := bc_ BK102 2 rfl
    have hcz17_3 : w5.cell? ⟨gb102, 3, none⟩ = some (.slice A1_3 l1_3.length c1_3) := bc_ BK102 3 rfl
    have hcz17_4 : w5.cell? ⟨gb102, 4, none⟩ = some (.slice A1_4 l1_4.length c1_4) := bc_ BK102 4 rfl
    go_wp2
    repeat (go_quiet (fail); try go_wp2)
    go_meet
    case rel => exact ⟨_, (true), (by first | rfl | (simp; done) | (simp [*]; done)), H', ⟨by first | omega | exact Nat.le_refl _⟩, ⟨pkx BK101⟩, ⟨pkx BK102⟩, ⟨pbx HB⟩⟩
  ·rw [if_neg c6] at H; have c6b0 : (a0_0 == a1_0) = false := beq_eq_false_iff_ne.mpr c6; have c6b1 : (a0_0 != a1_0) = true := bne_iff_ne.mpr c6; (first | rw [c6b0] | (simp only [i64_w, i32_w]; rw [c6b0]) | skip)
   have H' := Aside0.mk H
   clear H
   have hcz18_0 : w5.cell? ⟨gb101, 0, none⟩ = some (.int .i64 a0_0) := bc_ BK101 0 rfl
   have hcz18_1 : w5.cell? ⟨gb101, 1, none⟩ = some (.int .i64 a0_1) := bc_ BK101 1 rfl
   have hcz18_2 : w5.cell? ⟨gb101, 2, none⟩ = some (.slice A0_2 l0_2.length c0_2) := bc_ BK101 2 rfl
   have hcz18_3 : w5.cell? ⟨gb101, 3, none⟩ = some (.slice A0_3 l0_3.length c0_3) := bc_ BK101 3 rfl
   have hcz18_4 : w5.cell? ⟨gb101, 4, none⟩ = some (.slice A0_4 l0_4.length c0_4) := bc_ BK101 4 rfl
   have hcz19_0 : w5.cell? ⟨gb102, 0, none⟩ = some (.int .i64 a1_0) := bc_ BK102 0 rfl
   have hcz19_1 : w5.cell? ⟨gb102, 1, none⟩ = some (.int .i64 a1_1) := bc_ BK102 1 rfl
   have hcz19_2 : w5.cell? ⟨gb102, 2, none⟩ = some (.slice A1_2 l1_2.length c1_2) := bc_ BK102 2 rfl
   have hcz19_3 : w5.cell? ⟨gb102, 3, none⟩ = some (.slice A1_3 l1_3.length c1_3) := bc_ BK102 3 rfl
   have hcz19_4 : w5.cell? ⟨gb102, 4, none⟩ = some (.slice A1_4 l1_4.length c1_4) := bc_ BK102 4 rfl
   go_wp2
   repeat (go_quiet (fail); try go_wp2)
   go_meet
   case rel => exact ⟨_, (true), (by first | rfl | (simp; done) | (simp [*]; done)), H', ⟨by first | omega | exact Nat.le_refl _⟩, ⟨pkx BK101⟩, ⟨pkx BK102⟩, ⟨pbx HB⟩⟩
 case rest =>
  clear HC3; (try clear c1); (try clear p2); (try clear c6); (try clear c6b0); (try clear c6b1); (try clear c7); (try clear c7b0); (try clear c7b1); (try clear c8); (try clear c8b0); (try clear c8b1); (try clear c8b2); (try clear c9); (try clear c9b0); (try clear c9b1); (try clear c9b2); (try clear c11); (try clear hcz10_0); (try clear hcz10_1); (try clear hcz10_2); (try clear hcz10_3); (try clear hcz10_4); (try clear hcz11_0); (try clear hcz11_1); (try clear hcz11_2); (try clear hcz11_3); (try clear hcz11_4); (try clear hcz12_0); (try clear hcz12_1); (try clear hcz12_2); (try clear hcz12_3); (try clear hcz12_4); (try clear hcz13_0); (try clear hcz13_1); (try clear hcz13_2); (try clear hcz13_3); (try clear hcz13_4); (try clear hcz14_0); (try clear hcz14_1); (try clear hcz14_2); (try clear hcz14_3); (try clear hcz14_4); (try clear hcz15_0); (try clear hcz15_1); (try clear hcz15_2); (try clear hcz15_3)
  (try clear hcz15_4); (try clear hcz16_0); (try clear hcz16_1); (try clear hcz16_2); (try clear hcz16_3); (try clear hcz16_4); (try clear hcz17_0); (try clear hcz17_1); (try clear hcz17_2); (try clear hcz17_3); (try clear hcz17_4); (try clear hcz18_0); (try clear hcz18_1); (try clear hcz18_2); (try clear hcz18_3); (try clear hcz18_4); (try clear hcz19_0); (try clear hcz19_1); (try clear hcz19_2); (try clear hcz19_3); (try clear hcz19_4); obtain ⟨kq, x46_2, rfl, HA, HJ2, BK101, BK102, HB⟩ := hcut
  cases kq with
  | zero => exact absurd HA.out (by simp [oculusref07_Same.j0])
  | succ kj2 =>
   have H := HA.out; clear HA
   simp only [oculusref07_Same.j0] at H
   by_cases c20 : x46_2 = true
   ·subst c20
    have H1 : (some false) = some r := by rw [if_pos rfl] at H; exact H
    clear H; have H := H1; clear H1; obtain rfl := Option.some.inj H
    go_wp2
    repeat (go_quiet (fail); try go_wp2)
    go_ret
    exact ⟨by first | rfl | (simp [errW_none, errW_some] <;> rfl) | (simp [*, errW_none, errW_some] <;> rfl), pbx HB⟩
   ·replace c20 := Bool.eq_false_iff.mpr c20; subst c20
    have H1 : (oculusref07_Same.l0 kj2 0 a0_0 a0_1 l0_2 l0_3 l0_4 a1_0 a1_1 l1_2 l1_3 l1_4) = some r := by rw [if_neg (show ¬ (false = true) by decide)] at H; exact H
    clear H; have H := H1; clear H1
    have H' := Aside0.mk H
    clear H
    go_wp2
    repeat (go_quiet (fail); try go_wp2)
    go_loopg [5] kj2 (fun kq v5 w' => ∃ (x5_2 : Int), v5 = .int .i64 x5_2 ∧ Aside0 (oculusref07_Same.l0 kq x5_2 a0_0 a0_1 l0_2 l0_3 l0_4 a1_0 a1_1 l1_2 l1_3 l1_4 = some r) ∧ Aside0 (kq ≤ kj2) ∧ Aside0 (w'.heap[gb101]? = some (.cells #[.int .i64 a0_0, .int .i64 a0_1, (.slice A0_2 l0_2.length c0_2), (.slice A0_3 l0_3.length c0_3), (.slice A0_4 l0_4.length c0_4)] 26 (0, 0))) ∧ Aside0 (w'.heap[gb102]? = some (.cells #[.int .i64 a1_0, .int .i64 a1_1, (.slice A1_2 l1_2.length c1_2), (.slice A1_3 l1_3.length c1_3), (.slice A1_4 l1_4.length c1_4)] 26 (0, 0))) ∧ Aside0 (Below w.heap.size w w'))
    case atStart => exact ⟨(0), (by first | rfl | (simp; done) | (simp [*]; done)), H', ⟨Nat.le_refl _⟩, ⟨pkx BK101⟩, ⟨pkx BK102⟩, ⟨pbx HB⟩⟩
    case round =>
     clear H'; (try clear c1); (try clear c2); (try clear p2); (try clear c6); (try clear c6b0); (try clear c6b1); (try clear c7); (try clear c7b0); (try clear c7b1); (try clear c8); (try clear c8b0); (try clear c8b1); (try clear c8b2); (try clear c9); (try clear c9b0); (try clear c9b1); (try clear c9b2); (try clear c11); (try clear c20); (try clear hcz10_0); (try clear hcz10_1); (try clear hcz10_2); (try clear hcz10_3); (try clear hcz10_4); (try clear hcz11_0); (try clear hcz11_1); (try clear hcz11_2); (try clear hcz11_3); (try clear hcz11_4); (try clear hcz12_0); (try clear hcz12_1); (try clear hcz12_2); (try clear hcz12_3); (try clear hcz12_4); (try clear hcz13_0); (try clear hcz13_1); (try clear hcz13_2); (try clear hcz13_3); (try clear hcz13_4); (try clear hcz14_0); (try clear hcz14_1); (try clear hcz14_2); (try clear hcz14_3); (try clear hcz14_4); (try clear hcz15_0); (try clear hcz15_1)
     (try clear hcz15_2); (try clear hcz15_3); (try clear hcz15_4); (try clear hcz16_0); (try clear hcz16_1); (try clear hcz16_2); (try clear hcz16_3); (try clear hcz16_4); (try clear hcz17_0); (try clear hcz17_1); (try clear hcz17_2); (try clear hcz17_3); (try clear hcz17_4); (try clear hcz18_0); (try clear hcz18_1); (try clear hcz18_2); (try clear hcz18_3); (try clear hcz18_4); (try clear hcz19_0); (try clear hcz19_1); (try clear hcz19_2); (try clear hcz19_3); (try clear hcz19_4); (try clear p2); obtain ⟨x5_2, rfl, HA, HK2, BK101, BK102, HB⟩ := hrel
     cases gk with
     | zero => exact absurd HA.out (by simp [oculusref07_Same.l0])
     | succ k2 =>
      have H := HA.out; clear HA
      simp only [oculusref07_Same.l0] at H
      by_cases c21 : x5_2 < (l0_2.length : Int)
      ·rw [if_pos c21] at H; have c21b0 : decide (x5_2 < (l0_2.length : Int)) = true := decide_eq_true c21; clear c21
       by_cases c22 : 0 ≤ x5_2
       ·rw [if_pos c22] at H; have c22b0 : decide (0 ≤ x5_2) = true := decide_eq_true c22; clear c22
        by_cases c23 : x5_2 < (l1_2.length : Int)
        ·rw [if_pos c23] at H; have c23b0 : decide (x5_2 < (l1_2.length : Int)) = true := decide_eq_true c23; clear c23
         by_cases c24 : (((!(((rd_T61 l0_2 x5_2).f0.f0.f0) == ((rd_T61 l1_2 x5_2).f0.f0.f0)) || (!(((rd_T61 l0_2 x5_2).f0.f0.f1) == ((rd_T61 l1_2 x5_2).f0.f0.f1)))) || ((!(((rd_T61 l0_2 x5_2).f0.f1.f0) == ((rd_T61 l1_2 x5_2).f0.f1.f0)) || (!(((rd_T61 l0_2 x5_2).f0.f1.f1) == ((rd_T61 l1_2 x5_2).f0.f1.f1)))))) || ((!(((rd_T61 l0_2 x5_2).f1.f0) == ((rd_T61 l1_2 x5_2).f1.f0)) || (!(((rd_T61 l0_2 x5_2).f1.f1) == ((rd_T61 l1_2 x5_2).f1.f1)))))) = true
         ·rw [if_pos c24] at H
          have c24b0 : (((!(((rd_T61 l0_2 x5_2).f0.f0.f0) == ((rd_T61 l1_2 x5_2).f0.f0.f0)) || (!(((rd_T61 l0_2 x5_2).f0.f0.f1) == ((rd_T61 l1_2 x5_2).f0.f0.f1)))) || ((!(((rd_T61 l0_2 x5_2).f0.f1.f0) == ((rd_T61 l1_2 x5_2).f0.f1.f0)) || (!(((rd_T61 l0_2 x5_2).f0.f1.f1) == ((rd_T61 l1_2 x5_2).f0.f1.f1)))))) || ((!(((rd_T61 l0_2 x5_2).f1.f0) == ((rd_T61 l1_2 x5_2).f1.f0)) || (!(((rd_T61 l0_2 x5_2).f1.f1) == ((rd_T61 l1_2 x5_2).f1.f1)))))) = true := c24
          clear c24; obtain rfl := Option.some.inj H
          have hcz25_0 : wr.cell? ⟨gb101, 0, none⟩ = some (.int .i64 a0_0) := bc_ BK101 0 rfl
          have hcz25_1 : wr.cell? ⟨gb101, 1, none⟩ = some (.int .i64 a0_1) := bc_ BK101 1 rfl
          have hcz25_2 : wr.cell? ⟨gb101, 2, none⟩ = some (.slice A0_2 l0_2.length c0_2) := bc_ BK101 2 rfl
          have hcz25_3 : wr.cell? ⟨gb101, 3, none⟩ = some (.slice A0_3 l0_3.length c0_3) := bc_ BK101 3 rfl
          have hcz25_4 : wr.cell? ⟨gb101, 4, none⟩ = some (.slice A0_4 l0_4.length c0_4) := bc_ BK101 4 rfl
          have p103 : 0 ≤ (x5_2 : Int) := of_decide_eq_true (by first | (with_reducible assumption) | assumption)
          have q103 : x5_2 < (l0_2.length : Int) := of_decide_eq_true (by first | (with_reducible assumption) | assumption)
          obtain ⟨ad103, e103, hx103_0, hx103_1, hx103_2, hx103_3, hx103_4, hx103_5⟩ := at_T61 HR0_2.out x5_2 p103 q103
          cases e103
          replace hx103_0 := (HB.out.cell (World.block_lt_of_cell? w _ hx103_0)).trans hx103_0; replace hx103_1 := (HB.out.cell (World.block_lt_of_cell? w _ hx103_1)).trans hx103_1; replace hx103_2 := (HB.out.cell (World.block_lt_of_cell? w _ hx103_2)).trans hx103_2; replace hx103_3 := (HB.out.cell (World.block_lt_of_cell? w _ hx103_3)).trans hx103_3; replace hx103_4 := (HB.out.cell (World.block_lt_of_cell? w _ hx103_4)).trans hx103_4; replace hx103_5 := (HB.out.cell (World.block_lt_of_cell? w _ hx103_5)).trans hx103_5; replace p103 := eq_true p103; replace q103 := eq_true q103
          have hcz26_0 : wr.cell? ⟨gb102, 0, none⟩ = some (.int .i64 a1_0) := bc_ BK102 0 rfl
          have hcz26_1 : wr.cell? ⟨gb102, 1, none⟩ = some (.int .i64 a1_1) := bc_ BK102 1 rfl
          have hcz26_2 : wr.cell? ⟨gb102, 2, none⟩ = some (.slice A1_2 l1_2.length c1_2) := bc_ BK102 2 rfl
          have hcz26_3 : wr.cell? ⟨gb102, 3, none⟩ = some (.slice A1_3 l1_3.length c1_3) := bc_ BK102 3 rfl
          have hcz26_4 : wr.cell? ⟨gb102, 4, none⟩ = some (.slice A1_4 l1_4.length c1_4) := bc_ BK102 4 rfl
          have p104 : 0 ≤ (x5_2 : Int) := of_decide_eq_true (by first | (with_reducible assumption) | assumption)
          have q104 : x5_2 < (l1_2.length : Int) := of_decide_eq_true (by first | (with_reducible assumption) | assumption)
          obtain ⟨ad104, e104, hx104_0, hx104_1, hx104_2, hx104_3, hx104_4, hx104_5⟩ := at_T61 HR1_2.out x5_2 p104 q104
          cases e104
          replace hx104_0 := (HB.out.cell (World.block_lt_of_cell? w _ hx104_0)).trans hx104_0; replace hx104_1 := (HB.out.cell (World.block_lt_of_cell? w _ hx104_1)).trans hx104_1; replace hx104_2 := (HB.out.cell (World.block_lt_of_cell? w _ hx104_2)).trans hx104_2; replace hx104_3 := (HB.out.cell (World.block_lt_of_cell? w _ hx104_3)).trans hx104_3; replace hx104_4 := (HB.out.cell (World.block_lt_of_cell? w _ hx104_4)).trans hx104_4; replace hx104_5 := (HB.out.cell (World.block_lt_of_cell? w _ hx104_5)).trans hx104_5; replace p104 := eq_true p104; replace q104 := eq_true q104
          go_wp2
          repeat (go_quiet (fail); try go_wp2)
          go_ret
          exact ⟨by first | rfl | (simp [errW_none, errW_some] <;> rfl) | (simp [*, errW_none, errW_some] <;> rfl), pbx HB⟩
         ·rw [if_neg c24] at H
          have c24b0 : (((!(((rd_T61 l0_2 x5_2).f0.f0.f0) == ((rd_T61 l1_2 x5_2).f0.f0.f0)) || (!(((rd_T61 l0_2 x5_2).f0.f0.f1) == ((rd_T61 l1_2 x5_2).f0.f0.f1)))) || ((!(((rd_T61 l0_2 x5_2).f0.f1.f0) == ((rd_T61 l1_2 x5_2).f0.f1.f0)) || (!(((rd_T61 l0_2 x5_2).f0.f1.f1) == ((rd_T61 l1_2 x5_2).f0.f1.f1)))))) || ((!(((rd_T61 l0_2 x5_2).f1.f0) == ((rd_T61 l1_2 x5_2).f1.f0)) || (!(((rd_T61 l0_2 x5_2).f1.f1) == ((rd_T61 l1_2 x5_2).f1.f1)))))) = false := by simpa using c24
          clear c24
          have H' := Aside0.mk H
          clear H
          have hcz27_0 : wr.cell? ⟨gb101, 0, none⟩ = some (.int .i64 a0_0) := bc_ BK101 0 rfl
          have hcz27_1 : wr.cell? ⟨gb101, 1, none⟩ = some (.int .i64 a0_1) := bc_ BK101 1 rfl
          have hcz27_2 : wr.cell? ⟨gb101, 2, none⟩ = some (.slice A0_2 l0_2.length c0_2) := bc_ BK101 2 rfl
          have hcz27_3 : wr.cell? ⟨gb101, 3, none⟩ = some (.slice A0_3 l0_3.length c0_3) := bc_ BK101 3 rfl
          have hcz27_4 : wr.cell? ⟨gb101, 4, none⟩ = some (.slice A0_4 l0_4.length c0_4) := bc_ BK101 4 rfl
          have p103 : 0 ≤ (x5_2 : Int) := of_decide_eq_true (by first | (with_reducible assumption) | assumption)
          have q103 : x5_2 < (l0_2.length : Int) := of_decide_eq_true (by first | (with_reducible assumption) | assumption)
          obtain ⟨ad103, e103, hx103_0, hx103_1, hx103_2, hx103_3, hx103_4, hx103_5⟩ := at_T61 HR0_2.out x5_2 p103 q103
          cases e103
          replace hx103_0 := (HB.out.cell (World.block_lt_of_cell? w _ hx103_0)).trans hx103_0; replace hx103_1 := (HB.out.cell (World.block_lt_of_cell? w _ hx103_1)).trans hx103_1; replace hx103_2 := (HB.out.cell (World.block_lt_of_cell? w _ hx103_2)).trans hx103_2; replace hx103_3 := (HB.out.cell (World.block_lt_of_cell? w _ hx103_3)).trans hx103_3; replace hx103_4 := (HB.out.cell (World.block_lt_of_cell? w _ hx103_4)).trans hx103_4; replace hx103_5 := (HB.out.cell (World.block_lt_of_cell? w _ hx103_5)).trans hx103_5; replace p103 := eq_true p103; replace q103 := eq_true q103
          have hcz28_0 : wr.cell? ⟨gb102, 0, none⟩ = some (.int .i64 a1_0) := bc_ BK102 0 rfl
          have hcz28_1 : wr.cell? ⟨gb102, 1, none⟩ = some (.int .i64 a1_1) := bc_ BK102 1 rfl
          have hcz28_2 : wr.cell? ⟨gb102, 2, none⟩ = some (.slice A1_2 l1_2.length c1_2) := bc_ BK102 2 rfl
          have hcz28_3 : wr.cell? ⟨gb102, 3, none⟩ = some (.slice A1_3 l1_3.length c1_3) := bc_ BK102 3 rfl
          have hcz28_4 : wr.cell? ⟨gb102, 4, none⟩ = some (.slice A1_4 l1_4.length c1_4) := bc_ BK102 4 rfl
          have p104 : 0 ≤ (x5_2 : Int) := of_decide_eq_true (by first | (with_reducible assumption) | assumption)
          have q104 : x5_2 < (l1_2.length : Int) := of_decide_eq_true (by first | (with_reducible assumption) | assumption)
          obtain ⟨ad104, e104, hx104_0, hx104_1, hx104_2, hx104_3, hx104_4, hx104_5⟩ := at_T61 HR1_2.out x5_2 p104 q104
          cases e104
          replace hx104_0 := (HB.out.cell (World.block_lt_of_cell? w _ hx104_0)).trans hx104_0; replace hx104_1 := (HB.out.cell (World.block_lt_of_cell? w _ hx104_1)).trans hx104_1; replace hx104_2 := (HB.out.cell (World.block_lt_of_cell? w _ hx104_2)).trans hx104_2; replace hx104_3 := (HB.out.cell (World.block_lt_of_cell? w _ hx104_3)).trans hx104_3; replace hx104_4 := (HB.out.cell (World.block_lt_of_cell? w _ hx104_4)).trans hx104_4; replace hx104_5 := (HB.out.cell (World.block_lt_of_cell? w _ hx104_5)).trans hx104_5; replace p104 := eq_true p104; replace q104 := eq_true q104
          go_wp2
          repeat (go_quiet (fail); try go_wp2)
          go_roundg k2
          case measure => have := HJ2.out; have := HK2.out; omega
          case rel => exact ⟨(wrap64 (x5_2 + 1)), (by first | rfl | (simp; done) | (simp [*]; done)), H', ⟨by have := HJ2.out; have := HK2.out; omega⟩, ⟨pkx BK101⟩, ⟨pkx BK102⟩, ⟨pbx HB⟩⟩
        ·rw [if_neg c23] at H
         exact absurd H (by simp)
       ·rw [if_neg c22] at H
        exact absurd H (by simp)
      ·rw [if_neg c21] at H; have c21b0 : decide (x5_2 < (l0_2.length : Int)) = false := decide_eq_false c21; clear c21
       have H' := Aside0.mk H
       clear H
       have hcz29_0 : wr.cell? ⟨gb101, 0, none⟩ = some (.int .i64 a0_0) := bc_ BK101 0 rfl
       have hcz29_1 : wr.cell? ⟨gb101, 1, none⟩ = some (.int .i64 a0_1) := bc_ BK101 1 rfl
       have hcz29_2 : wr.cell? ⟨gb101, 2, none⟩ = some (.slice A0_2 l0_2.length c0_2) := bc_ BK101 2 rfl
       have hcz29_3 : wr.cell? ⟨gb101, 3, none⟩ = some (.slice A0_3 l0_3.length c0_3) := bc_ BK101 3 rfl
       have hcz29_4 : wr.cell? ⟨gb101, 4, none⟩ = some (.slice A0_4 l0_4.length c0_4) := bc_ BK101 4 rfl
       go_wp2
       repeat (go_quiet (fail); try go_wp2)
       go_loopg [6] k2 (fun kq v6 w' => ∃ (x6_3 : Int), v6 = .int .i64 x6_3 ∧ Aside0 (oculusref07_Same.l1 kq x6_3 a0_0 a0_1 l0_2 l0_3 l0_4 a1_0 a1_1 l1_2 l1_3 l1_4 = some r) ∧ Aside0 (kq ≤ k2) ∧ Aside0 (w'.heap[gb101]? = some (.cells #[.int .i64 a0_0, .int .i64 a0_1, (.slice A0_2 l0_2.length c0_2), (.slice A0_3 l0_3.length c0_3), (.slice A0_4 l0_4.length c0_4)] 26 (0, 0))) ∧ Aside0 (w'.heap[gb102]? = some (.cells #[.int .i64 a1_0, .int .i64 a1_1, (.slice A1_2 l1_2.length c1_2), (.slice A1_3 l1_3.length c1_3), (.slice A1_4 l1_4.length c1_4)] 26 (0, 0))) ∧ Aside0 (Below w.heap.size w w'))
       case atStart => exact ⟨(0), (by first | rfl | (simp; done) | (simp [*]; done)), H', ⟨Nat.le_refl _⟩, ⟨pkx BK101⟩, ⟨pkx BK102⟩, ⟨pbx HB⟩⟩
       case round =>
        clear H'; (try clear c1); (try clear p1); (try clear q1); (try clear hx1); (try clear c2); (try clear p2); (try clear c6); (try clear c6b0); (try clear c6b1); (try clear p6); (try clear c7); (try clear c7b0); (try clear c7b1); (try clear c8); (try clear c8b0); (try clear c8b1); (try clear c8b2); (try clear c9); (try clear c9b0); (try clear c9b1); (try clear c9b2); (try clear p10); (try clear q10); (try clear hx10); (try clear c11); (try clear c20); (try clear c21); (try clear c21b0); (try clear c22); (try clear c22b0); (try clear c23); (try clear c23b0); (try clear c24); (try clear c24b0); (try clear hcz10_0); (try clear hcz10_1); (try clear hcz10_2); (try clear hcz10_3); (try clear hcz10_4); (try clear hcz11_0); (try clear hcz11_1); (try clear hcz11_2); (try clear hcz11_3); (try clear hcz11_4); (try clear hcz12_0); (try clear hcz12_1); (try clear hcz12_2); (try clear hcz12_3); (try clear hcz12_4); (try clear hcz13_0); (try clear hcz13_1); (try clear hcz13_2); (try clear hcz13_3); (try clear hcz13_4); (try clear hcz14_0); (try clear hcz14_1); (try clear hcz14_2); (try clear hcz14_3); (try clear hcz14_4); (try clear hcz15_0); (try clear hcz15_1); (try clear hcz15_2); (try clear hcz15_3); (try clear hcz15_4); (try clear hcz16_0); (try clear hcz16_1); (try clear hcz16_2); (try clear hcz16_3); (try clear hcz16_4); (try clear hcz17_0); (try clear hcz17_1); (try clear hcz17_2); (try clear hcz17_3); (try clear hcz17_4); (try clear hcz18_0); (try clear hcz18_1); (try clear hcz18_2); (try clear hcz18_3); (try clear hcz18_4); (try clear hcz19_0); (try clear hcz19_1); (try clear hcz19_2); (try clear hcz19_3); (try clear hcz19_4); (try clear hcz25_0); (try clear hcz25_1); (try clear hcz25_2); (try clear hcz25_3); (try clear hcz25_4); (try clear hcz26_0); (try clear hcz26_1); (try clear hcz26_2)
        (try clear hcz26_3); (try clear hcz26_4); (try clear hcz27_0); (try clear hcz27_1); (try clear hcz27_2); (try clear hcz27_3); (try clear hcz27_4); (try clear hcz28_0); (try clear hcz28_1); (try clear hcz28_2); (try clear hcz28_3); (try clear hcz28_4); (try clear hcz29_0); (try clear hcz29_1); (try clear hcz29_2); (try clear hcz29_3); (try clear hcz29_4); (try clear hx103_0); (try clear hx103_1); (try clear hx103_2); (try clear hx103_3); (try clear hx103_4); (try clear hx103_5); (try clear hx104_0); (try clear hx104_1); (try clear hx104_2); (try clear hx104_3); (try clear hx104_4); (try clear hx104_5); (try clear p103); (try clear p104); (try clear p2); (try clear q103); (try clear q104); obtain ⟨x6_3, rfl, HA, HK3, BK101, BK102, HB⟩ := hrel
        cases gk with
        | zero => exact absurd HA.out (by simp [oculusref07_Same.l1])
        | succ k3 =>
         have H := HA.out; clear HA
         simp only [oculusref07_Same.l1] at H
         by_cases c30 : x6_3 < (l0_3.length : Int)
         ·rw [if_pos c30] at H; have c30b0 : decide (x6_3 < (l0_3.length : Int)) = true := decide_eq_true c30; clear c30
          by_cases c31 : 0 ≤ x6_3
          ·rw [if_pos c31] at H; have c31b0 : decide (0 ≤ x6_3) = true := decide_eq_true c31; clear c31
           by_cases c32 : x6_3 < (l1_3.length : Int)
           ·rw [if_pos c32] at H; have c32b0 : decide (x6_3 < (l1_3.length : Int)) = true := decide_eq_true c32; clear c32
            by_cases c33 : (!((((rd_T65 l0_3 x6_3).f0).toList) == (((rd_T65 l1_3 x6_3).f0).toList)) || ((!(((rd_T65 l0_3 x6_3).f1.f0) == ((rd_T65 l1_3 x6_3).f1.f0)) || (!(((rd_T65 l0_3 x6_3).f1.f1) == ((rd_T65 l1_3 x6_3).f1.f1)))))) = true
            ·rw [if_pos c33] at H
             have c33b0 : (!((((rd_T65 l0_3 x6_3).f0).toList) == (((rd_T65 l1_3 x6_3).f0).toList)) || ((!(((rd_T65 l0_3 x6_3).f1.f0) == ((rd_T65 l1_3 x6_3).f1.f0)) || (!(((rd_T65 l0_3 x6_3).f1.f1) == ((rd_T65 l1_3 x6_3).f1.f1)))))) = true := c33
             clear c33; obtain rfl := Option.some.inj H
             have hcz34_0 : wr.cell? ⟨gb101, 0, none⟩ = some (.int .i64 a0_0) := bc_ BK101 0 rfl
             have hcz34_1 : wr.cell? ⟨gb101, 1, none⟩ = some (.int .i64 a0_1) := bc_ BK101 1 rfl
             have hcz34_2 : wr.cell? ⟨gb101, 2, none⟩ = some (.slice A0_2 l0_2.length c0_2) := bc_ BK101 2 rfl
             have hcz34_3 : wr.cell? ⟨gb101, 3, none⟩ = some (.slice A0_3 l0_3.length c0_3) := bc_ BK101 3 rfl
             have hcz34_4 : wr.cell? ⟨gb101, 4, none⟩ = some (.slice A0_4 l0_4.length c0_4) := bc_ BK101 4 rfl
             have p105 : 0 ≤ (x6_3 : Int) := of_decide_eq_true (by first | (with_reducible assumption) | assumption)
             have q105 : x6_3 < (l0_3.length : Int) := of_decide_eq_true (by first | (with_reducible assumption) | assumption)
             obtain ⟨ad105, e105, hx105_0, hx105_1, hx105_2⟩ := at_T65 HR0_3.out x6_3 p105 q105
             cases e105
             replace hx105_0 := (HB.out.cell (World.block_lt_of_cell? w _ hx105_0)).trans hx105_0; replace hx105_1 := (HB.out.cell (World.block_lt_of_cell? w _ hx105_1)).trans hx105_1; replace hx105_2 := (HB.out.cell (World.block_lt_of_cell? w _ hx105_2)).trans hx105_2; replace p105 := eq_true p105; replace q105 := eq_true q105
             have hcz35_0 : wr.cell? ⟨gb102, 0, none⟩ = some (.int .i64 a1_0) := bc_ BK102 0 rfl
             have hcz35_1 : wr.cell? ⟨gb102, 1, none⟩ = some (.int .i64 a1_1) := bc_ BK102 1 rfl
             have hcz35_2 : wr.cell? ⟨gb102, 2, none⟩ = some (.slice A1_2 l1_2.length c1_2) := bc_ BK102 2 rfl
             have hcz35_3 : wr.cell? ⟨gb102, 3, none⟩ = some (.slice A1_3 l1_3.length c1_3) := bc_ BK102 3 rfl
             have hcz35_4 : wr.cell? ⟨gb102, 4, none⟩ = some (.slice A1_4 l1_4.length c1_4) := bc_ BK102 4 rfl
             have p106 : 0 ≤ (x6_3 : Int) := of_decide_eq_true (by first | (with_reducible assumption) | assumption)
             have q106 : x6_3 < (l1_3.length : Int) := of_decide_eq_true (by first | (with_reducible assumption) | assumption)
             obtain ⟨ad106, e106, hx106_0, hx106_1, hx106_2⟩ := at_T65 HR1_3.out x6_3 p106 q106
             cases e106
             replace hx106_0 := (HB.out.cell (World.block_lt_of_cell? w _ hx106_0)).trans hx106_0; replace hx106_1 := (HB.out.cell (World.block_lt_of_cell? w _ hx106_1)).trans hx106_1; replace hx106_2 := (HB.out.cell (World.block_lt_of_cell? w _ hx106_2)).trans hx106_2; replace p106 := eq_true p106; replace q106 := eq_true q106
             go_wp2
             repeat (go_quiet (fail); try go_wp2)
             go_ret
             exact ⟨by first | rfl | (simp [errW_none, errW_some] <;> rfl) | (simp [*, errW_none, errW_some] <;> rfl), pbx HB⟩
            ·rw [if_neg c33] at H
             have c33b0 : (!((((rd_T65 l0_3 x6_3).f0).toList) == (((rd_T65 l1_3 x6_3).f0).toList)) || ((!(((rd_T65 l0_3 x6_3).f1.f0) == ((rd_T65 l1_3 x6_3).f1.f0)) || (!(((rd_T65 l0_3 x6_3).f1.f1) == ((rd_T65 l1_3 x6_3).f1.f1)))))) = false := by simpa using c33
             clear c33
             have H' := Aside0.mk H
             clear H
             have hcz36_0 : wr.cell? ⟨gb101, 0, none⟩ = some (.int .i64 a0_0) := bc_ BK101 0 rfl
             have hcz36_1 : wr.cell? ⟨gb101, 1, none⟩ = some (.int .i64 a0_1) := bc_ BK101 1 rfl
             have hcz36_2 : wr.cell? ⟨gb101, 2, none⟩ = some (.slice A0_2 l0_2.length c0_2) := bc_ BK101 2 rfl
             have hcz36_3 : wr.cell? ⟨gb101, 3, none⟩ = some (.slice A0_3 l0_3.length c0_3) := bc_ BK101 3 rfl
             have hcz36_4 : wr.cell? ⟨gb101, 4, none⟩ = some (.slice A0_4 l0_4.length c0_4) := bc_ BK101 4 rfl
             have p105 : 0 ≤ (x6_3 : Int) := of_decide_eq_true (by first | (with_reducible assumption) | assumption)
             have q105 : x6_3 < (l0_3.length : Int) := of_decide_eq_true (by first | (with_reducible assumption) | assumption)
             obtain ⟨ad105, e105, hx105_0, hx105_1, hx105_2⟩ := at_T65 HR0_3.out x6_3 p105 q105
             cases e105
             replace hx105_0 := (HB.out.cell (World.block_lt_of_cell? w _ hx105_0)).trans hx105_0; replace hx105_1 := (HB.out.cell (World.block_lt_of_cell? w _ hx105_1)).trans hx105_1; replace hx105_2 := (HB.out.cell (World.block_lt_of_cell? w _ hx105_2)).trans hx105_2; replace p105 := eq_true p105; replace q105 := eq_true q105
             have hcz37_0 : wr.cell? ⟨gb102, 0, none⟩ = some (.int .i64 a1_0) := bc_ BK102 0 rfl
             have hcz37_1 : wr.cell? ⟨gb102, 1, none⟩ = some (.int .i64 a1_1) := bc_ BK102 1 rfl
             have hcz37_2 : wr.cell? ⟨gb102, 2, none⟩ = some (.slice A1_2 l1_2.length c1_2) := bc_ BK102 2 rfl
             have hcz37_3 : wr.cell? ⟨gb102, 3, none⟩ = some (.slice A1_3 l1_3.length c1_3) := bc_ BK102 3 rfl
             have hcz37_4 : wr.cell? ⟨gb102, 4, none⟩ = some (.slice A1_4 l1_4.length c1_4) := bc_ BK102 4 rfl
             have p106 : 0 ≤ (x6_3 : Int) := of_decide_eq_true (by first | (with_reducible assumption) | assumption)
             have q106 : x6_3 < (l1_3.length : Int) := of_decide_eq_true (by first | (with_reducible assumption) | assumption)
             obtain ⟨ad106, e106, hx106_0, hx106_1, hx106_2⟩ := at_T65 HR1_3.out x6_3 p106 q106
             cases e106
             replace hx106_0 := (HB.out.cell (World.block_lt_of_cell? w _ hx106_0)).trans hx106_0; replace hx106_1 := (HB.out.cell (World.block_lt_of_cell? w _ hx106_1)).trans hx106_1; replace hx106_2 := (HB.out.cell (World.block_lt_of_cell? w _ hx106_2)).trans hx106_2; replace p106 := eq_true p106; replace q106 := eq_true q106
             go_wp2
             repeat (go_quiet (fail); try go_wp2)
             go_roundg k3
             case measure => have := HJ2.out; have := HK2.out; have := HK3.out; omega
             case rel => exact ⟨(wrap64 (x6_3 + 1)), (by first | rfl | (simp; done) | (simp [*]; done)), H', ⟨by have := HJ2.out; have := HK2.out; have := HK3.out; omega⟩, ⟨pkx BK101⟩, ⟨pkx BK102⟩, ⟨pbx HB⟩⟩
           ·rw [if_neg c32] at H
            exact absurd H (by simp)
          ·rw [if_neg c31] at H
           exact absurd H (by simp)
         ·rw [if_neg c30] at H; have c30b0 : decide (x6_3 < (l0_3.length : Int)) = false := decide_eq_false c30; clear c30
          have H' := Aside0.mk H
          clear H
          have hcz38_0 : wr.cell? ⟨gb101, 0, none⟩ = some (.int .i64 a0_0) := bc_ BK101 0 rfl
          have hcz38_1 : wr.cell? ⟨gb101, 1, none⟩ = some (.int .i64 a0_1) := bc_ BK101 1 rfl
          have hcz38_2 : wr.cell? ⟨gb101, 2, none⟩ = some (.slice A0_2 l0_2.length c0_2) := bc_ BK101 2 rfl
          have hcz38_3 : wr.cell? ⟨gb101, 3, none⟩ = some (.slice A0_3 l0_3.length c0_3) := bc_ BK101 3 rfl
          have hcz38_4 : wr.cell? ⟨gb101, 4, none⟩ = some (.slice A0_4 l0_4.length c0_4) := bc_ BK101 4 rfl
          go_wp2
          repeat (go_quiet (fail); try go_wp2)
          go_loopg [7] k3 (fun kq v7 w' => ∃ (x7_4 : Int), v7 = .int .i64 x7_4 ∧ Aside0 (oculusref07_Same.l2 kq x7_4 a0_0 a0_1 l0_2 l0_3 l0_4 a1_0 a1_1 l1_2 l1_3 l1_4 = some r) ∧ Aside0 (kq ≤ k3) ∧ Aside0 (w'.heap[gb101]? = some (.cells #[.int .i64 a0_0, .int .i64 a0_1, (.slice A0_2 l0_2.length c0_2), (.slice A0_3 l0_3.length c0_3), (.slice A0_4 l0_4.length c0_4)] 26 (0, 0))) ∧ Aside0 (w'.heap[gb102]? = some (.cells #[.int .i64 a1_0, .int .i64 a1_1, (.slice A1_2 l1_2.length c1_2), (.slice A1_3 l1_3.length c1_3), (.slice A1_4 l1_4.length c1_4)] 26 (0, 0))) ∧ Aside0 (Below w.heap.size w w'))
          case atStart => exact ⟨(0), (by first | rfl | (simp; done) | (simp [*]; done)), H', ⟨Nat.le_refl _⟩, ⟨pkx BK101⟩, ⟨pkx BK102⟩, ⟨pbx HB⟩⟩
          case round =>
           clear H'; (try clear c1); (try clear p1); (try clear q1); (try clear hx1); (try clear c2); (try clear p2); (try clear c3); (try clear c6); (try clear c6b0); (try clear c6b1); (try clear p6); (try clear c7); (try clear c7b0); (try clear c7b1); (try clear c8); (try clear c8b0); (try clear c8b1); (try clear c8b2); (try clear c9); (try clear c9b0); (try clear c9b1); (try clear c9b2); (try clear p10); (try clear q10); (try clear hx10); (try clear c11); (try clear c20); (try clear c21); (try clear c21b0); (try clear c22); (try clear c22b0); (try clear c23); (try clear c23b0); (try clear c24); (try clear c24b0); (try clear c30); (try clear c30b0); (try clear c31); (try clear c31b0); (try clear c32); (try clear c32b0); (try clear c33); (try clear c33b0); (try clear hcz10_0); (try clear hcz10_1); (try clear hcz10_2); (try clear hcz10_3); (try clear hcz10_4); (try clear hcz11_0); (try clear hcz11_1); (try clear hcz11_2); (try clear hcz11_3); (try clear hcz11_4); (try clear hcz12_0); (try clear hcz12_1); (try clear hcz12_2); (try clear hcz12_3); (try clear hcz12_4); (try clear hcz13_0); (try clear hcz13_1); (try clear hcz13_2); (try clear hcz13_3); (try clear hcz13_4); (try clear hcz14_0); (try clear hcz14_1); (try clear hcz14_2); (try clear hcz14_3); (try clear hcz14_4); (try clear hcz15_0); (try clear hcz15_1); (try clear hcz15_2); (try clear hcz15_3); (try clear hcz15_4); (try clear hcz16_0); (try clear hcz16_1); (try clear hcz16_2); (try clear hcz16_3); (try clear hcz16_4); (try clear hcz17_0); (try clear hcz17_1); (try clear hcz17_2); (try clear hcz17_3); (try clear hcz17_4); (try clear hcz18_0); (try clear hcz18_1); (try clear hcz18_2); (try clear hcz18_3); (try clear hcz18_4); (try clear hcz19_0); (try clear hcz19_1); (try clear hcz19_2); (try clear hcz19_3); (try clear hcz19_4)
           (try clear hcz25_0); (try clear hcz25_1); (try clear hcz25_2); (try clear hcz25_3); (try clear hcz25_4); (try clear hcz26_0); (try clear hcz26_1); (try clear hcz26_2); (try clear hcz26_3); (try clear hcz26_4); (try clear hcz27_0); (try clear hcz27_1); (try clear hcz27_2); (try clear hcz27_3); (try clear hcz27_4); (try clear hcz28_0); (try clear hcz28_1); (try clear hcz28_2); (try clear hcz28_3); (try clear hcz28_4); (try clear hcz29_0); (try clear hcz29_1); (try clear hcz29_2); (try clear hcz29_3); (try clear hcz29_4); (try clear hcz34_0); (try clear hcz34_1); (try clear hcz34_2); (try clear hcz34_3); (try clear hcz34_4); (try clear hcz35_0); (try clear hcz35_1); (try clear hcz35_2); (try clear hcz35_3); (try clear hcz35_4); (try clear hcz36_0); (try clear hcz36_1); (try clear hcz36_2); (try clear hcz36_3); (try clear hcz36_4); (try clear hcz37_0); (try clear hcz37_1); (try clear hcz37_2)
           (try clear hcz37_3); (try clear hcz37_4); (try clear hcz38_0); (try clear hcz38_1); (try clear hcz38_2); (try clear hcz38_3); (try clear hcz38_4); (try clear hx103_0); (try clear hx103_1); (try clear hx103_2); (try clear hx103_3); (try clear hx103_4); (try clear hx103_5); (try clear hx104_0); (try clear hx104_1); (try clear hx104_2); (try clear hx104_3); (try clear hx104_4); (try clear hx104_5); (try clear hx105_0); (try clear hx105_1); (try clear hx105_2); (try clear hx106_0); (try clear hx106_1); (try clear hx106_2); (try clear p1); (try clear p10); (try clear p103); (try clear p104); (try clear p105); (try clear p106); (try clear p2); (try clear p6); (try clear q1); (try clear q10); (try clear q103); (try clear q104); (try clear q105); (try clear q106); obtain ⟨x7_4, rfl, HA, HK4, BK101, BK102, HB⟩ := hrel
           cases gk with
           | zero => exact absurd HA.out (by simp [oculusref07_Same.l2])
           | succ k4 =>
            have H := HA.out; clear HA
            simp only [oculusref07_Same.l2] at H
            by_cases c39 : x7_4 < (l0_4.length : Int)
            ·rw [if_pos c39] at H; have c39b0 : decide (x7_4 < (l0_4.length : Int)) = true := decide_eq_true c39; clear c39
             by_cases c40 : 0 ≤ x7_4
             ·rw [if_pos c40] at H; have c40b0 : decide (0 ≤ x7_4) = true := decide_eq_true c40; clear c40
              by_cases c41 : x7_4 < (l1_4.length : Int)
              ·rw [if_pos c41] at H; have c41b0 : decide (x7_4 < (l1_4.length : Int)) = true := decide_eq_true c41; clear c41
               by_cases c42 : (!((((rd_T67 l0_4 x7_4).f0).toList) == (((rd_T67 l1_4 x7_4).f0).toList)) || ((!(((rd_T67 l0_4 x7_4).f1.f0) == ((rd_T67 l1_4 x7_4).f1.f0)) || (!(((rd_T67 l0_4 x7_4).f1.f1) == ((rd_T67 l1_4 x7_4).f1.f1)))) || ((!(((rd_T67 l0_4 x7_4).f2.f0) == ((rd_T67 l1_4 x7_4).f2.f0)) || (!(((rd_T67 l0_4 x7_4).f2.f1) == ((rd_T67 l1_4 x7_4).f2.f1))))))) = true
               ·rw [if_pos c42] at H
                have c42b0 : (!((((rd_T67 l0_4 x7_4).f0).toList) == (((rd_T67 l1_4 x7_4).f0).toList)) || ((!(((rd_T67 l0_4 x7_4).f1.f0) == ((rd_T67 l1_4 x7_4).f1.f0)) || (!(((rd_T67 l0_4 x7_4).f1.f1) == ((rd_T67 l1_4 x7_4).f1.f1)))) || ((!(((rd_T67 l0_4 x7_4).f2.f0) == ((rd_T67 l1_4 x7_4).f2.f0)) || (!(((rd_T67 l0_4 x7_4).f2.f1) == ((rd_T67 l1_4 x7_4).f2.f1))))))) = true := c42
                clear c42; obtain rfl := Option.some.inj H
                have hcz43_0 : wr.cell? ⟨gb101, 0, none⟩ = some (.int .i64 a0_0) := bc_ BK101 0 rfl
                have hcz43_1 : wr.cell? ⟨gb101, 1, none⟩ = some (.int .i64 a0_1) := bc_ BK101 1 rfl
                have hcz43_2 : wr.cell? ⟨gb101, 2, none⟩ = some (.slice A0_2 l0_2.length c0_2) := bc_ BK101 2 rfl
                have hcz43_3 : wr.cell? ⟨gb101, 3, none⟩ = some (.slice A0_3 l0_3.length c0_3) := bc_ BK101 3 rfl
                have hcz43_4 : wr.cell? ⟨gb101, 4, none⟩ = some (.slice A0_4 l0_4.length c0_4) := bc_ BK101 4 rfl
                have p107 : 0 ≤ (x7_4 : Int) := of_decide_eq_true (by first | (with_reducible assumption) | assumption)
                have q107 : x7_4 < (l0_4.length : Int) := of_decide_eq_true (by first | (with_reducible assumption) | assumption)
                obtain ⟨ad107, e107, hx107_0, hx107_1, hx107_2, hx107_3, hx107_4⟩ := at_T67 HR0_4.out x7_4 p107 q107
                cases e107
                replace hx107_0 := (HB.out.cell (World.block_lt_of_cell? w _ hx107_0)).trans hx107_0; replace hx107_1 := (HB.out.cell (World.block_lt_of_cell? w _ hx107_1)).trans hx107_1; replace hx107_2 := (HB.out.cell (World.block_lt_of_cell? w _ hx107_2)).trans hx107_2; replace hx107_3 := (HB.out.cell (World.block_lt_of_cell? w _ hx107_3)).trans hx107_3; replace hx107_4 := (HB.out.cell (World.block_lt_of_cell? w _ hx107_4)).trans hx107_4; replace p107 := eq_true p107; replace q107 := eq_true q107
                have hcz44_0 : wr.cell? ⟨gb102, 0, none⟩ = some (.int .i64 a1_0) := bc_ BK102 0 rfl
                have hcz44_1 : wr.cell? ⟨gb102, 1, none⟩ = some (.int .i64 a1_1) := bc_ BK102 1 rfl
                have hcz44_2 : wr.cell? ⟨gb102, 2, none⟩ = some (.slice A1_2 l1_2.length c1_2) := bc_ BK102 2 rfl
                have hcz44_3 : wr.cell? ⟨gb102, 3, none⟩ = some (.slice A1_3 l1_3.length c1_3) := bc_ BK102 3 rfl
                have hcz44_4 : wr.cell? ⟨gb102, 4, none⟩ = some (.slice A1_4 l1_4.length c1_4) := bc_ BK102 4 rfl
                have p108 : 0 ≤ (x7_4 : Int) := of_decide_eq_true (by first | (with_reducible assumption) | assumption)
                have q108 : x7_4 < (l1_4.length : Int) := of_decide_eq_true (by first | (with_reducible assumption) | assumption)
                obtain ⟨ad108, e108, hx108_0, hx108_1, hx108_2, hx108_3, hx108_4⟩ := at_T67 HR1_4.out x7_4 p108 q108
                cases e108
                replace hx108_0 := (HB.out.cell (World.block_lt_of_cell? w _ hx108_0)).trans hx108_0; replace hx108_1 := (HB.out.cell (World.block_lt_of_cell? w _ hx108_1)).trans hx108_1; replace hx108_2 := (HB.out.cell (World.block_lt_of_cell? w _ hx108_2)).trans hx108_2; replace hx108_3 := (HB.out.cell (World.block_lt_of_cell? w _ hx108_3)).trans hx108_3; replace hx108_4 := (HB.out.cell (World.block_lt_of_cell? w _ hx108_4)).trans hx108_4; replace p108 := eq_true p108; replace q108 := eq_true q108
                go_wp2
                repeat (go_quiet (fail); try go_wp2)
                go_ret
                exact ⟨by first | rfl | (simp [errW_none, errW_some] <;> rfl) | (simp [*, errW_none, errW_some] <;> rfl), pbx HB⟩
               ·rw [if_neg c42] at H
                have c42b0 : (!((((rd_T67 l0_4 x7_4).f0).toList) == (((rd_T67 l1_4 x7_4).f0).toList)) || ((!(((rd_T67 l0_4 x7_4).f1.f0) == ((rd_T67 l1_4 x7_4).f1.f0)) || (!(((rd_T67 l0_4 x7_4).f1.f1) == ((rd_T67 l1_4 x7_4).f1.f1)))) || ((!(((rd_T67 l0_4 x7_4).f2.f0) == ((rd_T67 l1_4 x7_4).f2.f0)) || (!(((rd_T67 l0_4 x7_4).f2.f1) == ((rd_T67 l1_4 x7_4).f2.f1))))))) = false := by simpa using c42
                clear c42
                have H' := Aside0.mk H
                clear H
                have hcz45_0 : wr.cell? ⟨gb101, 0, none⟩ = some (.int .i64 a0_0) := bc_ BK101 0 rfl
                have hcz45_1 : wr.cell? ⟨gb101, 1, none⟩ = some (.int .i64 a0_1) := bc_ BK101 1 rfl
                have hcz45_2 : wr.cell? ⟨gb101, 2, none⟩ = some (.slice A0_2 l0_2.length c0_2) := bc_ BK101 2 rfl
                have hcz45_3 : wr.cell? ⟨gb101, 3, none⟩ = some (.slice A0_3 l0_3.length c0_3) := bc_ BK101 3 rfl
                have hcz45_4 : wr.cell? ⟨gb101, 4, none⟩ = some (.slice A0_4 l0_4.length c0_4) := bc_ BK101 4 rfl
                have p107 : 0 ≤ (x7_4 : Int) := of_decide_eq_true (by first | (with_reducible assumption) | assumption)
                have q107 : x7_4 < (l0_4.length : Int) := of_decide_eq_true (by first | (with_reducible assumption) | assumption)
                obtain ⟨ad107, e107, hx107_0, hx107_1, hx107_2, hx107_3, hx107_4⟩ := at_T67 HR0_4.out x7_4 p107 q107
                cases e107
                replace hx107_0 := (HB.out.cell (World.block_lt_of_cell? w _ hx107_0)).trans hx107_0; replace hx107_1 := (HB.out.cell (World.block_lt_of_cell? w _ hx107_1)).trans hx107_1; replace hx107_2 := (HB.out.cell (World.block_lt_of_cell? w _ hx107_2)).trans hx107_2; replace hx107_3 := (HB.out.cell (World.block_lt_of_cell? w _ hx107_3)).trans hx107_3; replace hx107_4 := (HB.out.cell (World.block_lt_of_cell? w _ hx107_4)).trans hx107_4; replace p107 := eq_true p107; replace q107 := eq_true q107
                have hcz46_0 : wr.cell? ⟨gb102, 0, none⟩ = some (.int .i64 a1_0) := bc_ BK102 0 rfl
                have hcz46_1 : wr.cell? ⟨gb102, 1, none⟩ = some (.int .i64 a1_1) := bc_ BK102 1 rfl
                have hcz46_2 : wr.cell? ⟨gb102, 2, none⟩ = some (.slice A1_2 l1_2.length c1_2) := bc_ BK102 2 rfl
                have hcz46_3 : wr.cell? ⟨gb102, 3, none⟩ = some (.slice A1_3 l1_3.length c1_3) := bc_ BK102 3 rfl
                have hcz46_4 : wr.cell? ⟨gb102, 4, none⟩ = some (.slice A1_4 l1_4.length c1_4) := bc_ BK102 4 rfl
                have p108 : 0 ≤ (x7_4 : Int) := of_decide_eq_true (by first | (with_reducible assumption) | assumption)
                have q108 : x7_4 < (l1_4.length : Int) := of_decide_eq_true (by first | (with_reducible assumption) | assumption)
                obtain ⟨ad108, e108, hx108_0, hx108_1, hx108_2, hx108_3, hx108_4⟩ := at_T67 HR1_4.out x7_4 p108 q108
                cases e108
                replace hx108_0 := (HB.out.cell (World.block_lt_of_cell? w _ hx108_0)).trans hx108_0; replace hx108_1 := (HB.out.cell (World.block_lt_of_cell? w _ hx108_1)).trans hx108_1; replace hx108_2 := (HB.out.cell (World.block_lt_of_cell? w _ hx108_2)).trans hx108_2; replace hx108_3 := (HB.out.cell (World.block_lt_of_cell? w _ hx108_3)).trans hx108_3; replace hx108_4 := (HB.out.cell (World.block_lt_of_cell? w _ hx108_4)).trans hx108_4; replace p108 := eq_true p108; replace q108 := eq_true q108
                go_wp2
                repeat (go_quiet (fail); try go_wp2)
                go_roundg k4
                case measure => have := HJ2.out; have := HK2.out; have := HK3.out; have := HK4.out; omega
                case rel => exact ⟨(wrap64 (x7_4 + 1)), (by first | rfl | (simp; done) | (simp [*]; done)), H', ⟨by have := HJ2.out; have := HK2.out; have := HK3.out; have := HK4.out; omega⟩, ⟨pkx BK101⟩, ⟨pkx BK102⟩, ⟨pbx HB⟩⟩
              ·rw [if_neg c41] at H
               exact absurd H (by simp)
             ·rw [if_neg c40] at H
              exact absurd H (by simp)
            ·rw [if_neg c39] at H; have c39b0 : decide (x7_4 < (l0_4.length : Int)) = false := decide_eq_false c39; clear c39; obtain rfl := Option.some.inj H
             have hcz47_0 : wr.cell? ⟨gb101, 0, none⟩ = some (.int .i64 a0_0) := bc_ BK101 0 rfl
             have hcz47_1 : wr.cell? ⟨gb101, 1, none⟩ = some (.int .i64 a0_1) := bc_ BK101 1 rfl
             have hcz47_2 : wr.cell? ⟨gb101, 2, none⟩ = some (.slice A0_2 l0_2.length c0_2) := bc_ BK101 2 rfl
             have hcz47_3 : wr.cell? ⟨gb101, 3, none⟩ = some (.slice A0_3 l0_3.length c0_3) := bc_ BK101 3 rfl
             have hcz47_4 : wr.cell? ⟨gb101, 4, none⟩ = some (.slice A0_4 l0_4.length c0_4) := bc_ BK101 4 rfl
             go_wp2
             repeat (go_quiet (fail); try go_wp2)
             go_ret
             exact ⟨by first | rfl | (simp [errW_none, errW_some] <;> rfl) | (simp [*, errW_none, errW_some] <;> rfl), pbx HB⟩

end Go.Proofs.YtbboanfggaknjaaDoor.X
/- The law PolicyTells as a function of numbers and rows, and its contract. -/
set_option linter.unusedVariables false
set_option linter.unusedSimpArgs false
namespace Go.Proofs.YtbboanfggaknjaaDoor.X
open Go.RowKit Go.Proofs.YtbboanfggaknjaaDoorW.PrintWords Go.Proofs.YtbboanfggaknjaaDoorW.PrintLast Go.Proofs.YtbboanfggaknjaaDoorW.PrintMore
attribute [local go_sem] Instr.field asAgg
def oculuslaw07_PolicyTells.f (k : Nat) (a0_0 : Int) (a0_1 : Int) (l0_2 : List (S61)) (l0_3 : List (S65)) (l0_4 : List (S67)) : Option Bool :=
  (oculuslaw07_small.f a0_0 a0_1 l0_2 l0_3 l0_4).bind fun s => if s = false then some true else
  (policy_Text.f k a0_0 a0_1 l0_2 l0_3 l0_4).bind fun t => (oculusref07_Text.f k a0_0 a0_1 l0_2 l0_3 l0_4).bind fun u => if t.data.toList = u.data.toList then
  (policy_Parse.f k t).bind fun q => (oculusref07_Wrong.f k a0_0 a0_1 l0_2 l0_3 l0_4).bind fun e =>
  if e.2 = 0 then
    if (t.size : Int) > 4000 then (if q.1 = 3 then some true else none)
    else if q.1 = 0 ∧ q.2.1 = 0 then (oculusref07_Same.f k q.2.2.1 q.2.2.2.1 q.2.2.2.2.1 q.2.2.2.2.2.1 q.2.2.2.2.2.2 a0_0 a0_1 l0_2 l0_3 l0_4).bind fun b => if b = true then some true else none
    else none
  else if t.toList = [] ∧ q.1 = 1 ∧ q.2.1 = 1 then some true else none
  else none
theorem ba_ext7 {x y : ByteArray} (h : x.data.toList = y.data.toList) : x = y := by
  obtain ⟨⟨l⟩⟩ := x
  obtain ⟨⟨m⟩⟩ := y
  exact congrArg (fun l => ByteArray.mk (Array.mk l)) h
set_option maxHeartbeats 4000000 in
set_option maxRecDepth 100000 in
theorem oculuslaw07_PolicyTells.calls (k : Nat) (a0_0 : Int) (a0_1 : Int) (A0_2 : Option Addr) (c0_2 : Nat) (l0_2 : List (S61)) (A0_3 : Option Addr) (c0_3 : Nat) (l0_3 : List (S65)) (A0_4 : Option Addr) (c0_4 : Nat) (l0_4 : List (S67)) (r : Bool) (w : World) (hT : Aside0 (Tab w)) (hr0_2 : Kd.C k61 w A0_2 l0_2.length l0_2) (hc0_2 : l0_2.length ≤ c0_2) (hr0_3 : Kd.C k65 w A0_3 l0_3.length l0_3) (hc0_3 : l0_3.length ≤ c0_3) (hr0_4 : Kd.C k67 w A0_4 l0_4.length l0_4) (hc0_4 : l0_4.length ≤ c0_4) (h : oculuslaw07_PolicyTells.f k a0_0 a0_1 l0_2 l0_3 l0_4 = some r) :
    Calls Tryd.prog 3 #[.agg #[.int .i64 a0_0, .int .i64 a0_1, .slice A0_2 l0_2.length c0_2, .slice A0_3 l0_3.length c0_3, .slice A0_4 l0_4.length c0_4]] w fun e w' => e = .returned (.bool r) ∧ Below w.heap.size w w' := by
  have hu26 := Tryd.underlying26
  have hu34 := Tryd.underlying34
  have HR : Aside0 (Rows7 w A0_2 c0_2 l0_2 A0_3 c0_3 l0_3 A0_4 c0_4 l0_4) := ⟨⟨hr0_2, hc0_2, hr0_3, hc0_3, hr0_4, hc0_4⟩⟩
  clear hr0_2 hc0_2 hr0_3 hc0_3 hr0_4 hc0_4
  obtain ⟨s, S1, H⟩ := Option.bind_eq_some_iff.mp h
  have HS1 := Aside0.mk S1
  have HH := Aside0.mk H
  clear h S1 H
  go_enter Tryd.func3, Tryd.ntmps3
  go_upto_region 1 with fail
  have hb := new_below w (.cells #[.int .i64 a0_0, .int .i64 a0_1, .slice A0_2 l0_2.length c0_2, .slice A0_3 l0_3.length c0_3, .slice A0_4 l0_4.length c0_4] 26)
  have HP := Aside0.mk (blk_new w (.cells #[.int .i64 a0_0, .int .i64 a0_1, .slice A0_2 l0_2.length c0_2, .slice A0_3 l0_3.length c0_3, .slice A0_4 l0_4.length c0_4] 26))
  have HB := Aside0.mk hb
  clear hb
  replace HR := Rows7.below HR HB.out
  replace hT := tb_ HB.out hT
  generalize w.alloc (.cells #[.int .i64 a0_0, .int .i64 a0_1, .slice A0_2 l0_2.length c0_2, .slice A0_3 l0_3.length c0_3, .slice A0_4 l0_4.length c0_4] 26) = w1 at HP HB HR hT ⊢
  generalize w.heap.size = g at HP ⊢
  obtain ⟨y0, y1, y2, y3, y4⟩ := cells5_ HP.out
  cases s with
  | false =>
    obtain rfl : true = r := Option.some.inj HH.out
    clear HH
    go_wp2_with (first
      | (go_at_call 5; (with_reducible refine (oculuslaw07_small.calls a0_0 a0_1 A0_2 c0_2 l0_2 A0_3 c0_3 l0_3 A0_4 c0_4 l0_4 false _ HR.out.z HR.out.zl HR.out.u HR.out.ul HR.out.g HR.out.gl HS1.out).mono ?_); rintro e w5 ⟨rfl, hb⟩; replace HB := Aside0.mk (below_step HB.out hb); replace hT := tb_ hb hT; replace HP := Aside0.mk (blk_below HP.out hb); replace HR := Rows7.below HR hb; clear hb y0 y1 y2 y3 y4; obtain ⟨y0, y1, y2, y3, y4⟩ := cells5_ HP.out)
      | (go_at_call 6; (with_reducible refine (oculuslaw07_alive.calls 0 true _ hT rfl).mono ?_); rintro e w6 ⟨rfl, hb⟩; replace HB := Aside0.mk (below_step HB.out hb); replace hT := tb_ hb hT; replace HP := Aside0.mk (blk_below HP.out hb); replace HR := Rows7.below HR hb; clear hb y0 y1 y2 y3 y4; obtain ⟨y0, y1, y2, y3, y4⟩ := cells5_ HP.out))
    go_ret
    exact ⟨rfl, HB.out⟩
  | true =>
    have H := HH.out
    rw [if_neg (by simp)] at H
    clear HH
    obtain ⟨t, T1, H⟩ := Option.bind_eq_some_iff.mp H
    obtain ⟨u, U1, H⟩ := Option.bind_eq_some_iff.mp H
    by_cases htu : t.data.toList = u.data.toList
    case neg => rw [if_neg htu] at H; cases H
    rw [if_pos htu] at H
    obtain rfl := ba_ext7 htu
    obtain ⟨⟨q1, q2, q3, q4, zs, us, gs⟩, Q1, H⟩ := Option.bind_eq_some_iff.mp H
    obtain ⟨⟨e1, e2⟩, E1, H⟩ := Option.bind_eq_some_iff.mp H
    have HT1 := Aside0.mk T1
    have HU1 := Aside0.mk U1
    have HQ1 := Aside0.mk Q1
    have HE := Aside0.mk E1
    have HH := Aside0.mk H
    clear H T1 U1 Q1 E1 htu
    have dt : (t.toList != t.toList) = false := bne_eq_false_iff_eq.mpr rfl
    go_upto_region 7 with (first
      | (go_at_call 5; (with_reducible refine (oculuslaw07_small.calls a0_0 a0_1 A0_2 c0_2 l0_2 A0_3 c0_3 l0_3 A0_4 c0_4 l0_4 true _ HR.out.z HR.out.zl HR.out.u HR.out.ul HR.out.g HR.out.gl HS1.out).mono ?_); rintro e w5 ⟨rfl, hb⟩; replace HB := Aside0.mk (below_step HB.out hb); replace hT := tb_ hb hT; replace HP := Aside0.mk (blk_below HP.out hb); replace HR := Rows7.below HR hb; clear hb y0 y1 y2 y3 y4; obtain ⟨y0, y1, y2, y3, y4⟩ := cells5_ HP.out)
      | (go_at_call 7; (with_reducible refine (policy_Text.calls k a0_0 a0_1 A0_2 c0_2 l0_2 A0_3 c0_3 l0_3 A0_4 c0_4 l0_4 t _ hT HR.out.z HR.out.zl HR.out.u HR.out.ul HR.out.g HR.out.gl HT1.out).mono ?_); rintro e w7 ⟨rfl, hb⟩; replace HB := Aside0.mk (below_step HB.out hb); replace hT := tb_ hb hT; replace HP := Aside0.mk (blk_below HP.out hb); replace HR := Rows7.below HR hb; clear hb y0 y1 y2 y3 y4; obtain ⟨y0, y1, y2, y3, y4⟩ := cells5_ HP.out)
      | (go_at_call 8; (with_reducible refine (oculusref07_Text.calls k a0_0 a0_1 A0_2 c0_2 l0_2 A0_3 c0_3 l0_3 A0_4 c0_4 l0_4 t _ HR.out.z HR.out.zl HR.out.u HR.out.ul HR.out.g HR.out.gl HU1.out).mono ?_); rintro e w8 ⟨rfl, hb⟩; replace HB := Aside0.mk (below_step HB.out hb); replace hT := tb_ hb hT; replace HP := Aside0.mk (blk_below HP.out hb); replace HR := Rows7.below HR hb; clear hb y0 y1 y2 y3 y4; obtain ⟨y0, y1, y2, y3, y4⟩ := cells5_ HP.out)
      | (go_at_call 9; (with_reducible refine (policy_Parse.calls k t q1 q2 q3 q4 zs us gs _ hT HQ1.out).mono ?_); rintro e w9 ⟨vz, vu, vg, rfl, hz, hu, hg, hb⟩; obtain ⟨Az, cz, rfl⟩ := Kd.R_slice hz; obtain ⟨Au, cu, rfl⟩ := Kd.R_slice hu; obtain ⟨Ag, cg, rfl⟩ := Kd.R_slice hg; have HS : Aside0 (Rows7 w9 Az cz zs Au cu us Ag cg gs) := ⟨⟨(Kd.R_reads' hz).2.2, (Kd.R_reads' hz).2.1, (Kd.R_reads' hu).2.2, (Kd.R_reads' hu).2.1, (Kd.R_reads' hg).2.2, (Kd.R_reads' hg).2.1⟩⟩; clear hz hu hg; replace HB := Aside0.mk (below_step HB.out hb); replace hT := tb_ hb hT; replace HP := Aside0.mk (blk_below HP.out hb); replace HR := Rows7.below HR hb; clear hb y0 y1 y2 y3 y4; obtain ⟨y0, y1, y2, y3, y4⟩ := cells5_ HP.out))
    have hb := new_below w9 (.cells #[.int .i64 q3, .int .i64 q4, .slice Az zs.length cz, .slice Au us.length cu, .slice Ag gs.length cg] 26)
    have HQ := Aside0.mk (blk_new w9 (.cells #[.int .i64 q3, .int .i64 q4, .slice Az zs.length cz, .slice Au us.length cu, .slice Ag gs.length cg] 26))
    replace HB := Aside0.mk (below_step HB.out hb); replace hT := tb_ hb hT; replace HP := Aside0.mk (blk_below HP.out hb); replace HR := Rows7.below HR hb; replace HS := Rows7.below HS hb
    clear hb dt HT1 HU1 HQ1 HS1 y0 y1 y2 y3 y4
    generalize w9.alloc (.cells #[.int .i64 q3, .int .i64 q4, .slice Az zs.length cz, .slice Au us.length cu, .slice Ag gs.length cg] 26) = w2 at HB hT HP HR HS HQ ⊢
    generalize w9.heap.size = g2 at HQ ⊢
    obtain ⟨y0, y1, y2, y3, y4⟩ := cells5_ HP.out
    obtain ⟨x0, x1, x2, x3, x4⟩ := cells5_ HQ.out
    have H := HH.out
    clear HH
    by_cases he : e2 = 0
    · rw [if_pos he] at H
      have d0 : (e2 == 0) = true := beq_iff_eq.mpr he
      have d1 : (e2 != 0) = false := bne_eq_false_iff_eq.mpr he
      clear he
      by_cases hs : (t.size : Int) > 4000
      · rw [if_pos hs] at H
        have d2 : decide ((t.size : Int) > 4000) = true := decide_eq_true hs
        have d3 : decide (4000 < t.size) = true := decide_eq_true (by omega)
        clear hs
        by_cases hq : q1 = 3
        case neg => rw [if_neg hq] at H; cases H
        rw [if_pos hq] at H
        obtain rfl : true = r := Option.some.inj H
        obtain rfl := hq
        clear H
        go_wp2_with (first
          | (go_at_call 10; (with_reducible refine (oculusref07_Wrong.calls k a0_0 a0_1 A0_2 c0_2 l0_2 A0_3 c0_3 l0_3 A0_4 c0_4 l0_4 e1 e2 _ HR.out.z HR.out.zl HR.out.u HR.out.ul HR.out.g HR.out.gl HE.out).mono ?_); rintro e w10 ⟨rfl, hb⟩; replace HB := Aside0.mk (below_step HB.out hb); replace hT := tb_ hb hT; replace HP := Aside0.mk (blk_below HP.out hb); replace HR := Rows7.below HR hb; replace HQ := Aside0.mk (blk_below HQ.out hb); replace HS := Rows7.below HS hb; clear hb y0 y1 y2 y3 y4; obtain ⟨y0, y1, y2, y3, y4⟩ := cells5_ HP.out; clear x0 x1 x2 x3 x4; obtain ⟨x0, x1, x2, x3, x4⟩ := cells5_ HQ.out)
          | (go_at_call 6; (with_reducible refine (oculuslaw07_alive.calls 0 true _ hT rfl).mono ?_); rintro e w6 ⟨rfl, hb⟩; replace HB := Aside0.mk (below_step HB.out hb); replace hT := tb_ hb hT; replace HP := Aside0.mk (blk_below HP.out hb); replace HR := Rows7.below HR hb; replace HQ := Aside0.mk (blk_below HQ.out hb); replace HS := Rows7.below HS hb; clear hb y0 y1 y2 y3 y4; obtain ⟨y0, y1, y2, y3, y4⟩ := cells5_ HP.out; clear x0 x1 x2 x3 x4; obtain ⟨x0, x1, x2, x3, x4⟩ := cells5_ HQ.out))
        go_ret
        exact ⟨rfl, HB.out⟩
      · rw [if_neg hs] at H
        have d2 : decide ((t.size : Int) > 4000) = false := decide_eq_false hs
        have d3 : decide (4000 < t.size) = false := decide_eq_false (by omega)
        clear hs
        by_cases hq : q1 = 0 ∧ q2 = 0
        case neg => rw [if_neg hq] at H; cases H
        rw [if_pos hq] at H
        obtain ⟨bb, M1, H⟩ := Option.bind_eq_some_iff.mp H
        cases bb with
        | false => rw [if_neg (by simp)] at H; cases H
        | true =>
          rw [if_pos rfl] at H
          obtain rfl : true = r := Option.some.inj H
          have HM := Aside0.mk M1
          obtain ⟨rfl, rfl⟩ := hq
          clear H M1
          go_wp2_with (first
            | (go_at_call 10; (with_reducible refine (oculusref07_Wrong.calls k a0_0 a0_1 A0_2 c0_2 l0_2 A0_3 c0_3 l0_3 A0_4 c0_4 l0_4 e1 e2 _ HR.out.z HR.out.zl HR.out.u HR.out.ul HR.out.g HR.out.gl HE.out).mono ?_); rintro e w10 ⟨rfl, hb⟩; replace HB := Aside0.mk (below_step HB.out hb); replace hT := tb_ hb hT; replace HP := Aside0.mk (blk_below HP.out hb); replace HR := Rows7.below HR hb; replace HQ := Aside0.mk (blk_below HQ.out hb); replace HS := Rows7.below HS hb; clear hb y0 y1 y2 y3 y4; obtain ⟨y0, y1, y2, y3, y4⟩ := cells5_ HP.out; clear x0 x1 x2 x3 x4; obtain ⟨x0, x1, x2, x3, x4⟩ := cells5_ HQ.out)
            | (go_at_call 11; (with_reducible refine (oculusref07_Same.calls k q3 q4 Az cz zs Au cu us Ag cg gs a0_0 a0_1 A0_2 c0_2 l0_2 A0_3 c0_3 l0_3 A0_4 c0_4 l0_4 true _ HS.out.z HS.out.zl HS.out.u HS.out.ul HS.out.g HS.out.gl HR.out.z HR.out.zl HR.out.u HR.out.ul HR.out.g HR.out.gl HM.out).mono ?_); rintro e w11 ⟨rfl, hb⟩; replace HB := Aside0.mk (below_step HB.out hb); replace hT := tb_ hb hT; replace HP := Aside0.mk (blk_below HP.out hb); replace HR := Rows7.below HR hb; replace HQ := Aside0.mk (blk_below HQ.out hb); replace HS := Rows7.below HS hb; clear hb y0 y1 y2 y3 y4; obtain ⟨y0, y1, y2, y3, y4⟩ := cells5_ HP.out; clear x0 x1 x2 x3 x4; obtain ⟨x0, x1, x2, x3, x4⟩ := cells5_ HQ.out)
            | (go_at_call 6; (with_reducible refine (oculuslaw07_alive.calls 0 true _ hT rfl).mono ?_); rintro e w6 ⟨rfl, hb⟩; replace HB := Aside0.mk (below_step HB.out hb); replace hT := tb_ hb hT; replace HP := Aside0.mk (blk_below HP.out hb); replace HR := Rows7.below HR hb; replace HQ := Aside0.mk (blk_below HQ.out hb); replace HS := Rows7.below HS hb; clear hb y0 y1 y2 y3 y4; obtain ⟨y0, y1, y2, y3, y4⟩ := cells5_ HP.out; clear x0 x1 x2 x3 x4; obtain ⟨x0, x1, x2, x3, x4⟩ := cells5_ HQ.out))
          go_ret
          exact ⟨rfl, HB.out⟩
    · rw [if_neg he] at H
      have d0 : (e2 == 0) = false := beq_eq_false_iff_ne.mpr he
      have d1 : (e2 != 0) = true := bne_iff_ne.mpr he
      clear he
      by_cases hq : t.toList = [] ∧ q1 = 1 ∧ q2 = 1
      case neg => rw [if_neg hq] at H; cases H
      rw [if_pos hq] at H
      obtain rfl : true = r := Option.some.inj H
      obtain ⟨ht, rfl, rfl⟩ := hq
      clear H
      go_wp2_with (first
        | (go_at_call 10; (with_reducible refine (oculusref07_Wrong.calls k a0_0 a0_1 A0_2 c0_2 l0_2 A0_3 c0_3 l0_3 A0_4 c0_4 l0_4 e1 e2 _ HR.out.z HR.out.zl HR.out.u HR.out.ul HR.out.g HR.out.gl HE.out).mono ?_); rintro e w10 ⟨rfl, hb⟩; replace HB := Aside0.mk (below_step HB.out hb); replace hT := tb_ hb hT; replace HP := Aside0.mk (blk_below HP.out hb); replace HR := Rows7.below HR hb; replace HQ := Aside0.mk (blk_below HQ.out hb); replace HS := Rows7.below HS hb; clear hb y0 y1 y2 y3 y4; obtain ⟨y0, y1, y2, y3, y4⟩ := cells5_ HP.out; clear x0 x1 x2 x3 x4; obtain ⟨x0, x1, x2, x3, x4⟩ := cells5_ HQ.out)
        | (go_at_call 6; (with_reducible refine (oculuslaw07_alive.calls 0 true _ hT rfl).mono ?_); rintro e w6 ⟨rfl, hb⟩; replace HB := Aside0.mk (below_step HB.out hb); replace hT := tb_ hb hT; replace HP := Aside0.mk (blk_below HP.out hb); replace HR := Rows7.below HR hb; replace HQ := Aside0.mk (blk_below HQ.out hb); replace HS := Rows7.below HS hb; clear hb y0 y1 y2 y3 y4; obtain ⟨y0, y1, y2, y3, y4⟩ := cells5_ HP.out; clear x0 x1 x2 x3 x4; obtain ⟨x0, x1, x2, x3, x4⟩ := cells5_ HQ.out))
      go_ret
      exact ⟨rfl, HB.out⟩
end Go.Proofs.YtbboanfggaknjaaDoor.X
/- A general opening of a row's arguments: what a value of a type reads as, as a term of a kind 'Kd', with the bounds that the row's reach gives. -/
set_option linter.unusedVariables false
set_option linter.unusedSimpArgs false
namespace Go.Proofs.YtbboanfggaknjaaDoor.Opn
open Go.ChangeShapes Go.WideShapes Go.RowKit Go.Proofs.YtbboanfggaknjaaDoorW.PrintWords

def Opens {α : Type} (P : Program) (t : TypeId) (d : Kd α) (good : α → Prop) : Prop :=
  ∀ {H : Type} {enc : TypeId × Value → H} {w : World} {base : Nat} {spare : Nat → Bool} {held : Bool} {fuel : Nat} {cs : List Value} {x : DataW H × List MemPlace},
    DataW.trod enc P w base spare held fuel t cs = some x → (∀ m ∈ x.1.weights P t, m ≤ reachBytes) → ∃ a, d.K w a cs ∧ good a

theorem opens_int {P : Program} {t : TypeId} {k : IntKind} (ht : P.underlying t = some (.int k)) : Opens P t (Kd.int k) (fun n => (Lit.int k n).wf = true) := by
  intro H enc w base spare held fuel cs x hx _
  obtain ⟨n, rfl, rfl, hn⟩ := DataW.trod_int ht hx
  exact ⟨n, rfl, hn⟩
theorem opens_string {P : Program} {t : TypeId} (ht : P.underlying t = some .string) : Opens P t Kd.string (fun s => s.size ≤ reachBytes) := by
  intro H enc w base spare held fuel cs x hx hw
  obtain ⟨s, rfl, rfl, _⟩ := DataW.trod_string ht hx
  refine ⟨s, rfl, ?_⟩
  have := hw s.data.toList.length (by simp [DataW.weights])
  simpa using this

theorem weightsAll_mem {H : Type} {P : Program} {e : TypeId} : ∀ {l : List (DataW H)} {d : DataW H}, d ∈ l → ∀ m ∈ d.weights P e, m ∈ DataW.weightsAll P e l
  | d0 :: l, d, hd, m, hm => by
    simp only [DataW.weightsAll, List.mem_append]
    rcases List.mem_cons.1 hd with rfl | hd
    · exact Or.inl hm
    · exact Or.inr (weightsAll_mem hd m hm)
  | [], _, hd, _, _ => by simp at hd

theorem opens_slice {α : Type} {P : Program} {t e : TypeId} {d : Kd α} {good : α → Prop} (ht : P.underlying t = some (.slice e)) (hc : P.cellsOf e = d.sz) {B : Nat} (hB : P.bytesOf e = B) (z : α) (h : Opens P e d good) :
    Opens P t (Kd.slice e d) (fun xs => (∀ x ∈ xs, good x) ∧ xs.length * B ≤ reachBytes) := by
  intro H enc w base spare held fuel cs x hx hw
  rcases Go.Deep.open_slice ht hx with ⟨rfl, rfl⟩ | ⟨a, len, cap, m, n, D, Pl, rfl, hb, hl, hm, hmm, rfl, hel⟩
  · exact ⟨[], ⟨none, 0, rfl, Nat.le_refl _, rfl, by simp, fun h0 => absurd h0 (by simp)⟩, by simp, by simp⟩
  · have hlm : len ≤ m := by rw [hmm]; split <;> omega
    have hmx : len ≤ 9223372036854775807 := by unfold maxLen at hm; omega
    have hw' : ∀ i, i < len → ∀ q ∈ (D i).weights P e, q ≤ reachBytes := by
      intro i hi q hq
      refine hw q ?_
      simp only [DataW.weights, ht]
      refine List.mem_cons_of_mem _ (List.mem_append.2 (Or.inl ?_))
      exact weightsAll_mem (d := D i) (List.mem_map.2 ⟨i, List.mem_range.2 hi, rfl⟩) q hq
    have hB' : len * B ≤ reachBytes := by
      have h0 := hw ((((List.range len).map D).length + ((List.range (m - len)).map fun j => D (len + j)).length) * P.bytesOf e) (by simp only [DataW.weights, ht]; exact List.mem_cons_self ..)
      rw [hB] at h0
      simp only [List.length_map, List.length_range] at h0
      exact Nat.le_trans (Nat.mul_le_mul_right B (by omega)) h0
    have key : ∀ i, i < len → ∃ y : α × List Value, d.K w y.1 y.2 ∧ good y.1 ∧ w.cells? base (a.add (i * P.cellsOf e)) (P.cellsOf e) = some y.2 := by
      intro i hi
      obtain ⟨cs', h1, h2⟩ := hel i (by omega)
      obtain ⟨y, h3, h4⟩ := h h2 (hw' i hi)
      exact ⟨(y, cs'), h3, h4, h1⟩
    haveI : Inhabited (α × List Value) := ⟨(z, [])⟩
    obtain ⟨F, hF⟩ := Go.Deep.choose_lt key
    refine ⟨(List.range len).map fun i => (F i).1, ⟨some a, cap, by simp, by simpa using hl, by simp, by simpa using hmx, fun h0 => ⟨a, rfl, ?_⟩⟩, ?_, by simpa using hB'⟩
    · intro j p hj
      have hjl : j < len := by
        have := (List.getElem?_eq_some_iff.1 hj).1
        simpa using this
      have hp : p = (F j).1 := by
        rw [List.getElem?_map, List.getElem?_range hjl] at hj
        simpa using hj.symm
      subst hp
      obtain ⟨h1, h2, h3⟩ := hF j hjl
      obtain ⟨_, hlen, hcell⟩ := World.cells?_some h3
      refine ⟨(F j).2, by rw [hlen, hc], h1, fun i u hu => ?_⟩
      have hi : i < P.cellsOf e := by
        have := (List.getElem?_eq_some_iff.1 hu).1
        omega
      have := hcell i hi
      rw [Go.Deep.add_add] at this
      rw [← hc, this, hu]
    · intro x hx
      obtain ⟨i, hi, rfl⟩ := List.mem_map.1 hx
      exact (hF i (List.mem_range.1 hi)).2.1

def OpensTail {α : Type} (P : Program) (fs : List Field) (o len : Nat) (d : Kd α) (good : α → Prop) : Prop :=
  ∀ {H : Type} {enc : TypeId × Value → H} {w : World} {base : Nat} {spare : Nat → Bool} {held : Bool} {n : Nat} {cs : List Value} {xs : List (DataW H × List MemPlace)},
    cs.length = len → xs.length = fs.length →
    (∀ (i : Nat) (f : Field), fs[i]? = some f → DataW.trod enc P w base spare held n f.type ((cs.drop f.offset).take (P.cellsOf f.type)) = xs[i]?) →
    (∀ m ∈ DataW.weightsEach P (fs.map (·.type)) (xs.map (·.1)), m ≤ reachBytes) → ∃ a, d.K w a (cs.drop o) ∧ good a

theorem tail_one {α : Type} {P : Program} {f : Field} {o len : Nat} {d : Kd α} {good : α → Prop} (ho : f.offset = o) (hl : len ≤ o + P.cellsOf f.type) (h : Opens P f.type d good) : OpensTail P [f] o len d good := by
  intro H enc w base spare held n cs xs hcs hxs hall hw
  obtain ⟨x, rfl⟩ : ∃ x, xs = [x] := by
    match xs, hxs with
    | [x], _ => exact ⟨x, rfl⟩
  have h0 := hall 0 f rfl
  rw [ho, List.take_of_length_le (by rw [List.length_drop]; omega)] at h0
  exact h h0 (fun m hm => hw m (by simp only [List.map_cons, List.map_nil, DataW.weightsEach, List.mem_append]; exact Or.inl hm))
theorem tail_cons {α β : Type} {P : Program} {f : Field} {fs : List Field} {o o' len : Nat} {a : Kd α} {b : Kd β} {ga : α → Prop} {gb : β → Prop} (ho : f.offset = o) (ho' : o' = o + P.cellsOf f.type)
    (h : Opens P f.type a ga) (ht : OpensTail P fs o' len b gb) : OpensTail P (f :: fs) o len (Kd.pair a b) (fun x => ga x.1 ∧ gb x.2) := by
  intro H enc w base spare held n cs xs hcs hxs hall hw
  obtain ⟨x, xs, rfl⟩ : ∃ x r, xs = x :: r := by
    match xs, hxs with
    | x :: r, _ => exact ⟨x, r, rfl⟩
  have h0 := hall 0 f rfl
  rw [ho] at h0
  obtain ⟨y, hy, hgy⟩ := h h0 (fun m hm => hw m (by simp only [List.map_cons, DataW.weightsEach, List.mem_append]; exact Or.inl hm))
  obtain ⟨z, hz, hgz⟩ := ht (xs := xs) hcs (by simpa using hxs) (fun i g hg => by simpa using hall (i + 1) g (by simpa using hg))
    (fun m hm => hw m (by simp only [List.map_cons, DataW.weightsEach, List.mem_append]; exact Or.inr hm))
  refine ⟨(y, z), ⟨(cs.drop o).take (P.cellsOf f.type), cs.drop o', ?_, hy, hz⟩, hgy, hgz⟩
  rw [ho', ← List.drop_drop, List.take_append_drop]
theorem opens_struct {α β : Type} {P : Program} {t : TypeId} {fs : Array Field} {len : Nat} {d : Kd α} {good : α → Prop} (ht : P.underlying t = some (.struct fs)) (hl : P.cellsOf t = len) (h : OpensTail P fs.toList 0 len d good) (f : β → α) (g : α → β) (hfg : ∀ a, f (g a) = a) :
    Opens P t (Kd.iso d f) (fun x => good (f x)) := by
  intro H enc w base spare held fuel cs x hx hw
  obtain ⟨xs, n, rfl, rfl, hcs, hxs, hall⟩ := DataW.trod_struct ht hx
  obtain ⟨a, ha, hga⟩ := h (xs := xs) (hcs.trans hl) (by simpa using hxs) (fun i f hf => hall i f (by simpa using hf)) (fun m hm => hw m (by simp only [DataW.weights, ht]; exact hm))
  refine ⟨g a, ?_, by show good (f (g a)); rw [hfg]; exact hga⟩
  show d.K w (f (g a)) cs
  rw [hfg]
  simpa using ha
theorem Opens.iso {α β : Type} {P : Program} {t : TypeId} {d : Kd α} {good : α → Prop} (h : Opens P t d good) (f : β → α) (g : α → β) (hfg : ∀ a, f (g a) = a) : Opens P t (Kd.iso d f) (fun x => good (f x)) := by
  intro H enc w base spare held fuel cs x hx hw
  obtain ⟨a, ha, hga⟩ := h hx hw
  refine ⟨g a, ?_, by show good (f (g a)); rw [hfg]; exact hga⟩
  show d.K w (f (g a)) cs
  rw [hfg]
  exact ha
end Go.Proofs.YtbboanfggaknjaaDoor.Opn
/- The openings of the arguments of the law PolicyTells, and its pure statement. -/
set_option linter.unusedVariables false
namespace Go.Proofs.YtbboanfggaknjaaDoor.X
open Go.RowKit Go.Proofs.YtbboanfggaknjaaDoorW.PrintWords Go.Proofs.YtbboanfggaknjaaDoorW.PrintLast Go.Proofs.YtbboanfggaknjaaDoorW.PrintMore Go.Proofs.YtbboanfggaknjaaDoor.Opn
def good38 (x : S38) : Prop := ((Lit.int .i64 x.f0).wf = true) ∧ ((Lit.int .i64 x.f1).wf = true)
theorem opens38 : Opens Tryd.prog 38 k38 good38 := opens_struct Tryd.underlying38 (len := 2) (by kernel_rfl) (tail_cons rfl (by kernel_rfl) (opens_int Tryd.underlying3) (tail_one rfl (Nat.le_of_eq (by kernel_rfl)) (opens_int Tryd.underlying3))) (fun x : S38 => (x.f0, x.f1)) (fun a => ⟨a.1, a.2⟩) (fun _ => rfl)
def good56 (x : S56) : Prop := (good38 x.f0) ∧ (good38 x.f1)
theorem opens56 : Opens Tryd.prog 56 k56 good56 := opens_struct Tryd.underlying56 (len := 4) (by kernel_rfl) (tail_cons rfl (by kernel_rfl) opens38 (tail_one rfl (Nat.le_of_eq (by kernel_rfl)) opens38)) (fun x : S56 => (x.f0, x.f1)) (fun a => ⟨a.1, a.2⟩) (fun _ => rfl)
def good59 (x : S59) : Prop := ((Lit.int .i64 x.f0).wf = true) ∧ ((Lit.int .u64 x.f1).wf = true)
theorem opens59 : Opens Tryd.prog 59 k59 good59 := opens_struct Tryd.underlying59 (len := 2) (by kernel_rfl) (tail_cons rfl (by kernel_rfl) (opens_int Tryd.underlying3) (tail_one rfl (Nat.le_of_eq (by kernel_rfl)) (opens_int Tryd.underlying57))) (fun x : S59 => (x.f0, x.f1)) (fun a => ⟨a.1, a.2⟩) (fun _ => rfl)
def good61 (x : S61) : Prop := (good56 x.f0) ∧ (good59 x.f1)
theorem opens61 : Opens Tryd.prog 61 k61 good61 := opens_struct Tryd.underlying61 (len := 6) (by kernel_rfl) (tail_cons rfl (by kernel_rfl) opens56 (tail_one rfl (Nat.le_of_eq (by kernel_rfl)) opens59)) (fun x : S61 => (x.f0, x.f1)) (fun a => ⟨a.1, a.2⟩) (fun _ => rfl)
def good65 (x : S65) : Prop := (x.f0.size ≤ reachBytes) ∧ (good59 x.f1)
theorem opens65 : Opens Tryd.prog 65 k65 good65 := opens_struct Tryd.underlying65 (len := 3) (by kernel_rfl) (tail_cons rfl (by kernel_rfl) (opens_string Tryd.underlying9) (tail_one rfl (Nat.le_of_eq (by kernel_rfl)) opens59)) (fun x : S65 => (x.f0, x.f1)) (fun a => ⟨a.1, a.2⟩) (fun _ => rfl)
def good67 (x : S67) : Prop := (x.f0.size ≤ reachBytes) ∧ (good59 x.f1) ∧ (good59 x.f2)
theorem opens67 : Opens Tryd.prog 67 k67 good67 := opens_struct Tryd.underlying67 (len := 5) (by kernel_rfl) (tail_cons rfl (by kernel_rfl) (opens_string Tryd.underlying9) (tail_cons rfl (by kernel_rfl) opens59 (tail_one rfl (Nat.le_of_eq (by kernel_rfl)) opens59))) (fun x : S67 => (x.f0, x.f1, x.f2)) (fun a => ⟨a.1, a.2.1, a.2.2⟩) (fun _ => rfl)
def good26 (x : S26) : Prop := ((Lit.int .i64 x.f0).wf = true) ∧ ((Lit.int .i64 x.f1).wf = true) ∧ ((∀ y ∈ x.f2, good61 y) ∧ x.f2.length * 48 ≤ reachBytes) ∧ ((∀ y ∈ x.f3, good65 y) ∧ x.f3.length * 32 ≤ reachBytes) ∧ ((∀ y ∈ x.f4, good67 y) ∧ x.f4.length * 48 ≤ reachBytes)
theorem opens26 : Opens Tryd.prog 26 k26 good26 := opens_struct Tryd.underlying26 (len := 5) (by kernel_rfl) (tail_cons rfl (by kernel_rfl) (opens_int Tryd.underlying3) (tail_cons rfl (by kernel_rfl) (opens_int Tryd.underlying3) (tail_cons rfl (by kernel_rfl) (opens_slice Tryd.underlying22 (by kernel_rfl) (B := 48) (by kernel_rfl) z61 opens61) (tail_cons rfl (by kernel_rfl) (opens_slice Tryd.underlying23 (by kernel_rfl) (B := 32) (by kernel_rfl) z65 opens65) (tail_one rfl (Nat.le_of_eq (by kernel_rfl)) (opens_slice Tryd.underlying24 (by kernel_rfl) (B := 48) (by kernel_rfl) z67 opens67)))))) (fun x : S26 => (x.f0, x.f1, x.f2, x.f3, x.f4)) (fun a => ⟨a.1, a.2.1, a.2.2.1, a.2.2.2.1, a.2.2.2.2⟩) (fun _ => rfl)
def oculuslaw07_PolicyTells.PureX : Prop := ∀ (a0 : S26), (good26 a0) → ∃ k, oculuslaw07_PolicyTells.f k (a0.f0) (a0.f1) (a0.f2) (a0.f3) (a0.f4) = some true
end Go.Proofs.YtbboanfggaknjaaDoor.X
/- What addr and its reference answer: letters, numbers, names. -/
set_option linter.unusedVariables false
set_option linter.unusedSimpArgs false
namespace Go.Proofs.YtbboanfggaknjaaDoor.X.AD
open Go.RowKit Go.Proofs.YtbboanfggaknjaaDoorW.PrintWords Go.Proofs.YtbboanfggaknjaaDoorW.PrintLast Go.Proofs.YtbboanfggaknjaaDoorW.PrintMore
def u8 (n : Nat) : UInt8 := UInt8.ofNat n
def letL (c : Nat) : List UInt8 := if c < 26 then [u8 (65 + c)] else [u8 (64 + c / 26), u8 (65 + c % 26)]
def digL (n : Nat) : List UInt8 := if n < 10 then [u8 (48 + n)] else if n < 100 then [u8 (48 + n / 10), u8 (48 + n % 10)] else [u8 (48 + n / 100), u8 (48 + n / 10 % 10), u8 (48 + n % 10)]
theorem itoa_digL (n : Nat) (h : n < 1000) : Lib.itoa (n : Int) = digL n := by
  unfold Lib.itoa digL u8
  rw [if_neg (by omega), Int.toNat_natCast]
  by_cases h1 : n < 10
  · rw [if_pos h1, Lib.decDigits, dif_pos h1]
  · rw [if_neg h1, Lib.decDigits, dif_neg h1]
    by_cases h2 : n < 100
    · rw [if_pos h2, Lib.decDigits, dif_pos (by omega)]; rfl
    · rw [if_neg h2, Lib.decDigits, dif_neg (by omega), Lib.decDigits, dif_pos (by omega)]
      rw [Nat.div_div_eq_div_mul]; rfl
theorem itoa_eq (n : Nat) (h : n < 1000) : strconv_Itoa.f (n : Int) = some (tx (digL n)) := by
  unfold strconv_Itoa.f
  rw [if_pos (by omega), itoa_digL n h]; rfl
theorem sn1 (a : Nat) : strOfNums [(a : Int)] = tx [u8 a] := rfl
theorem sn2 (a b : Nat) : strOfNums [(a : Int), (b : Int)] = tx [u8 a, u8 b] := rfl
theorem tdiv26 (c : Nat) : Int.tdiv (c : Int) 26 = ((c / 26 : Nat) : Int) := by rw [Int.tdiv_eq_ediv_of_nonneg (by omega)]; omega
theorem tmod26 (c : Nat) : Int.tmod (c : Int) 26 = ((c % 26 : Nat) : Int) := by rw [Int.tmod_eq_emod_of_nonneg (by omega)]; omega
theorem tdiv10 (c : Nat) : Int.tdiv (c : Int) 10 = ((c / 10 : Nat) : Int) := by rw [Int.tdiv_eq_ediv_of_nonneg (by omega)]; omega
theorem tmod10 (c : Nat) : Int.tmod (c : Int) 10 = ((c % 10 : Nat) : Int) := by rw [Int.tmod_eq_emod_of_nonneg (by omega)]; omega
theorem wn (x : Int) (n : Nat) (h : x = (n : Int)) (hn : n < 256) : wrap64 x % 256 = (n : Int) := by rw [w64 (by omega) (by omega)]; omega
def ltrI (c : Int) : List UInt8 := if c < 0 ∨ c ≥ 702 then [] else letL c.toNat
theorem letters_ev (c : Int) : Ev (fun k => addr_Letters.f k c) (tx (ltrI c)) := by
  unfold addr_Letters.f ltrI
  by_cases h : c < 0 ∨ c ≥ 702
  · rw [if_pos h]
    have hj : Ev (fun k => addr_Letters.j0 k c true) (tx []) := by
      refine Ev.step (fun k => addr_Letters.j0.eq_2 _ _ _) ?_
      exact ev_pos rfl (Ev.now _)
    refine ev_ite (fun _ => hj) (fun h1 => ?_)
    rw [decide_eq_true (by omega)]
    exact hj
  · rw [if_neg h]
    refine ev_neg (by omega) ?_
    rw [decide_eq_false (by omega)]
    refine Ev.step (fun k => addr_Letters.j0.eq_2 _ _ _) ?_
    refine ev_neg (by simp) ?_
    obtain ⟨n, rfl⟩ : ∃ n : Nat, c = (n : Int) := ⟨c.toNat, by omega⟩
    rw [Int.toNat_natCast]
    unfold letL
    refine ev_ite (fun h1 => ev_some fun _ => ?_) (fun h1 => ev_some fun _ => ?_)
    · rw [if_pos (by omega), wn _ (65 + n) (by omega) (by omega), sn1]
    · have e1 : wrap64 (wrap64 (65 + wrap64 (((n / 26 : Nat) : Int))) - 1) % 256 = ((64 + n / 26 : Nat) : Int) := by
        rw [w64 (x := ((n / 26 : Nat) : Int)) (by omega) (by omega), w64 (x := 65 + ((n / 26 : Nat) : Int)) (by omega) (by omega)]
        exact wn _ _ (by omega) (by omega)
      have e2 : wrap64 (65 + ((n % 26 : Nat) : Int)) % 256 = ((65 + n % 26 : Nat) : Int) := wn _ _ (by omega) (by omega)
      rw [if_neg (by omega), tdiv26, tmod26, e1, e2, sn2]
theorem rletters_ev (c : Int) : Ev (fun k => oculusref03_Letters.f k c) (tx (ltrI c)) := by
  unfold oculusref03_Letters.f ltrI
  by_cases h : c < 0 ∨ c ≥ 702
  · rw [if_pos h]
    have hj : Ev (fun k => oculusref03_Letters.j0 k c true) (tx []) := by
      refine Ev.step (fun k => oculusref03_Letters.j0.eq_2 _ _ _) ?_
      exact ev_pos rfl (Ev.now _)
    refine ev_ite (fun _ => hj) (fun h1 => ?_)
    rw [decide_eq_true (by omega)]
    exact hj
  · rw [if_neg h]
    refine ev_neg (by omega) ?_
    rw [decide_eq_false (by omega)]
    refine Ev.step (fun k => oculusref03_Letters.j0.eq_2 _ _ _) ?_
    refine ev_neg (by simp) ?_
    obtain ⟨n, rfl⟩ : ∃ n : Nat, c = (n : Int) := ⟨c.toNat, by omega⟩
    rw [Int.toNat_natCast]
    unfold letL
    refine ev_ite (fun h1 => ev_some fun _ => ?_) (fun h1 => ev_some fun _ => ?_)
    · rw [if_pos (by omega), wn _ (65 + n) (by omega) (by omega), sn1]
    · have e1 : wrap64 (64 + wrap64 (((n / 26 : Nat) : Int))) % 256 = ((64 + n / 26 : Nat) : Int) := by
        rw [w64 (x := ((n / 26 : Nat) : Int)) (by omega) (by omega)]
        exact wn _ _ (by omega) (by omega)
      have e2 : wrap64 (65 + ((n % 26 : Nat) : Int)) % 256 = ((65 + n % 26 : Nat) : Int) := wn _ _ (by omega) (by omega)
      rw [if_neg (by omega), tdiv26, tmod26, e1, e2, sn2]
theorem digits_l0_zero (l : List UInt8) : Ev (fun k => oculusref01_Digits.l0 k 0 (tx l)) (tx l) := by
  refine Ev.step (fun k => oculusref01_Digits.l0.eq_2 _ _ _) ?_
  exact ev_neg (by omega) (Ev.now _)
theorem digits_l0_more (n : Nat) (h0 : 0 < n) (h : n < 1000) (l q : List UInt8) (hl : l.length < 10) (hn : Ev (fun k => oculusref01_Digits.l0 k ((n / 10 : Nat) : Int) (tx (u8 (48 + n % 10) :: l))) (tx q)) : Ev (fun k => oculusref01_Digits.l0 k (n : Int) (tx l)) (tx q) := by
  refine Ev.step (fun k => oculusref01_Digits.l0.eq_2 _ _ _) ?_
  refine ev_pos (by omega) (ev_bsome ?_)
  have e2 : wrap64 (48 + Int.tmod (n : Int) 10) % 256 = ((48 + n % 10 : Nat) : Int) := by rw [tmod10]; exact wn _ _ (by omega) (by omega)
  rw [e2, sn1, tdiv10, w64 (by omega) (by omega)]
  refine ev_pos (by rw [size_tx, size_tx]; simp; omega) ?_
  rw [tx_append]
  exact hn
theorem digits_ev (n : Nat) (h : n < 1000) : Ev (fun k => oculusref01_Digits.f k (n : Int)) (tx (digL n)) := by
  unfold oculusref01_Digits.f
  have e2 : wrap64 (48 + Int.tmod (n : Int) 10) % 256 = ((48 + n % 10 : Nat) : Int) := by rw [tmod10]; exact wn _ _ (by omega) (by omega)
  rw [e2, sn1, tdiv10, w64 (by omega) (by omega)]
  unfold digL
  by_cases h1 : n < 10
  · rw [if_pos h1, show n / 10 = 0 by omega, show n % 10 = n by omega]
    exact digits_l0_zero _
  · rw [if_neg h1]
    by_cases h2 : n < 100
    · rw [if_pos h2]
      refine digits_l0_more _ (by omega) (by omega) _ _ (by simp) ?_
      rw [show n / 10 / 10 = 0 by omega, show n / 10 % 10 = n / 10 by omega]
      exact digits_l0_zero _
    · rw [if_neg h2]
      refine digits_l0_more _ (by omega) (by omega) _ _ (by simp) ?_
      refine digits_l0_more _ (by omega) (by omega) _ _ (by simp) ?_
      rw [show n / 10 / 10 / 10 = 0 by omega, show n / 10 / 10 % 10 = n / 100 by omega]
      exact digits_l0_zero _
def mayI (r c : Int) : Bool := decide (0 ≤ r ∧ r < 999 ∧ 0 ≤ c ∧ c < 702)
theorem amay_eq (a b : Int) : addr_May.f a b = some (mayI a b) := by
  unfold addr_May.f mayI
  by_cases h1 : a ≥ 0
  · rw [if_pos h1]
    by_cases h2 : a < 999
    · rw [if_pos h2]
      by_cases h3 : b ≥ 0
      · rw [if_pos h3, Option.some.injEq, decide_eq_decide]; omega
      · rw [if_neg h3, decide_eq_false (by omega)]
    · rw [if_neg h2, decide_eq_false (by omega)]
  · rw [if_neg h1, decide_eq_false (by omega)]
theorem rmay_eq (a b : Int) : oculusref03_May.f a b = some (mayI a b) := by
  unfold oculusref03_May.f mayI
  by_cases h1 : a ≥ 0
  · rw [if_pos h1]
    by_cases h2 : a ≤ 998
    · rw [if_pos h2]
      by_cases h3 : b ≥ 0
      · rw [if_pos h3, Option.some.injEq, decide_eq_decide]; omega
      · rw [if_neg h3, decide_eq_false (by omega)]
    · rw [if_neg h2, decide_eq_false (by omega)]
  · rw [if_neg h1, decide_eq_false (by omega)]
def nameL (r c : Int) : List UInt8 := if mayI r c = true then letL c.toNat ++ digL (r.toNat + 1) else []
theorem letL_len (n : Nat) : (letL n).length ≤ 2 := by unfold letL; split <;> simp
theorem digL_len (n : Nat) : (digL n).length ≤ 3 := by unfold digL; (repeat' split) <;> simp
theorem name_ev (r c : Int) : Ev (fun k => addr_Name.f k r c) (tx (nameL r c)) := by
  unfold addr_Name.f nameL
  refine ev_bind (ev_some fun _ => amay_eq r c) ?_
  by_cases h : mayI r c = true
  · rw [if_pos h]
    refine ev_pos h ?_
    unfold mayI at h
    have hb := of_decide_eq_true h
    have hl := letters_ev c
    unfold ltrI at hl
    rw [if_neg (by omega)] at hl
    refine ev_bind hl ?_
    have e : wrap64 (r + 1) = ((r.toNat + 1 : Nat) : Int) := by rw [w64 (by omega) (by omega)]; omega
    rw [e, itoa_eq _ (by omega)]
    refine ev_bsome ?_
    have h1 := letL_len c.toNat
    have h2 := digL_len (r.toNat + 1)
    refine ev_pos (by rw [size_tx, size_tx]; omega) (ev_some fun _ => by rw [tx_append])
  · rw [if_neg h]; exact ev_neg h (Ev.now _)
theorem rname_ev (r c : Int) : Ev (fun k => oculusref03_Name.f k r c) (tx (nameL r c)) := by
  unfold oculusref03_Name.f nameL
  refine ev_bind (ev_some fun _ => rmay_eq r c) ?_
  by_cases h : mayI r c = true
  · rw [if_pos h]
    refine ev_pos h ?_
    unfold mayI at h
    have hb := of_decide_eq_true h
    have hl := rletters_ev c
    unfold ltrI at hl
    rw [if_neg (by omega)] at hl
    refine ev_bind hl ?_
    have e : wrap64 (r + 1) = ((r.toNat + 1 : Nat) : Int) := by rw [w64 (by omega) (by omega)]; omega
    rw [e]
    refine ev_bind (digits_ev _ (by omega)) ?_
    have h1 := letL_len c.toNat
    have h2 := digL_len (r.toNat + 1)
    refine ev_pos (by rw [size_tx, size_tx]; omega) (ev_some fun _ => by rw [tx_append])
  · rw [if_neg h]; exact ev_neg h (Ev.now _)
end Go.Proofs.YtbboanfggaknjaaDoor.X.AD
/- What addr.Column, Number, Parse and their reference answer. -/
set_option linter.unusedVariables false
set_option linter.unusedSimpArgs false
namespace Go.Proofs.YtbboanfggaknjaaDoor.X.AD
open Go.RowKit Go.Proofs.YtbboanfggaknjaaDoorW.PrintWords Go.Proofs.YtbboanfggaknjaaDoorW.PrintLast Go.Proofs.YtbboanfggaknjaaDoorW.PrintMore
def isU (b : UInt8) : Bool := decide (65 ≤ b.toNat ∧ b.toNat ≤ 90)
def isD (b : UInt8) : Bool := decide (48 ≤ b.toNat ∧ b.toNat ≤ 57)
def colF : Int → List UInt8 → Int × Bool
  | n, [] => (n - 1, true)
  | n, b :: l => if isU b = true then colF (n * 26 + ((b.toNat : Int) - 65) + 1) l else (0, false)
def colS (l : List UInt8) : Int × Bool := if l.length < 1 ∨ l.length > 2 then (0, false) else colF 0 l
def numF : Int → List UInt8 → Int × Bool
  | n, [] => (n - 1, true)
  | n, b :: l => if isD b = true then numF (n * 10 + ((b.toNat : Int) - 48)) l else (0, false)
def numS (l : List UInt8) : Int × Bool := if l.length < 1 ∨ l.length > 3 ∨ l.head? = some 48 then (0, false) else numF 0 l
theorem col_l0 (l : List UInt8) (hl : l.length ≤ 2) : ∀ d i n, i + d = l.length → 0 ≤ n → ((i = 0 → n = 0) ∧ (i = 1 → n ≤ 26) ∧ n ≤ 1000) → Ev (fun k => addr_Column.l0 k (tx l) n (l.length : Int) (i : Int)) (colF n (l.drop i))
  | 0, i, n, h, h0, h1 => by
    rw [List.drop_eq_nil_of_le (by omega)]
    refine Ev.step (fun k => addr_Column.l0.eq_2 _ _ _ _ _) ?_
    refine ev_neg (by omega) ?_
    rw [w64 (by omega) (by omega)]
    exact Ev.now _
  | d + 1, i, n, h, h0, h1 => by
    have hlt : i < l.length := by omega
    have hz := size_tx l
    have hb := bt_tx l i hlt
    have hu := u8_lt l[i]
    rw [List.drop_eq_getElem_cons hlt]
    refine Ev.step (fun k => addr_Column.l0.eq_2 _ _ _ _ _) ?_
    refine ev_pos (by omega) (ev_pos (by omega) (ev_pos (by omega) ?_))
    simp only [hb, colF]
    by_cases g1 : ((l[i]).toNat : Int) < 65
    · rw [if_neg (by unfold isU; simp; omega)]; exact ev_pos g1 (Ev.now _)
    · refine ev_neg g1 ?_
      by_cases g2 : ((l[i]).toNat : Int) > 90
      · rw [if_neg (by unfold isU; simp; omega)]; exact ev_pos g2 (Ev.now _)
      · rw [if_pos (by unfold isU; simp; omega)]
        refine ev_neg g2 ?_
        rw [w64s (n := 100) (by omega) (by omega)]
        rw [show (((l[i]).toNat : Int) - 65) % 256 = ((l[i]).toNat : Int) - 65 by omega, w64 (x := n * 26) (by omega) (by omega), w64 (x := n * 26 + (((l[i]).toNat : Int) - 65)) (by omega) (by omega), w64 (by omega) (by omega)]
        exact col_l0 l hl d (i + 1) _ (by omega) (by omega) (by
          rcases (by omega : i = 0 ∨ i = 1) with rfl | rfl
          · have := h1.1 rfl; omega
          · have := h1.2.1 rfl; omega)
theorem column_ev (l : List UInt8) : Ev (fun k => addr_Column.f k (tx l)) (colS l) := by
  have hz := size_tx l
  unfold addr_Column.f colS
  have hj : Ev (fun k => addr_Column.j0 k (tx l) true) (0, false) := by
    refine Ev.step (fun k => addr_Column.j0.eq_2 _ _ _) ?_
    exact ev_pos rfl (Ev.now _)
  by_cases h : l.length < 1 ∨ l.length > 2
  · rw [if_pos h]
    refine ev_ite (fun _ => hj) (fun g => ?_)
    rw [decide_eq_true (by omega)]
    exact hj
  · rw [if_neg h]
    refine ev_neg (by omega) ?_
    rw [decide_eq_false (by omega)]
    refine Ev.step (fun k => addr_Column.j0.eq_2 _ _ _) ?_
    refine ev_neg (by simp) ?_
    rw [hz]
    exact col_l0 l (by omega) l.length 0 0 (by omega) (by omega) (by omega)
theorem num_l0 (l : List UInt8) (hl : l.length ≤ 3) : ∀ d i n, i + d = l.length → 0 ≤ n → ((i = 0 → n = 0) ∧ (i = 1 → n ≤ 9) ∧ (i = 2 → n ≤ 99) ∧ n ≤ 999) → Ev (fun k => addr_Number.l0 k (tx l) n (l.length : Int) (i : Int)) (numF n (l.drop i))
  | 0, i, n, h, h0, h1 => by
    rw [List.drop_eq_nil_of_le (by omega)]
    refine Ev.step (fun k => addr_Number.l0.eq_2 _ _ _ _ _) ?_
    refine ev_neg (by omega) ?_
    rw [w64 (by omega) (by omega)]
    exact Ev.now _
  | d + 1, i, n, h, h0, h1 => by
    have hlt : i < l.length := by omega
    have hz := size_tx l
    have hb := bt_tx l i hlt
    have hu := u8_lt l[i]
    rw [List.drop_eq_getElem_cons hlt]
    refine Ev.step (fun k => addr_Number.l0.eq_2 _ _ _ _ _) ?_
    refine ev_pos (by omega) (ev_pos (by omega) (ev_pos (by omega) ?_))
    simp only [hb, numF]
    by_cases g1 : ((l[i]).toNat : Int) < 48
    · rw [if_neg (by unfold isD; simp; omega)]; exact ev_pos g1 (Ev.now _)
    · refine ev_neg g1 ?_
      by_cases g2 : ((l[i]).toNat : Int) > 57
      · rw [if_neg (by unfold isD; simp; omega)]; exact ev_pos g2 (Ev.now _)
      · rw [if_pos (by unfold isD; simp; omega)]
        refine ev_neg g2 ?_
        rw [w64s (n := 100) (by omega) (by omega)]
        rw [show (((l[i]).toNat : Int) - 48) % 256 = ((l[i]).toNat : Int) - 48 by omega, w64 (x := n * 10) (by omega) (by omega), w64 (by omega) (by omega)]
        exact num_l0 l hl d (i + 1) _ (by omega) (by omega) (by
          rcases (by omega : i = 0 ∨ i = 1 ∨ i = 2) with rfl | rfl | rfl
          · have := h1.1 rfl; omega
          · have := h1.2.1 rfl; omega
          · have := h1.2.2.1 rfl; omega)
theorem number_ev (l : List UInt8) : Ev (fun k => addr_Number.f k (tx l)) (numS l) := by
  have hz := size_tx l
  unfold addr_Number.f numS
  have hj : Ev (fun k => addr_Number.j0 k (tx l) true) (0, false) := by
    refine Ev.step (fun k => addr_Number.j0.eq_2 _ _ _) ?_
    exact ev_pos rfl (Ev.now _)
  by_cases h1 : l.length < 1
  · rw [if_pos (Or.inl h1)]; exact ev_pos (by omega) hj
  · refine ev_neg (by omega) ?_
    by_cases h2 : l.length > 3
    · rw [if_pos (Or.inr (Or.inl h2))]; exact ev_pos (by omega) hj
    · refine ev_neg (by omega) (ev_pos (by omega) ?_)
      obtain ⟨b, m, rfl⟩ : ∃ b m, l = b :: m := by cases l with | nil => simp at h1 | cons b m => exact ⟨b, m, rfl⟩
      have hb0 : bt (tx (b :: m)) 0 = (b.toNat : Int) := bt_tx0 b m
      rw [hb0]
      by_cases h3 : b = 48
      · subst h3
        rw [if_pos (Or.inr (Or.inr (by rfl : (48 :: m : List UInt8).head? = some 48)))]
        exact hj
      · have hne : (((b.toNat : Int)) == 48) = false := by
          rw [beq_eq_false_iff_ne]
          intro e
          exact h3 (u8_inj (by show b.toNat = 48; omega))
        rw [if_neg (by rintro (hh | hh | hh); exact h1 hh; exact h2 hh; exact h3 (Option.some.inj hh)), hne]
        refine Ev.step (fun k => addr_Number.j0.eq_2 _ _ _) ?_
        refine ev_neg (by simp) ?_
        rw [hz]
        exact num_l0 (b :: m) (by omega) (b :: m).length 0 0 (by omega) (by omega) (by omega)
def parS (l : List UInt8) : Int × Int × Bool :=
  if (colS (l.takeWhile isU)).2 = true then (if (numS (l.dropWhile isU)).2 = true then ((numS (l.dropWhile isU)).1, (colS (l.takeWhile isU)).1, true) else (0, 0, false)) else (0, 0, false)
theorem parse_j1 (a r : List UInt8) : Ev (fun k => addr_Parse.j1 k (tx (a ++ r)) (a.length : Int)) (if (colS a).2 = true then (if (numS r).2 = true then ((numS r).1, (colS a).1, true) else (0, 0, false)) else (0, 0, false)) := by
  have hz := size_tx (a ++ r)
  rw [List.length_append] at hz
  refine Ev.step (fun k => addr_Parse.j1.eq_2 _ _ _) ?_
  refine ev_pos (by omega) (ev_pos (by omega) ?_)
  rw [Int.toNat_natCast, ext_head, ext_tail, by_tx, List.take_left' rfl, List.drop_left' rfl]
  refine ev_bind (column_ev a) (ev_bind (number_ev r) ?_)
  refine ev_ite (fun h1 => ev_ite (fun h2 => ?_) (fun h2 => ?_)) (fun h1 => ?_)
  · rw [if_pos h1, if_pos h2]; exact Ev.now _
  · rw [if_pos h1, if_neg h2]; exact Ev.now _
  · rw [if_neg h1]; exact Ev.now _
theorem parse_l0 (a r : List UInt8) (ha : ∀ x ∈ a, isU x = true) (hr : ∀ b m, r = b :: m → isU b = false) (hl : a.length + r.length ≤ 1000) : ∀ d i, i + d = a.length → Ev (fun k => addr_Parse.l0 k (tx (a ++ r)) (i : Int)) (if (colS a).2 = true then (if (numS r).2 = true then ((numS r).1, (colS a).1, true) else (0, 0, false)) else (0, 0, false))
  | 0, i, h => by
    have hz := size_tx (a ++ r)
    rw [List.length_append] at hz
    have hi : i = a.length := by omega
    subst hi
    refine Ev.step (fun k => addr_Parse.l0.eq_2 _ _ _) ?_
    cases r with
    | nil =>
      have hz' : (tx (a ++ [])).size = a.length := by rw [size_tx, List.append_nil]
      exact ev_neg (by omega) (parse_j1 a [])
    | cons b m =>
      have hb : bt (tx (a ++ b :: m)) (a.length : Int) = (b.toNat : Int) := by
        rw [bt_tx _ a.length (by simp)]
        simp
      have hu := hr b m rfl
      unfold isU at hu
      rw [decide_eq_false_iff_not] at hu
      refine ev_pos (by simp at hz; omega) (ev_pos (by omega) ?_)
      rw [hb]
      refine ev_ite (fun g1 => ?_) (fun _ => parse_j1 a (b :: m))
      exact ev_neg (by omega) (parse_j1 a (b :: m))
  | d + 1, i, h => by
    have hz := size_tx (a ++ r)
    rw [List.length_append] at hz
    have hlt : i < a.length := by omega
    have hb : bt (tx (a ++ r)) (i : Int) = ((a[i]).toNat : Int) := by
      rw [bt_tx _ i (by simp; omega), List.getElem_append_left hlt]
    have hu := ha _ (List.getElem_mem hlt)
    unfold isU at hu
    rw [decide_eq_true_eq] at hu
    refine Ev.step (fun k => addr_Parse.l0.eq_2 _ _ _) ?_
    refine ev_pos (by omega) (ev_pos (by omega) ?_)
    rw [hb, w64s (n := 10000) (by omega) (by omega)]
    exact ev_pos (by omega) (ev_pos (by omega) (parse_l0 a r ha hr hl d (i + 1) (by omega)))
theorem parse_ev (l : List UInt8) (hl : l.length ≤ 1000) : Ev (fun k => addr_Parse.f k (tx l)) (parS l) := by
  unfold addr_Parse.f parS
  have e : l.takeWhile isU ++ l.dropWhile isU = l := List.takeWhile_append_dropWhile
  have hlen := congrArg List.length e
  rw [List.length_append] at hlen
  have := parse_l0 (l.takeWhile isU) (l.dropWhile isU) (fun x hx => by
      have := List.all_takeWhile (l := l) (p := isU)
      exact List.all_eq_true.1 this x hx) (fun b m hbm => by
      cases hb : isU b with
      | false => rfl
      | true =>
        have hh := List.head?_dropWhile_not isU l
        rw [hbm] at hh
        simp [hb] at hh) (by omega) (l.takeWhile isU).length 0 (by omega)
  rw [e] at this
  exact this
end Go.Proofs.YtbboanfggaknjaaDoor.X.AD
/- The reference's searches: the column of letters, the row of a number, the cell of a name. -/
set_option linter.unusedVariables false
set_option linter.unusedSimpArgs false
namespace Go.Proofs.YtbboanfggaknjaaDoor.X.AD
open Go.RowKit Go.Proofs.YtbboanfggaknjaaDoorW.PrintWords Go.Proofs.YtbboanfggaknjaaDoorW.PrintLast Go.Proofs.YtbboanfggaknjaaDoorW.PrintMore
theorem col_let : ∀ n : Fin 702, colS (letL n.val) = ((n.val : Int), true) := by decide +kernel
theorem num_dig : ∀ n : Fin 999, numS (digL (n.val + 1)) = ((n.val : Int), true) := by decide +kernel
end Go.Proofs.YtbboanfggaknjaaDoor.X.AD
/- The reference's Parse is the code's. -/
set_option linter.unusedVariables false
set_option linter.unusedSimpArgs false
namespace Go.Proofs.YtbboanfggaknjaaDoor.X.AD
open Go.RowKit Go.Proofs.YtbboanfggaknjaaDoorW.PrintWords Go.Proofs.YtbboanfggaknjaaDoorW.PrintLast Go.Proofs.YtbboanfggaknjaaDoorW.PrintMore
theorem num_nil : ¬ (numS []).2 = true := by simp [numS]
def parF (a r : List UInt8) : Int × Int × Bool := if (colS a).2 = true then (if (numS r).2 = true then ((numS r).1, (colS a).1, true) else (0, 0, false)) else (0, 0, false)
theorem par_F (l : List UInt8) : parS l = parF (l.takeWhile isU) (l.dropWhile isU) := rfl
theorem parF_num {a r : List UInt8} (h : ¬ (numS r).2 = true) : parF a r = (0, 0, false) := by unfold parF; rw [if_neg h]; split <;> rfl
end Go.Proofs.YtbboanfggaknjaaDoor.X.AD
/- A cell's name, read; what is read, named: plain. -/
set_option linter.unusedVariables false
set_option linter.unusedSimpArgs false
namespace Go.Proofs.YtbboanfggaknjaaDoor.X.AD
open Go.RowKit Go.Proofs.YtbboanfggaknjaaDoor.X Go.Proofs.YtbboanfggaknjaaDoorW.PrintWords Go.Proofs.YtbboanfggaknjaaDoorW.PrintLast Go.Proofs.YtbboanfggaknjaaDoorW.PrintMore
theorem let_all : ∀ n : Fin 702, (letL n.val).all isU = true := by decide +kernel
theorem dig_head : ∀ n : Fin 999, (match digL (n.val + 1) with | [] => true | b :: _ => isU b) = false := by decide +kernel
theorem tw_app (p : UInt8 → Bool) (r : List UInt8) (hr : ∀ b m, r = b :: m → p b = false) : ∀ a : List UInt8, a.all p = true → (a ++ r).takeWhile p = a ∧ (a ++ r).dropWhile p = r
  | [], _ => by
    cases r with
    | nil => exact ⟨rfl, rfl⟩
    | cons b m =>
      have := hr b m rfl
      rw [List.nil_append, List.takeWhile_cons_of_neg (by rw [this]; simp), List.dropWhile_cons_of_neg (by rw [this]; simp)]
      exact ⟨rfl, rfl⟩
  | x :: a, h => by
    rw [List.all_cons, Bool.and_eq_true] at h
    have ih := tw_app p r hr a h.2
    rw [List.cons_append, List.takeWhile_cons_of_pos h.1, List.dropWhile_cons_of_pos h.1, ih.1, ih.2]
    exact ⟨rfl, rfl⟩
theorem par_name (r c : Int) : parS (nameL r c) = if mayI r c = true then (r, c, true) else (0, 0, false) := by
  unfold nameL
  by_cases h : mayI r c = true
  · rw [if_pos h, if_pos h]
    unfold mayI at h
    have hb := of_decide_eq_true h
    have hd := dig_head ⟨r.toNat, by omega⟩
    obtain ⟨t1, t2⟩ := tw_app isU (digL (r.toNat + 1)) (fun b m e => by simp only at hd; rw [e] at hd; exact hd) (letL c.toNat) (let_all ⟨c.toNat, by omega⟩)
    rw [par_F, t1, t2]
    unfold parF
    have e1 := col_let ⟨c.toNat, by omega⟩
    have e2 := num_dig ⟨r.toNat, by omega⟩
    simp only at e1 e2
    rw [e1, e2, if_pos rfl, if_pos rfl]
    simp only [Prod.mk.injEq]
    exact ⟨by omega, by omega, trivial⟩
  · rw [if_neg h, if_neg h]
    exact parF_num num_nil
end Go.Proofs.YtbboanfggaknjaaDoor.X.AD
/- What the references of cats and label answer: plain, with enough rounds. -/
set_option linter.unusedVariables false
set_option linter.unusedSimpArgs false
namespace Go.Proofs.YtbboanfggaknjaaDoor.X
open Go.RowKit Go.Proofs.YtbboanfggaknjaaDoorW.PrintWords Go.Proofs.YtbboanfggaknjaaDoorW.PrintLast Go.Proofs.YtbboanfggaknjaaDoorW.PrintMore

theorem bit_l0 : ∀ (d a c i : Nat), i + d = c → c ≤ 63 → a < 18446744073709551616 → Ev (fun k => oculusref01_Bit.l0 k (a : Int) (c : Int) (i : Int)) ((a / 2 ^ d) % 2 == 1) := by
  intro d
  induction d with
  | zero =>
    intro a c i hi hc ha
    refine Ev.step (f := fun _ => some ((a / 2 ^ 0) % 2 == 1)) (fun k => ?_) (Ev.now _)
    simp only [oculusref01_Bit.l0]
    rw [if_neg (by omega)]
    congr 1
    rw [Bool.eq_iff_iff]
    simp only [beq_iff_eq]
    have : ((a : Int).tmod 2) = ((a % 2 : Nat) : Int) := by rw [Int.tmod_eq_emod_of_nonneg (by omega)]; omega
    rw [this]
    simp
    omega
  | succ d ih =>
    intro a c i hi hc ha
    refine Ev.step (f := fun k => oculusref01_Bit.l0 k ((a / 2 : Nat) : Int) (c : Int) ((i + 1 : Nat) : Int)) (fun k => ?_) ?_
    · simp only [oculusref01_Bit.l0]
      rw [if_pos (by omega), w64s (n := 64) (by omega) (by omega)]
      congr 1
      rw [IntKind.wrap_u64, Int.tdiv_eq_ediv_of_nonneg (by omega)]
      omega
    · have := ih (a / 2) c (i + 1) (by omega) hc (by omega)
      rw [Nat.div_div_eq_div_mul, show 2 * 2 ^ d = 2 ^ (d + 1) by rw [Nat.pow_succ]; omega] at this
      exact this
def bitS (a : Nat) (c : Int) : Bool := decide (0 ≤ c) && (decide (c ≤ 63) && a.testBit c.toNat)
theorem bit_ev (a : Nat) (c : Int) (ha : a < 18446744073709551616) : Ev (fun k => oculusref01_Bit.f k (a : Int) c) (bitS a c) := by
  unfold oculusref01_Bit.f bitS
  by_cases h1 : c < 0
  · simp only [if_pos h1]
    refine Ev.step (f := fun _ => some false) (fun k => by simp [oculusref01_Bit.j0]) ?_
    rw [decide_eq_false (by omega)]
    exact Ev.now _
  · simp only [if_neg h1]
    by_cases h2 : c > 63
    · refine Ev.step (f := fun _ => some false) (fun k => by simp [oculusref01_Bit.j0, h2]) ?_
      rw [decide_eq_false (show ¬ c ≤ 63 by omega)]
      simp
      exact Ev.now _
    · refine Ev.step (f := fun k => oculusref01_Bit.l0 k (a : Int) c 0) (fun k => by simp [oculusref01_Bit.j0, h2]) ?_
      obtain ⟨n, rfl⟩ := Int.eq_ofNat_of_zero_le (show 0 ≤ c by omega)
      have := bit_l0 n a n 0 (by omega) (by omega) ha
      rw [decide_eq_true (show (0 : Int) ≤ n by omega), decide_eq_true (show (n : Int) ≤ 63 by omega)]
      simp only [Bool.true_and, Int.toNat_natCast, Nat.testBit_eq_decide_div_mod_eq]
      rw [show decide (a / 2 ^ n % 2 = 1) = (a / 2 ^ n % 2 == 1) from (Bool.beq_eq_decide_eq _ _).symm]
      exact this
theorem bitS_nat (a c : Nat) (h : c < 64) : bitS a (c : Int) = a.testBit c := by
  unfold bitS
  rw [decide_eq_true (by omega), decide_eq_true (by omega)]
  simp
theorem pow_lt64 {i : Nat} (h : i ≤ 63) : 2 ^ i < 18446744073709551616 := Nat.lt_of_le_of_lt (Nat.pow_le_pow_right (by omega) h) (by decide)
end Go.Proofs.YtbboanfggaknjaaDoor.X
/- Sets of 64 bits as lists of their bits: plain. -/
set_option linter.unusedVariables false
set_option linter.unusedSimpArgs false
namespace Go.Proofs.YtbboanfggaknjaaDoor.X
open Go.RowKit Go.Proofs.YtbboanfggaknjaaDoorW.PrintWords Go.Proofs.YtbboanfggaknjaaDoorW.PrintLast Go.Proofs.YtbboanfggaknjaaDoorW.PrintMore
def bitsL (s : Nat) : List Nat := (List.range 64).filter fun i => s.testBit i
theorem filter_low (n t : Nat) (p q : Nat → Bool) (ht : t < n) (h1 : p t = true) (h2 : ∀ i, i < t → p i = false) (h3 : ∀ i, q i = (p i && decide (i ≠ t))) : (List.range n).filter p = t :: (List.range n).filter q := by
  obtain ⟨d, rfl⟩ : ∃ d, n = t + (1 + d) := ⟨n - t - 1, by omega⟩
  rw [List.range_add, List.filter_append, List.filter_append]
  have e1 : (List.range t).filter p = [] := by
    rw [List.filter_eq_nil_iff]; intro i hi; rw [List.mem_range] at hi; rw [h2 i hi]; simp
  have e2 : (List.range t).filter q = [] := by
    rw [List.filter_eq_nil_iff]; intro i hi; rw [List.mem_range] at hi; rw [h3, h2 i hi]; simp
  rw [e1, e2, List.nil_append, List.nil_append, Nat.add_comm 1 d, List.range_succ_eq_map, List.map_cons, List.filter_cons, List.filter_cons]
  have hq : q t = false := by rw [h3]; simp
  rw [Nat.add_zero, if_pos h1, if_neg (by rw [hq]; simp)]
  congr 1
  apply List.filter_congr
  intro i hi
  simp only [List.mem_map, List.mem_range] at hi
  obtain ⟨j, ⟨k, hk, rfl⟩, rfl⟩ := hi
  rw [h3, decide_eq_true (by omega), Bool.and_true]
theorem low_bits (t m i : Nat) : (2 ^ t * (2 * m + 1)).testBit i = (decide (t ≤ i) && (2 * m + 1).testBit (i - t)) := by
  rw [Nat.mul_comm, Nat.testBit_mul_two_pow]
theorem low_prev (t m : Nat) : (2 ^ t * (2 * m + 1)) &&& (2 ^ t * (2 * m + 1) - 1) = 2 ^ t * (2 * m) := by
  apply Nat.eq_of_testBit_eq
  intro i
  have hp : 0 < 2 ^ t := Nat.two_pow_pos t
  have e : 2 ^ t * (2 * m + 1) - 1 = 2 ^ t * (2 * m) + (2 ^ t - 1) := by rw [Nat.mul_add]; omega
  rw [Nat.testBit_and, e, Nat.testBit_two_pow_mul_add _ (by omega), low_bits, Nat.mul_comm (2 ^ t), Nat.testBit_mul_two_pow]
  by_cases h : t ≤ i
  · rw [if_neg (by omega), decide_eq_true h, Bool.true_and, Bool.true_and]
    obtain ⟨j, rfl⟩ : ∃ j, i = t + j := ⟨i - t, by omega⟩
    rw [show t + j - t = j by omega]
    cases j with
    | zero => simp [Nat.testBit_zero]
    | succ j => rw [Nat.testBit_succ, Nat.testBit_succ, show (2 * m + 1) / 2 = m by omega, show 2 * m / 2 = m by omega, Bool.and_self]
  · rw [decide_eq_false h]; simp
theorem bitsL_cons (s : Nat) (hs : s < 18446744073709551616) (h0 : s ≠ 0) : bitsL s = Lib.ctz 64 s :: bitsL (s &&& (s - 1)) ∧ s &&& (s - 1) < s ∧ Lib.ctz 64 s < 64 := by
  unfold Lib.ctz
  rw [if_neg h0]
  obtain ⟨m, hm, hk⟩ := Lib.ctzFrom_spec 64 s (by omega) (by omega)
  generalize Lib.ctzFrom 64 s = t at *
  have hp : 0 < 2 ^ t := Nat.two_pow_pos t
  refine ⟨?_, ?_, hk⟩
  · subst hm
    unfold bitsL
    rw [low_prev]
    refine filter_low 64 t _ _ hk ?_ ?_ ?_
    · rw [low_bits]; simp
    · intro i hi; rw [low_bits, decide_eq_false (by omega)]; rfl
    · intro i
      rw [low_bits, Nat.mul_comm (2 ^ t), Nat.testBit_mul_two_pow]
      by_cases h : t ≤ i
      · rw [decide_eq_true h, Bool.true_and, Bool.true_and]
        obtain ⟨j, rfl⟩ : ∃ j, i = t + j := ⟨i - t, by omega⟩
        rw [show t + j - t = j by omega]
        cases j with
        | zero => simp [Nat.testBit_zero]
        | succ j => rw [Nat.testBit_succ, Nat.testBit_succ, show (2 * m + 1) / 2 = m by omega, show 2 * m / 2 = m by omega, decide_eq_true (by omega), Bool.and_true]
      · rw [decide_eq_false h]; simp
  · subst hm
    rw [low_prev, Nat.mul_add]
    omega
end Go.Proofs.YtbboanfggaknjaaDoor.X
/- Sets as texts: plain. -/
set_option linter.unusedVariables false
set_option linter.unusedSimpArgs false
namespace Go.Proofs.YtbboanfggaknjaaDoor.X
open Go.RowKit Go.Proofs.YtbboanfggaknjaaDoorW.PrintWords Go.Proofs.YtbboanfggaknjaaDoorW.PrintLast Go.Proofs.YtbboanfggaknjaaDoorW.PrintMore
def splC (c : UInt8) : List UInt8 → List (List UInt8)
  | [] => [[]]
  | b :: l => if b = c then [] :: splC c l else match splC c l with
    | [] => [[b]]
    | p :: ps => (b :: p) :: ps
def joiC (c : UInt8) : List (List UInt8) → List UInt8
  | [] => []
  | [p] => p
  | p :: q :: ps => p ++ c :: joiC c (q :: ps)
theorem splC_ne (c : UInt8) : ∀ l, ∃ p ps, splC c l = p :: ps
  | [] => ⟨_, _, rfl⟩
  | b :: l => by
    obtain ⟨p, ps, h⟩ := splC_ne c l
    unfold splC
    split
    · exact ⟨_, _, rfl⟩
    · rw [h]; exact ⟨_, _, rfl⟩
theorem splC_cons_eq (c : UInt8) (l : List UInt8) : splC c (c :: l) = [] :: splC c l := by rw [splC, if_pos rfl]
theorem splC_cons_ne {b c : UInt8} (h : b ≠ c) {l : List UInt8} {p : List UInt8} {ps : List (List UInt8)} (hl : splC c l = p :: ps) : splC c (b :: l) = (b :: p) :: ps := by rw [splC, if_neg h, hl]
theorem splC_plain (c : UInt8) : ∀ p : List UInt8, c ∉ p → splC c p = [p]
  | [], _ => rfl
  | b :: p, h => by
    simp only [List.mem_cons, not_or] at h
    exact splC_cons_ne (fun e => h.1 e.symm) (splC_plain c p h.2)
theorem splC_app (c : UInt8) (l : List UInt8) : ∀ p : List UInt8, c ∉ p → splC c (p ++ c :: l) = p :: splC c l
  | [], _ => splC_cons_eq c l
  | b :: p, h => by
    simp only [List.mem_cons, not_or] at h
    exact splC_cons_ne (fun e => h.1 e.symm) (splC_app c l p h.2)
theorem splC_joiC (c : UInt8) : ∀ (p : List UInt8) (ps : List (List UInt8)), (∀ q ∈ p :: ps, c ∉ q) → splC c (joiC c (p :: ps)) = p :: ps
  | p, [], h => splC_plain c p (h p (by simp))
  | p, q :: ps, h => by
    show splC c (p ++ c :: joiC c (q :: ps)) = _
    rw [splC_app c _ p (h p (by simp)), splC_joiC c q ps (fun x hx => h x (List.mem_cons_of_mem _ hx))]
theorem splC_length (c : UInt8) : ∀ l : List UInt8, (splC c l).length ≤ l.length + 1
  | [] => by simp [splC]
  | b :: l => by
    have ih := splC_length c l
    obtain ⟨p, ps, h⟩ := splC_ne c l
    by_cases hb : b = c
    · subst hb; rw [splC_cons_eq]; simp; omega
    · rw [splC_cons_ne hb h]; rw [h] at ih; simpa using Nat.le_succ_of_le ih
theorem splC_piece (c : UInt8) : ∀ l : List UInt8, ∀ p ∈ splC c l, p.length ≤ l.length
  | [], p, hp => by simp [splC] at hp; subst hp; simp
  | b :: l, p, hp => by
    have ih := splC_piece c l
    obtain ⟨q, qs, h⟩ := splC_ne c l
    by_cases hb : b = c
    · subst hb; rw [splC_cons_eq] at hp
      rcases List.mem_cons.1 hp with rfl | hp
      · simp
      · have := ih p hp; simp; omega
    · rw [splC_cons_ne hb h] at hp; rw [h] at ih
      rcases List.mem_cons.1 hp with rfl | hp
      · have := ih q (by simp); simp; omega
      · have := ih p (List.mem_cons_of_mem _ hp); simp; omega
theorem index_one_cons (b c : UInt8) (l : List UInt8) (h : b ≠ c) : Lib.index (b :: l) [c] = if Lib.index l [c] == -1 then -1 else Lib.index l [c] + 1 := by
  rw [Lib.index]
  rw [if_neg (by simp [List.isPrefixOf]; exact fun e => h e.symm)]
theorem split_one (c : UInt8) : ∀ l : List UInt8, Lib.splitK [c] 0 (Lib.count l [c]) l = splC c l
  | [] => by rw [Lib.count_one]; rfl
  | b :: l => by
    have ih := split_one c l
    by_cases hb : b = c
    · subst hb
      rw [Lib.count_cons_eq, Nat.add_comm, Lib.splitK, splC_cons_eq]
      have hi : Lib.index (b :: l) [b] = 0 := by rw [Lib.index, if_pos (by simp [List.isPrefixOf])]
      rw [hi, if_neg (by decide)]
      simp only [Int.toNat_zero, Nat.add_zero, List.take_zero, List.length_cons, List.length_nil, Nat.zero_add, List.drop_succ_cons, List.drop_zero, ih]
    · rw [Lib.count_cons_ne b c l hb]
      have hix := index_one_cons b c l hb
      cases hk : Lib.count l [c] with
      | zero =>
        rw [hk] at ih
        have ih' : [l] = splC c l := ih
        rw [splC_cons_ne hb ih'.symm]; rfl
      | succ k =>
        rw [hk] at ih
        have hne : Lib.index l [c] ≠ -1 := fun e => by rw [Lib.count_miss e] at hk; omega
        have hge := Lib.index_ge l [c]
        obtain ⟨i, hi⟩ : ∃ i : Nat, Lib.index l [c] = (i : Int) := ⟨(Lib.index l [c]).toNat, by omega⟩
        rw [Lib.splitK, hi, if_neg (by rw [beq_iff_eq]; omega)] at ih
        rw [splC_cons_ne hb ih.symm]
        rw [Lib.splitK, hix, hi, if_neg (show ¬ ((i : Int) == -1) = true by rw [beq_iff_eq]; omega), if_neg (by rw [beq_iff_eq]; omega)]
        have e : ((i : Int) + 1).toNat = i + 1 := by omega
        rw [e]
        simp only [Int.toNat_natCast, Nat.add_zero, List.length_cons, List.length_nil, Nat.zero_add, List.take_succ_cons, List.drop_succ_cons]
def du8 (n : Nat) : UInt8 := UInt8.ofNat n
def digT (n : Nat) : List UInt8 := if n < 10 then [du8 (48 + n)] else [du8 (48 + n / 10), du8 (48 + n % 10)]
theorem du8_nat (n : Nat) (h : n < 256) : (du8 n).toNat = n := by unfold du8; rw [UInt8.toNat_ofNat']; omega
theorem digT_plain : ∀ n, n < 100 → (44 : UInt8) ∉ digT n ∧ (58 : UInt8) ∉ digT n := by decide +kernel
theorem digT_len (n : Nat) : 1 ≤ (digT n).length ∧ (digT n).length ≤ 2 := by unfold digT; split <;> simp
def numZ : List UInt8 → Option Nat
  | [a] => if 48 ≤ a.toNat ∧ a.toNat ≤ 57 then some (a.toNat - 48) else none
  | [a, b] => if a.toNat ≠ 48 ∧ (48 ≤ a.toNat ∧ a.toNat ≤ 57) ∧ (48 ≤ b.toNat ∧ b.toNat ≤ 57) ∧ (a.toNat - 48) * 10 + (b.toNat - 48) < 64 then some ((a.toNat - 48) * 10 + (b.toNat - 48)) else none
  | _ => none
theorem numZ_digT : ∀ n, n < 64 → numZ (digT n) = some n := by decide +kernel
theorem u8eq {a : UInt8} {n : Nat} (h : a.toNat = n) (hn : n < 256) : a = du8 n := UInt8.toNat_inj.1 (by rw [du8_nat n hn, h])
theorem numZ_back : ∀ (w : List UInt8) (n : Nat), numZ w = some n → n < 64 ∧ digT n = w
  | [], _, h => by simp [numZ] at h
  | [a], n, h => by
    replace h : (if 48 ≤ a.toNat ∧ a.toNat ≤ 57 then some (a.toNat - 48) else none) = some n := h
    split at h
    · rename_i g
      obtain rfl := Option.some.inj h
      refine ⟨by omega, ?_⟩
      unfold digT
      rw [if_pos (by omega)]
      congr 1
      exact (u8eq (by omega) (by omega)).symm
    · cases h
  | [a, b], n, h => by
    replace h : (if a.toNat ≠ 48 ∧ (48 ≤ a.toNat ∧ a.toNat ≤ 57) ∧ (48 ≤ b.toNat ∧ b.toNat ≤ 57) ∧ (a.toNat - 48) * 10 + (b.toNat - 48) < 64 then some ((a.toNat - 48) * 10 + (b.toNat - 48)) else none) = some n := h
    split at h
    · rename_i g
      obtain rfl := Option.some.inj h
      refine ⟨by omega, ?_⟩
      unfold digT
      rw [if_neg (by omega)]
      have ha : du8 (48 + ((a.toNat - 48) * 10 + (b.toNat - 48)) / 10) = a := (u8eq (by omega) (by omega)).symm
      have hb : du8 (48 + ((a.toNat - 48) * 10 + (b.toNat - 48)) % 10) = b := (u8eq (by omega) (by omega)).symm
      rw [ha, hb]
    · cases h
  | a :: b :: c :: l, _, h => by simp [numZ] at h
def foldS (s : Nat) (ns : List Nat) : Nat := ns.foldl (fun s c => s ||| 2 ^ c) s
def Rise : Nat → List Nat → Prop
  | _, [] => True
  | s, c :: l => s < 2 ^ c ∧ c < 64 ∧ Rise (s ||| 2 ^ c) l
theorem or_pow_lt (s c : Nat) (h : s < 2 ^ c) : s ||| 2 ^ c < 2 ^ (c + 1) := Nat.or_lt_two_pow (by rw [Nat.pow_succ]; omega) (by rw [Nat.pow_succ]; have := Nat.two_pow_pos c; omega)
theorem bitsL_snoc (s c : Nat) (h : s < 2 ^ c) (hc : c < 64) : bitsL (s ||| 2 ^ c) = bitsL s ++ [c] := by
  unfold bitsL
  obtain ⟨d, hd⟩ : ∃ d, 64 = c + (1 + d) := ⟨63 - c, by omega⟩
  rw [hd, List.range_add, List.filter_append, List.filter_append]
  have e1 : (List.range c).filter (fun i => (s ||| 2 ^ c).testBit i) = (List.range c).filter fun i => s.testBit i := by
    apply List.filter_congr
    intro i hi
    rw [List.mem_range] at hi
    rw [Nat.testBit_or, Nat.testBit_two_pow, decide_eq_false (by omega), Bool.or_false]
  rw [e1, Nat.add_comm 1 d, List.range_succ_eq_map, List.map_cons, List.filter_cons, List.filter_cons, Nat.add_zero]
  have hs : s.testBit c = false := Nat.testBit_lt_two_pow h
  rw [if_pos (by rw [Nat.testBit_or, Nat.testBit_two_pow]; simp), if_neg (by rw [hs]; simp)]
  have n1 : ∀ (t : Nat), t < 2 ^ (c + 1) → (List.map (fun x => c + x) (List.map Nat.succ (List.range d))).filter (fun i => t.testBit i) = [] := by
    intro t ht
    rw [List.filter_eq_nil_iff]
    intro i hi
    simp only [List.mem_map, List.mem_range] at hi
    obtain ⟨j, ⟨k, hk, rfl⟩, rfl⟩ := hi
    rw [Nat.testBit_lt_two_pow (Nat.lt_of_lt_of_le ht (Nat.pow_le_pow_right (by omega) (by omega)))]
    simp
  rw [n1 _ (or_pow_lt s c h), n1 _ (by rw [Nat.pow_succ]; omega), List.append_nil]
theorem rise_fold : ∀ (ns : List Nat) (s : Nat), Rise s ns → s < 18446744073709551616 → bitsL (foldS s ns) = bitsL s ++ ns ∧ foldS s ns < 18446744073709551616
  | [], s, _, hs => ⟨by simp [foldS], hs⟩
  | c :: l, s, h, hs => by
    obtain ⟨h1, h2, h3⟩ := h
    have hlt : s ||| 2 ^ c < 18446744073709551616 := Nat.lt_of_lt_of_le (or_pow_lt s c h1) (Nat.pow_le_pow_right (by omega) (show c + 1 ≤ 64 by omega) : 2 ^ (c + 1) ≤ 2 ^ 64)
    have := rise_fold l (s ||| 2 ^ c) h3 hlt
    refine ⟨?_, this.2⟩
    show bitsL (foldS (s ||| 2 ^ c) l) = _
    rw [this.1, bitsL_snoc s c h1 h2]; simp
theorem rise_of : ∀ (l : List Nat) (s : Nat), l.Pairwise (· < ·) → (∀ c ∈ l, s < 2 ^ c ∧ c < 64) → Rise s l
  | [], _, _, _ => trivial
  | c :: l, s, hp, h => by
    rw [List.pairwise_cons] at hp
    refine ⟨(h c (by simp)).1, (h c (by simp)).2, rise_of l _ hp.2 fun d hd => ⟨?_, (h d (List.mem_cons_of_mem _ hd)).2⟩⟩
    exact Nat.lt_of_lt_of_le (or_pow_lt s c (h c (by simp)).1) (Nat.pow_le_pow_right (by omega) (hp.1 d hd))
theorem bitsL_inj {a b : Nat} (ha : a < 18446744073709551616) (hb : b < 18446744073709551616) (h : bitsL a = bitsL b) : a = b := by
  apply Nat.eq_of_testBit_eq
  intro i
  by_cases hi : i < 64
  · have : i ∈ bitsL a ↔ i ∈ bitsL b := by rw [h]
    unfold bitsL at this
    simp only [List.mem_filter, List.mem_range, hi, true_and] at this
    rw [Bool.eq_iff_iff]; exact this
  · have hp : (18446744073709551616 : Nat) ≤ 2 ^ i := (Nat.pow_le_pow_right (by omega) (show 64 ≤ i by omega) : 2 ^ 64 ≤ 2 ^ i)
    rw [Nat.testBit_lt_two_pow (by omega), Nat.testBit_lt_two_pow (by omega)]
theorem bitsL_rise (s : Nat) : Rise 0 (bitsL s) := by
  refine rise_of _ _ ?_ ?_
  · exact List.Pairwise.filter _ List.pairwise_lt_range
  · intro c hc
    unfold bitsL at hc
    rw [List.mem_filter, List.mem_range] at hc
    exact ⟨Nat.two_pow_pos c, hc.1⟩
theorem fold_bits (s : Nat) (hs : s < 18446744073709551616) : foldS 0 (bitsL s) = s := by
  have := rise_fold _ 0 (bitsL_rise s) (by omega)
  exact bitsL_inj this.2 hs (by rw [this.1]; rfl)
theorem bitsL_lt {s c : Nat} (h : c ∈ bitsL s) : c < 64 := by
  unfold bitsL at h
  rw [List.mem_filter, List.mem_range] at h
  exact h.1
def txtS (s : Nat) : List UInt8 := joiC 44 ((bitsL s).map digT)
def parC : Nat → List (List UInt8) → Option Nat
  | s, [] => some s
  | s, w :: ws => match numZ w with
    | none => none
    | some c => if s / 2 ^ c = 0 then parC (s ||| 2 ^ c) ws else none
def parT (t : List UInt8) : Option Nat := if t = [] then some 0 else parC 0 (splC 44 t)
theorem parC_rise : ∀ (ns : List Nat) (s : Nat), Rise s ns → parC s (ns.map digT) = some (foldS s ns)
  | [], s, _ => rfl
  | c :: l, s, h => by
    obtain ⟨h1, h2, h3⟩ := h
    rw [List.map_cons]
    unfold parC
    rw [numZ_digT c h2]
    show (if s / 2 ^ c = 0 then _ else _) = _
    rw [if_pos (Nat.div_eq_of_lt h1), parC_rise l _ h3]; rfl
theorem txtS_zero : txtS 0 = [] := by kernel_rfl
theorem bitsL_pos {s : Nat} (hs : s < 18446744073709551616) (h : s ≠ 0) : ∃ c l, bitsL s = c :: l := ⟨_, _, (bitsL_cons s hs h).1⟩
theorem txtS_spl (s : Nat) (hs : s < 18446744073709551616) (h : s ≠ 0) : splC 44 (txtS s) = (bitsL s).map digT := by
  obtain ⟨c, l, e⟩ := bitsL_pos hs h
  unfold txtS
  rw [e, List.map_cons]
  refine splC_joiC 44 _ _ ?_
  intro q hq
  rw [← List.map_cons, ← e, List.mem_map] at hq
  obtain ⟨d, hd, rfl⟩ := hq
  exact (digT_plain d (by have := bitsL_lt hd; omega)).1
theorem txtS_ne (s : Nat) (hs : s < 18446744073709551616) (h : s ≠ 0) : txtS s ≠ [] := by
  intro e0
  have := txtS_spl s hs h
  obtain ⟨c, l, e⟩ := bitsL_pos hs h
  rw [e0, e] at this
  have h2 := digT_len c
  have h3 : [] = digT c := (List.cons.inj this).1
  rw [← h3] at h2
  simp at h2
theorem par_txt (s : Nat) (hs : s < 18446744073709551616) : parT (txtS s) = some s := by
  unfold parT
  by_cases h : s = 0
  · subst h; rw [if_pos txtS_zero]
  · rw [if_neg (txtS_ne s hs h), txtS_spl s hs h, parC_rise _ _ (bitsL_rise s), fold_bits s hs]
theorem txtS_len (s : Nat) : (txtS s).length ≤ 192 := by
  have hl : (bitsL s).length ≤ 64 := by unfold bitsL; exact Nat.le_trans (List.length_filter_le _ _) (by simp)
  have key : ∀ ns : List Nat, (joiC 44 (ns.map digT)).length ≤ 3 * ns.length := by
    intro ns
    induction ns with
    | nil => simp [joiC]
    | cons c l ih =>
      cases l with
      | nil => have := digT_len c; show (digT c).length ≤ _; simp; omega
      | cons d l =>
        have := digT_len c
        show (digT c ++ 44 :: joiC 44 ((d :: l).map digT)).length ≤ _
        rw [List.length_append, List.length_cons, List.length_cons]
        omega
  have := key (bitsL s)
  unfold txtS
  omega
end Go.Proofs.YtbboanfggaknjaaDoor.X
/- What strings.Cut at one byte answers. -/
set_option linter.unusedVariables false
set_option linter.unusedSimpArgs false
namespace Go.Proofs.YtbboanfggaknjaaDoor.X
open Go.RowKit Go.Proofs.YtbboanfggaknjaaDoorW.PrintWords Go.Proofs.YtbboanfggaknjaaDoorW.PrintLast Go.Proofs.YtbboanfggaknjaaDoorW.PrintMore
def cutL (c : UInt8) : List UInt8 → List UInt8 × List UInt8 × Bool
  | [] => ([], [], false)
  | b :: l => if b = c then ([], l, true) else (b :: (cutL c l).1, (cutL c l).2.1, (cutL c l).2.2)
theorem index_cut (c : UInt8) : ∀ l : List UInt8, (Lib.indexByte l c = -1 ∧ (cutL c l).1 = l ∧ (cutL c l).2.1 = [] ∧ (cutL c l).2.2 = false) ∨
    ∃ n : Nat, Lib.indexByte l c = (n : Int) ∧ n < l.length ∧ (cutL c l).1 = l.take n ∧ (cutL c l).2.1 = l.drop (n + 1) ∧ (cutL c l).2.2 = true
  | [] => Or.inl ⟨rfl, rfl, rfl, rfl⟩
  | b :: l => by
    by_cases h : b = c
    · refine Or.inr ⟨0, ?_, by simp, ?_, ?_, ?_⟩
      · simp [Lib.indexByte, h]
      · simp [cutL, h]
      · simp [cutL, h]
      · simp [cutL, h]
    · rcases index_cut c l with ⟨h1, h2, h3, h4⟩ | ⟨n, h1, h2, h3, h4, h5⟩
      · left
        refine ⟨?_, ?_, ?_, ?_⟩
        · simp [Lib.indexByte, h, h1]
        · simp [cutL, h, h2]
        · simp [cutL, h, h3]
        · simp [cutL, h, h4]
      · right
        refine ⟨n + 1, ?_, by simp; omega, ?_, ?_, ?_⟩
        · simp only [Lib.indexByte, beq_eq_false_iff_ne.2 h, h1]
          rw [if_neg (by simp), if_neg (by first | (simp; done) | (simp; omega))]
          omega
        · simp [cutL, h, h3]
        · simp [cutL, h, h4]
        · simp [cutL, h, h5]
theorem cut_eq (s : ByteArray) (c : UInt8) (hs : s.size ≤ 4611686018427387904) : strings_Cut.f s (tx [c]) = some (tx (cutL c (by_ s)).1, tx (cutL c (by_ s)).2.1, (cutL c (by_ s)).2.2) := by
  unfold strings_Cut.f stringslite_Cut.f stringslite_Index.f
  have h1 : (tx [c]).size = 1 := by rw [size_tx]; rfl
  have h2 : (tx [c])[0]'(by rw [h1]; decide) = c := rfl
  rw [dif_pos h1, h2]
  simp only [Option.bind_some]
  rcases index_cut c (by_ s) with ⟨g1, g2, g3, g4⟩ | ⟨n, g1, g2, g3, g4, g5⟩
  · rw [show Lib.indexByte s.data.toList c = -1 from g1, if_neg (by decide), g2, g3, g4, tx_by]
    rfl
  · have hl := size_by s
    rw [show Lib.indexByte s.data.toList c = (n : Int) from g1, if_pos (by omega), if_pos (by omega), if_pos (by omega), h1]
    have hw : wrap64 ((n : Int) + ((1 : Nat) : Int)) = ((n + 1 : Nat) : Int) := by unfold wrap64; omega
    rw [hw, if_pos (by omega), if_pos (by omega), g3, g4, g5]
    simp only [Option.bind_some, Int.toNat_natCast, ext_head, ext_tail]
theorem cutL_length (c : UInt8) (l : List UInt8) : (cutL c l).1.length ≤ l.length ∧ (cutL c l).2.1.length ≤ l.length := by
  rcases index_cut c l with ⟨g1, g2, g3, g4⟩ | ⟨n, g1, g2, g3, g4, g5⟩
  · rw [g2, g3]; simp
  · rw [g3, g4]; simp; omega
end Go.Proofs.YtbboanfggaknjaaDoor.X
/- Labels as texts: plain. -/
set_option linter.unusedVariables false
set_option linter.unusedSimpArgs false
namespace Go.Proofs.YtbboanfggaknjaaDoor.X
open Go.RowKit Go.Proofs.YtbboanfggaknjaaDoorW.PrintWords Go.Proofs.YtbboanfggaknjaaDoorW.PrintLast Go.Proofs.YtbboanfggaknjaaDoorW.PrintMore
theorem cutL_plain (c : UInt8) : ∀ p : List UInt8, c ∉ p → cutL c p = (p, [], false)
  | [], _ => rfl
  | b :: p, h => by
    simp only [List.mem_cons, not_or] at h
    rw [cutL, if_neg (fun e => h.1 e.symm), cutL_plain c p h.2]
theorem cutL_app (c : UInt8) (l : List UInt8) : ∀ p : List UInt8, c ∉ p → cutL c (p ++ c :: l) = (p, l, true)
  | [], _ => by show cutL c (c :: l) = _; rw [cutL, if_pos rfl]
  | b :: p, h => by
    simp only [List.mem_cons, not_or] at h
    show cutL c (b :: (p ++ c :: l)) = _
    rw [cutL, if_neg (fun e => h.1 e.symm), cutL_app c l p h.2]
def topL : List UInt8 := [116, 111, 112]
def full64 : Nat := 18446744073709551615
def mayL (lv : Int) : Bool := decide (0 ≤ lv ∧ lv ≤ 15)
def labT (lv : Int) (c : Nat) : List UInt8 :=
  if 0 ≤ lv ∧ lv ≤ 15 then (if lv = 15 ∧ c = full64 then topL else if c = 0 then digT lv.toNat else digT lv.toNat ++ 58 :: txtS c) else []
def levZ (h : List UInt8) : Int := match numZ h with
  | some n => if n < 16 then (n : Int) else -1
  | none => -1
theorem levZ_dig (n : Nat) (h : n < 16) : levZ (digT n) = (n : Int) := by
  unfold levZ
  rw [numZ_digT n (by omega)]
  show (if n < 16 then (n : Int) else -1) = _
  rw [if_pos h]
theorem levZ_back (h : List UInt8) : levZ h = -1 ∨ ∃ n : Nat, n < 16 ∧ levZ h = (n : Int) ∧ digT n = h := by
  unfold levZ
  cases e : numZ h with
  | none => exact Or.inl rfl
  | some n =>
    show (if n < 16 then (n : Int) else -1) = -1 ∨ ∃ m : Nat, m < 16 ∧ (if n < 16 then (n : Int) else -1) = (m : Int) ∧ digT m = h
    by_cases g : n < 16
    · right; exact ⟨n, g, by rw [if_pos g], (numZ_back h n e).2⟩
    · left; rw [if_neg g]
theorem levZ_eq (h : List UInt8) (n : Nat) (hn : n < 16) : digT n = h ↔ levZ h = (n : Int) := by
  constructor
  · intro e; rw [← e, levZ_dig n hn]
  · intro e
    rcases levZ_back h with g | ⟨m, g1, g2, g3⟩
    · omega
    · have : m = n := by omega
      subst this; exact g3
def labP (t : List UInt8) : Option (Int × Nat) :=
  if t = topL then some (15, full64)
  else match parT (cutL 58 t).2.1 with
    | none => none
    | some s => if levZ (cutL 58 t).1 < 0 ∨ (cutL 58 t).2.2 ≠ decide (s ≠ 0) ∨ (levZ (cutL 58 t).1 = 15 ∧ s = full64) then none else some (levZ (cutL 58 t).1, s)
theorem digT_top : ∀ n, n < 16 → digT n ≠ topL := by decide +kernel
theorem full_ne : full64 ≠ 0 := by decide
theorem digT_col (n : Nat) (h : n < 16) : (58 : UInt8) ∉ digT n := (digT_plain n (by omega)).2
theorem lab_top (n : Nat) (h : n < 16) (l : List UInt8) : digT n ++ 58 :: l ≠ topL := by
  intro e
  have : (58 : UInt8) ∈ topL := by rw [← e]; simp
  revert this; decide
theorem labP_txt (lv : Int) (c : Nat) (hc : c < 18446744073709551616) : labP (labT lv c) = if 0 ≤ lv ∧ lv ≤ 15 then some (lv, c) else none := by
  unfold labT
  by_cases h : 0 ≤ lv ∧ lv ≤ 15
  · rw [if_pos h, if_pos h]
    obtain ⟨n, rfl⟩ : ∃ n : Nat, lv = (n : Int) := ⟨lv.toNat, by omega⟩
    have hn : n < 16 := by omega
    by_cases ht : (n : Int) = 15 ∧ c = full64
    · rw [if_pos ht]
      unfold labP
      rw [if_pos rfl, ht.1, ht.2]
    · rw [if_neg ht]
      by_cases h0 : c = 0
      · subst h0
        rw [if_pos rfl, Int.toNat_natCast]
        unfold labP
        rw [if_neg (digT_top n hn), cutL_plain 58 _ (digT_col n hn)]
        show (match parT [] with | none => none | some s => if levZ (digT n) < 0 ∨ false ≠ decide (s ≠ 0) ∨ (levZ (digT n) = 15 ∧ s = full64) then none else some (levZ (digT n), s)) = _
        rw [show parT [] = some 0 from rfl]
        show (if levZ (digT n) < 0 ∨ false ≠ decide ((0 : Nat) ≠ 0) ∨ (levZ (digT n) = 15 ∧ 0 = full64) then none else some (levZ (digT n), 0)) = _
        rw [levZ_dig n hn, if_neg]
        rintro (g | g | g)
        · omega
        · simp at g
        · exact full_ne g.2.symm
      · rw [if_neg h0, Int.toNat_natCast]
        unfold labP
        rw [if_neg (lab_top n hn _), cutL_app 58 _ _ (digT_col n hn)]
        show (match parT (txtS c) with | none => none | some s => if levZ (digT n) < 0 ∨ true ≠ decide (s ≠ 0) ∨ (levZ (digT n) = 15 ∧ s = full64) then none else some (levZ (digT n), s)) = _
        rw [par_txt c hc]
        show (if levZ (digT n) < 0 ∨ true ≠ decide (c ≠ 0) ∨ (levZ (digT n) = 15 ∧ c = full64) then none else some (levZ (digT n), c)) = _
        rw [levZ_dig n hn, if_neg]
        rintro (g | g | g)
        · omega
        · simp [h0] at g
        · exact ht g
  · rw [if_neg h, if_neg h]; kernel_rfl
theorem labT_len (lv : Int) (c : Nat) : (labT lv c).length ≤ 200 := by
  unfold labT
  split
  · split
    · decide
    · have h1 := digT_len lv.toNat
      have h2 := txtS_len c
      split
      · omega
      · rw [List.length_append, List.length_cons]; omega
  · simp
end Go.Proofs.YtbboanfggaknjaaDoor.X
/- Spans as texts. -/
set_option linter.unusedVariables false
set_option linter.unusedSimpArgs false
namespace Go.Proofs.YtbboanfggaknjaaDoor.X.AD
open Go.RowKit Go.Proofs.YtbboanfggaknjaaDoorW.PrintWords Go.Proofs.YtbboanfggaknjaaDoorW.PrintLast Go.Proofs.YtbboanfggaknjaaDoorW.PrintMore
def mayZ (a b c d : Int) : Bool := decide ((0 ≤ a ∧ a < 999 ∧ 0 ≤ b ∧ b < 702) ∧ (0 ≤ c ∧ c < 999 ∧ 0 ≤ d ∧ d < 702))
theorem addr_may_eq (a b : Int) : addr_May.f a b = some (decide (0 ≤ a ∧ a < 999 ∧ 0 ≤ b ∧ b < 702)) := by
  unfold addr_May.f
  by_cases h1 : a ≥ 0
  · rw [if_pos h1]
    by_cases h2 : a < 999
    · rw [if_pos h2]
      by_cases h3 : b ≥ 0
      · rw [if_pos h3, Option.some.injEq, decide_eq_decide]; omega
      · rw [if_neg h3, decide_eq_false (by omega)]
    · rw [if_neg h2, decide_eq_false (by omega)]
  · rw [if_neg h1, decide_eq_false (by omega)]
theorem span_may_eq (a b c d : Int) : span_May.f a b c d = some (mayZ a b c d) := by
  unfold span_May.f mayZ
  rw [addr_may_eq, Option.bind_some]
  by_cases h : 0 ≤ a ∧ a < 999 ∧ 0 ≤ b ∧ b < 702
  · rw [decide_eq_true h, if_pos rfl, addr_may_eq, Option.bind_some, Option.some.injEq, decide_eq_decide]
    exact ⟨fun g => ⟨h, g⟩, fun g => g.2⟩
  · rw [decide_eq_false h, if_neg (by simp), decide_eq_false (fun g => h g.1)]
theorem rmayd_eq (a b : Int) : oculusref03_May.f a b = some (decide (0 ≤ a ∧ a < 999 ∧ 0 ≤ b ∧ b < 702)) := by
  unfold oculusref03_May.f
  by_cases h1 : a ≥ 0
  · rw [if_pos h1]
    by_cases h2 : a ≤ 998
    · rw [if_pos h2]
      by_cases h3 : b ≥ 0
      · rw [if_pos h3, Option.some.injEq, decide_eq_decide]; omega
      · rw [if_neg h3, decide_eq_false (by omega)]
    · rw [if_neg h2, decide_eq_false (by omega)]
  · rw [if_neg h1, decide_eq_false (by omega)]
theorem rspan_may_eq (a b c d : Int) : oculusref04_May.f a b c d = some (mayZ a b c d) := by
  unfold oculusref04_May.f mayZ
  rw [rmayd_eq, Option.bind_some]
  by_cases h : 0 ≤ a ∧ a < 999 ∧ 0 ≤ b ∧ b < 702
  · rw [decide_eq_true h, if_pos rfl, rmayd_eq, Option.bind_some, Option.some.injEq, decide_eq_decide]
    exact ⟨fun g => ⟨h, g⟩, fun g => g.2⟩
  · rw [decide_eq_false h, if_neg (by simp), decide_eq_false (fun g => h g.1)]
def spP (l : List UInt8) : Int × Int × Int × Int × Bool :=
  if (parS (cutL 58 l).1).2.2 = true then
    (if (cutL 58 l).2.2 = true then
      (if (parS (cutL 58 l).2.1).2.2 = true then
        (if (parS (cutL 58 l).1).1 = (parS (cutL 58 l).2.1).1 ∧ (parS (cutL 58 l).1).2.1 = (parS (cutL 58 l).2.1).2.1 then (0, 0, 0, 0, false)
        else ((parS (cutL 58 l).1).1, (parS (cutL 58 l).1).2.1, (parS (cutL 58 l).2.1).1, (parS (cutL 58 l).2.1).2.1, true))
      else (0, 0, 0, 0, false))
    else ((parS (cutL 58 l).1).1, (parS (cutL 58 l).1).2.1, (parS (cutL 58 l).1).1, (parS (cutL 58 l).1).2.1, true))
  else (0, 0, 0, 0, false)
theorem spparse_ev (l : List UInt8) (hl : l.length ≤ 1000) : Ev (fun k => span_Parse.f k (tx l)) (spP l) := by
  have hc := cutL_length 58 l
  unfold span_Parse.f spP
  have e := cut_eq (tx l) 58 (by rw [size_tx]; omega)
  rw [by_tx] at e
  refine ev_bind (ev_some fun _ => e) ?_
  refine ev_bind (parse_ev _ (by omega)) ?_
  have hp2 := parse_ev (cutL 58 l).2.1 (by omega)
  generalize parS (cutL 58 l).1 = p1 at *
  generalize parS (cutL 58 l).2.1 = p2 at *
  refine ev_ite (fun h1 => ?_) (fun h1 => ?_)
  · rw [if_pos h1]
    refine Ev.step (fun k => span_Parse.j0.eq_2 _ _ _ _ _ _) ?_
    cases h2 : (cutL 58 l).2.2 with
    | false =>
      rw [if_neg (by simp)]
      exact ev_pos rfl (Ev.now _)
    | true =>
      rw [if_pos rfl]
      refine ev_neg (by simp) (ev_bind hp2 ?_)
      refine ev_pos h1 (ev_ite (fun h3 => ?_) (fun h3 => ?_))
      · rw [if_pos h3]
        refine ev_ite (fun h4 => ?_) (fun h4 => ?_)
        · rw [if_pos (by simpa using h4)]; exact Ev.now _
        · rw [if_neg (by simpa using h4)]; exact Ev.now _
      · rw [if_neg h3]; exact Ev.now _
  · rw [if_neg h1]
    refine Ev.step (fun k => span_Parse.j0.eq_2 _ _ _ _ _ _) ?_
    refine ev_neg (by simp) (ev_bind hp2 ?_)
    exact ev_neg h1 (Ev.now _)
def txtL (a b c d : Int) : List UInt8 := if mayZ a b c d = true then (if a = c ∧ b = d then nameL a b else nameL a b ++ 58 :: nameL c d) else []
theorem nameL_len (a b : Int) : (nameL a b).length ≤ 5 := by
  unfold nameL
  split
  · rw [List.length_append]
    have h1 := letL_len b.toNat
    have h2 := digL_len (a.toNat + 1)
    omega
  · simp
theorem text_ev (a b c d : Int) : Ev (fun k => span_Text.f k a b c d) (tx (txtL a b c d)) := by
  unfold span_Text.f txtL
  refine ev_bind (ev_some fun _ => span_may_eq a b c d) ?_
  refine Ev.step (fun k => span_Text.j0.eq_2 _ _ _ _ _ _) ?_
  cases h : mayZ a b c d with
  | false => rw [if_neg (by simp)]; exact ev_pos rfl (Ev.now _)
  | true =>
    rw [if_pos rfl]
    refine ev_neg (by simp) ?_
    have l1 := nameL_len a b
    have l2 := nameL_len c d
    refine ev_ite (fun g => ?_) (fun g => ?_)
    · rw [if_pos (by simpa using g)]
      exact ev_bind (name_ev a b) (Ev.now _)
    · rw [if_neg (by simpa using g)]
      refine ev_bind (name_ev a b) (ev_pos (by rw [size_tx]; omega) ?_)
      refine ev_bind (name_ev c d) ?_
      have e : tx (nameL a b) ++ (⟨#[58]⟩ : ByteArray) ++ tx (nameL c d) = tx (nameL a b ++ 58 :: nameL c d) := by
        rw [show (⟨#[58]⟩ : ByteArray) = tx [58] from rfl, tx_append, tx_append]; simp
      have e0 : tx (nameL a b) ++ (⟨#[58]⟩ : ByteArray) = tx (nameL a b ++ [58]) := by rw [show (⟨#[58]⟩ : ByteArray) = tx [58] from rfl, tx_append]
      refine ev_pos (by rw [e0, size_tx, size_tx, List.length_append]; simp; omega) ?_
      rw [e]
      exact Ev.now _
theorem may_two (a b c d : Int) : mayZ a b c d = (mayI a b && mayI c d) := by
  unfold mayZ mayI
  rw [← Bool.decide_and]
theorem let_col : ∀ n : Fin 702, (58 : UInt8) ∉ letL n.val := by decide +kernel
theorem dig_col : ∀ n : Fin 1000, (58 : UInt8) ∉ digL n.val := by decide +kernel
theorem name_col (r c : Int) : (58 : UInt8) ∉ nameL r c := by
  unfold nameL
  by_cases h : mayI r c = true
  · rw [if_pos h]
    unfold mayI at h
    have hb := of_decide_eq_true h
    have h1 := let_col ⟨c.toNat, by omega⟩
    have h2 := dig_col ⟨r.toNat + 1, by omega⟩
    simp only [List.mem_append, not_or]
    exact ⟨h1, h2⟩
  · rw [if_neg h]; simp
theorem sp_txt (a b c d : Int) : spP (txtL a b c d) = if mayZ a b c d = true then (a, b, c, d, true) else (0, 0, 0, 0, false) := by
  unfold txtL
  by_cases h : mayZ a b c d = true
  · rw [if_pos h, if_pos h]
    rw [may_two, Bool.and_eq_true] at h
    have p1 := par_name a b
    have p2 := par_name c d
    rw [if_pos h.1] at p1
    rw [if_pos h.2] at p2
    by_cases g : a = c ∧ b = d
    · rw [if_pos g]
      unfold spP
      rw [cutL_plain 58 _ (name_col a b)]
      simp only [p1]
      rw [if_pos trivial, if_neg (by simp), ← g.1, ← g.2]
    · rw [if_neg g]
      unfold spP
      rw [cutL_app 58 _ _ (name_col a b)]
      simp only [p1, p2]
      rw [if_pos trivial, if_pos trivial, if_pos trivial, if_neg g]
  · rw [if_neg h, if_neg h]; kernel_rfl
theorem rtext_ev (a b c d : Int) : Ev (fun k => oculusref04_Text.f k a b c d) (tx (txtL a b c d)) := by
  unfold oculusref04_Text.f txtL
  refine ev_bind (ev_some fun _ => rspan_may_eq a b c d) ?_
  by_cases h : mayZ a b c d = true
  · rw [if_pos h]
    have l1 := nameL_len a b
    have l2 := nameL_len c d
    refine ev_pos h (ev_bind (rname_ev a b) (ev_ite (fun g => ?_) (fun g => ?_)))
    · have g' : ¬ (a = c ∧ b = d) := by
        rintro ⟨e1, e2⟩
        rw [e1, e2] at g
        simp at g
      rw [if_neg g']
      have e0 : tx (nameL a b) ++ (⟨#[58]⟩ : ByteArray) = tx (nameL a b ++ [58]) := by rw [show (⟨#[58]⟩ : ByteArray) = tx [58] from rfl, tx_append]
      refine ev_pos (by rw [size_tx]; omega) (ev_bind (rname_ev c d) ?_)
      rw [e0]
      refine ev_pos (by rw [size_tx, size_tx, List.length_append]; simp; omega) ?_
      rw [tx_append, List.append_assoc]
      exact Ev.now _
    · have g' : a = c ∧ b = d := by
        simp only [Bool.or_eq_true, Bool.not_eq_true', beq_eq_false_iff_ne, not_or, Decidable.not_not, ne_eq] at g
        exact ⟨g.1.symm, g.2.symm⟩
      rw [if_pos g']
      exact Ev.now _
  · rw [if_neg h]
    exact ev_neg h (Ev.now _)
theorem txtL_len (a b c d : Int) : (txtL a b c d).length ≤ 11 := by
  unfold txtL
  have l1 := nameL_len a b
  have l2 := nameL_len c d
  split
  · split
    · omega
    · rw [List.length_append, List.length_cons]; omega
  · simp
end Go.Proofs.YtbboanfggaknjaaDoor.X.AD
