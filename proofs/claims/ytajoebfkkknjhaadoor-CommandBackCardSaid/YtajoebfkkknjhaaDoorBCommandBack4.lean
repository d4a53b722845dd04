/- Contracts of the functions that the law CommandBack reaches, and what they answer (a session's own texts, joined; part 4). -/
import Derived.Deep.RegionHeld3
import Derived.Test.YtajoebfkkknjhaaDoorBCommandBack3
set_option maxHeartbeats 8000000
set_option maxRecDepth 100000
namespace Go.Proofs.YtajoebfkkknjhaaDoor.X
open Go.RowKit Go.Proofs.YtajoebfkkknjhaaDoorW.PrintWords Go.Proofs.YtajoebfkkknjhaaDoorW.PrintLast Go.Proofs.YtajoebfkkknjhaaDoorW.PrintMore
attribute [local go_sem] max2_int min2_int max_two min_two max_three min_three max_four min_four
set_option linter.unusedVariables false
set_option linter.unusedSimpArgs false
attribute [local go_sem high] eqA25
mutual
def oculusref02_Text.j0 : Nat → Bool → Int → Int → Option (ByteArray)
 | 0, _, _, _ => none
 | k + 1, x11, x102000, x102001 => if x11 = true then (some (⟨#[]⟩ : ByteArray)) else ((oculusref02_Top.f k).bind fun bt102 => (oculusref02_Text.j1 k (x102000 == bt102.1 && (x102001 == bt102.2)) x102000 x102001))
def oculusref02_Text.j1 : Nat → Bool → Int → Int → Option (ByteArray)
 | 0, _, _, _ => none
 | k + 1, x14, x102000, x102001 => if x14 = true then (some (⟨#[116, 111, 112]⟩ : ByteArray)) else ((oculusref01_Digits.f k x102000).bind fun t104 => (if x102001 = 0 then (some t104) else (if t104.size + 1 ≤ 9223372036854775807 then ((oculusref01_Text.f k x102001).bind fun t105 => (if (t104 ++ (⟨#[58]⟩ : ByteArray)).size + t105.size ≤ 9223372036854775807 then (some ((t104 ++ (⟨#[58]⟩ : ByteArray)) ++ t105)) else (none))) else (none))))
end
def oculusref02_Text.f (k : Nat) (a0_0 : Int) (a0_1 : Int) : Option (ByteArray) := if a0_0 < 0 then (oculusref02_Text.j0 k true a0_0 a0_1) else (oculusref02_Text.j0 k (decide (a0_0 > 15)) a0_0 a0_1)
theorem oculusref02_Text.calls (k : Nat) (a0_0 : Int) (a0_1 : Int) (r : ByteArray) (w : World) (h : oculusref02_Text.f k a0_0 a0_1 = some r) :
  Calls Tryd.prog 28 #[.agg #[.int .i64 a0_0, .int .u64 a0_1]] w fun e w' => e = .returned (.string r) ∧ Below w.heap.size w w' := by
 have hu25 := Tryd.underlying25; have HB := A_ (Below.refl w.heap.size w)
 have H : (if a0_0 < 0 then (oculusref02_Text.j0 k true a0_0 a0_1) else (oculusref02_Text.j0 k (decide (a0_0 > 15)) a0_0 a0_1)) = some r := h
 clear h; have HC2 := A_ H; clear H
 go_enter Tryd.func28, Tryd.ntmps28
 go_upto_region 1 with (first | ((with_reducible refine gd_ 1 ?_); refine be_ (N:=1) (cs := #[.int .i64 a0_0, .int .u64 a0_1]) (t:=25) ?_; intro g1 hg w3 hbox hb; have B1 := A_ (hbox); have GW101 := hs_ HB hg; have GE101 := hs_ HB hg; replace HB := bs_ HB hb; clear hb hbox hg))
 (try simp only [q_])
 go_cut [11] (fun v11 wc => ∃ (kq : Nat) (x11_1 : Bool), v11 = .bool x11_1 ∧ Aside0 (oculusref02_Text.j0 kq x11_1 a0_0 a0_1 = some r) ∧ Aside0 (kq ≤ k) ∧ Aside0 (wc.heap[g1]? = some (.cells #[.int .i64 a0_0, .int .u64 a0_1] 25 (0, 0))) ∧ Aside0 (Below w.heap.size w wc))
 case first =>
  have H := HC2.out; clear HC2
  by_cases c4 : a0_0 < 0
  ·rw [if_pos c4] at H; have c4b0 := decide_eq_true c4; clear c4; (first | rw [c4b0] | (simp only [i64_w, i32_w]; rw [c4b0]) | skip)
   have H' := A_ H
   clear H
   have ⟨hcz5_0,hcz5_1,hfz5_0,hfz5_1⟩ := z2_ B1
   go_wp2
   go_meet
   case rel => exact ⟨_, (true), sq_, H', le_, ⟨pkx B1⟩, ⟨pbx HB⟩⟩
  ·rw [if_neg c4] at H; have c4b0 := decide_eq_false c4; clear c4; (first | rw [c4b0] | (simp only [i64_w, i32_w]; rw [c4b0]) | skip)
   have H' := A_ H
   clear H
   have ⟨hcz6_0,hcz6_1,hfz6_0,hfz6_1⟩ := z2_ B1
   go_wp2
   go_meet
   case rel => exact ⟨_, (decide (a0_0 > 15)), sq_, H', le_, ⟨pkx B1⟩, ⟨pbx HB⟩⟩
 case rest =>
  clear HC2; obtain ⟨kq, x11_1, rfl, HA, HJ1, B1, HB⟩ := hcut
  cases kq with
  | zero => exact absurd HA.out (by simp [oculusref02_Text.j0])
  | succ kj1 =>
   have H := HA.out; clear HA
   simp only [oculusref02_Text.j0] at H
   by_cases c7 : x11_1 = true
   ·subst c7
    replace H := it_ H; obtain rfl := Option.some.inj H
    go_wp2
    go_ret
    exact fi_ (pbx HB)
   ·replace c7 := Bool.eq_false_iff.mpr c7; subst c7
    replace H := ie_ H; have HC8 := A_ H; clear H
    go_upto_region 3 with (fail)
    go_cut [14] (fun v14 wc => ∃ (kq : Nat) (x14_7 : Bool), v14 = .bool x14_7 ∧ Aside0 (oculusref02_Text.j1 kq x14_7 a0_0 a0_1 = some r) ∧ Aside0 (kq ≤ kj1) ∧ Aside0 (wc.heap[g1]? = some (.cells #[.int .i64 a0_0, .int .u64 a0_1] 25 (0, 0))) ∧ Aside0 (Below w.heap.size w wc))
    case first =>
     have H := HC8.out; clear HC8; obtain ⟨⟨t102, t103⟩, A9, H⟩ := bo_ H; dsimp only at H
     have H' := A_ H
     clear H
     try go_wp2
     (try (rw [drewN_self wc]; generalize hq_ : World.drewN wc _ = wc; have n0_ : Aside0 (wc.heap[g1]? = some (.cells #[.int .i64 a0_0, .int .u64 a0_1] 25 (0, 0))) := ⟨by rw [← hq_]; exact (pkx B1)⟩; have n1_ : Aside0 (Below w.heap.size w wc) := ⟨by rw [← hq_]; exact (pbx HB)⟩; clear B1 HB hq_; have B1 := n0_; have HB := n1_; clear n0_ n1_))
     replace B1 := A_ (blk_drew B1.out); replace HB := A_ (below_drew1 HB.out)
     refine start_ (n:=3) (S := fun w' => w'.cell? ⟨g1, 0, none⟩ = some (.int .i64 a0_0) ∧ w'.cell? ⟨g1, 1, none⟩ = some (.int .u64 a0_1)) (ds := []) #[F,F,F] (by kernel_rfl) rfl rfl ⟨bc_ B1 0 rfl, bc_ B1 1 rfl⟩ (fun hHeld => ?_)
     generalize wc.drew = w10 at B1 HB hHeld ⊢; refine take_ (i:=0) (N:=some 12) (v:=?_) (a':=?_) #[T,F,F] rfl rfl (by kernel_rfl) (fun _ _ _ h=>h) (Or.inl ⟨rfl, ?_⟩) hHeld ?_ ?_; rotate_left
     ·rintro w' ⟨s0, s1⟩; go_simp; with_reducible rfl
     rotate_left
     ·simp only [q_, i64_w, i32_w]; rfl
     refine one_ (i:=1) (N:=some 13) #[T,T,F] rfl rfl (by kernel_rfl) (by decide) (fun K hK => ?_); refine goes_ Tryd.func39 (by kernel_rfl) rfl #[] (by rfl) rfl rfl ha_ ?_; with_reducible refine (oculusref02_Top.calls kj1  t102 t103 _ A9.out).mono ?_; rintro e w11 ⟨rfl, hb⟩; refine ⟨_, rfl, ?_⟩
     replace B1 := bb_ B1 hb; replace HB := bs_ HB hb; (try clear hb); refine hK.out _ _ ⟨bc_ B1 0 rfl, bc_ B1 1 rfl⟩ (fun hHeld => ?_); clear hK K; refine norm_ (a':=?_) ?_ ?_; rotate_left
     ·show Act.put _ (some 13) _ = _; simp only [q_, i64_w, i32_w]; rfl
     refine pure_ (i:=2) (N:=some 14) (v:=?_) (a':=?_) #[T,T,T] rfl rfl (by kernel_rfl) (fun _ _ _ h=>h) (Or.inl ⟨rfl, ?_⟩) ?_ ?_; rotate_left
     ·intro w'; go_simp; with_reducible rfl
     rotate_left
     ·simp only [q_, i64_w, i32_w]; rfl
     refine done_ (by kernel_rfl) ?_
     try go_wp2
     go_meet
     case rel => exact ⟨_, ((a0_0 == t102 && (a0_1 == t103))), (by first | rfl | (simp; done) | (simp [*]; done) | (cases t102 <;> simp; done) | (cases t103 <;> simp; done)), H', ⟨by have := HJ1.out; first | omega | exact Nat.le_refl _⟩, ⟨pkx B1⟩, ⟨pbx HB⟩⟩
    case rest =>
     clear HC8; (try clear c7); obtain ⟨kq, x14_7, rfl, HA, HJ7, B1, HB⟩ := hcut
     cases kq with
     | zero => exact absurd HA.out (by simp [oculusref02_Text.j1])
     | succ kj7 =>
      have H := HA.out; clear HA
      simp only [oculusref02_Text.j1] at H
      by_cases c12 : x14_7 = true
      ·subst c12
       replace H := it_ H; obtain rfl := Option.some.inj H
       go_wp2
       go_ret
       exact fi_ (pbx HB)
      ·replace c12 := Bool.eq_false_iff.mpr c12; subst c12
       obtain ⟨t104, A13, H⟩ := bo_ (ie_ H)
       by_cases c14 : a0_1 = 0
       ·rw [if_pos c14] at H; have ⟨c14b0,c14b1⟩ := e1_ c14; clear c14; obtain rfl := Option.some.inj H
        have ⟨hcz15_0,hcz15_1,hfz15_0,hfz15_1⟩ := z2_ B1
        go_wp2_with (first | ((with_reducible refine gate_callee (f:=31) rfl ?_); refine gL_ (some 17) rfl rfl Tryd.func31 rfl #[.int .i64 a0_0] rfl ?_; (with_reducible refine (oculusref01_Digits.calls kj7 a0_0 t104 _ A13.out).mono ?_); rintro e w16 ⟨rfl, hb⟩; refine ⟨_, rfl, ?_⟩; replace B1 := bb_ B1 hb; replace HB := bs_ HB hb; (try clear hb); have ⟨hcz17_0,hcz17_1,hfz17_0,hfz17_1⟩ := z2_ B1))
        go_ret
        exact fi_ (pbx HB)
       ·rw [if_neg c14] at H; have ⟨c14b0,c14b1⟩ := e0_ c14
        by_cases c18 : t104.size + 1 ≤ 9223372036854775807
        ·rw [if_pos c18] at H; have c18b0 := eq_true c18; have c18b1 := decide_eq_true c18
         try have c18b2 : (9223372036854775807 < t104.size + 1) = False := eq_false (Nat.not_lt.2 c18)
         obtain ⟨t105, A19, H⟩ := bo_ H
         by_cases c20 : (t104 ++ (⟨#[58]⟩ : ByteArray)).size + t105.size ≤ 9223372036854775807
         ·rw [if_pos c20] at H; have c20b0 := eq_true c20; have c20b1 := decide_eq_true c20
          try have c20b2 : (9223372036854775807 < (t104 ++ (⟨#[58]⟩ : ByteArray)).size + t105.size) = False := eq_false (Nat.not_lt.2 c20)
          try have c20b2z : (9223372036854775807 < t104.size + 1 + t105.size) = False := by have h9_ := c20b2; rw [ByteArray.size_append] at h9_; exact h9_
          obtain rfl := Option.some.inj H
          have ⟨hcz21_0,hcz21_1,hfz21_0,hfz21_1⟩ := z2_ B1
          go_wp2_with (first | ((with_reducible refine gate_callee (f:=31) rfl ?_); refine gL_ (some 17) rfl rfl Tryd.func31 rfl #[.int .i64 a0_0] rfl ?_; (with_reducible refine (oculusref01_Digits.calls kj7 a0_0 t104 _ A13.out).mono ?_); rintro e w22 ⟨rfl, hb⟩; refine ⟨_, rfl, ?_⟩; replace B1 := bb_ B1 hb; replace HB := bs_ HB hb; (try clear hb); have ⟨hcz23_0,hcz23_1,hfz23_0,hfz23_1⟩ := z2_ B1) | ((with_reducible refine gate_callee (f:=54) rfl ?_); refine gL_ (some 25) rfl rfl Tryd.func54 rfl #[.int .u64 a0_1] rfl ?_; (with_reducible refine (oculusref01_Text.calls kj7 a0_1 t105 _ A19.out).mono ?_); rintro e w24 ⟨rfl, hb⟩; refine ⟨_, rfl, ?_⟩; replace B1 := bb_ B1 hb; replace HB := bs_ HB hb; (try clear hb); ))
          go_ret
          exact fi_ (pbx HB)
         ·rw [if_neg c20] at H
          exact absurd H (by simp)
        ·rw [if_neg c18] at H
         exact absurd H (by simp)

end Go.Proofs.YtajoebfkkknjhaaDoor.X
namespace Go.Proofs.YtajoebfkkknjhaaDoor.X
open Go.RowKit Go.Proofs.YtajoebfkkknjhaaDoorW.PrintWords Go.Proofs.YtajoebfkkknjhaaDoorW.PrintLast Go.Proofs.YtajoebfkkknjhaaDoorW.PrintMore
attribute [local go_sem] max2_int min2_int max_two min_two max_three min_three max_four min_four
set_option linter.unusedVariables false
set_option linter.unusedSimpArgs false
def oculusref44_Words.f  : Option (List ByteArray) := some (([(⟨#[83, 69, 84]⟩ : ByteArray), (⟨#[67, 76, 69, 65, 82]⟩ : ByteArray), (⟨#[70, 73, 76, 76]⟩ : ByteArray), (⟨#[71, 69, 84]⟩ : ByteArray), (⟨#[71, 69, 84, 70, 79, 82, 77, 85, 76, 65]⟩ : ByteArray), (⟨#[86, 73, 69, 87]⟩ : ByteArray), (⟨#[82, 69, 86]⟩ : ByteArray), (⟨#[67, 72, 65, 78, 71, 69, 83]⟩ : ByteArray), (⟨#[83, 84, 65, 84, 83]⟩ : ByteArray), (⟨#[67, 79, 83, 84]⟩ : ByteArray)] : List ByteArray))
theorem oculusref44_Words.calls  (r : List ByteArray) (w : World) (h : oculusref44_Words.f  = some r) :
  Calls Tryd.prog 20 #[] w fun e w' => ∃ v0_ : Value, e = .returned (v0_) ∧ Kd.R Kd.string 9 w' w.heap.size (fun _ => True) v0_ r ∧ Below w.heap.size w w' := by
 have HB := A_ (Below.refl w.heap.size w)
 have H : (some (([(⟨#[83, 69, 84]⟩ : ByteArray), (⟨#[67, 76, 69, 65, 82]⟩ : ByteArray), (⟨#[70, 73, 76, 76]⟩ : ByteArray), (⟨#[71, 69, 84]⟩ : ByteArray), (⟨#[71, 69, 84, 70, 79, 82, 77, 85, 76, 65]⟩ : ByteArray), (⟨#[86, 73, 69, 87]⟩ : ByteArray), (⟨#[82, 69, 86]⟩ : ByteArray), (⟨#[67, 72, 65, 78, 71, 69, 83]⟩ : ByteArray), (⟨#[83, 84, 65, 84, 83]⟩ : ByteArray), (⟨#[67, 79, 83, 84]⟩ : ByteArray)] : List ByteArray))) = some r := h
 clear h; obtain ⟨y101, hy101⟩ : ∃ y_ : List ByteArray, y_ = (([(⟨#[83, 69, 84]⟩ : ByteArray), (⟨#[67, 76, 69, 65, 82]⟩ : ByteArray), (⟨#[70, 73, 76, 76]⟩ : ByteArray), (⟨#[71, 69, 84]⟩ : ByteArray), (⟨#[71, 69, 84, 70, 79, 82, 77, 85, 76, 65]⟩ : ByteArray), (⟨#[86, 73, 69, 87]⟩ : ByteArray), (⟨#[82, 69, 86]⟩ : ByteArray), (⟨#[67, 72, 65, 78, 71, 69, 83]⟩ : ByteArray), (⟨#[83, 84, 65, 84, 83]⟩ : ByteArray), (⟨#[67, 79, 83, 84]⟩ : ByteArray)] : List ByteArray)) := ⟨_, rfl⟩
 replace H : (some y101) = some r := by first | (rw [hy101]; with_reducible exact H) | (have H2_ := (Option.bind_some _ _).symm.trans H; rw [hy101]; with_reducible exact H2_) | (have H2_ := (Option.bind_some _ _).symm.trans H; with_reducible exact H2_) | with_reducible exact H | (rw [hy101]; exact H) | exact H
 have Ny101 := A_ hy101; clear hy101; obtain rfl := Option.some.inj H
 go_enter Tryd.func20, Tryd.ntmps20
 go_wp2_with (first | ((with_reducible refine gd_ 1 ?_); refine Kd.R_lit Kd.string _ 9 ?hg (N:=1) ?hd (xs := ([(⟨#[83, 69, 84]⟩ : ByteArray), (⟨#[67, 76, 69, 65, 82]⟩ : ByteArray), (⟨#[70, 73, 76, 76]⟩ : ByteArray), (⟨#[71, 69, 84]⟩ : ByteArray), (⟨#[71, 69, 84, 70, 79, 82, 77, 85, 76, 65]⟩ : ByteArray), (⟨#[86, 73, 69, 87]⟩ : ByteArray), (⟨#[82, 69, 86]⟩ : ByteArray), (⟨#[67, 72, 65, 78, 71, 69, 83]⟩ : ByteArray), (⟨#[83, 84, 65, 84, 83]⟩ : ByteArray), (⟨#[67, 79, 83, 84]⟩ : ByteArray)] : List ByteArray)) (inner := [.string (⟨#[83, 69, 84]⟩ : ByteArray), .string (⟨#[67, 76, 69, 65, 82]⟩ : ByteArray), .string (⟨#[70, 73, 76, 76]⟩ : ByteArray), .string (⟨#[71, 69, 84]⟩ : ByteArray), .string (⟨#[71, 69, 84, 70, 79, 82, 77, 85, 76, 65]⟩ : ByteArray), .string (⟨#[86, 73, 69, 87]⟩ : ByteArray), .string (⟨#[82, 69, 86]⟩ : ByteArray), .string (⟨#[67, 72, 65, 78, 71, 69, 83]⟩ : ByteArray), .string (⟨#[83, 84, 65, 84, 83]⟩ : ByteArray), .string (⟨#[67, 79, 83, 84]⟩ : ByteArray)]) (ok := fun _ => True) (okp := fun _ => True) ?hr ?hp (fun _ hk => hk) trivial (Below.refl _ _) (Nat.le_refl _) (by simp) ?_; (case hd => rfl); (case hg => rfl); (case hr => first | (go_simp; done) | (go_simp; rfl)); (case hp => exact (Reps.one (show Kd.M Kd.string _ _ _ (⟨#[83, 69, 84]⟩ : ByteArray) [.string (⟨#[83, 69, 84]⟩ : ByteArray)] from rfl) (Reps.one (show Kd.M Kd.string _ _ _ (⟨#[67, 76, 69, 65, 82]⟩ : ByteArray) [.string (⟨#[67, 76, 69, 65, 82]⟩ : ByteArray)] from rfl) (Reps.one (show Kd.M Kd.string _ _ _ (⟨#[70, 73, 76, 76]⟩ : ByteArray) [.string (⟨#[70, 73, 76, 76]⟩ : ByteArray)] from rfl) (Reps.one (show Kd.M Kd.string _ _ _ (⟨#[71, 69, 84]⟩ : ByteArray) [.string (⟨#[71, 69, 84]⟩ : ByteArray)] from rfl) (Reps.one (show Kd.M Kd.string _ _ _ (⟨#[71, 69, 84, 70, 79, 82, 77, 85, 76, 65]⟩ : ByteArray) [.string (⟨#[71, 69, 84, 70, 79, 82, 77, 85, 76, 65]⟩ : ByteArray)] from rfl) (Reps.one (show Kd.M Kd.string _ _ _ (⟨#[86, 73, 69, 87]⟩ : ByteArray) [.string (⟨#[86, 73, 69, 87]⟩ : ByteArray)] from rfl) (Reps.one (show Kd.M Kd.string _ _ _ (⟨#[82, 69, 86]⟩ : ByteArray) [.string (⟨#[82, 69, 86]⟩ : ByteArray)] from rfl) (Reps.one (show Kd.M Kd.string _ _ _ (⟨#[67, 72, 65, 78, 71, 69, 83]⟩ : ByteArray) [.string (⟨#[67, 72, 65, 78, 71, 69, 83]⟩ : ByteArray)] from rfl) (Reps.one (show Kd.M Kd.string _ _ _ (⟨#[83, 84, 65, 84, 83]⟩ : ByteArray) [.string (⟨#[83, 84, 65, 84, 83]⟩ : ByteArray)] from rfl) (Reps.one (show Kd.M Kd.string _ _ _ (⟨#[67, 79, 83, 84]⟩ : ByteArray) [.string (⟨#[67, 79, 83, 84]⟩ : ByteArray)] from rfl) (Reps.none _ _)))))))))))); intro v102 w1 ho2 hb hg_ hnew_; clear hg_ hnew_; (first | rw [← Ny101.out] at ho2 | (simp only [Int.reduceToNat] at ho2; rw [← Ny101.out] at ho2)); have HO103 := A_ (Kd.R_lower ho2 (below_size (pbx HB))); replace HB := bs_ HB hb; clear hb ho2))
 go_ret
 exact ⟨_, by first | rfl | (simp [errW_none, errW_some] <;> rfl) | (simp [*, errW_none, errW_some] <;> rfl), ra_ HO103.out, pbx HB⟩

def oculusref07_Words.l0 : Nat → ByteArray → List ByteArray → Int → Int → Option (List ByteArray)
 | 0, _, _, _, _ => none
 | k + 1, x0, x3, x4, x5 => if x5 ≤ (x0.size : Int) then (if x5 = (x0.size : Int) then (if 0 ≤ x4 then (if x4 ≤ x5 then (if x3.length < 8796093022208 then (oculusref07_Words.l0 k x0 (x3 ++ [x0.extract (x4 : Int).toNat (x5 : Int).toNat]) (wrap64 (x5 + 1)) (wrap64 (x5 + 1))) else (none)) else (none)) else (none)) else (if 0 ≤ x5 then (if x5 < (x0.size : Int) then (if (bt x0 x5) = 32 then (if 0 ≤ x4 then (if x4 ≤ x5 then (if x3.length < 8796093022208 then (oculusref07_Words.l0 k x0 (x3 ++ [x0.extract (x4 : Int).toNat (x5 : Int).toNat]) (wrap64 (x5 + 1)) (wrap64 (x5 + 1))) else (none)) else (none)) else (none)) else (oculusref07_Words.l0 k x0 x3 x4 (wrap64 (x5 + 1)))) else (none)) else (none))) else (some x3)
def oculusref07_Words.f (k : Nat) (a0 : ByteArray) : Option (List ByteArray) := oculusref07_Words.l0 k a0 ([] : List ByteArray) 0 0
theorem oculusref07_Words.calls (k : Nat) (a0 : ByteArray) (r : List ByteArray) (w : World) (h : oculusref07_Words.f k a0 = some r) :
  Calls Tryd.prog 16 #[.string a0] w fun e w' => ∃ v0_ : Value, e = .returned (v0_) ∧ Kd.R Kd.string 9 w' w.heap.size (fun _ => True) v0_ r ∧ Below w.heap.size w w' := by
 have HB := A_ (Below.refl w.heap.size w)
 have H : (oculusref07_Words.l0 k a0 ([] : List ByteArray) 0 0) = some r := h
 clear h
 have H' := A_ H
 clear H
 go_enter Tryd.func16, Tryd.ntmps16
 go_wp2
 go_loopg [3, 4, 5] k (fun kq v3 v4 v5 w' => ∃ (x3_1 : List ByteArray) (x4_1 : Int) (x5_1 : Int), v4 = .int .i64 x4_1 ∧ v5 = .int .i64 x5_1 ∧ Aside0 (oculusref07_Words.l0 kq a0 x3_1 x4_1 x5_1 = some r) ∧ Aside0 (kq ≤ k) ∧ Aside0 (Kd.R Kd.string 9 w' w.heap.size (fun _ => True) v3 x3_1) ∧ Aside0 (Below w.heap.size w w'))
 case atStart => exact ⟨(([] : List ByteArray)), (0), (0), sq_, sq_, H', ⟨Nat.le_refl _⟩, ⟨by first | exact Kd.R_nil _ _ _ _ _ | exact Kd.N_nil _ _ _ _ _ | exact Kd.V_nil _ _ _ _ _ | exact Kd.Q_nil _ _ _ _ _ | exact Kd.S_nil _ _ _ _ _⟩, ⟨pbx HB⟩⟩
 case round =>
  clear H'; obtain ⟨x3_1, x4_1, x5_1, rfl, rfl, HA, HK1, HO_3, HB⟩ := hrel
  cases gk with
  | zero => exact absurd HA.out (by simp [oculusref07_Words.l0])
  | succ k1 =>
   have H := HA.out; clear HA
   simp only [oculusref07_Words.l0] at H
   by_cases c2 : x5_1 ≤ (a0.size : Int)
   ·rw [if_pos c2] at H; have c2b0 := decide_eq_true c2; clear c2
    by_cases c3 : x5_1 = (a0.size : Int)
    ·rw [if_pos c3] at H; have ⟨c3b0,c3b1⟩ := e1_ c3; clear c3
     by_cases c4 : 0 ≤ x4_1
     ·rw [if_pos c4] at H; have c4b0 := eq_true c4; have c4b1 := decide_eq_true c4; clear c4
      by_cases c5 : x4_1 ≤ x5_1
      ·rw [if_pos c5] at H; have c5b0 := eq_true c5; have c5b1 := decide_eq_true c5; clear c5; have c6b0 := eq_true (of_decide_eq_true as_ : x5_1 ≤ (a0.size : Int))
       by_cases c7 : x3_1.length < 8796093022208
       ·rw [if_pos c7] at H; have LMc7 := A_ c7; clear c7; obtain ⟨y101, hy101⟩ : ∃ y_ : List ByteArray, y_ = (x3_1 ++ [a0.extract (x4_1 : Int).toNat (x5_1 : Int).toNat]) := ⟨_, rfl⟩
        replace H : (oculusref07_Words.l0 k1 a0 y101 (wrap64 (x5_1 + 1)) (wrap64 (x5_1 + 1))) = some r := by first | (rw [hy101]; with_reducible exact H) | (have H2_ := (Option.bind_some _ _).symm.trans H; rw [hy101]; with_reducible exact H2_) | (have H2_ := (Option.bind_some _ _).symm.trans H; with_reducible exact H2_) | with_reducible exact H | (rw [hy101]; exact H) | exact H
        have Ny101 := A_ hy101; clear hy101
        have H' := A_ H
        clear H
        go_wp2_with (first | ((with_reducible refine gate_builtin (b := .append) (xs := #[.tmp 22, .tmp 27]) rfl ?_); at_builtin; refine Kd.R_append Kd.string (w0 := w) w.heap.size rfl (.tmp 22) (.tmp 27) 48 9 (.string ⟨#[]⟩) 16 rfl Tryd.underlying48 info9 rfl (by decide) (by omega) u3 x3_1 (a0.extract (x4_1 : Int).toNat (x5_1 : Int).toNat) [.string (a0.extract (x4_1 : Int).toNat (x5_1 : Int).toNat)] (fun _ => True) (fun _ => False) rfl rfl ?aP (fun _ hk => hk.elim) ?aF ?aO ?aB ?aS ?aL ?_; (case aP => exact rfl); (case aB => exact (pbx HB)); (case aF => exact (fun _ _ => trivial)); (case aO => exact (ra_ HO_3.out)); (case aS => exact (below_size (pbx HB))); (case aL => have := LMc7.out; omega); intro v102 w8 ho hb hg hat; rw [← Ny101.out] at ho; have HO103 := A_ (ho); replace HB := A_ (hb); clear HO_3; clear ho hb hg hat))
        go_roundg k1
        case measure => have := HK1.out; omega
        case rel => exact ⟨(y101), (wrap64 (x5_1 + 1)), (wrap64 (x5_1 + 1)), sq_, sq_, H', ⟨by have := HK1.out; omega⟩, ⟨ra_ HO103.out⟩, ⟨pbx HB⟩⟩
       ·rw [if_neg c7] at H
        exact absurd H (by simp)
      ·rw [if_neg c5] at H
       exact absurd H (by simp)
     ·rw [if_neg c4] at H
      exact absurd H (by simp)
    ·rw [if_neg c3] at H; have ⟨c3b0,c3b1⟩ := e0_ c3
     by_cases c9 : 0 ≤ x5_1
     ·rw [if_pos c9] at H; have c9b0 := decide_eq_true c9; clear c9
      by_cases c10 : x5_1 < (a0.size : Int)
      ·rw [if_pos c10] at H; have c10b0 := decide_eq_true c10; clear c10
       by_cases c12 : (bt a0 x5_1) = 32
       ·rw [if_pos c12] at H; have ⟨c12b0,c12b1⟩ := e1_ c12; clear c12
        by_cases c13 : 0 ≤ x4_1
        ·rw [if_pos c13] at H; have c13b0 := eq_true c13; have c13b1 := decide_eq_true c13; clear c13
         by_cases c14 : x4_1 ≤ x5_1
         ·rw [if_pos c14] at H; have c14b0 := eq_true c14; have c14b1 := decide_eq_true c14; clear c14; have c15b0 := eq_true (of_decide_eq_true as_ : x5_1 ≤ (a0.size : Int))
          by_cases c16 : x3_1.length < 8796093022208
          ·rw [if_pos c16] at H; have LMc16 := A_ c16; clear c16; obtain ⟨y104, hy104⟩ : ∃ y_ : List ByteArray, y_ = (x3_1 ++ [a0.extract (x4_1 : Int).toNat (x5_1 : Int).toNat]) := ⟨_, rfl⟩
           replace H : (oculusref07_Words.l0 k1 a0 y104 (wrap64 (x5_1 + 1)) (wrap64 (x5_1 + 1))) = some r := by first | (rw [hy104]; with_reducible exact H) | (have H2_ := (Option.bind_some _ _).symm.trans H; rw [hy104]; with_reducible exact H2_) | (have H2_ := (Option.bind_some _ _).symm.trans H; with_reducible exact H2_) | with_reducible exact H | (rw [hy104]; exact H) | exact H
           have Ny104 := A_ hy104; clear hy104
           have H' := A_ H
           clear H
           have p11 : 0 ≤ (x5_1 : Int) := of_decide_eq_true as_
           have q11 : x5_1 < (a0.size : Int) := of_decide_eq_true as_
           have hx11 := bt_at a0 x5_1; replace p11 := eq_true p11; replace q11 := eq_true q11
           go_wp2_with (first | ((with_reducible refine gate_builtin (b := .append) (xs := #[.tmp 22, .tmp 27]) rfl ?_); at_builtin; refine Kd.R_append Kd.string (w0 := w) w.heap.size rfl (.tmp 22) (.tmp 27) 48 9 (.string ⟨#[]⟩) 16 rfl Tryd.underlying48 info9 rfl (by decide) (by omega) u3 x3_1 (a0.extract (x4_1 : Int).toNat (x5_1 : Int).toNat) [.string (a0.extract (x4_1 : Int).toNat (x5_1 : Int).toNat)] (fun _ => True) (fun _ => False) rfl rfl ?aP (fun _ hk => hk.elim) ?aF ?aO ?aB ?aS ?aL ?_; (case aP => exact rfl); (case aB => exact (pbx HB)); (case aF => exact (fun _ _ => trivial)); (case aO => exact (ra_ HO_3.out)); (case aS => exact (below_size (pbx HB))); (case aL => have := LMc16.out; omega); intro v105 w17 ho hb hg hat; rw [← Ny104.out] at ho; have HO106 := A_ (ho); replace HB := A_ (hb); clear HO_3; clear ho hb hg hat))
           go_roundg k1
           case measure => have := HK1.out; omega
           case rel => exact ⟨(y104), (wrap64 (x5_1 + 1)), (wrap64 (x5_1 + 1)), sq_, sq_, H', ⟨by have := HK1.out; omega⟩, ⟨ra_ HO106.out⟩, ⟨pbx HB⟩⟩
          ·rw [if_neg c16] at H
           exact absurd H (by simp)
         ·rw [if_neg c14] at H
          exact absurd H (by simp)
        ·rw [if_neg c13] at H
         exact absurd H (by simp)
       ·rw [if_neg c12] at H; have ⟨c12b0,c12b1⟩ := e0_ c12
        have H' := A_ H
        clear H
        have p11 : 0 ≤ (x5_1 : Int) := of_decide_eq_true as_
        have q11 : x5_1 < (a0.size : Int) := of_decide_eq_true as_
        have hx11 := bt_at a0 x5_1; replace p11 := eq_true p11; replace q11 := eq_true q11
        go_wp2
        go_roundg k1
        case measure => have := HK1.out; omega
        case rel => exact ⟨(x3_1), (x4_1), (wrap64 (x5_1 + 1)), sq_, sq_, H', ⟨by have := HK1.out; omega⟩, ⟨ra_ HO_3.out⟩, ⟨pbx HB⟩⟩
      ·rw [if_neg c10] at H
       exact absurd H (by simp)
     ·rw [if_neg c9] at H
      exact absurd H (by simp)
   ·rw [if_neg c2] at H; have c2b0 := decide_eq_false c2; clear c2; obtain rfl := Option.some.inj H
    go_wp2
    go_ret
    exact ⟨_, by first | rfl | (simp [errW_none, errW_some] <;> rfl) | (simp [*, errW_none, errW_some] <;> rfl), ra_ HO_3.out, pbx HB⟩

def oculusref06_letter.f (a0 : Int) : Option (Bool) := if a0 ≥ 97 then (some (decide (a0 ≤ 122))) else (some false)
theorem oculusref06_letter.calls (a0 : Int) (r : Bool) (w : World) (h : oculusref06_letter.f a0 = some r) :
  Calls Tryd.prog 38 #[.int .u8 a0] w fun e w' => e = .returned (.bool r) ∧ Drawn0 w w' := by
 have H : (if a0 ≥ 97 then (some (decide (a0 ≤ 122))) else (some false)) = some r := h
 clear h
 by_cases c2 : a0 ≥ 97
 ·rw [if_pos c2] at H; have c2b0 := decide_eq_true c2; clear c2; obtain rfl := Option.some.inj H
  go_enter Tryd.func38, Tryd.ntmps38
  go_wp2
  go_ret
  exact ⟨by first | rfl | (simp; done) | (simp [*]; done), dr_⟩
 ·rw [if_neg c2] at H; have c2b0 := decide_eq_false c2; clear c2; obtain rfl := Option.some.inj H
  go_enter Tryd.func38, Tryd.ntmps38
  go_wp2
  go_ret
  exact ⟨by first | rfl | (simp; done) | (simp [*]; done), dr_⟩

mutual
def oculusref06_Name.j0 : Nat → ByteArray → Bool → Option (Bool)
 | 0, _, _ => none
 | k + 1, x0, x17 => if x17 = true then (some false) else (oculusref06_Name.l0 k x0 0)
def oculusref06_Name.l0 : Nat → ByteArray → Int → Option (Bool)
 | 0, _, _ => none
 | k + 1, x0, x3 => if x3 < (x0.size : Int) then (if 0 ≤ x3 then ((oculusref06_letter.f (bt x0 x3)).bind fun t102 => (if t102 = true then (oculusref06_Name.l0 k x0 (wrap64 (x3 + 1))) else (if (bt x0 x3) ≥ 48 then (if ((bt x0 x3) ≤ 57) then (oculusref06_Name.l0 k x0 (wrap64 (x3 + 1))) else (some false)) else (some false)))) else (none)) else (some true)
end
def oculusref06_Name.f (k : Nat) (a0 : ByteArray) : Option (Bool) := if (a0.size : Int) < 1 then (oculusref06_Name.j0 k a0 true) else (if (a0.size : Int) > 16 then (oculusref06_Name.j0 k a0 true) else (if 0 < (a0.size : Int) then ((oculusref06_letter.f (bt a0 0)).bind fun t101 => (oculusref06_Name.j0 k a0 (!t101))) else (none)))
theorem oculusref06_Name.calls (k : Nat) (a0 : ByteArray) (r : Bool) (w : World) (h : oculusref06_Name.f k a0 = some r) :
  Calls Tryd.prog 17 #[.string a0] w fun e w' => e = .returned (.bool r) ∧ Drawn0 w w' := by
 have H : (if (a0.size : Int) < 1 then (oculusref06_Name.j0 k a0 true) else (if (a0.size : Int) > 16 then (oculusref06_Name.j0 k a0 true) else (if 0 < (a0.size : Int) then ((oculusref06_letter.f (bt a0 0)).bind fun t101 => (oculusref06_Name.j0 k a0 (!t101))) else (none)))) = some r := h
 clear h; have HC2 := A_ H; clear H
 go_enter Tryd.func17, Tryd.ntmps17
 go_upto_region 1 with (fail)
 go_cut [17] (fun v17 wc => ∃ (kq : Nat) (x17_1 : Bool), v17 = .bool x17_1 ∧ Aside0 (oculusref06_Name.j0 kq a0 x17_1 = some r) ∧ Aside0 (kq ≤ k) ∧ Drawn0 w wc)
 case first =>
  have H := HC2.out; clear HC2
  by_cases c3 : (a0.size : Int) < 1
  ·rw [if_pos c3] at H; have c3b0 := decide_eq_true c3; have c3b1 : decide (a0.size < 1) = true := decide_eq_true (by omega); clear c3; (first | rw [c3b0] | (simp only [i64_w, i32_w]; rw [c3b0]) | skip)
   have H' := A_ H
   clear H
   go_wp2
   go_meet
   case rel => exact ⟨_, (true), sq_, H', le_, dr_⟩
  ·rw [if_neg c3] at H; have c3b0 := decide_eq_false c3; have c3b1 : decide (a0.size < 1) = false := decide_eq_false (by omega); clear c3; (first | rw [c3b0] | (simp only [i64_w, i32_w]; rw [c3b0]) | skip)
   by_cases c4 : (a0.size : Int) > 16
   ·rw [if_pos c4] at H; have c4b0 := decide_eq_true c4; have c4b1 : decide (16 < a0.size) = true := decide_eq_true (by omega); clear c4
    have H' := A_ H
    clear H
    go_wp2
    go_meet
    case rel => exact ⟨_, (true), sq_, H', le_, dr_⟩
   ·rw [if_neg c4] at H; have c4b0 := decide_eq_false c4; have c4b1 : decide (16 < a0.size) = false := decide_eq_false (by omega); clear c4
    by_cases c5 : 0 < (a0.size : Int)
    ·rw [if_pos c5] at H; have c5b0 := decide_eq_true c5; have c5b1 : decide (0 < a0.size) = true := decide_eq_true (by omega); clear c5; obtain ⟨t101, A7, H⟩ := bo_ H
     have H' := A_ H
     clear H
     have p6 : 0 ≤ (0 : Int) := (by omega)
     have q6 : 0 < a0.size := (by have : (0 : Int) < (a0.size : Int) := of_decide_eq_true as_; omega)
     have hx6 : ∀ h : 0 < a0.size, ((a0[0]'h).toNat : Int) = bt a0 0 := bt_at a0 0
     clear p6; have qi6 : (0 < (a0.size : Int)) = True := eq_true (of_decide_eq_true as_); replace q6 := eq_true q6
     go_wp2_with (first | (go_at_call 38; (with_reducible refine (oculusref06_letter.calls (bt a0 0) t101 _ A7.out).mono ?_); rintro e w' ⟨rfl, ⟨nd, rfl⟩⟩))
     go_meet
     case rel => exact ⟨_, (!t101), (by first | rfl | (simp; done) | (simp [*]; done) | (cases t101 <;> simp; done)), H', le_, dr_⟩
    ·rw [if_neg c5] at H
     exact absurd H (by simp)
 case rest =>
  clear HC2; obtain ⟨kq, x17_1, rfl, HA, HJ1, ⟨mc1, rfl⟩⟩ := hcut
  cases kq with
  | zero => exact absurd HA.out (by simp [oculusref06_Name.j0])
  | succ kj1 =>
   have H := HA.out; clear HA
   simp only [oculusref06_Name.j0] at H
   by_cases c8 : x17_1 = true
   ·subst c8
    replace H := it_ H; obtain rfl := Option.some.inj H
    go_wp2
    go_ret
    exact ⟨by first | rfl | (simp; done) | (simp [*]; done), dr_⟩
   ·replace c8 := Bool.eq_false_iff.mpr c8; subst c8
    replace H := ie_ H
    have H' := A_ H
    clear H
    go_wp2
    go_loopg [3] kj1 (fun kq v3 w' => ∃ (x3_2 : Int), v3 = .int .i64 x3_2 ∧ Aside0 (oculusref06_Name.l0 kq a0 x3_2 = some r) ∧ Aside0 (kq ≤ kj1) ∧ Drawn0 w w')
    case atStart => exact ⟨(0), sq_, H', ⟨Nat.le_refl _⟩, dr_⟩
    case round =>
     clear H'; (try clear c8); obtain ⟨x3_2, rfl, HA, HK2, ⟨m2, rfl⟩⟩ := hrel
     cases gk with
     | zero => exact absurd HA.out (by simp [oculusref06_Name.l0])
     | succ k2 =>
      have H := HA.out; clear HA
      simp only [oculusref06_Name.l0] at H
      by_cases c9 : x3_2 < (a0.size : Int)
      ·rw [if_pos c9] at H; have c9b0 := decide_eq_true c9; clear c9
       by_cases c10 : 0 ≤ x3_2
       ·rw [if_pos c10] at H; have c10b0 := decide_eq_true c10; clear c10; obtain ⟨t102, A12, H⟩ := bo_ H
        by_cases c13 : t102 = true
        ·subst c13
         replace H := it_ H
         have H' := A_ H
         clear H
         have p11 : 0 ≤ (x3_2 : Int) := of_decide_eq_true as_
         have q11 : x3_2 < (a0.size : Int) := of_decide_eq_true as_
         have hx11 := bt_at a0 x3_2; replace p11 := eq_true p11; replace q11 := eq_true q11
         go_wp2_with (first | ((with_reducible refine gate_callee (f:=38) rfl ?_); refine gL_ (some 27) rfl rfl Tryd.func38 rfl #[.int .u8 (bt a0 x3_2)] rfl ?_; (with_reducible refine (oculusref06_letter.calls (bt a0 x3_2) true _ A12.out).mono ?_); rintro e w' ⟨rfl, ⟨nd, rfl⟩⟩; refine ⟨_, rfl, ?_⟩))
         go_roundg k2
         case measure => have := HJ1.out; have := HK2.out; omega
         case rel => exact ⟨(wrap64 (x3_2 + 1)), sq_, H', ⟨by have := HJ1.out; have := HK2.out; omega⟩, dr_⟩
        ·replace c13 := Bool.eq_false_iff.mpr c13; subst c13
         replace H := ie_ H
         by_cases c15 : (bt a0 x3_2) ≥ 48
         ·rw [if_pos c15] at H; have c15b0 := decide_eq_true c15; clear c15
          by_cases c17 : ((bt a0 x3_2) ≤ 57)
          ·rw [if_pos c17] at H; have c17b0 := decide_eq_true c17; clear c17
           have H' := A_ H
           clear H
           have p11 : 0 ≤ (x3_2 : Int) := of_decide_eq_true as_
           have q11 : x3_2 < (a0.size : Int) := of_decide_eq_true as_
           have hx11 := bt_at a0 x3_2; replace p11 := eq_true p11; replace q11 := eq_true q11
           go_wp2_with (first | ((with_reducible refine gate_callee (f:=38) rfl ?_); refine gL_ (some 27) rfl rfl Tryd.func38 rfl #[.int .u8 (bt a0 x3_2)] rfl ?_; (with_reducible refine (oculusref06_letter.calls (bt a0 x3_2) false _ A12.out).mono ?_); rintro e w' ⟨rfl, ⟨nd, rfl⟩⟩; refine ⟨_, rfl, ?_⟩; have p14 : 0 ≤ (x3_2 : Int) := of_decide_eq_true as_; have q14 : x3_2 < (a0.size : Int) := of_decide_eq_true as_; have hx14 := bt_at a0 x3_2; replace p14 := eq_true p14; replace q14 := eq_true q14; have p16 : 0 ≤ (x3_2 : Int) := of_decide_eq_true as_; have q16 : x3_2 < (a0.size : Int) := of_decide_eq_true as_; have hx16 := bt_at a0 x3_2; replace p16 := eq_true p16; replace q16 := eq_true q16))
           go_roundg k2
           case measure => have := HJ1.out; have := HK2.out; omega
           case rel => exact ⟨(wrap64 (x3_2 + 1)), sq_, H', ⟨by have := HJ1.out; have := HK2.out; omega⟩, dr_⟩
          ·rw [if_neg c17] at H; have c17b0 := decide_eq_false c17; clear c17; obtain rfl := Option.some.inj H
           have p11 : 0 ≤ (x3_2 : Int) := of_decide_eq_true as_
           have q11 : x3_2 < (a0.size : Int) := of_decide_eq_true as_
           have hx11 := bt_at a0 x3_2; replace p11 := eq_true p11; replace q11 := eq_true q11
           go_wp2_with (first | ((with_reducible refine gate_callee (f:=38) rfl ?_); refine gL_ (some 27) rfl rfl Tryd.func38 rfl #[.int .u8 (bt a0 x3_2)] rfl ?_; (with_reducible refine (oculusref06_letter.calls (bt a0 x3_2) false _ A12.out).mono ?_); rintro e w' ⟨rfl, ⟨nd, rfl⟩⟩; refine ⟨_, rfl, ?_⟩; have p14 : 0 ≤ (x3_2 : Int) := of_decide_eq_true as_; have q14 : x3_2 < (a0.size : Int) := of_decide_eq_true as_; have hx14 := bt_at a0 x3_2; replace p14 := eq_true p14; replace q14 := eq_true q14; have p16 : 0 ≤ (x3_2 : Int) := of_decide_eq_true as_; have q16 : x3_2 < (a0.size : Int) := of_decide_eq_true as_; have hx16 := bt_at a0 x3_2; replace p16 := eq_true p16; replace q16 := eq_true q16))
           go_ret
           exact ⟨by first | rfl | (simp; done) | (simp [*]; done), dr_⟩
         ·rw [if_neg c15] at H; have c15b0 := decide_eq_false c15; clear c15; obtain rfl := Option.some.inj H
          have p11 : 0 ≤ (x3_2 : Int) := of_decide_eq_true as_
          have q11 : x3_2 < (a0.size : Int) := of_decide_eq_true as_
          have hx11 := bt_at a0 x3_2; replace p11 := eq_true p11; replace q11 := eq_true q11
          go_wp2_with (first | ((with_reducible refine gate_callee (f:=38) rfl ?_); refine gL_ (some 27) rfl rfl Tryd.func38 rfl #[.int .u8 (bt a0 x3_2)] rfl ?_; (with_reducible refine (oculusref06_letter.calls (bt a0 x3_2) false _ A12.out).mono ?_); rintro e w' ⟨rfl, ⟨nd, rfl⟩⟩; refine ⟨_, rfl, ?_⟩; have p14 : 0 ≤ (x3_2 : Int) := of_decide_eq_true as_; have q14 : x3_2 < (a0.size : Int) := of_decide_eq_true as_; have hx14 := bt_at a0 x3_2; replace p14 := eq_true p14; replace q14 := eq_true q14))
          go_ret
          exact ⟨by first | rfl | (simp; done) | (simp [*]; done), dr_⟩
       ·rw [if_neg c10] at H
        exact absurd H (by simp)
      ·rw [if_neg c9] at H; have c9b0 := decide_eq_false c9; clear c9; obtain rfl := Option.some.inj H
       go_wp2
       go_ret
       exact ⟨by first | rfl | (simp; done) | (simp [*]; done), dr_⟩

def oculusref01_One.l0 : Nat → Int → Int → Int → Option (Int)
 | 0, _, _, _ => none
 | k + 1, x0, x3, x4 => if x4 < x0 then (oculusref01_One.l0 k x0 (IntKind.u64.wrap (x3 * 2)) (wrap64 (x4 + 1))) else (some x3)
def oculusref01_One.f (k : Nat) (a0 : Int) : Option (Int) := oculusref01_One.l0 k a0 1 0
theorem oculusref01_One.calls (k : Nat) (a0 : Int) (r : Int) (w : World) (h : oculusref01_One.f k a0 = some r) :
  Calls Tryd.prog 65 #[.int .i64 a0] w fun e w' => e = .returned (.int .u64 r) ∧ Drawn0 w w' := by
 have H : (oculusref01_One.l0 k a0 1 0) = some r := h
 clear h
 have H' := A_ H
 clear H
 go_enter Tryd.func65, Tryd.ntmps65
 go_wp2
 go_loopg [3, 4] k (fun kq v3 v4 w' => ∃ (x3_1 : Int) (x4_1 : Int), v3 = .int .u64 x3_1 ∧ v4 = .int .i64 x4_1 ∧ Aside0 (oculusref01_One.l0 kq a0 x3_1 x4_1 = some r) ∧ Aside0 (kq ≤ k) ∧ Drawn0 w w')
 case atStart => exact ⟨(1), (0), sq_, sq_, H', ⟨Nat.le_refl _⟩, dr_⟩
 case round =>
  clear H'; obtain ⟨x3_1, x4_1, rfl, rfl, HA, HK1, ⟨m1, rfl⟩⟩ := hrel
  cases gk with
  | zero => exact absurd HA.out (by simp [oculusref01_One.l0])
  | succ k1 =>
   have H := HA.out; clear HA
   simp only [oculusref01_One.l0] at H
   by_cases c2 : x4_1 < a0
   ·rw [if_pos c2] at H; have c2b0 := decide_eq_true c2; clear c2
    have H' := A_ H
    clear H
    go_wp2
    go_roundg k1
    case measure => have := HK1.out; omega
    case rel => exact ⟨(IntKind.u64.wrap (x3_1 * 2)), (wrap64 (x4_1 + 1)), sq_, sq_, H', ⟨by have := HK1.out; omega⟩, dr_⟩
   ·rw [if_neg c2] at H; have c2b0 := decide_eq_false c2; clear c2; obtain rfl := Option.some.inj H
    go_wp2
    go_ret
    exact ⟨by first | rfl | (simp; done) | (simp [*]; done), dr_⟩

def oculusref01_Join.l0 : Nat → Int → Int → Int → Int → Option (Int)
 | 0, _, _, _, _ => none
 | k + 1, x0, x1, x5, x6 => if x6 < 64 then ((oculusref01_Bit.f k x0 x6).bind fun t101 => (if t101 = true then ((oculusref01_One.f k x6).bind fun t102 => (oculusref01_Join.l0 k x0 x1 (IntKind.u64.wrap (x5 + t102)) (wrap64 (x6 + 1)))) else ((oculusref01_Bit.f k x1 x6).bind fun t103 => (if t103 = true then ((oculusref01_One.f k x6).bind fun t104 => (oculusref01_Join.l0 k x0 x1 (IntKind.u64.wrap (x5 + t104)) (wrap64 (x6 + 1)))) else (oculusref01_Join.l0 k x0 x1 x5 (wrap64 (x6 + 1))))))) else (some x5)
def oculusref01_Join.f (k : Nat) (a0 : Int) (a1 : Int) : Option (Int) := oculusref01_Join.l0 k a0 a1 0 0
theorem oculusref01_Join.calls (k : Nat) (a0 : Int) (a1 : Int) (r : Int) (w : World) (h : oculusref01_Join.f k a0 a1 = some r) :
  Calls Tryd.prog 64 #[.int .u64 a0, .int .u64 a1] w fun e w' => e = .returned (.int .u64 r) ∧ Drawn0 w w' := by
 have H : (oculusref01_Join.l0 k a0 a1 0 0) = some r := h
 clear h
 have H' := A_ H
 clear H
 go_enter Tryd.func64, Tryd.ntmps64
 go_wp2
 go_loopg [5, 6] k (fun kq v5 v6 w' => ∃ (x5_1 : Int) (x6_1 : Int), v5 = .int .u64 x5_1 ∧ v6 = .int .i64 x6_1 ∧ Aside0 (oculusref01_Join.l0 kq a0 a1 x5_1 x6_1 = some r) ∧ Aside0 (kq ≤ k) ∧ Drawn0 w w')
 case atStart => exact ⟨(0), (0), sq_, sq_, H', ⟨Nat.le_refl _⟩, dr_⟩
 case round =>
  clear H'; obtain ⟨x5_1, x6_1, rfl, rfl, HA, HK1, ⟨m1, rfl⟩⟩ := hrel
  cases gk with
  | zero => exact absurd HA.out (by simp [oculusref01_Join.l0])
  | succ k1 =>
   have H := HA.out; clear HA
   simp only [oculusref01_Join.l0] at H
   by_cases c3 : x6_1 < 64
   ·rw [if_pos c3] at H; have c3b0 := decide_eq_true c3; clear c3; obtain ⟨t101, A4, H⟩ := bo_ H
    by_cases c5 : t101 = true
    ·subst c5
     obtain ⟨t102, A6, H⟩ := bo_ (it_ H)
     have H' := A_ H
     clear H
     go_wp2_with (first | ((with_reducible refine gate_callee (f:=79) rfl ?_); refine gL_ (some 13) rfl rfl Tryd.func79 rfl #[.int .u64 a0, .int .i64 x6_1] rfl ?_; (with_reducible refine (oculusref01_Bit.calls k1 a0 x6_1 true _ A4.out).mono ?_); rintro e w' ⟨rfl, ⟨nd, rfl⟩⟩; refine ⟨_, rfl, ?_⟩) | ((with_reducible refine gate_callee (f:=65) rfl ?_); refine gL_ (some 21) rfl rfl Tryd.func65 rfl #[.int .i64 x6_1] rfl ?_; (with_reducible refine (oculusref01_One.calls k1 x6_1 t102 _ A6.out).mono ?_); rintro e w' ⟨rfl, ⟨nd, rfl⟩⟩; refine ⟨_, rfl, ?_⟩))
     go_roundg k1
     case measure => have := HK1.out; omega
     case rel => exact ⟨(IntKind.u64.wrap (x5_1 + t102)), (wrap64 (x6_1 + 1)), (by first | rfl | (simp; done) | (simp [*]; done) | (cases t102 <;> simp; done)), sq_, H', ⟨by have := HK1.out; omega⟩, dr_⟩
    ·replace c5 := Bool.eq_false_iff.mpr c5; subst c5
     obtain ⟨t103, A7, H⟩ := bo_ (ie_ H)
     by_cases c8 : t103 = true
     ·subst c8
      obtain ⟨t104, A9, H⟩ := bo_ (it_ H)
      have H' := A_ H
      clear H
      go_wp2_with (first | ((with_reducible refine gate_callee (f:=79) rfl ?_); refine gL_ (some 13) rfl rfl Tryd.func79 rfl #[.int .u64 a0, .int .i64 x6_1] rfl ?_; (with_reducible refine (oculusref01_Bit.calls k1 a0 x6_1 false _ A4.out).mono ?_); rintro e w' ⟨rfl, ⟨nd, rfl⟩⟩; refine ⟨_, rfl, ?_⟩) | (go_at_call 79; (with_reducible refine (oculusref01_Bit.calls k1 a1 x6_1 true _ A7.out).mono ?_); rintro e w' ⟨rfl, ⟨nd, rfl⟩⟩) | ((with_reducible refine gate_callee (f:=65) rfl ?_); refine gL_ (some 21) rfl rfl Tryd.func65 rfl #[.int .i64 x6_1] rfl ?_; (with_reducible refine (oculusref01_One.calls k1 x6_1 t104 _ A9.out).mono ?_); rintro e w' ⟨rfl, ⟨nd, rfl⟩⟩; refine ⟨_, rfl, ?_⟩))
      go_roundg k1
      case measure => have := HK1.out; omega
      case rel => exact ⟨(IntKind.u64.wrap (x5_1 + t104)), (wrap64 (x6_1 + 1)), (by first | rfl | (simp; done) | (simp [*]; done) | (cases t104 <;> simp; done)), sq_, H', ⟨by have := HK1.out; omega⟩, dr_⟩
     ·replace c8 := Bool.eq_false_iff.mpr c8; subst c8
      replace H := ie_ H
      have H' := A_ H
      clear H
      go_wp2_with (first | ((with_reducible refine gate_callee (f:=79) rfl ?_); refine gL_ (some 13) rfl rfl Tryd.func79 rfl #[.int .u64 a0, .int .i64 x6_1] rfl ?_; (with_reducible refine (oculusref01_Bit.calls k1 a0 x6_1 false _ A4.out).mono ?_); rintro e w' ⟨rfl, ⟨nd, rfl⟩⟩; refine ⟨_, rfl, ?_⟩) | (go_at_call 79; (with_reducible refine (oculusref01_Bit.calls k1 a1 x6_1 false _ A7.out).mono ?_); rintro e w' ⟨rfl, ⟨nd, rfl⟩⟩))
      go_roundg k1
      case measure => have := HK1.out; omega
      case rel => exact ⟨(x5_1), (wrap64 (x6_1 + 1)), sq_, sq_, H', ⟨by have := HK1.out; omega⟩, dr_⟩
   ·rw [if_neg c3] at H; have c3b0 := decide_eq_false c3; clear c3; obtain rfl := Option.some.inj H
    go_wp2
    go_ret
    exact ⟨by first | rfl | (simp; done) | (simp [*]; done), dr_⟩

mutual
def oculusref01_Parse.l0 : Nat → ByteArray → Int → Int → Int → Option (Int × Bool)
 | 0, _, _, _, _ => none
 | k + 1, x0, x3, x4, x5 => if x5 ≤ (x0.size : Int) then (if x5 < (x0.size : Int) then (if 0 ≤ x5 then (if (bt x0 x5) ≥ 48 then (if (bt x0 x5) ≤ 57 then (oculusref01_Parse.j1 k x0 x3 x4 x5 (decide (x4 < 100))) else (oculusref01_Parse.j1 k x0 x3 x4 x5 false)) else (oculusref01_Parse.j1 k x0 x3 x4 x5 false)) else (none)) else (oculusref01_Parse.j1 k x0 x3 x4 x5 false)) else ((oculusref01_Text.f k x3).bind fun t102 => (if t102.toList = x0.toList then (some (x3, true)) else (some (0, false))))
def oculusref01_Parse.j1 : Nat → ByteArray → Int → Int → Int → Bool → Option (Int × Bool)
 | 0, _, _, _, _, _ => none
 | k + 1, x0, x3, x4, x5, x31 => if x31 = true then (if 0 ≤ x5 then (if x5 < (x0.size : Int) then (oculusref01_Parse.l0 k x0 x3 (wrap64 ((wrap64 ((wrap64 ((mx x4 0) * 10)) + (wrap64 (bt x0 x5)))) - 48)) (wrap64 (x5 + 1))) else (none)) else (none)) else (if x4 ≥ 0 then (oculusref01_Parse.j2 k x0 x3 x4 x5 (decide (x4 < 64))) else (oculusref01_Parse.j2 k x0 x3 x4 x5 false))
def oculusref01_Parse.j2 : Nat → ByteArray → Int → Int → Int → Bool → Option (Int × Bool)
 | 0, _, _, _, _, _ => none
 | k + 1, x0, x3, x4, x5, x46 => if x46 = true then ((oculusref01_One.f k x4).bind fun t103 => ((oculusref01_Join.f k x3 t103).bind fun t104 => (oculusref01_Parse.l0 k x0 t104 (-1) (wrap64 (x5 + 1))))) else (oculusref01_Parse.l0 k x0 x3 (-1) (wrap64 (x5 + 1)))
end
def oculusref01_Parse.f (k : Nat) (a0 : ByteArray) : Option (Int × Bool) := oculusref01_Parse.l0 k a0 0 (-1) 0
theorem oculusref01_Parse.calls (k : Nat) (a0 : ByteArray) (r1 : Int) (r2 : Bool) (w : World) (h : oculusref01_Parse.f k a0 = some (r1, r2)) :
  Calls Tryd.prog 40 #[.string a0] w fun e w' => e = .returned (.agg #[.int .u64 r1, .bool r2]) ∧ Below w.heap.size w w' := by
 have hu70 := Tryd.underlying70; have HB := A_ (Below.refl w.heap.size w)
 have H : (oculusref01_Parse.l0 k a0 0 (-1) 0) = some (r1, r2) := h
 clear h
 have H' := A_ H
 clear H
 go_enter Tryd.func40, Tryd.ntmps40
 go_wp2_with (first | ((with_reducible refine gd_ 2 ?_); refine be_ (N:=2) (cs := #[.int .u64 0, .bool false]) (t:=70) ?_; intro g1 hg w2 hbox hb; have B1 := A_ (hbox); have GW101 := hs_ HB hg; have GE101 := hs_ HB hg; replace HB := bs_ HB hb; clear hb hbox hg))
 go_loopg [3, 4, 5] k (fun kq v3 v4 v5 w' => ∃ (x3_1 : Int) (x4_1 : Int) (x5_1 : Int), v3 = .int .u64 x3_1 ∧ v4 = .int .i64 x4_1 ∧ v5 = .int .i64 x5_1 ∧ Aside0 (oculusref01_Parse.l0 kq a0 x3_1 x4_1 x5_1 = some (r1, r2)) ∧ Aside0 (kq ≤ k) ∧ Aside0 (w'.heap[g1]? = some (.cells #[.int .u64 0, .bool false] 70 (0, 0))) ∧ Aside0 (Below w.heap.size w w'))
 case atStart => exact ⟨(0), ((-1)), (0), sq_, sq_, sq_, H', ⟨Nat.le_refl _⟩, ⟨pkx B1⟩, ⟨pbx HB⟩⟩
 case round =>
  clear H'; obtain ⟨x3_1, x4_1, x5_1, rfl, rfl, rfl, HA, HK1, B1, HB⟩ := hrel
  cases gk with
  | zero => exact absurd HA.out (by simp [oculusref01_Parse.l0])
  | succ k1 =>
   have H := HA.out; clear HA
   simp only [oculusref01_Parse.l0] at H
   by_cases c3 : x5_1 ≤ (a0.size : Int)
   ·rw [if_pos c3] at H; have c3b0 := decide_eq_true c3; clear c3; have HC4 := A_ H; clear H
    go_upto_region 6 with (fail)
    go_cut [31] (fun v31 wc => ∃ (kq : Nat) (x31_3 : Bool), v31 = .bool x31_3 ∧ Aside0 (oculusref01_Parse.j1 kq a0 x3_1 x4_1 x5_1 x31_3 = some (r1, r2)) ∧ Aside0 (kq ≤ k1) ∧ Aside0 (wc.heap[g1]? = some (.cells #[.int .u64 0, .bool false] 70 (0, 0))) ∧ Aside0 (Below w.heap.size w wc))
    case first =>
     have H := HC4.out; clear HC4
     by_cases c5 : x5_1 < (a0.size : Int)
     ·rw [if_pos c5] at H; have c5b0 := decide_eq_true c5; clear c5; (first | rw [c5b0] | (simp only [i64_w, i32_w]; rw [c5b0]) | skip)
      by_cases c6 : 0 ≤ x5_1
      ·rw [if_pos c6] at H; have c6b0 := decide_eq_true c6; clear c6
       by_cases c8 : (bt a0 x5_1) ≥ 48
       ·rw [if_pos c8] at H; have c8b0 := decide_eq_true c8; clear c8
        by_cases c10 : (bt a0 x5_1) ≤ 57
        ·rw [if_pos c10] at H; have c10b0 := decide_eq_true c10; clear c10
         have H' := A_ H
         clear H
         have p7 : 0 ≤ (x5_1 : Int) := of_decide_eq_true as_
         have q7 : x5_1 < (a0.size : Int) := of_decide_eq_true as_
         have hx7 := bt_at a0 x5_1; replace p7 := eq_true p7; replace q7 := eq_true q7
         have p9 : 0 ≤ (x5_1 : Int) := of_decide_eq_true as_
         have q9 : x5_1 < (a0.size : Int) := of_decide_eq_true as_
         have hx9 := bt_at a0 x5_1; replace p9 := eq_true p9; replace q9 := eq_true q9
         go_wp2
         go_meet
         case rel => exact ⟨_, (decide (x4_1 < 100)), sq_, H', ⟨by have := HK1.out; first | omega | exact Nat.le_refl _⟩, ⟨pkx B1⟩, ⟨pbx HB⟩⟩
        ·rw [if_neg c10] at H; have c10b0 := decide_eq_false c10; clear c10
         have H' := A_ H
         clear H
         have p7 : 0 ≤ (x5_1 : Int) := of_decide_eq_true as_
         have q7 : x5_1 < (a0.size : Int) := of_decide_eq_true as_
         have hx7 := bt_at a0 x5_1; replace p7 := eq_true p7; replace q7 := eq_true q7
         have p9 : 0 ≤ (x5_1 : Int) := of_decide_eq_true as_
         have q9 : x5_1 < (a0.size : Int) := of_decide_eq_true as_
         have hx9 := bt_at a0 x5_1; replace p9 := eq_true p9; replace q9 := eq_true q9
         go_wp2
         go_meet
         case rel => exact ⟨_, (false), sq_, H', ⟨by have := HK1.out; first | omega | exact Nat.le_refl _⟩, ⟨pkx B1⟩, ⟨pbx HB⟩⟩
       ·rw [if_neg c8] at H; have c8b0 := decide_eq_false c8; clear c8
        have H' := A_ H
        clear H
        have p7 : 0 ≤ (x5_1 : Int) := of_decide_eq_true as_
        have q7 : x5_1 < (a0.size : Int) := of_decide_eq_true as_
        have hx7 := bt_at a0 x5_1; replace p7 := eq_true p7; replace q7 := eq_true q7
        go_wp2
        go_meet
        case rel => exact ⟨_, (false), sq_, H', ⟨by have := HK1.out; first | omega | exact Nat.le_refl _⟩, ⟨pkx B1⟩, ⟨pbx HB⟩⟩
      ·rw [if_neg c6] at H
       exact absurd H (by simp)
     ·rw [if_neg c5] at H; have c5b0 := decide_eq_false c5; clear c5; (first | rw [c5b0] | (simp only [i64_w, i32_w]; rw [c5b0]) | skip)
      have H' := A_ H
      clear H
      go_wp2
      go_meet
      case rel => exact ⟨_, (false), sq_, H', ⟨by have := HK1.out; first | omega | exact Nat.le_refl _⟩, ⟨pkx B1⟩, ⟨pbx HB⟩⟩
    case rest =>
     clear HC4; (try clear c3); (try clear c3b0); obtain ⟨kq, x31_3, rfl, HA, HJ3, B1, HB⟩ := hcut
     cases kq with
     | zero => exact absurd HA.out (by simp [oculusref01_Parse.j1])
     | succ kj3 =>
      have H := HA.out; clear HA
      simp only [oculusref01_Parse.j1] at H
      by_cases c11 : x31_3 = true
      ·subst c11
       replace H := it_ H; obtain ⟨ji12, hji12⟩ : ∃ j_ : Int, (mx x4_1 0) = j_ := ⟨_, rfl⟩
       replace H : (if 0 ≤ x5_1 then (if x5_1 < (a0.size : Int) then (oculusref01_Parse.l0 kj3 a0 x3_1 (wrap64 ((wrap64 ((wrap64 ((ji12) * 10)) + (wrap64 (bt a0 x5_1)))) - 48)) (wrap64 (x5_1 + 1))) else (none)) else (none)) = some (r1, r2) := by first | (rw [hji12] at H; exact H) | (simp only [hji12] at H ⊢; exact H)
       have hji12_ : (if x4_1 < 0 then 0 else x4_1) = ji12 := hji12
       by_cases c13 : 0 ≤ x5_1
       ·rw [if_pos c13] at H; have c13b0 := decide_eq_true c13; clear c13
        by_cases c14 : x5_1 < (a0.size : Int)
        ·rw [if_pos c14] at H; have c14b0 := decide_eq_true c14; clear c14
         have H' := A_ H
         clear H
         have p15 : 0 ≤ (x5_1 : Int) := of_decide_eq_true as_
         have q15 : x5_1 < (a0.size : Int) := of_decide_eq_true as_
         have hx15 := bt_at a0 x5_1; replace p15 := eq_true p15; replace q15 := eq_true q15
         go_wp2
         go_roundg kj3
         case measure => have := HK1.out; have := HJ3.out; omega
         case rel => exact ⟨(x3_1), (wrap64 ((wrap64 ((wrap64 ((ji12) * 10)) + (wrap64 (bt a0 x5_1)))) - 48)), (wrap64 (x5_1 + 1)), sq_, (by first | rfl | (simp; done) | (simp only [← hji12] <;> (first | rfl | simp)) | (simp [*]; done)), sq_, H', ⟨by have := HK1.out; have := HJ3.out; omega⟩, ⟨pkx B1⟩, ⟨pbx HB⟩⟩
        ·rw [if_neg c14] at H
         exact absurd H (by simp)
       ·rw [if_neg c13] at H
        exact absurd H (by simp)
      ·replace c11 := Bool.eq_false_iff.mpr c11; subst c11
       replace H := ie_ H; have HC16 := A_ H; clear H
       go_upto_region 8 with (fail)
       go_cut [46] (fun v46 wc => ∃ (kq : Nat) (x46_15 : Bool), v46 = .bool x46_15 ∧ Aside0 (oculusref01_Parse.j2 kq a0 x3_1 x4_1 x5_1 x46_15 = some (r1, r2)) ∧ Aside0 (kq ≤ kj3) ∧ Aside0 (wc.heap[g1]? = some (.cells #[.int .u64 0, .bool false] 70 (0, 0))) ∧ Aside0 (Below w.heap.size w wc))
       case first =>
        have H := HC16.out; clear HC16
        by_cases c17 : x4_1 ≥ 0
        ·rw [if_pos c17] at H; have c17b0 := decide_eq_true c17; clear c17; (first | rw [c17b0] | (simp only [i64_w, i32_w]; rw [c17b0]) | skip)
         have H' := A_ H
         clear H
         go_wp2
         go_meet
         case rel => exact ⟨_, (decide (x4_1 < 64)), sq_, H', ⟨by have := HK1.out; have := HJ3.out; first | omega | exact Nat.le_refl _⟩, ⟨pkx B1⟩, ⟨pbx HB⟩⟩
        ·rw [if_neg c17] at H; have c17b0 := decide_eq_false c17; clear c17; (first | rw [c17b0] | (simp only [i64_w, i32_w]; rw [c17b0]) | skip)
         have H' := A_ H
         clear H
         go_wp2
         go_meet
         case rel => exact ⟨_, (false), sq_, H', ⟨by have := HK1.out; have := HJ3.out; first | omega | exact Nat.le_refl _⟩, ⟨pkx B1⟩, ⟨pbx HB⟩⟩
       case rest =>
        clear HC16; (try clear c3); (try clear c3b0); (try clear c11); obtain ⟨kq, x46_15, rfl, HA, HJ15, B1, HB⟩ := hcut
        cases kq with
        | zero => exact absurd HA.out (by simp [oculusref01_Parse.j2])
        | succ kj15 =>
         have H := HA.out; clear HA
         simp only [oculusref01_Parse.j2] at H
         by_cases c18 : x46_15 = true
         ·subst c18
          obtain ⟨t103, A19, H⟩ := bo_ (it_ H); obtain ⟨t104, A20, H⟩ := bo_ H
          have H' := A_ H
          clear H
          go_wp2_with (first | ((with_reducible refine gate_callee (f:=65) rfl ?_); refine gL_ (some 49) rfl rfl Tryd.func65 rfl #[.int .i64 x4_1] rfl ?_; (with_reducible refine (oculusref01_One.calls kj15 x4_1 t103 _ A19.out).mono ?_); rintro e w' ⟨rfl, ⟨nd, rfl⟩⟩; refine ⟨_, rfl, ?_⟩) | ((with_reducible refine gate_callee (f:=64) rfl ?_); refine gL_ (some 50) rfl rfl Tryd.func64 rfl #[.int .u64 x3_1, .int .u64 t103] rfl ?_; (with_reducible refine (oculusref01_Join.calls kj15 x3_1 t103 t104 _ A20.out).mono ?_); rintro e w' ⟨rfl, ⟨nd, rfl⟩⟩; refine ⟨_, rfl, ?_⟩))
          go_roundg kj15
          case measure => have := HK1.out; have := HJ3.out; have := HJ15.out; omega
          case rel => exact ⟨(t104), ((-1)), (wrap64 (x5_1 + 1)), (by first | rfl | (simp; done) | (simp [*]; done) | (cases t104 <;> simp; done)), sq_, sq_, H', ⟨by have := HK1.out; have := HJ3.out; have := HJ15.out; omega⟩, ⟨pkx B1⟩, ⟨pbx HB⟩⟩
         ·replace c18 := Bool.eq_false_iff.mpr c18; subst c18
          replace H := ie_ H
          have H' := A_ H
          clear H
          go_wp2
          go_roundg kj15
          case measure => have := HK1.out; have := HJ3.out; have := HJ15.out; omega
          case rel => exact ⟨(x3_1), ((-1)), (wrap64 (x5_1 + 1)), sq_, sq_, sq_, H', ⟨by have := HK1.out; have := HJ3.out; have := HJ15.out; omega⟩, ⟨pkx B1⟩, ⟨pbx HB⟩⟩
   ·rw [if_neg c3] at H; have c3b0 := decide_eq_false c3; clear c3; obtain ⟨t102, A21, H⟩ := bo_ H
    by_cases c22 : t102.toList = a0.toList
    ·rw [if_pos c22] at H; have ⟨c22b0,c22b1⟩ := e1_ c22; clear c22
     simp only [Option.some.injEq, Prod.mk.injEq] at H
     obtain ⟨rfl, rfl⟩ := H
     go_wp2_with (first | ((with_reducible refine gate_callee (f:=54) rfl ?_); refine gL_ (some 52) rfl rfl Tryd.func54 rfl #[.int .u64 x3_1] rfl ?_; (with_reducible refine (oculusref01_Text.calls k1 x3_1 t102 _ A21.out).mono ?_); rintro e w23 ⟨rfl, hb⟩; refine ⟨_, rfl, ?_⟩; replace B1 := bb_ B1 hb; replace HB := bs_ HB hb; (try clear hb); have ⟨hcz24_0,hcz24_1,hfz24_0,hfz24_1⟩ := z2_ B1))
     refine bodyPost_ret (results_cell_row rfl _ _ g1 70 #[.int .u64 x3_1, .bool true] (0, 0) _ rfl (by refine pp_ (cs := #[.int .u64 x3_1, .bool false]) 1 ?_ rfl; refine blk_put (cs := #[.int .u64 0, .bool false]) ?_ 0 _ rfl; exact pkx B1) Tryd.underlying70 rfl (by kernel_rfl)) rfl ?_
     exact fi_ bl_
    ·rw [if_neg c22] at H; have ⟨c22b0,c22b1⟩ := e0_ c22
     simp only [Option.some.injEq, Prod.mk.injEq] at H
     obtain ⟨rfl, rfl⟩ := H
     go_wp2_with (first | ((with_reducible refine gate_callee (f:=54) rfl ?_); refine gL_ (some 52) rfl rfl Tryd.func54 rfl #[.int .u64 x3_1] rfl ?_; (with_reducible refine (oculusref01_Text.calls k1 x3_1 t102 _ A21.out).mono ?_); rintro e w25 ⟨rfl, hb⟩; refine ⟨_, rfl, ?_⟩; replace B1 := bb_ B1 hb; replace HB := bs_ HB hb; (try clear hb); have ⟨hcz26_0,hcz26_1,hfz26_0,hfz26_1⟩ := z2_ B1))
     refine bodyPost_ret (results_cell_row rfl _ _ g1 70 #[.int .u64 0, .bool false] (0, 0) _ rfl (by refine pp_ (cs := #[.int .u64 0, .bool false]) 1 ?_ rfl; refine blk_put (cs := #[.int .u64 0, .bool false]) ?_ 0 _ rfl; exact pkx B1) Tryd.underlying70 rfl (by kernel_rfl)) rfl ?_
     exact fi_ bl_

mutual
def oculusref02_Parse.l0 : Nat → ByteArray → Int → Option (Int × Int × Bool)
 | 0, _, _ => none
 | k + 1, x0, x3 => if x3 ≤ 15 then ((oculusref01_Digits.f k x3).bind fun t104 => (if x0.toList = t104.toList then (some (x3, 0, true)) else (if (x0.size : Int) ≤ (t104.size : Int) then (oculusref02_Parse.j1 k x0 x3 t104 true) else (if 0 ≤ (wrap64 ((t104.size : Int) + 1)) then (if (wrap64 ((t104.size : Int) + 1)) ≤ (x0.size : Int) then (if t104.size + 1 ≤ 9223372036854775807 then (oculusref02_Parse.j1 k x0 x3 t104 ((x0.extract 0 ((wrap64 ((t104.size : Int) + 1)) : Int).toNat).toList != (t104 ++ (⟨#[58]⟩ : ByteArray)).toList)) else (none)) else (none)) else (none))))) else (some (0, 0, false))
def oculusref02_Parse.j1 : Nat → ByteArray → Int → ByteArray → Bool → Option (Int × Int × Bool)
 | 0, _, _, _, _ => none
 | k + 1, x0, x3, x4, x37 => if x37 = true then (oculusref02_Parse.l0 k x0 (wrap64 (x3 + 1))) else (if 0 ≤ (wrap64 ((x4.size : Int) + 1)) then (if (wrap64 ((x4.size : Int) + 1)) ≤ (x0.size : Int) then ((oculusref01_Parse.f k (x0.extract ((wrap64 ((x4.size : Int) + 1)) : Int).toNat x0.size)).bind fun bt105 => (if bt105.2 = true then ((oculusref02_Text.f k x3 bt105.1).bind fun t109 => (if t109.toList = x0.toList then (some (x3, bt105.1, true)) else (oculusref02_Parse.l0 k x0 (wrap64 (x3 + 1))))) else (oculusref02_Parse.l0 k x0 (wrap64 (x3 + 1))))) else (none)) else (none))
end
def oculusref02_Parse.f (k : Nat) (a0 : ByteArray) : Option (Int × Int × Bool) := if a0.toList = ([116, 111, 112] : List UInt8) then ((oculusref02_Top.f k).bind fun bt102 => (some (bt102.1, bt102.2, true))) else (oculusref02_Parse.l0 k a0 0)
theorem oculusref02_Parse.calls (k : Nat) (a0 : ByteArray) (r1 : Int) (r2 : Int) (r3 : Bool) (w : World) (h : oculusref02_Parse.f k a0 = some (r1, r2, r3)) :
  Calls Tryd.prog 18 #[.string a0] w fun e w' => e = .returned (.agg #[.int .i64 r1, .int .u64 r2, .bool r3]) ∧ Below w.heap.size w w' := by
 have hu51 := Tryd.underlying51; have hu25 := Tryd.underlying25; have hu70 := Tryd.underlying70; have HB := A_ (Below.refl w.heap.size w)
 have H : (if a0.toList = ([116, 111, 112] : List UInt8) then ((oculusref02_Top.f k).bind fun bt102 => (some (bt102.1, bt102.2, true))) else (oculusref02_Parse.l0 k a0 0)) = some (r1, r2, r3) := h
 clear h
 by_cases c2 : a0.toList = ([116, 111, 112] : List UInt8)
 ·rw [if_pos c2] at H; have ⟨c2b0,c2b1⟩ := e1_ c2; clear c2; obtain ⟨⟨t102, t103⟩, A3, H⟩ := bo_ H; dsimp only at H
  simp only [Option.some.injEq, Prod.mk.injEq] at H
  obtain ⟨rfl, rfl, rfl⟩ := H
  go_enter Tryd.func18, Tryd.ntmps18
  go_wp2_with (first | ((with_reducible refine gd_ 2 ?_); (try (refine gate_guard (by rfl) ?_; dsimp only)); refine be_ (N:=2) (cs := #[.int .i64 0, .int .u64 0, .bool false]) (t:=51) ?_; intro g1 hg w4 hbox hb; have B1 := A_ (hbox); have GW101 := hs_ HB hg; have GE101 := hs_ HB hg; replace HB := bs_ HB hb; clear hb hbox hg) | ((with_reducible refine gate_callee (f:=39) rfl ?_); refine gL_ (some 9) rfl rfl Tryd.func39 rfl #[] rfl ?_; (with_reducible refine (oculusref02_Top.calls k  t102 t103 _ A3.out).mono ?_); rintro e w5 ⟨rfl, hb⟩; refine ⟨_, rfl, ?_⟩; replace B1 := bb_ B1 hb; replace HB := bs_ HB hb; have ⟨hcz6_0,hcz6_1,hcz6_2,hfz6_0,hfz6_1,hfz6_2⟩ := z3_ B1))
  refine bodyPost_ret (results_cell_row rfl _ _ g1 51 #[.int .i64 t102, .int .u64 t103, .bool true] (0, 0) _ rfl (by refine pp_ (cs := #[.int .i64 t102, .int .u64 t103, .bool false]) 2 ?_ rfl; refine blk_put (cs := #[.int .i64 t102, .int .u64 0, .bool false]) ?_ 1 _ rfl; refine blk_put (cs := #[.int .i64 0, .int .u64 0, .bool false]) ?_ 0 _ rfl; exact pkx B1) Tryd.underlying51 rfl (by kernel_rfl)) rfl ?_
  exact fi_ bl_
 ·rw [if_neg c2] at H; have ⟨c2b0,c2b1⟩ := e0_ c2
  have H' := A_ H
  clear H
  go_enter Tryd.func18, Tryd.ntmps18
  go_wp2_with (first | ((with_reducible refine gd_ 2 ?_); (try (refine gate_guard (by rfl) ?_; dsimp only)); refine be_ (N:=2) (cs := #[.int .i64 0, .int .u64 0, .bool false]) (t:=51) ?_; intro g1 hg w7 hbox hb; have B1 := A_ (hbox); have GW101 := hs_ HB hg; have GE101 := hs_ HB hg; replace HB := bs_ HB hb; clear hb hbox hg))
  go_loopg [3] k (fun kq v3 w' => ∃ (x3_1 : Int) (x102000_1 : Int) (x102001_1 : Int) (x102002_1 : Bool), v3 = .int .i64 x3_1 ∧ Aside0 (oculusref02_Parse.l0 kq a0 x3_1 = some (r1, r2, r3)) ∧ Aside0 (kq ≤ k) ∧ Aside0 (w'.heap[g1]? = some (.cells #[.int .i64 x102000_1, .int .u64 x102001_1, .bool x102002_1] 51 (0, 0))) ∧ Aside0 (Below w.heap.size w w'))
  case atStart => exact ⟨(0), (0), (0), (false), sq_, H', ⟨Nat.le_refl _⟩, ⟨pkx B1⟩, ⟨pbx HB⟩⟩
  case round =>
   clear H'; (try clear c2); (try clear c2b0); (try clear c2b1); obtain ⟨x3_1, x102000_1, x102001_1, x102002_1, rfl, HA, HK1, B1, HB⟩ := hrel
   cases gk with
   | zero => exact absurd HA.out (by simp [oculusref02_Parse.l0])
   | succ k1 =>
    have H := HA.out; clear HA
    simp only [oculusref02_Parse.l0] at H
    by_cases c8 : x3_1 ≤ 15
    ·rw [if_pos c8] at H; have c8b0 := decide_eq_true c8; clear c8; obtain ⟨t104, A9, H⟩ := bo_ H
     by_cases c10 : a0.toList = t104.toList
     ·rw [if_pos c10] at H; have ⟨c10b0,c10b1⟩ := e1_ c10; clear c10
      simp only [Option.some.injEq, Prod.mk.injEq] at H
      obtain ⟨rfl, rfl, rfl⟩ := H
      go_wp2_with (first | ((with_reducible refine gate_callee (f:=31) rfl ?_); refine gL_ (some 16) rfl rfl Tryd.func31 rfl #[.int .i64 x3_1] rfl ?_; (with_reducible refine (oculusref01_Digits.calls k1 x3_1 t104 _ A9.out).mono ?_); rintro e w11 ⟨rfl, hb⟩; refine ⟨_, rfl, ?_⟩; replace B1 := bb_ B1 hb; replace HB := bs_ HB hb; (try clear hb); have ⟨hcz12_0,hcz12_1,hcz12_2,hfz12_0,hfz12_1,hfz12_2⟩ := z3_ B1))
      refine bodyPost_ret (results_cell_row rfl _ _ g1 51 #[.int .i64 x3_1, .int .u64 0, .bool true] (0, 0) _ rfl (by refine pp_ (cs := #[.int .i64 x3_1, .int .u64 0, .bool x102002_1]) 2 ?_ rfl; refine blk_put (cs := #[.int .i64 x3_1, .int .u64 x102001_1, .bool x102002_1]) ?_ 1 _ rfl; refine blk_put (cs := #[.int .i64 x102000_1, .int .u64 x102001_1, .bool x102002_1]) ?_ 0 _ rfl; exact pkx B1) Tryd.underlying51 rfl (by kernel_rfl)) rfl ?_
      exact fi_ bl_
     ·rw [if_neg c10] at H; have ⟨c10b0,c10b1⟩ := e0_ c10; have HC13 := A_ H; clear H
      go_upto_region 9 with (first | ((with_reducible refine gate_callee (f:=31) rfl ?_); refine gL_ (some 16) rfl rfl Tryd.func31 rfl #[.int .i64 x3_1] rfl ?_; (with_reducible refine (oculusref01_Digits.calls k1 x3_1 t104 _ A9.out).mono ?_); rintro e w14 ⟨rfl, hb⟩; refine ⟨_, rfl, ?_⟩; replace B1 := bb_ B1 hb; replace HB := bs_ HB hb; (try clear hb); ))
      (try simp only [q_])
      go_cut [37] (fun v37 wc => ∃ (kq : Nat) (x37_12 : Bool), v37 = .bool x37_12 ∧ Aside0 (oculusref02_Parse.j1 kq a0 x3_1 t104 x37_12 = some (r1, r2, r3)) ∧ Aside0 (kq ≤ k1) ∧ Aside0 (wc.heap[g1]? = some (.cells #[.int .i64 x102000_1, .int .u64 x102001_1, .bool x102002_1] 51 (0, 0))) ∧ Aside0 (Below w.heap.size w wc))
      case first =>
       have H := HC13.out; clear HC13
       by_cases c15 : (a0.size : Int) ≤ (t104.size : Int)
       ·rw [if_pos c15] at H; have c15b0 := decide_eq_true c15; have c15b1 : decide (a0.size ≤ t104.size) = true := decide_eq_true (Int.ofNat_le.mp c15); clear c15; (first | rw [c15b0] | (simp only [i64_w, i32_w]; rw [c15b0]) | skip)
        have H' := A_ H
        clear H
        go_wp2
        go_meet
        case rel => exact ⟨_, (true), sq_, H', ⟨by have := HK1.out; first | omega | exact Nat.le_refl _⟩, ⟨pkx B1⟩, ⟨pbx HB⟩⟩
       ·rw [if_neg c15] at H; have c15b0 := decide_eq_false c15; have c15b1 : decide (a0.size ≤ t104.size) = false := decide_eq_false (fun h => c15 (Int.ofNat_le.mpr h)); clear c15; (first | rw [c15b0] | (simp only [i64_w, i32_w]; rw [c15b0]) | skip); obtain ⟨ji16, hji16⟩ : ∃ j_ : Int, (wrap64 ((t104.size : Int) + 1)) = j_ := ⟨_, rfl⟩
        replace H : (if 0 ≤ (ji16) then (if (ji16) ≤ (a0.size : Int) then (if t104.size + 1 ≤ 9223372036854775807 then (oculusref02_Parse.j1 k1 a0 x3_1 t104 ((a0.extract 0 ((ji16) : Int).toNat).toList != (t104 ++ (⟨#[58]⟩ : ByteArray)).toList)) else (none)) else (none)) else (none)) = some (r1, r2, r3) := by first | (rw [hji16] at H; exact H) | (simp only [hji16] at H ⊢; exact H)
        have hji16w : (IntKind.i64.wrap ((t104.size : Int) + 1)) = ji16 := (i64_w _).trans hji16
        by_cases c17 : 0 ≤ (ji16)
        ·rw [if_pos c17] at H; have c17b0 := eq_true c17; have c17b1 := decide_eq_true c17; clear c17
         by_cases c18 : (ji16) ≤ (a0.size : Int)
         ·rw [if_pos c18] at H; have c18b0 := eq_true c18; have c18b1 := decide_eq_true c18; clear c18
          by_cases c19 : t104.size + 1 ≤ 9223372036854775807
          ·rw [if_pos c19] at H; have c19b0 := eq_true c19; have c19b1 := decide_eq_true c19
           try have c19b2 : (9223372036854775807 < t104.size + 1) = False := eq_false (Nat.not_lt.2 c19)
           have H' := A_ H
           clear H
           go_wp2
           go_meet
           case rel => exact ⟨_, (((a0.extract 0 ((ji16) : Int).toNat).toList != (t104 ++ (⟨#[58]⟩ : ByteArray)).toList)), (by first | rfl | (simp; done) | (simp only [← hji16] <;> (first | rfl | simp)) | (simp [*]; done)), H', ⟨by have := HK1.out; first | omega | exact Nat.le_refl _⟩, ⟨pkx B1⟩, ⟨pbx HB⟩⟩
          ·rw [if_neg c19] at H
           exact absurd H (by simp)
         ·rw [if_neg c18] at H
          exact absurd H (by simp)
        ·rw [if_neg c17] at H
         exact absurd H (by simp)
      case rest =>
       clear HC13; (try clear c2); (try clear c2b0); (try clear c2b1); (try clear c8); (try clear c8b0); (try clear c10); (try clear c10b0); (try clear c10b1); obtain ⟨kq, x37_12, rfl, HA, HJ12, B1, HB⟩ := hcut
       cases kq with
       | zero => exact absurd HA.out (by simp [oculusref02_Parse.j1])
       | succ kj12 =>
        have H := HA.out; clear HA
        simp only [oculusref02_Parse.j1] at H
        by_cases c20 : x37_12 = true
        ·subst c20
         replace H := it_ H
         have H' := A_ H
         clear H
         go_wp2
         go_roundg kj12
         case measure => have := HK1.out; have := HJ12.out; omega
         case rel => exact ⟨(wrap64 (x3_1 + 1)), (x102000_1), (x102001_1), (x102002_1), sq_, H', ⟨by have := HK1.out; have := HJ12.out; omega⟩, ⟨pkx B1⟩, ⟨pbx HB⟩⟩
        ·replace c20 := Bool.eq_false_iff.mpr c20; subst c20
         replace H := ie_ H; obtain ⟨ji21, hji21⟩ : ∃ j_ : Int, (wrap64 ((t104.size : Int) + 1)) = j_ := ⟨_, rfl⟩
         replace H : (if 0 ≤ (ji21) then (if (ji21) ≤ (a0.size : Int) then ((oculusref01_Parse.f kj12 (a0.extract ((ji21) : Int).toNat a0.size)).bind fun bt105 => (if bt105.2 = true then ((oculusref02_Text.f kj12 x3_1 bt105.1).bind fun t109 => (if t109.toList = a0.toList then (some (x3_1, bt105.1, true)) else (oculusref02_Parse.l0 kj12 a0 (wrap64 (x3_1 + 1))))) else (oculusref02_Parse.l0 kj12 a0 (wrap64 (x3_1 + 1))))) else (none)) else (none)) = some (r1, r2, r3) := by first | (rw [hji21] at H; exact H) | (simp only [hji21] at H ⊢; exact H)
         have hji21w : (IntKind.i64.wrap ((t104.size : Int) + 1)) = ji21 := (i64_w _).trans hji21
         by_cases c22 : 0 ≤ (ji21)
         ·rw [if_pos c22] at H; have c22b0 := eq_true c22; have c22b1 := decide_eq_true c22; clear c22
          by_cases c23 : (ji21) ≤ (a0.size : Int)
          ·rw [if_pos c23] at H; have c23b0 := eq_true c23; have c23b1 := decide_eq_true c23; clear c23; obtain ⟨⟨t105, t106⟩, A24, H⟩ := bo_ H; dsimp only at H
           by_cases c25 : t106 = true
           ·subst c25
            obtain ⟨t109, A26, H⟩ := bo_ (it_ H)
            by_cases c27 : t109.toList = a0.toList
            ·rw [if_pos c27] at H; have ⟨c27b0,c27b1⟩ := e1_ c27; clear c27
             simp only [Option.some.injEq, Prod.mk.injEq] at H
             obtain ⟨rfl, rfl, rfl⟩ := H
             go_wp2_with (first | ((with_reducible refine gate_callee (f:=40) rfl ?_); refine goesL_ (some 43) rfl rfl Tryd.func40 (by kernel_rfl) rfl #[.string (a0.extract ((ji21) : Int).toNat a0.size)] rfl (by (try simp only [List.map_toArray, List.map_cons, List.map_nil]); first | done | (simp only [hji21]; rfl) | rfl | (simp only [List.length_drop, List.length_take]; rfl)) ?_; (with_reducible refine (oculusref01_Parse.calls kj12 (a0.extract ((ji21) : Int).toNat a0.size) t105 true _ A24.out).mono ?_); rintro e w28 ⟨rfl, hb⟩; refine ⟨_, rfl, ?_⟩; replace B1 := bb_ B1 hb; replace HB := bs_ HB hb; (try clear hb); ) | ((with_reducible refine gd_ 5 ?_); (try (refine gate_guard (by rfl) ?_; dsimp only)); refine be_ (N:=5) (cs := #[.int .u64 0, .bool false]) (t:=70) ?_; intro g7 hg w29 hbox hb; have B7 := A_ (hbox); have GW107 := hs_ HB hg; have GE107 := hs_ HB hg; have N17 := hl_ B1 hg; have N71 := hr_ B1 hg; replace B1 := bb_ B1 hb; replace HB := bs_ HB hb; clear hb hbox hg; have hnb30 := N71.out; have hnc30 := N17.out; have ⟨hcz31_0,hcz31_1,hfz31_0,hfz31_1⟩ := z2_ B7) | ((with_reducible refine gd_ 6 ?_); (try (refine gate_guard (by rfl) ?_; dsimp only)); refine be_ (N:=6) (cs := #[.int .i64 0, .int .u64 0]) (t:=25) ?_; intro g8 hg w32 hbox hb; have B8 := A_ (hbox); have GW108 := A_ ((by rw [hg]; exact (below_size bl_) : w.heap.size ≤ g8)); have GE108 := A_ ((by rw [hg]; exact (below_size bl_) : w.heap.size ≤ g8)); have N18 := A_ ((by rw [hg]; exact Nat.ne_of_lt (blk_lt (g:=g1) (o := .cells #[.int .i64 x102000_1, .int .u64 x102001_1, .bool x102002_1] 51 (0, 0)) (by (iterate 2 refine pf_ ?_ N17.out); exact pkx B1)) : g1 ≠ g8)); have N81 := A_ ((by rw [hg]; exact Nat.ne_of_gt (blk_lt (g:=g1) (o := .cells #[.int .i64 x102000_1, .int .u64 x102001_1, .bool x102002_1] 51 (0, 0)) (by (iterate 2 refine pf_ ?_ N17.out); exact pkx B1)) : g8 ≠ g1)); have N78 := A_ ((by rw [hg]; exact Nat.ne_of_lt (blk_lt (g:=g7) (o := .cells #[.int .u64 t105, .bool true] 70 (0, 0)) (by refine pp_ (cs := #[.int .u64 t105, .bool false]) 1 ?_ rfl; refine blk_put (cs := #[.int .u64 0, .bool false]) ?_ 0 _ rfl; exact pkx B7)) : g7 ≠ g8)); have N87 := A_ ((by rw [hg]; exact Nat.ne_of_gt (blk_lt (g:=g7) (o := .cells #[.int .u64 t105, .bool true] 70 (0, 0)) (by refine pp_ (cs := #[.int .u64 t105, .bool false]) 1 ?_ rfl; refine blk_put (cs := #[.int .u64 0, .bool false]) ?_ 0 _ rfl; exact pkx B7)) : g8 ≠ g7)); replace B1 := A_ (blk_below (g:=g1) (o := .cells #[.int .i64 x102000_1, .int .u64 x102001_1, .bool x102002_1] 51 (0, 0)) (by (iterate 2 refine pf_ ?_ N17.out); exact pkx B1) hb); replace B7 := A_ (blk_below (g:=g7) (o := .cells #[.int .u64 t105, .bool true] 70 (0, 0)) (by refine pp_ (cs := #[.int .u64 t105, .bool false]) 1 ?_ rfl; refine blk_put (cs := #[.int .u64 0, .bool false]) ?_ 0 _ rfl; exact pkx B7) hb); replace HB := A_ (below_step (by repeat (first | (with_reducible first | exact HB.out | apply below_alloc | apply pw_below_drewN | apply below_drew1 | refine below_set ?_ GE101.out | refine below_set ?_ GE107.out) | exact HB.out)) hb); clear hb hbox hg; have hnb33 := N81.out; have hnc33 := N18.out; have hnb34 := N87.out; have hnc34 := N78.out; have ⟨hcz35_0,hcz35_1,hfz35_0,hfz35_1⟩ := z2_ B8; have ⟨hcz36_0,hcz36_1,hfz36_0,hfz36_1⟩ := z2_ B7) | (go_at_call 28; (with_reducible refine (oculusref02_Text.calls kj12 x3_1 t105 t109 _ A26.out).mono ?_); rintro e w37 ⟨rfl, hb⟩; replace B1 := A_ (blk_below (g:=g1) (o := .cells #[.int .i64 x102000_1, .int .u64 x102001_1, .bool x102002_1] 51 (0, 0)) (by (iterate 2 refine pf_ ?_ N18.out); exact pkx B1) hb); replace B7 := A_ (blk_below (g:=g7) (o := .cells #[.int .u64 t105, .bool true] 70 (0, 0)) (by (iterate 2 refine pf_ ?_ N78.out); exact pkx B7) hb); replace B8 := A_ (blk_below (g:=g8) (o := .cells #[.int .i64 x3_1, .int .u64 t105] 25 (0, 0)) (by refine pp_ (cs := #[.int .i64 x3_1, .int .u64 0]) 1 ?_ rfl; refine blk_put (cs := #[.int .i64 0, .int .u64 0]) ?_ 0 _ rfl; exact pkx B8) hb); replace HB := A_ (below_step (by repeat (first | (with_reducible first | exact HB.out | apply below_alloc | apply pw_below_drewN | apply below_drew1 | refine below_set ?_ GE101.out | refine below_set ?_ GE107.out | refine below_set ?_ GE108.out) | exact HB.out)) hb); (try clear hb); have ⟨hcz38_0,hcz38_1,hfz38_0,hfz38_1⟩ := z2_ B8; have ⟨hcz39_0,hcz39_1,hcz39_2,hfz39_0,hfz39_1,hfz39_2⟩ := z3_ B1))
             refine bodyPost_ret (results_cell_row rfl _ _ g1 51 #[.int .i64 x3_1, .int .u64 t105, .bool true] (0, 0) _ rfl (by refine pp_ (cs := #[.int .i64 x3_1, .int .u64 t105, .bool x102002_1]) 2 ?_ rfl; refine blk_put (cs := #[.int .i64 x3_1, .int .u64 x102001_1, .bool x102002_1]) ?_ 1 _ rfl; refine blk_put (cs := #[.int .i64 x102000_1, .int .u64 x102001_1, .bool x102002_1]) ?_ 0 _ rfl; exact pkx B1) Tryd.underlying51 rfl (by kernel_rfl)) rfl ?_
             exact ⟨by first | rfl | (simp [errW_none, errW_some] <;> rfl) | (simp only [← hji21]; first | rfl | (simp [errW_none, errW_some] <;> rfl)) | (simp [*, errW_none, errW_some] <;> rfl), by repeat (first | (with_reducible first | exact HB.out | apply below_alloc | apply pw_below_drewN | apply below_drew1 | refine below_set ?_ GE101.out | refine below_set ?_ GE107.out | refine below_set ?_ GE108.out) | exact HB.out)⟩
            ·rw [if_neg c27] at H; have ⟨c27b0,c27b1⟩ := e0_ c27
             have H' := A_ H
             clear H
             go_wp2_with (first | ((with_reducible refine gate_callee (f:=40) rfl ?_); refine goesL_ (some 43) rfl rfl Tryd.func40 (by kernel_rfl) rfl #[.string (a0.extract ((ji21) : Int).toNat a0.size)] rfl (by (try simp only [List.map_toArray, List.map_cons, List.map_nil]); first | done | (simp only [hji21]; rfl) | rfl | (simp only [List.length_drop, List.length_take]; rfl)) ?_; (with_reducible refine (oculusref01_Parse.calls kj12 (a0.extract ((ji21) : Int).toNat a0.size) t105 true _ A24.out).mono ?_); rintro e w40 ⟨rfl, hb⟩; refine ⟨_, rfl, ?_⟩; replace B1 := bb_ B1 hb; replace HB := bs_ HB hb; (try clear hb); ) | ((with_reducible refine gd_ 5 ?_); (try (refine gate_guard (by rfl) ?_; dsimp only)); refine be_ (N:=5) (cs := #[.int .u64 0, .bool false]) (t:=70) ?_; intro g7 hg w41 hbox hb; have B7 := A_ (hbox); have GW107 := hs_ HB hg; have GE107 := hs_ HB hg; have N17 := hl_ B1 hg; have N71 := hr_ B1 hg; replace B1 := bb_ B1 hb; replace HB := bs_ HB hb; clear hb hbox hg; have hnb42 := N71.out; have hnc42 := N17.out; have ⟨hcz43_0,hcz43_1,hfz43_0,hfz43_1⟩ := z2_ B7) | ((with_reducible refine gd_ 6 ?_); (try (refine gate_guard (by rfl) ?_; dsimp only)); refine be_ (N:=6) (cs := #[.int .i64 0, .int .u64 0]) (t:=25) ?_; intro g8 hg w44 hbox hb; have B8 := A_ (hbox); have GW108 := A_ ((by rw [hg]; exact (below_size bl_) : w.heap.size ≤ g8)); have GE108 := A_ ((by rw [hg]; exact (below_size bl_) : w.heap.size ≤ g8)); have N18 := A_ ((by rw [hg]; exact Nat.ne_of_lt (blk_lt (g:=g1) (o := .cells #[.int .i64 x102000_1, .int .u64 x102001_1, .bool x102002_1] 51 (0, 0)) (by (iterate 2 refine pf_ ?_ N17.out); exact pkx B1)) : g1 ≠ g8)); have N81 := A_ ((by rw [hg]; exact Nat.ne_of_gt (blk_lt (g:=g1) (o := .cells #[.int .i64 x102000_1, .int .u64 x102001_1, .bool x102002_1] 51 (0, 0)) (by (iterate 2 refine pf_ ?_ N17.out); exact pkx B1)) : g8 ≠ g1)); have N78 := A_ ((by rw [hg]; exact Nat.ne_of_lt (blk_lt (g:=g7) (o := .cells #[.int .u64 t105, .bool true] 70 (0, 0)) (by refine pp_ (cs := #[.int .u64 t105, .bool false]) 1 ?_ rfl; refine blk_put (cs := #[.int .u64 0, .bool false]) ?_ 0 _ rfl; exact pkx B7)) : g7 ≠ g8)); have N87 := A_ ((by rw [hg]; exact Nat.ne_of_gt (blk_lt (g:=g7) (o := .cells #[.int .u64 t105, .bool true] 70 (0, 0)) (by refine pp_ (cs := #[.int .u64 t105, .bool false]) 1 ?_ rfl; refine blk_put (cs := #[.int .u64 0, .bool false]) ?_ 0 _ rfl; exact pkx B7)) : g8 ≠ g7)); replace B1 := A_ (blk_below (g:=g1) (o := .cells #[.int .i64 x102000_1, .int .u64 x102001_1, .bool x102002_1] 51 (0, 0)) (by (iterate 2 refine pf_ ?_ N17.out); exact pkx B1) hb); replace B7 := A_ (blk_below (g:=g7) (o := .cells #[.int .u64 t105, .bool true] 70 (0, 0)) (by refine pp_ (cs := #[.int .u64 t105, .bool false]) 1 ?_ rfl; refine blk_put (cs := #[.int .u64 0, .bool false]) ?_ 0 _ rfl; exact pkx B7) hb); replace HB := A_ (below_step (by repeat (first | (with_reducible first | exact HB.out | apply below_alloc | apply pw_below_drewN | apply below_drew1 | refine below_set ?_ GE101.out | refine below_set ?_ GE107.out) | exact HB.out)) hb); clear hb hbox hg; have hnb45 := N81.out; have hnc45 := N18.out; have hnb46 := N87.out; have hnc46 := N78.out; have ⟨hcz47_0,hcz47_1,hfz47_0,hfz47_1⟩ := z2_ B8; have ⟨hcz48_0,hcz48_1,hfz48_0,hfz48_1⟩ := z2_ B7) | (go_at_call 28; (with_reducible refine (oculusref02_Text.calls kj12 x3_1 t105 t109 _ A26.out).mono ?_); rintro e w49 ⟨rfl, hb⟩; replace B1 := A_ (blk_below (g:=g1) (o := .cells #[.int .i64 x102000_1, .int .u64 x102001_1, .bool x102002_1] 51 (0, 0)) (by (iterate 2 refine pf_ ?_ N18.out); exact pkx B1) hb); replace B7 := A_ (blk_below (g:=g7) (o := .cells #[.int .u64 t105, .bool true] 70 (0, 0)) (by (iterate 2 refine pf_ ?_ N78.out); exact pkx B7) hb); replace B8 := A_ (blk_below (g:=g8) (o := .cells #[.int .i64 x3_1, .int .u64 t105] 25 (0, 0)) (by refine pp_ (cs := #[.int .i64 x3_1, .int .u64 0]) 1 ?_ rfl; refine blk_put (cs := #[.int .i64 0, .int .u64 0]) ?_ 0 _ rfl; exact pkx B8) hb); replace HB := A_ (below_step (by repeat (first | (with_reducible first | exact HB.out | apply below_alloc | apply pw_below_drewN | apply below_drew1 | refine below_set ?_ GE101.out | refine below_set ?_ GE107.out | refine below_set ?_ GE108.out) | exact HB.out)) hb); (try clear hb); ))
             go_roundg kj12
             case measure => have := HK1.out; have := HJ12.out; omega
             case rel => exact ⟨(wrap64 (x3_1 + 1)), (x102000_1), (x102001_1), (x102002_1), sq_, H', ⟨by have := HK1.out; have := HJ12.out; omega⟩, ⟨pkx B1⟩, ⟨pbx HB⟩⟩
           ·replace c25 := Bool.eq_false_iff.mpr c25; subst c25
            replace H := ie_ H
            have H' := A_ H
            clear H
            go_wp2_with (first | ((with_reducible refine gate_callee (f:=40) rfl ?_); refine goesL_ (some 43) rfl rfl Tryd.func40 (by kernel_rfl) rfl #[.string (a0.extract ((ji21) : Int).toNat a0.size)] rfl (by (try simp only [List.map_toArray, List.map_cons, List.map_nil]); first | done | (simp only [hji21]; rfl) | rfl | (simp only [List.length_drop, List.length_take]; rfl)) ?_; (with_reducible refine (oculusref01_Parse.calls kj12 (a0.extract ((ji21) : Int).toNat a0.size) t105 false _ A24.out).mono ?_); rintro e w50 ⟨rfl, hb⟩; refine ⟨_, rfl, ?_⟩; replace B1 := bb_ B1 hb; replace HB := bs_ HB hb; (try clear hb); ) | ((with_reducible refine gd_ 5 ?_); (try (refine gate_guard (by rfl) ?_; dsimp only)); refine be_ (N:=5) (cs := #[.int .u64 0, .bool false]) (t:=70) ?_; intro g7 hg w51 hbox hb; have B7 := A_ (hbox); have GW107 := hs_ HB hg; have GE107 := hs_ HB hg; have N17 := hl_ B1 hg; have N71 := hr_ B1 hg; replace B1 := bb_ B1 hb; replace HB := bs_ HB hb; clear hb hbox hg; have hnb52 := N71.out; have hnc52 := N17.out; have ⟨hcz53_0,hcz53_1,hfz53_0,hfz53_1⟩ := z2_ B7) | ((with_reducible refine gd_ 6 ?_); (try (refine gate_guard (by rfl) ?_; dsimp only)); refine be_ (N:=6) (cs := #[.int .i64 0, .int .u64 0]) (t:=25) ?_; intro g8 hg w54 hbox hb; have B8 := A_ (hbox); have GW108 := A_ ((by rw [hg]; exact (below_size bl_) : w.heap.size ≤ g8)); have GE108 := A_ ((by rw [hg]; exact (below_size bl_) : w.heap.size ≤ g8)); have N18 := A_ ((by rw [hg]; exact Nat.ne_of_lt (blk_lt (g:=g1) (o := .cells #[.int .i64 x102000_1, .int .u64 x102001_1, .bool x102002_1] 51 (0, 0)) (by (iterate 2 refine pf_ ?_ N17.out); exact pkx B1)) : g1 ≠ g8)); have N81 := A_ ((by rw [hg]; exact Nat.ne_of_gt (blk_lt (g:=g1) (o := .cells #[.int .i64 x102000_1, .int .u64 x102001_1, .bool x102002_1] 51 (0, 0)) (by (iterate 2 refine pf_ ?_ N17.out); exact pkx B1)) : g8 ≠ g1)); have N78 := A_ ((by rw [hg]; exact Nat.ne_of_lt (blk_lt (g:=g7) (o := .cells #[.int .u64 t105, .bool false] 70 (0, 0)) (by refine pp_ (cs := #[.int .u64 t105, .bool false]) 1 ?_ rfl; refine blk_put (cs := #[.int .u64 0, .bool false]) ?_ 0 _ rfl; exact pkx B7)) : g7 ≠ g8)); have N87 := A_ ((by rw [hg]; exact Nat.ne_of_gt (blk_lt (g:=g7) (o := .cells #[.int .u64 t105, .bool false] 70 (0, 0)) (by refine pp_ (cs := #[.int .u64 t105, .bool false]) 1 ?_ rfl; refine blk_put (cs := #[.int .u64 0, .bool false]) ?_ 0 _ rfl; exact pkx B7)) : g8 ≠ g7)); replace B1 := A_ (blk_below (g:=g1) (o := .cells #[.int .i64 x102000_1, .int .u64 x102001_1, .bool x102002_1] 51 (0, 0)) (by (iterate 2 refine pf_ ?_ N17.out); exact pkx B1) hb); replace B7 := A_ (blk_below (g:=g7) (o := .cells #[.int .u64 t105, .bool false] 70 (0, 0)) (by refine pp_ (cs := #[.int .u64 t105, .bool false]) 1 ?_ rfl; refine blk_put (cs := #[.int .u64 0, .bool false]) ?_ 0 _ rfl; exact pkx B7) hb); replace HB := A_ (below_step (by repeat (first | (with_reducible first | exact HB.out | apply below_alloc | apply pw_below_drewN | apply below_drew1 | refine below_set ?_ GE101.out | refine below_set ?_ GE107.out) | exact HB.out)) hb); clear hb hbox hg; have hnb55 := N81.out; have hnc55 := N18.out; have hnb56 := N87.out; have hnc56 := N78.out; have ⟨hcz57_0,hcz57_1,hfz57_0,hfz57_1⟩ := z2_ B8; have ⟨hcz58_0,hcz58_1,hfz58_0,hfz58_1⟩ := z2_ B7))
            go_roundg kj12
            case measure => have := HK1.out; have := HJ12.out; omega
            case rel => exact ⟨(wrap64 (x3_1 + 1)), (x102000_1), (x102001_1), (x102002_1), sq_, H', ⟨by have := HK1.out; have := HJ12.out; omega⟩, ⟨by (iterate 2 refine pf_ ?_ N18.out); exact pkx B1⟩, ⟨bl_⟩⟩
          ·rw [if_neg c23] at H
           exact absurd H (by simp)
         ·rw [if_neg c22] at H
          exact absurd H (by simp)
    ·rw [if_neg c8] at H; have c8b0 := decide_eq_false c8; clear c8
     simp only [Option.some.injEq, Prod.mk.injEq] at H
     obtain ⟨rfl, rfl, rfl⟩ := H
     have ⟨hcz59_0,hcz59_1,hcz59_2,hfz59_0,hfz59_1,hfz59_2⟩ := z3_ B1
     go_wp2
     refine bodyPost_ret (results_cell_row rfl _ _ g1 51 #[.int .i64 0, .int .u64 0, .bool false] (0, 0) _ rfl (by refine pp_ (cs := #[.int .i64 0, .int .u64 0, .bool x102002_1]) 2 ?_ rfl; refine blk_put (cs := #[.int .i64 0, .int .u64 x102001_1, .bool x102002_1]) ?_ 1 _ rfl; refine blk_put (cs := #[.int .i64 x102000_1, .int .u64 x102001_1, .bool x102002_1]) ?_ 0 _ rfl; exact pkx B1) Tryd.underlying51 rfl (by kernel_rfl)) rfl ?_
     exact fi_ bl_

def oculusref44_none.f  : Option (ByteArray × Int × Int × Int × Int × Int × Int × Int × Int × Int × ByteArray × Int × Int) := some ((⟨#[]⟩ : ByteArray), 0, 0, 0, 0, 0, 0, 0, 0, 0, (⟨#[]⟩ : ByteArray), 0, 1)
theorem oculusref44_none.calls  (r1 : ByteArray) (r2 : Int) (r3 : Int) (r4 : Int) (r5 : Int) (r6 : Int) (r7 : Int) (r8 : Int) (r9 : Int) (r10 : Int) (r11 : ByteArray) (r12 : Int) (r13 : Int) (w : World) (h : oculusref44_none.f  = some (r1, r2, r3, r4, r5, r6, r7, r8, r9, r10, r11, r12, r13)) :
  Calls Tryd.prog 19 #[] w fun e w' => e = .returned (.agg #[.string r1, .int .i64 r2, .int .u64 r3, .int .i64 r4, .int .i64 r5, .int .i64 r6, .int .i64 r7, .int .i64 r8, .int .i64 r9, .int .i64 r10, .string r11, .int .i64 r12, .int .i64 r13]) ∧ Below w.heap.size w w' := by
 have hu36 := Tryd.underlying36; have HB := A_ (Below.refl w.heap.size w)
 have H : (some ((⟨#[]⟩ : ByteArray), 0, 0, 0, 0, 0, 0, 0, 0, 0, (⟨#[]⟩ : ByteArray), 0, 1)) = some (r1, r2, r3, r4, r5, r6, r7, r8, r9, r10, r11, r12, r13) := h
 clear h
 simp only [Option.some.injEq, Prod.mk.injEq] at H
 obtain ⟨rfl, rfl, rfl, rfl, rfl, rfl, rfl, rfl, rfl, rfl, rfl, rfl, rfl⟩ := H
 go_enter Tryd.func19, Tryd.ntmps19
 go_wp2_with (first | ((with_reducible refine gd_ 0 ?_); refine be_ (N:=0) (cs := #[.string (⟨#[]⟩ : ByteArray), .int .i64 0, .int .u64 0, .int .i64 0, .int .i64 0, .int .i64 0, .int .i64 0, .int .i64 0, .int .i64 0, .int .i64 0, .string (⟨#[]⟩ : ByteArray), .int .i64 0, .int .i64 0]) (t:=36) ?_; intro g1 hg w1 hbox hb; have B1 := A_ (hbox); have GW101 := hs_ HB hg; have GE101 := hs_ HB hg; replace HB := bs_ HB hb; clear hb hbox hg; have hcz2_0 : w1.cell? ⟨g1, 0, none⟩ = some (.string (⟨#[]⟩ : ByteArray)) := bc_ B1 0 rfl; have hcz2_1 : w1.cell? ⟨g1, 1, none⟩ = some (.int .i64 0) := bc_ B1 1 rfl; have hcz2_2 : w1.cell? ⟨g1, 2, none⟩ = some (.int .u64 0) := bc_ B1 2 rfl; have hcz2_3 : w1.cell? ⟨g1, 3, none⟩ = some (.int .i64 0) := bc_ B1 3 rfl; have hcz2_4 : w1.cell? ⟨g1, 4, none⟩ = some (.int .i64 0) := bc_ B1 4 rfl; have hcz2_5 : w1.cell? ⟨g1, 5, none⟩ = some (.int .i64 0) := bc_ B1 5 rfl; have hcz2_6 : w1.cell? ⟨g1, 6, none⟩ = some (.int .i64 0) := bc_ B1 6 rfl; have hcz2_7 : w1.cell? ⟨g1, 7, none⟩ = some (.int .i64 0) := bc_ B1 7 rfl; have hcz2_8 : w1.cell? ⟨g1, 8, none⟩ = some (.int .i64 0) := bc_ B1 8 rfl; have hcz2_9 : w1.cell? ⟨g1, 9, none⟩ = some (.int .i64 0) := bc_ B1 9 rfl; have hcz2_10 : w1.cell? ⟨g1, 10, none⟩ = some (.string (⟨#[]⟩ : ByteArray)) := bc_ B1 10 rfl; have hcz2_11 : w1.cell? ⟨g1, 11, none⟩ = some (.int .i64 0) := bc_ B1 11 rfl; have hcz2_12 : w1.cell? ⟨g1, 12, none⟩ = some (.int .i64 0) := bc_ B1 12 rfl; have hfz2_0 := blk_frozen B1.out 0; have hfz2_1 := blk_frozen B1.out 1; have hfz2_2 := blk_frozen B1.out 2; have hfz2_3 := blk_frozen B1.out 3; have hfz2_4 := blk_frozen B1.out 4; have hfz2_5 := blk_frozen B1.out 5; have hfz2_6 := blk_frozen B1.out 6; have hfz2_7 := blk_frozen B1.out 7; have hfz2_8 := blk_frozen B1.out 8; have hfz2_9 := blk_frozen B1.out 9; have hfz2_10 := blk_frozen B1.out 10; have hfz2_11 := blk_frozen B1.out 11; have hfz2_12 := blk_frozen B1.out 12))
 refine bodyPost_ret (results_cell_row rfl _ _ g1 36 #[.string (⟨#[]⟩ : ByteArray), .int .i64 0, .int .u64 0, .int .i64 0, .int .i64 0, .int .i64 0, .int .i64 0, .int .i64 0, .int .i64 0, .int .i64 0, .string (⟨#[]⟩ : ByteArray), .int .i64 0, .int .i64 1] (0, 0) _ rfl (by exact pa13_ (pkx B1) rfl) Tryd.underlying36 rfl (by kernel_rfl)) rfl ?_
 exact fi_ bl_

def oculusref03_Letters.j0 : Nat → Int → Bool → Option (ByteArray)
 | 0, _, _ => none
 | k + 1, x0, x8 => if x8 = true then (some (⟨#[]⟩ : ByteArray)) else (if x0 < 26 then (some (strOfNums (([(wrap64 (65 + x0)) % 256] : List Int)))) else (some (strOfNums (([(wrap64 (64 + (wrap64 (Int.tdiv x0 26)))) % 256, (wrap64 (65 + (Int.tmod x0 26))) % 256] : List Int)))))
def oculusref03_Letters.f (k : Nat) (a0 : Int) : Option (ByteArray) := if a0 < 0 then (oculusref03_Letters.j0 k a0 true) else (oculusref03_Letters.j0 k a0 (decide (a0 > 701)))
theorem oculusref03_Letters.calls (k : Nat) (a0 : Int) (r : ByteArray) (w : World) (h : oculusref03_Letters.f k a0 = some r) :
  Calls Tryd.prog 56 #[.int .i64 a0] w fun e w' => e = .returned (.string r) ∧ Below w.heap.size w w' := by
 have HB := A_ (Below.refl w.heap.size w)
 have H : (if a0 < 0 then (oculusref03_Letters.j0 k a0 true) else (oculusref03_Letters.j0 k a0 (decide (a0 > 701)))) = some r := h
 clear h; have HC2 := A_ H; clear H
 go_enter Tryd.func56, Tryd.ntmps56
 go_upto_region 1 with (fail)
 go_cut [8] (fun v8 wc => ∃ (kq : Nat) (x8_1 : Bool), v8 = .bool x8_1 ∧ Aside0 (oculusref03_Letters.j0 kq a0 x8_1 = some r) ∧ Aside0 (kq ≤ k) ∧ Aside0 (Below w.heap.size w wc))
 case first =>
  have H := HC2.out; clear HC2
  by_cases c3 : a0 < 0
  ·rw [if_pos c3] at H; have c3b0 := decide_eq_true c3; clear c3; (first | rw [c3b0] | (simp only [i64_w, i32_w]; rw [c3b0]) | skip)
   have H' := A_ H
   clear H
   go_wp2
   go_meet
   case rel => exact ⟨_, (true), sq_, H', le_, ⟨pbx HB⟩⟩
  ·rw [if_neg c3] at H; have c3b0 := decide_eq_false c3; clear c3; (first | rw [c3b0] | (simp only [i64_w, i32_w]; rw [c3b0]) | skip)
   have H' := A_ H
   clear H
   go_wp2
   go_meet
   case rel => exact ⟨_, (decide (a0 > 701)), sq_, H', le_, ⟨pbx HB⟩⟩
 case rest =>
  clear HC2; obtain ⟨kq, x8_1, rfl, HA, HJ1, HB⟩ := hcut
  cases kq with
  | zero => exact absurd HA.out (by simp [oculusref03_Letters.j0])
  | succ kj1 =>
   have H := HA.out; clear HA
   simp only [oculusref03_Letters.j0] at H
   by_cases c4 : x8_1 = true
   ·subst c4
    replace H := it_ H; obtain rfl := Option.some.inj H
    go_wp2
    go_ret
    exact fi_ (pbx HB)
   ·replace c4 := Bool.eq_false_iff.mpr c4; subst c4
    replace H := ie_ H
    by_cases c5 : a0 < 26
    ·rw [if_pos c5] at H; have c5b0 := decide_eq_true c5; clear c5; obtain ⟨y101, hy101⟩ : ∃ y_ : List Int, y_ = (([(wrap64 (65 + a0)) % 256] : List Int)) := ⟨_, rfl⟩
     replace H : (some (strOfNums y101)) = some r := by first | (rw [hy101]; with_reducible exact H) | (have H2_ := (Option.bind_some _ _).symm.trans H; rw [hy101]; with_reducible exact H2_) | (have H2_ := (Option.bind_some _ _).symm.trans H; with_reducible exact H2_) | with_reducible exact H | (rw [hy101]; exact H) | exact H
     have Ny101 := A_ hy101; clear hy101; obtain rfl := Option.some.inj H
     go_wp2_with (first | ((with_reducible refine gd_ 14 ?_); refine Kd.R_lit (Kd.int .u8) _ 5 ?hg (N:=14) ?hd (xs := ([(wrap64 (65 + a0)) % 256] : List Int)) (inner := [.int .u8 ((wrap64 (65 + a0)) % 256)]) (ok := fun _ => True) (okp := fun _ => True) ?hr ?hp (fun _ hk => hk) trivial (Below.refl _ _) (Nat.le_refl _) (by simp) ?_; (case hd => rfl); (case hg => rfl); (case hr => first | (go_simp; done) | (go_simp; rfl)); (case hp => exact (Reps.one (show Kd.M (Kd.int .u8) _ _ _ ((wrap64 (65 + a0)) % 256) [.int .u8 ((wrap64 (65 + a0)) % 256)] from rfl) (Reps.none _ _))); intro v102 w6 ho7 hb hg_ hnew_; clear hg_ hnew_; (first | rw [← Ny101.out] at ho7 | (simp only [Int.reduceToNat] at ho7; rw [← Ny101.out] at ho7)); have HO103 := A_ (Kd.R_lower ho7 (below_size (pbx HB))); replace HB := bs_ HB hb; clear hb ho7; have hcv8 := own_string (P := Tryd.prog) Tryd.underlying84 Tryd.underlying5 Tryd.underlying9 (Kd.own_of_R HO103.out)))
     go_ret
     exact fi_ (pbx HB)
    ·rw [if_neg c5] at H; have c5b0 := decide_eq_false c5; clear c5; obtain ⟨y104, hy104⟩ : ∃ y_ : List Int, y_ = (([(wrap64 (64 + (wrap64 (Int.tdiv a0 26)))) % 256, (wrap64 (65 + (Int.tmod a0 26))) % 256] : List Int)) := ⟨_, rfl⟩
     replace H : (some (strOfNums y104)) = some r := by first | (rw [hy104]; with_reducible exact H) | (have H2_ := (Option.bind_some _ _).symm.trans H; rw [hy104]; with_reducible exact H2_) | (have H2_ := (Option.bind_some _ _).symm.trans H; with_reducible exact H2_) | with_reducible exact H | (rw [hy104]; exact H) | exact H
     have Ny104 := A_ hy104; clear hy104; obtain rfl := Option.some.inj H
     go_wp2_with (first | ((with_reducible refine gd_ 24 ?_); refine Kd.R_lit (Kd.int .u8) _ 5 ?hg (N:=24) ?hd (xs := ([(wrap64 (64 + (wrap64 (Int.tdiv a0 26)))) % 256, (wrap64 (65 + (Int.tmod a0 26))) % 256] : List Int)) (inner := [.int .u8 ((wrap64 (64 + (wrap64 (Int.tdiv a0 26)))) % 256), .int .u8 ((wrap64 (65 + (Int.tmod a0 26))) % 256)]) (ok := fun _ => True) (okp := fun _ => True) ?hr ?hp (fun _ hk => hk) trivial (Below.refl _ _) (Nat.le_refl _) (by simp) ?_; (case hd => rfl); (case hg => rfl); (case hr => first | (go_simp; done) | (go_simp; rfl)); (case hp => exact (Reps.one (show Kd.M (Kd.int .u8) _ _ _ ((wrap64 (64 + (wrap64 (Int.tdiv a0 26)))) % 256) [.int .u8 ((wrap64 (64 + (wrap64 (Int.tdiv a0 26)))) % 256)] from rfl) (Reps.one (show Kd.M (Kd.int .u8) _ _ _ ((wrap64 (65 + (Int.tmod a0 26))) % 256) [.int .u8 ((wrap64 (65 + (Int.tmod a0 26))) % 256)] from rfl) (Reps.none _ _)))); intro v105 w9 ho10 hb hg_ hnew_; clear hg_ hnew_; (first | rw [← Ny104.out] at ho10 | (simp only [Int.reduceToNat] at ho10; rw [← Ny104.out] at ho10)); have HO106 := A_ (Kd.R_lower ho10 (below_size (pbx HB))); replace HB := bs_ HB hb; clear hb ho10; have hcv11 := own_string (P := Tryd.prog) Tryd.underlying84 Tryd.underlying5 Tryd.underlying9 (Kd.own_of_R HO106.out)))
     go_ret
     exact fi_ (pbx HB)

def oculusref03_Column.l0 : Nat → ByteArray → Int → Option (Int × Bool)
 | 0, _, _ => none
 | k + 1, x0, x3 => if x3 ≤ 701 then ((oculusref03_Letters.f k x3).bind fun t102 => (if t102.toList = x0.toList then (some (x3, true)) else (oculusref03_Column.l0 k x0 (wrap64 (x3 + 1))))) else (some (0, false))
def oculusref03_Column.f (k : Nat) (a0 : ByteArray) : Option (Int × Bool) := oculusref03_Column.l0 k a0 0
theorem oculusref03_Column.calls (k : Nat) (a0 : ByteArray) (r1 : Int) (r2 : Bool) (w : World) (h : oculusref03_Column.f k a0 = some (r1, r2)) :
  Calls Tryd.prog 66 #[.string a0] w fun e w' => e = .returned (.agg #[.int .i64 r1, .bool r2]) ∧ Below w.heap.size w w' := by
 have hu102 := Tryd.underlying102; have HB := A_ (Below.refl w.heap.size w)
 have H : (oculusref03_Column.l0 k a0 0) = some (r1, r2) := h
 clear h
 have H' := A_ H
 clear H
 go_enter Tryd.func66, Tryd.ntmps66
 go_wp2_with (first | ((with_reducible refine gd_ 2 ?_); refine be_ (N:=2) (cs := #[.int .i64 0, .bool false]) (t:=102) ?_; intro g1 hg w2 hbox hb; have B1 := A_ (hbox); have GW101 := hs_ HB hg; have GE101 := hs_ HB hg; replace HB := bs_ HB hb; clear hb hbox hg))
 go_loopg [3] k (fun kq v3 w' => ∃ (x3_1 : Int) (x102000_1 : Int) (x102001_1 : Bool), v3 = .int .i64 x3_1 ∧ Aside0 (oculusref03_Column.l0 kq a0 x3_1 = some (r1, r2)) ∧ Aside0 (kq ≤ k) ∧ Aside0 (w'.heap[g1]? = some (.cells #[.int .i64 x102000_1, .bool x102001_1] 102 (0, 0))) ∧ Aside0 (Below w.heap.size w w'))
 case atStart => exact ⟨(0), (0), (false), sq_, H', ⟨Nat.le_refl _⟩, ⟨pkx B1⟩, ⟨pbx HB⟩⟩
 case round =>
  clear H'; obtain ⟨x3_1, x102000_1, x102001_1, rfl, HA, HK1, B1, HB⟩ := hrel
  cases gk with
  | zero => exact absurd HA.out (by simp [oculusref03_Column.l0])
  | succ k1 =>
   have H := HA.out; clear HA
   simp only [oculusref03_Column.l0] at H
   by_cases c3 : x3_1 ≤ 701
   ·rw [if_pos c3] at H; have c3b0 := decide_eq_true c3; clear c3; obtain ⟨t102, A4, H⟩ := bo_ H
    by_cases c5 : t102.toList = a0.toList
    ·rw [if_pos c5] at H; have ⟨c5b0,c5b1⟩ := e1_ c5; clear c5
     simp only [Option.some.injEq, Prod.mk.injEq] at H
     obtain ⟨rfl, rfl⟩ := H
     go_wp2_with (first | ((with_reducible refine gate_callee (f:=56) rfl ?_); refine gL_ (some 9) rfl rfl Tryd.func56 rfl #[.int .i64 x3_1] rfl ?_; (with_reducible refine (oculusref03_Letters.calls k1 x3_1 t102 _ A4.out).mono ?_); rintro e w6 ⟨rfl, hb⟩; refine ⟨_, rfl, ?_⟩; replace B1 := bb_ B1 hb; replace HB := bs_ HB hb; (try clear hb); have ⟨hcz7_0,hcz7_1,hfz7_0,hfz7_1⟩ := z2_ B1))
     refine bodyPost_ret (results_cell_row rfl _ _ g1 102 #[.int .i64 x3_1, .bool true] (0, 0) _ rfl (by refine pp_ (cs := #[.int .i64 x3_1, .bool x102001_1]) 1 ?_ rfl; refine blk_put (cs := #[.int .i64 x102000_1, .bool x102001_1]) ?_ 0 _ rfl; exact pkx B1) Tryd.underlying102 rfl (by kernel_rfl)) rfl ?_
     exact fi_ bl_
    ·rw [if_neg c5] at H; have ⟨c5b0,c5b1⟩ := e0_ c5
     have H' := A_ H
     clear H
     go_wp2_with (first | ((with_reducible refine gate_callee (f:=56) rfl ?_); refine gL_ (some 9) rfl rfl Tryd.func56 rfl #[.int .i64 x3_1] rfl ?_; (with_reducible refine (oculusref03_Letters.calls k1 x3_1 t102 _ A4.out).mono ?_); rintro e w8 ⟨rfl, hb⟩; refine ⟨_, rfl, ?_⟩; replace B1 := bb_ B1 hb; replace HB := bs_ HB hb; (try clear hb); ))
     go_roundg k1
     case measure => have := HK1.out; omega
     case rel => exact ⟨(wrap64 (x3_1 + 1)), (x102000_1), (x102001_1), sq_, H', ⟨by have := HK1.out; omega⟩, ⟨pkx B1⟩, ⟨pbx HB⟩⟩
   ·rw [if_neg c3] at H; have c3b0 := decide_eq_false c3; clear c3
    simp only [Option.some.injEq, Prod.mk.injEq] at H
    obtain ⟨rfl, rfl⟩ := H
    have ⟨hcz9_0,hcz9_1,hfz9_0,hfz9_1⟩ := z2_ B1
    go_wp2
    refine bodyPost_ret (results_cell_row rfl _ _ g1 102 #[.int .i64 0, .bool false] (0, 0) _ rfl (by refine pp_ (cs := #[.int .i64 0, .bool x102001_1]) 1 ?_ rfl; refine blk_put (cs := #[.int .i64 x102000_1, .bool x102001_1]) ?_ 0 _ rfl; exact pkx B1) Tryd.underlying102 rfl (by kernel_rfl)) rfl ?_
    exact fi_ bl_

def oculusref03_Number.l0 : Nat → ByteArray → Int → Option (Int × Bool)
 | 0, _, _ => none
 | k + 1, x0, x3 => if x3 ≤ 998 then ((oculusref01_Digits.f k (wrap64 (x3 + 1))).bind fun t102 => (if t102.toList = x0.toList then (some (x3, true)) else (oculusref03_Number.l0 k x0 (wrap64 (x3 + 1))))) else (some (0, false))
def oculusref03_Number.f (k : Nat) (a0 : ByteArray) : Option (Int × Bool) := oculusref03_Number.l0 k a0 0
theorem oculusref03_Number.calls (k : Nat) (a0 : ByteArray) (r1 : Int) (r2 : Bool) (w : World) (h : oculusref03_Number.f k a0 = some (r1, r2)) :
  Calls Tryd.prog 67 #[.string a0] w fun e w' => e = .returned (.agg #[.int .i64 r1, .bool r2]) ∧ Below w.heap.size w w' := by
 have hu102 := Tryd.underlying102; have HB := A_ (Below.refl w.heap.size w)
 have H : (oculusref03_Number.l0 k a0 0) = some (r1, r2) := h
 clear h
 have H' := A_ H
 clear H
 go_enter Tryd.func67, Tryd.ntmps67
 go_wp2_with (first | ((with_reducible refine gd_ 2 ?_); refine be_ (N:=2) (cs := #[.int .i64 0, .bool false]) (t:=102) ?_; intro g1 hg w2 hbox hb; have B1 := A_ (hbox); have GW101 := hs_ HB hg; have GE101 := hs_ HB hg; replace HB := bs_ HB hb; clear hb hbox hg))
 go_loopg [3] k (fun kq v3 w' => ∃ (x3_1 : Int) (x102000_1 : Int) (x102001_1 : Bool), v3 = .int .i64 x3_1 ∧ Aside0 (oculusref03_Number.l0 kq a0 x3_1 = some (r1, r2)) ∧ Aside0 (kq ≤ k) ∧ Aside0 (w'.heap[g1]? = some (.cells #[.int .i64 x102000_1, .bool x102001_1] 102 (0, 0))) ∧ Aside0 (Below w.heap.size w w'))
 case atStart => exact ⟨(0), (0), (false), sq_, H', ⟨Nat.le_refl _⟩, ⟨pkx B1⟩, ⟨pbx HB⟩⟩
 case round =>
  clear H'; obtain ⟨x3_1, x102000_1, x102001_1, rfl, HA, HK1, B1, HB⟩ := hrel
  cases gk with
  | zero => exact absurd HA.out (by simp [oculusref03_Number.l0])
  | succ k1 =>
   have H := HA.out; clear HA
   simp only [oculusref03_Number.l0] at H
   by_cases c3 : x3_1 ≤ 998
   ·rw [if_pos c3] at H; have c3b0 := decide_eq_true c3; clear c3; obtain ⟨t102, A4, H⟩ := bo_ H
    by_cases c5 : t102.toList = a0.toList
    ·rw [if_pos c5] at H; have ⟨c5b0,c5b1⟩ := e1_ c5; clear c5
     simp only [Option.some.injEq, Prod.mk.injEq] at H
     obtain ⟨rfl, rfl⟩ := H
     go_wp2_with (first | ((with_reducible refine gate_callee (f:=31) rfl ?_); refine gL_ (some 10) rfl rfl Tryd.func31 rfl #[.int .i64 (wrap64 (x3_1 + 1))] rfl ?_; (with_reducible refine (oculusref01_Digits.calls k1 (wrap64 (x3_1 + 1)) t102 _ A4.out).mono ?_); rintro e w6 ⟨rfl, hb⟩; refine ⟨_, rfl, ?_⟩; replace B1 := bb_ B1 hb; replace HB := bs_ HB hb; (try clear hb); have ⟨hcz7_0,hcz7_1,hfz7_0,hfz7_1⟩ := z2_ B1))
     refine bodyPost_ret (results_cell_row rfl _ _ g1 102 #[.int .i64 x3_1, .bool true] (0, 0) _ rfl (by refine pp_ (cs := #[.int .i64 x3_1, .bool x102001_1]) 1 ?_ rfl; refine blk_put (cs := #[.int .i64 x102000_1, .bool x102001_1]) ?_ 0 _ rfl; exact pkx B1) Tryd.underlying102 rfl (by kernel_rfl)) rfl ?_
     exact fi_ bl_
    ·rw [if_neg c5] at H; have ⟨c5b0,c5b1⟩ := e0_ c5
     have H' := A_ H
     clear H
     go_wp2_with (first | ((with_reducible refine gate_callee (f:=31) rfl ?_); refine gL_ (some 10) rfl rfl Tryd.func31 rfl #[.int .i64 (wrap64 (x3_1 + 1))] rfl ?_; (with_reducible refine (oculusref01_Digits.calls k1 (wrap64 (x3_1 + 1)) t102 _ A4.out).mono ?_); rintro e w8 ⟨rfl, hb⟩; refine ⟨_, rfl, ?_⟩; replace B1 := bb_ B1 hb; replace HB := bs_ HB hb; (try clear hb); ))
     go_roundg k1
     case measure => have := HK1.out; omega
     case rel => exact ⟨(wrap64 (x3_1 + 1)), (x102000_1), (x102001_1), sq_, H', ⟨by have := HK1.out; omega⟩, ⟨pkx B1⟩, ⟨pbx HB⟩⟩
   ·rw [if_neg c3] at H; have c3b0 := decide_eq_false c3; clear c3
    simp only [Option.some.injEq, Prod.mk.injEq] at H
    obtain ⟨rfl, rfl⟩ := H
    have ⟨hcz9_0,hcz9_1,hfz9_0,hfz9_1⟩ := z2_ B1
    go_wp2
    refine bodyPost_ret (results_cell_row rfl _ _ g1 102 #[.int .i64 0, .bool false] (0, 0) _ rfl (by refine pp_ (cs := #[.int .i64 0, .bool x102001_1]) 1 ?_ rfl; refine blk_put (cs := #[.int .i64 x102000_1, .bool x102001_1]) ?_ 0 _ rfl; exact pkx B1) Tryd.underlying102 rfl (by kernel_rfl)) rfl ?_
    exact fi_ bl_

mutual
def oculusref03_Parse.l0 : Nat → ByteArray → Int → Option (Int × Int × Bool)
 | 0, _, _ => none
 | k + 1, x0, x3 => if x3 ≤ 2 then (oculusref03_Parse.j1 k x0 x3 (decide (x3 ≤ (x0.size : Int)))) else (oculusref03_Parse.j1 k x0 x3 false)
def oculusref03_Parse.j1 : Nat → ByteArray → Int → Bool → Option (Int × Int × Bool)
 | 0, _, _, _ => none
 | k + 1, x0, x3, x13 => if x13 = true then (if 0 ≤ x3 then (if x3 ≤ (x0.size : Int) then ((oculusref03_Column.f k (x0.extract 0 (x3 : Int).toNat)).bind fun bt102 => ((oculusref03_Number.f k (x0.extract (x3 : Int).toNat x0.size)).bind fun bt105 => (if bt102.2 = true then (if bt105.2 = true then (some (bt105.1, bt102.1, true)) else (oculusref03_Parse.l0 k x0 (wrap64 (x3 + 1)))) else (oculusref03_Parse.l0 k x0 (wrap64 (x3 + 1)))))) else (none)) else (none)) else (some (0, 0, false))
end
def oculusref03_Parse.f (k : Nat) (a0 : ByteArray) : Option (Int × Int × Bool) := oculusref03_Parse.l0 k a0 1
theorem oculusref03_Parse.calls (k : Nat) (a0 : ByteArray) (r1 : Int) (r2 : Int) (r3 : Bool) (w : World) (h : oculusref03_Parse.f k a0 = some (r1, r2, r3)) :
  Calls Tryd.prog 43 #[.string a0] w fun e w' => e = .returned (.agg #[.int .i64 r1, .int .i64 r2, .bool r3]) ∧ Below w.heap.size w w' := by
 have hu76 := Tryd.underlying76; have hu102 := Tryd.underlying102; have hu27 := Tryd.underlying27; have HB := A_ (Below.refl w.heap.size w)
 have H : (oculusref03_Parse.l0 k a0 1) = some (r1, r2, r3) := h
 clear h
 have H' := A_ H
 clear H
 go_enter Tryd.func43, Tryd.ntmps43
 go_wp2_with (first | ((with_reducible refine gd_ 2 ?_); (try (refine gate_guard (by rfl) ?_; dsimp only)); refine be_ (N:=2) (cs := #[.int .i64 0, .int .i64 0, .bool false]) (t:=76) ?_; intro g1 hg w2 hbox hb; have B1 := A_ (hbox); have GW101 := hs_ HB hg; have GE101 := hs_ HB hg; replace HB := bs_ HB hb; clear hb hbox hg))
 go_loopg [3] k (fun kq v3 w' => ∃ (x3_1 : Int) (x102000_1 : Int) (x102001_1 : Int) (x102002_1 : Bool), v3 = .int .i64 x3_1 ∧ Aside0 (oculusref03_Parse.l0 kq a0 x3_1 = some (r1, r2, r3)) ∧ Aside0 (kq ≤ k) ∧ Aside0 (w'.heap[g1]? = some (.cells #[.int .i64 x102000_1, .int .i64 x102001_1, .bool x102002_1] 76 (0, 0))) ∧ Aside0 (Below w.heap.size w w'))
 case atStart => exact ⟨(1), (0), (0), (false), sq_, H', ⟨Nat.le_refl _⟩, ⟨pkx B1⟩, ⟨pbx HB⟩⟩
 case round =>
  clear H'; obtain ⟨x3_1, x102000_1, x102001_1, x102002_1, rfl, HA, HK1, B1, HB⟩ := hrel
  cases gk with
  | zero => exact absurd HA.out (by simp [oculusref03_Parse.l0])
  | succ k1 =>
   have H := HA.out; clear HA
   simp only [oculusref03_Parse.l0] at H
   have HC3 := A_ H; clear H
   go_upto_region 2 with (fail)
   go_cut [13] (fun v13 wc => ∃ (kq : Nat) (x13_2 : Bool), v13 = .bool x13_2 ∧ Aside0 (oculusref03_Parse.j1 kq a0 x3_1 x13_2 = some (r1, r2, r3)) ∧ Aside0 (kq ≤ k1) ∧ Aside0 (wc.heap[g1]? = some (.cells #[.int .i64 x102000_1, .int .i64 x102001_1, .bool x102002_1] 76 (0, 0))) ∧ Aside0 (Below w.heap.size w wc))
   case first =>
    have H := HC3.out; clear HC3
    by_cases c4 : x3_1 ≤ 2
    ·rw [if_pos c4] at H; have c4b0 := decide_eq_true c4; clear c4; (first | rw [c4b0] | (simp only [i64_w, i32_w]; rw [c4b0]) | skip)
     have H' := A_ H
     clear H
     go_wp2
     go_meet
     case rel => exact ⟨_, (decide (x3_1 ≤ (a0.size : Int))), sq_, H', ⟨by have := HK1.out; first | omega | exact Nat.le_refl _⟩, ⟨pkx B1⟩, ⟨pbx HB⟩⟩
    ·rw [if_neg c4] at H; have c4b0 := decide_eq_false c4; clear c4; (first | rw [c4b0] | (simp only [i64_w, i32_w]; rw [c4b0]) | skip)
     have H' := A_ H
     clear H
     go_wp2
     go_meet
     case rel => exact ⟨_, (false), sq_, H', ⟨by have := HK1.out; first | omega | exact Nat.le_refl _⟩, ⟨pkx B1⟩, ⟨pbx HB⟩⟩
   case rest =>
    clear HC3; obtain ⟨kq, x13_2, rfl, HA, HJ2, B1, HB⟩ := hcut
    cases kq with
    | zero => exact absurd HA.out (by simp [oculusref03_Parse.j1])
    | succ kj2 =>
     have H := HA.out; clear HA
     simp only [oculusref03_Parse.j1] at H
     by_cases c5 : x13_2 = true
     ·subst c5
      replace H := it_ H
      by_cases c6 : 0 ≤ x3_1
      ·rw [if_pos c6] at H; have c6b0 := eq_true c6; have c6b1 := decide_eq_true c6; clear c6
       by_cases c7 : x3_1 ≤ (a0.size : Int)
       ·rw [if_pos c7] at H; have c7b0 := eq_true c7; have c7b1 := decide_eq_true c7; clear c7; obtain ⟨⟨t102, t103⟩, A8, H⟩ := bo_ H; dsimp only at H; have c9b0 := eq_true (of_decide_eq_true as_ : 0 ≤ x3_1); have c10b0 := eq_true (of_decide_eq_true as_ : x3_1 ≤ (a0.size : Int)); obtain ⟨⟨t105, t106⟩, A11, H⟩ := bo_ H; dsimp only at H
        by_cases c12 : t103 = true
        ·subst c12
         replace H := it_ H
         by_cases c13 : t106 = true
         ·subst c13
          replace H := it_ H
          simp only [Option.some.injEq, Prod.mk.injEq] at H
          obtain ⟨rfl, rfl, rfl⟩ := H
          go_wp2_with (first | ((with_reducible refine gate_callee (f:=66) rfl ?_); refine gL_ (some 19) rfl rfl Tryd.func66 rfl #[.string (a0.extract 0 (x3_1 : Int).toNat)] rfl ?_; (with_reducible refine (oculusref03_Column.calls kj2 (a0.extract 0 (x3_1 : Int).toNat) t102 true _ A8.out).mono ?_); rintro e w14 ⟨rfl, hb⟩; refine ⟨_, rfl, ?_⟩; replace B1 := bb_ B1 hb; replace HB := bs_ HB hb; (try clear hb); ) | ((with_reducible refine gd_ 4 ?_); (try (refine gate_guard (by rfl) ?_; dsimp only)); refine be_ (N:=4) (cs := #[.int .i64 0, .bool false]) (t:=102) ?_; intro g4 hg w15 hbox hb; have B4 := A_ (hbox); have GW104 := hs_ HB hg; have GE104 := hs_ HB hg; have N14 := hl_ B1 hg; have N41 := hr_ B1 hg; replace B1 := bb_ B1 hb; replace HB := bs_ HB hb; clear hb hbox hg; have hnb16 := N41.out; have hnc16 := N14.out; have ⟨hcz17_0,hcz17_1,hfz17_0,hfz17_1⟩ := z2_ B4) | ((with_reducible refine gate_callee (f:=67) rfl ?_); refine gL_ (some 23) rfl rfl Tryd.func67 rfl #[.string (a0.extract (x3_1 : Int).toNat a0.size)] rfl ?_; (with_reducible refine (oculusref03_Number.calls kj2 (a0.extract (x3_1 : Int).toNat a0.size) t105 true _ A11.out).mono ?_); rintro e w18 ⟨rfl, hb⟩; refine ⟨_, rfl, ?_⟩; replace B1 := A_ (blk_below (g:=g1) (o := .cells #[.int .i64 x102000_1, .int .i64 x102001_1, .bool x102002_1] 76 (0, 0)) (by (iterate 2 refine pf_ ?_ N14.out); exact pkx B1) hb); replace B4 := A_ (blk_below (g:=g4) (o := .cells #[.int .i64 t102, .bool true] 102 (0, 0)) (by refine pp_ (cs := #[.int .i64 t102, .bool false]) 1 ?_ rfl; refine blk_put (cs := #[.int .i64 0, .bool false]) ?_ 0 _ rfl; exact pkx B4) hb); replace HB := A_ (below_step (by repeat (first | (with_reducible first | exact HB.out | apply below_alloc | apply pw_below_drewN | apply below_drew1 | refine below_set ?_ GE101.out | refine below_set ?_ GE104.out) | exact HB.out)) hb); (try clear hb); ) | ((with_reducible refine gd_ 5 ?_); (try (refine gate_guard (by rfl) ?_; dsimp only)); refine be_ (N:=5) (cs := #[.int .i64 0, .bool false]) (t:=102) ?_; intro g7 hg w19 hbox hb; have B7 := A_ (hbox); have GW107 := hs_ HB hg; have GE107 := hs_ HB hg; have N17 := hl_ B1 hg; have N71 := hr_ B1 hg; have N47 := hl_ B4 hg; have N74 := hr_ B4 hg; replace B1 := bb_ B1 hb; replace B4 := bb_ B4 hb; replace HB := bs_ HB hb; clear hb hbox hg; have hnb20 := N71.out; have hnc20 := N17.out; have hnb21 := N74.out; have hnc21 := N47.out; have ⟨hcz22_0,hcz22_1,hfz22_0,hfz22_1⟩ := z2_ B7; have ⟨hcz23_0,hcz23_1,hfz23_0,hfz23_1⟩ := z2_ B4; have ⟨hcz24_0,hcz24_1,hcz24_2,hfz24_0,hfz24_1,hfz24_2⟩ := z3_ B1))
          refine bodyPost_ret (results_cell_row rfl _ _ g1 76 #[.int .i64 t105, .int .i64 t102, .bool true] (0, 0) _ rfl (by refine pp_ (cs := #[.int .i64 t105, .int .i64 t102, .bool x102002_1]) 2 ?_ rfl; refine blk_put (cs := #[.int .i64 t105, .int .i64 x102001_1, .bool x102002_1]) ?_ 1 _ rfl; refine blk_put (cs := #[.int .i64 x102000_1, .int .i64 x102001_1, .bool x102002_1]) ?_ 0 _ rfl; (iterate 2 refine pf_ ?_ N17.out); exact pkx B1) Tryd.underlying76 rfl (by kernel_rfl)) rfl ?_
          exact fi_ bl_
         ·replace c13 := Bool.eq_false_iff.mpr c13; subst c13
          replace H := ie_ H
          have H' := A_ H
          clear H
          go_wp2_with (first | ((with_reducible refine gate_callee (f:=66) rfl ?_); refine gL_ (some 19) rfl rfl Tryd.func66 rfl #[.string (a0.extract 0 (x3_1 : Int).toNat)] rfl ?_; (with_reducible refine (oculusref03_Column.calls kj2 (a0.extract 0 (x3_1 : Int).toNat) t102 true _ A8.out).mono ?_); rintro e w25 ⟨rfl, hb⟩; refine ⟨_, rfl, ?_⟩; replace B1 := bb_ B1 hb; replace HB := bs_ HB hb; (try clear hb); ) | ((with_reducible refine gd_ 4 ?_); (try (refine gate_guard (by rfl) ?_; dsimp only)); refine be_ (N:=4) (cs := #[.int .i64 0, .bool false]) (t:=102) ?_; intro g4 hg w26 hbox hb; have B4 := A_ (hbox); have GW104 := hs_ HB hg; have GE104 := hs_ HB hg; have N14 := hl_ B1 hg; have N41 := hr_ B1 hg; replace B1 := bb_ B1 hb; replace HB := bs_ HB hb; clear hb hbox hg; have hnb27 := N41.out; have hnc27 := N14.out; have ⟨hcz28_0,hcz28_1,hfz28_0,hfz28_1⟩ := z2_ B4) | ((with_reducible refine gate_callee (f:=67) rfl ?_); refine gL_ (some 23) rfl rfl Tryd.func67 rfl #[.string (a0.extract (x3_1 : Int).toNat a0.size)] rfl ?_; (with_reducible refine (oculusref03_Number.calls kj2 (a0.extract (x3_1 : Int).toNat a0.size) t105 false _ A11.out).mono ?_); rintro e w29 ⟨rfl, hb⟩; refine ⟨_, rfl, ?_⟩; replace B1 := A_ (blk_below (g:=g1) (o := .cells #[.int .i64 x102000_1, .int .i64 x102001_1, .bool x102002_1] 76 (0, 0)) (by (iterate 2 refine pf_ ?_ N14.out); exact pkx B1) hb); replace B4 := A_ (blk_below (g:=g4) (o := .cells #[.int .i64 t102, .bool true] 102 (0, 0)) (by refine pp_ (cs := #[.int .i64 t102, .bool false]) 1 ?_ rfl; refine blk_put (cs := #[.int .i64 0, .bool false]) ?_ 0 _ rfl; exact pkx B4) hb); replace HB := A_ (below_step (by repeat (first | (with_reducible first | exact HB.out | apply below_alloc | apply pw_below_drewN | apply below_drew1 | refine below_set ?_ GE101.out | refine below_set ?_ GE104.out) | exact HB.out)) hb); (try clear hb); ) | ((with_reducible refine gd_ 5 ?_); (try (refine gate_guard (by rfl) ?_; dsimp only)); refine be_ (N:=5) (cs := #[.int .i64 0, .bool false]) (t:=102) ?_; intro g7 hg w30 hbox hb; have B7 := A_ (hbox); have GW107 := hs_ HB hg; have GE107 := hs_ HB hg; have N17 := hl_ B1 hg; have N71 := hr_ B1 hg; have N47 := hl_ B4 hg; have N74 := hr_ B4 hg; replace B1 := bb_ B1 hb; replace B4 := bb_ B4 hb; replace HB := bs_ HB hb; clear hb hbox hg; have hnb31 := N71.out; have hnc31 := N17.out; have hnb32 := N74.out; have hnc32 := N47.out; have ⟨hcz33_0,hcz33_1,hfz33_0,hfz33_1⟩ := z2_ B7; have ⟨hcz34_0,hcz34_1,hfz34_0,hfz34_1⟩ := z2_ B4))
          go_roundg kj2
          case measure => have := HK1.out; have := HJ2.out; omega
          case rel => exact ⟨(wrap64 (x3_1 + 1)), (x102000_1), (x102001_1), (x102002_1), sq_, H', ⟨by have := HK1.out; have := HJ2.out; omega⟩, ⟨by (iterate 2 refine pf_ ?_ N17.out); exact pkx B1⟩, ⟨bl_⟩⟩
        ·replace c12 := Bool.eq_false_iff.mpr c12; subst c12
         replace H := ie_ H
         have H' := A_ H
         clear H
         go_wp2_with (first | ((with_reducible refine gate_callee (f:=66) rfl ?_); refine gL_ (some 19) rfl rfl Tryd.func66 rfl #[.string (a0.extract 0 (x3_1 : Int).toNat)] rfl ?_; (with_reducible refine (oculusref03_Column.calls kj2 (a0.extract 0 (x3_1 : Int).toNat) t102 false _ A8.out).mono ?_); rintro e w35 ⟨rfl, hb⟩; refine ⟨_, rfl, ?_⟩; replace B1 := bb_ B1 hb; replace HB := bs_ HB hb; (try clear hb); ) | ((with_reducible refine gd_ 4 ?_); (try (refine gate_guard (by rfl) ?_; dsimp only)); refine be_ (N:=4) (cs := #[.int .i64 0, .bool false]) (t:=102) ?_; intro g4 hg w36 hbox hb; have B4 := A_ (hbox); have GW104 := hs_ HB hg; have GE104 := hs_ HB hg; have N14 := hl_ B1 hg; have N41 := hr_ B1 hg; replace B1 := bb_ B1 hb; replace HB := bs_ HB hb; clear hb hbox hg; have hnb37 := N41.out; have hnc37 := N14.out; have ⟨hcz38_0,hcz38_1,hfz38_0,hfz38_1⟩ := z2_ B4) | ((with_reducible refine gate_callee (f:=67) rfl ?_); refine gL_ (some 23) rfl rfl Tryd.func67 rfl #[.string (a0.extract (x3_1 : Int).toNat a0.size)] rfl ?_; (with_reducible refine (oculusref03_Number.calls kj2 (a0.extract (x3_1 : Int).toNat a0.size) t105 t106 _ A11.out).mono ?_); rintro e w39 ⟨rfl, hb⟩; refine ⟨_, rfl, ?_⟩; replace B1 := A_ (blk_below (g:=g1) (o := .cells #[.int .i64 x102000_1, .int .i64 x102001_1, .bool x102002_1] 76 (0, 0)) (by (iterate 2 refine pf_ ?_ N14.out); exact pkx B1) hb); replace B4 := A_ (blk_below (g:=g4) (o := .cells #[.int .i64 t102, .bool false] 102 (0, 0)) (by refine pp_ (cs := #[.int .i64 t102, .bool false]) 1 ?_ rfl; refine blk_put (cs := #[.int .i64 0, .bool false]) ?_ 0 _ rfl; exact pkx B4) hb); replace HB := A_ (below_step (by repeat (first | (with_reducible first | exact HB.out | apply below_alloc | apply pw_below_drewN | apply below_drew1 | refine below_set ?_ GE101.out | refine below_set ?_ GE104.out) | exact HB.out)) hb); (try clear hb); ) | ((with_reducible refine gd_ 5 ?_); (try (refine gate_guard (by rfl) ?_; dsimp only)); refine be_ (N:=5) (cs := #[.int .i64 0, .bool false]) (t:=102) ?_; intro g7 hg w40 hbox hb; have B7 := A_ (hbox); have GW107 := hs_ HB hg; have GE107 := hs_ HB hg; have N17 := hl_ B1 hg; have N71 := hr_ B1 hg; have N47 := hl_ B4 hg; have N74 := hr_ B4 hg; replace B1 := bb_ B1 hb; replace B4 := bb_ B4 hb; replace HB := bs_ HB hb; clear hb hbox hg; have hnb41 := N71.out; have hnc41 := N17.out; have hnb42 := N74.out; have hnc42 := N47.out; have ⟨hcz43_0,hcz43_1,hfz43_0,hfz43_1⟩ := z2_ B7; have ⟨hcz44_0,hcz44_1,hfz44_0,hfz44_1⟩ := z2_ B4))
         go_roundg kj2
         case measure => have := HK1.out; have := HJ2.out; omega
         case rel => exact ⟨(wrap64 (x3_1 + 1)), (x102000_1), (x102001_1), (x102002_1), sq_, H', ⟨by have := HK1.out; have := HJ2.out; omega⟩, ⟨by (iterate 2 refine pf_ ?_ N17.out); exact pkx B1⟩, ⟨bl_⟩⟩
       ·rw [if_neg c7] at H
        exact absurd H (by simp)
      ·rw [if_neg c6] at H
       exact absurd H (by simp)
     ·replace c5 := Bool.eq_false_iff.mpr c5; subst c5
      replace H := ie_ H
      simp only [Option.some.injEq, Prod.mk.injEq] at H
      obtain ⟨rfl, rfl, rfl⟩ := H
      have ⟨hcz45_0,hcz45_1,hcz45_2,hfz45_0,hfz45_1,hfz45_2⟩ := z3_ B1
      go_wp2
      refine bodyPost_ret (results_cell_row rfl _ _ g1 76 #[.int .i64 0, .int .i64 0, .bool false] (0, 0) _ rfl (by refine pp_ (cs := #[.int .i64 0, .int .i64 0, .bool x102002_1]) 2 ?_ rfl; refine blk_put (cs := #[.int .i64 0, .int .i64 x102001_1, .bool x102002_1]) ?_ 1 _ rfl; refine blk_put (cs := #[.int .i64 x102000_1, .int .i64 x102001_1, .bool x102002_1]) ?_ 0 _ rfl; exact pkx B1) Tryd.underlying76 rfl (by kernel_rfl)) rfl ?_
      exact fi_ bl_

end Go.Proofs.YtajoebfkkknjhaaDoor.X
/- Operations of a region that may come up in any order, each walked once. -/
set_option linter.unusedVariables false
set_option linter.unusedSimpArgs false
namespace Go.Proofs.YtajoebfkkknjhaaDoor.X
open Go.RowKit Go.Proofs.YtajoebfkkknjhaaDoorW.PrintWords Go.Proofs.YtajoebfkkknjhaaDoorW.PrintLast Go.Proofs.YtajoebfkkknjhaaDoorW.PrintMore
def subs : List Nat → List (List Nat)
 | [] => [[]]
 | x :: xs => subs xs ++ (subs xs).map (x :: ·)
theorem filter_subs (b : Nat → Bool) : ∀ M : List Nat, M.filter b ∈ subs M
 | [] => by simp [subs]
 | x :: xs => by
  have h := filter_subs b xs
  unfold subs
  by_cases hx : b x = true
  ·rw [List.filter_cons_of_pos hx]
   exact List.mem_append_right _ (List.mem_map.2 ⟨_, h, rfl⟩)
  ·rw [List.filter_cons_of_neg hx]
   exact List.mem_append_left _ h
def mkL (base : List Bool) (M : List Nat) (b : Nat → Bool) : Array Bool := (base.mapIdx fun i x => x || (M.contains i && b i)).toArray
def ordB (md : Region.Mode) (ops : Array Oper) (ds : List Nat) (base : List Bool) (M : List Nat) : Bool :=
 (subs M).all fun D => (M.all fun i => D.contains i) || (Region.ready md ops (mkL base M D.contains) != [] && (Region.ready md ops (mkL base M D.contains)).all fun i => M.contains i && !D.contains i && !ds.contains i && decide (i < base.length) && decide (i < ops.size))
theorem mkL_congr (base : List Bool) (M : List Nat) (b b' : Nat → Bool) (h : ∀ i ∈ M, b i = b' i) : mkL base M b = mkL base M b' := by
 unfold mkL
 congr 1
 apply List.ext_getElem
 ·simp
 ·intro i h1 h2
  simp only [List.getElem_mapIdx]
  by_cases hi : M.contains i = true
  ·rw [hi, h i (by simpa using hi)]
  ·simp only [Bool.not_eq_true] at hi; rw [hi]; simp
theorem mkL_set (base : List Bool) (M : List Nat) (b : Nat → Bool) (i : Nat) (hi : i ∈ M) (hl : i < base.length) : (mkL base M b).setIfInBounds i true = mkL base M (fun j => j == i || b j) := by
 unfold mkL
 rw [List.setIfInBounds_toArray]
 congr 1
 apply List.ext_getElem
 ·simp
 ·intro j h1 h2
  rw [List.getElem_set]
  simp only [List.getElem_mapIdx]
  by_cases e : i = j
  ·subst e; simp [hi]
  ·have e2 : (j == i) = false := beq_eq_false_iff_ne.mpr (fun h => e h.symm)
   simp [e, e2]
theorem filter_less (M : List Nat) (hM : M.Nodup) (b : Nat → Bool) (i : Nat) (hi : i ∈ M) (hb : b i = false) : (M.filter fun j => !(j == i || b j)).length + 1 = (M.filter fun j => !b j).length := by
 induction M with
 | nil => cases hi
 | cons x xs ih =>
  obtain ⟨h1, h2⟩ := List.nodup_cons.1 hM
  by_cases e : x = i
  ·subst e
   have h3 : xs.filter (fun j => !(j == x || b j)) = xs.filter fun j => !b j := List.filter_congr (fun j hj => by
    have : ¬ j = x := fun e => h1 (e ▸ hj)
    simp [this])
   rw [List.filter_cons_of_neg (by simp), List.filter_cons_of_pos (by simp [hb]), h3]
   rfl
  ·have hi2 : i ∈ xs := by
    rcases List.mem_cons.1 hi with h | h
    ·exact absurd h.symm e
    ·exact h
   have h3 := ih h2 hi2
   by_cases hx : b x = true
   ·rw [List.filter_cons_of_neg (by simp [hx]), List.filter_cons_of_neg (by simp [hx])]
    exact h3
   ·rw [List.filter_cons_of_pos (by simp [hx, e]), List.filter_cons_of_pos (by simp [hx])]
    simp only [List.length_cons]
    omega
section
variable {P : Program} {md : Region.Mode} {ops : Array Oper} {Q : Exit → Act → World → Prop} {S : World → Prop} {ds : List Nat}
theorem all_ready {fuel : Nat} {listed : Array Bool} {a : Act} {w : World} : ∀ rs : List Nat, (∀ i ∈ rs, i ∉ ds ∧ ∃ o, ops[i]? = some o ∧ ∀ K : Act → World → Prop, Shut (∀ a' w', S w' → (S w' → wpAnyLast P md ops Q S ds fuel (listed.setIfInBounds i true) a' w') → K a' w') → if Region.wanted o (yielded ops a.tmps) = true then Oper.wp P o a w K Q else K (a.put o.dst undef) w) →
  AllReadyL P md ops Q S ds fuel listed a w rs
 | [], _ => AllReadyL.nil
 | i :: rs, h => by
  obtain ⟨h1, o, h2, h3⟩ := h i (by simp)
  exact AllReadyL.cons h2 h1 (fun K hK => h3 K hK) (all_ready rs (fun j hj => h j (List.mem_cons_of_mem _ hj)))
theorem free_ {base : List Bool} {M : List Nat} (f2 : Nat) (hM : M.Nodup) (hc : ordB md ops ds base M = true) (I : (Nat → Bool) → Act → World → Prop) (hS : ∀ b a w, I b a w → S w)
  (hstep : ∀ i, i ∈ M → ∀ (b : Nat → Bool) (a : Act) (w : World), b i = false → I b a w → ∀ o, ops[i]? = some o → ∀ K : Act → World → Prop, Shut (∀ a' w', I (fun j => j == i || b j) a' w' → K a' w') → if Region.wanted o (yielded ops a.tmps) = true then Oper.wp P o a w K Q else K (a.put o.dst undef) w)
  (hfin : ∀ b a w, (∀ i, i ∈ M → b i = true) → I b a w → wpAnyLast P md ops Q S ds f2 (mkL base M fun _ => true) a w) :
  ∀ (c : Nat) (b : Nat → Bool) (a : Act) (w : World), (M.filter fun j => !b j).length = c → I b a w → wpAnyLast P md ops Q S ds (f2 + c) (mkL base M b) a w
 | 0, b, a, w, hl, hI => by
  have hall : ∀ i, i ∈ M → b i = true := fun i hi => by
   have := List.filter_eq_nil_iff.1 (List.eq_nil_of_length_eq_zero hl) i hi
   simpa using this
  rw [mkL_congr base M b (fun _ => true) (fun i hi => hall i hi)]
  exact hfin b a w hall hI
 | c + 1, b, a, w, hl, hI => by
  have e : mkL base M b = mkL base M (M.filter b).contains := mkL_congr _ _ _ _ (fun i hi => by
   rw [Bool.eq_iff_iff]
   simp [hi])
  have h1 := List.all_eq_true.1 hc _ (filter_subs b M)
  simp only [Bool.or_eq_true, Bool.and_eq_true] at h1
  rw [← e] at h1
  rcases h1 with h1 | ⟨h1, h2⟩
  ·have : M.filter (fun j => !b j) = [] := List.filter_eq_nil_iff.2 (fun j hj => by
    have := List.all_eq_true.1 h1 j hj
    simp at this
    simp [this.2])
   rw [this] at hl
   cases hl
  ·refine wpAnyLast_ready (fuel := f2 + c) rfl (by simpa using h1) (all_ready _ (fun i hi => ?_))
   have h3 := List.all_eq_true.1 h2 i hi
   simp only [Bool.and_eq_true, decide_eq_true_eq, Bool.not_eq_true'] at h3
   obtain ⟨⟨⟨⟨h4, h5⟩, h6⟩, h7⟩, h8⟩ := h3
   have hi2 : i ∈ M := by simpa using h4
   have hb : b i = false := by
    cases hbi : b i with
    | false => rfl
    | true =>
     have : (M.filter b).contains i = true := by simp [hi2, hbi]
     rw [this] at h5
     cases h5
   refine ⟨by simpa using h6, ops[i], Array.getElem?_eq_getElem h8, fun K hK => ?_⟩
   refine hstep i hi2 b a w hb hI _ (Array.getElem?_eq_getElem h8) K (fun a' w' hI' => hK a' w' (hS _ _ _ hI') (fun _ => ?_))
   rw [mkL_set base M b i hi2 h7]
   exact free_ f2 hM hc I hS hstep hfin c _ a' w' (by have := filter_less M hM b i hi2 hb; omega) hI'
end
end Go.Proofs.YtajoebfkkknjhaaDoor.X
namespace Go.Proofs.YtajoebfkkknjhaaDoor.X
open Go.RowKit Go.Proofs.YtajoebfkkknjhaaDoorW.PrintWords Go.Proofs.YtajoebfkkknjhaaDoorW.PrintLast Go.Proofs.YtajoebfkkknjhaaDoorW.PrintMore
attribute [local go_sem] max2_int min2_int max_two min_two max_three min_three max_four min_four
set_option linter.unusedVariables false
set_option linter.unusedSimpArgs false
attribute [local go_sem high] eqA27
mutual
def oculusref04_Parse.l0 : Nat → ByteArray → Int → Option (Int × Int × Int × Int × Bool)
 | 0, _, _ => none
 | k + 1, x0, x4 => if x4 < (x0.size : Int) then (oculusref04_Parse.j1 k x0 x4 (decide (x4 < 10))) else (oculusref04_Parse.j1 k x0 x4 false)
def oculusref04_Parse.j1 : Nat → ByteArray → Int → Bool → Option (Int × Int × Int × Int × Bool)
 | 0, _, _, _ => none
 | k + 1, x0, x4, x25 => if x25 = true then (if 0 ≤ x4 then (if x4 < (x0.size : Int) then (if (bt x0 x4) = 58 then (if x4 ≤ (x0.size : Int) then ((oculusref03_Parse.f k (x0.extract 0 (x4 : Int).toNat)).bind fun bt106 => (if 0 ≤ (wrap64 (x4 + 1)) then (if (wrap64 (x4 + 1)) ≤ (x0.size : Int) then ((oculusref03_Parse.f k (x0.extract ((wrap64 (x4 + 1)) : Int).toNat x0.size)).bind fun bt109 => (if bt106.2.2 = true then (if bt109.2.2 = true then (if (!(bt106.1 == bt109.1) || (!(bt106.2.1 == bt109.2.1))) = true then (some (bt106.1, bt106.2.1, bt109.1, bt109.2.1, true)) else (oculusref04_Parse.l0 k x0 (wrap64 (x4 + 1)))) else (oculusref04_Parse.l0 k x0 (wrap64 (x4 + 1)))) else (oculusref04_Parse.l0 k x0 (wrap64 (x4 + 1))))) else (none)) else (none))) else (none)) else (oculusref04_Parse.l0 k x0 (wrap64 (x4 + 1)))) else (none)) else (none)) else (some (0, 0, 0, 0, false))
end
def oculusref04_Parse.f (k : Nat) (a0 : ByteArray) : Option (Int × Int × Int × Int × Bool) := (oculusref03_Parse.f k a0).bind fun bt102 => (if bt102.2.2 = true then (some (bt102.1, bt102.2.1, bt102.1, bt102.2.1, true)) else (oculusref04_Parse.l0 k a0 0))
theorem cells5 {W : World} {g : Nat} {t : TypeId} {a0 a1 a2 a3 a4 : Value} (h : W.heap[g]? = some (.cells #[a0, a1, a2, a3, a4] t (0, 0))) :
  (W.cell? ⟨g, 0, none⟩ = some a0 ∧ W.cell? ⟨g, 1, none⟩ = some a1 ∧ W.cell? ⟨g, 2, none⟩ = some a2 ∧ W.cell? ⟨g, 3, none⟩ = some a3 ∧ W.cell? ⟨g, 4, none⟩ = some a4) ∧
  (W.frozen? ⟨g, 0, none⟩ = false ∧ W.frozen? ⟨g, 1, none⟩ = false ∧ W.frozen? ⟨g, 2, none⟩ = false ∧ W.frozen? ⟨g, 3, none⟩ = false ∧ W.frozen? ⟨g, 4, none⟩ = false) :=
 ⟨⟨(blk_cell h 0).trans rfl, (blk_cell h 1).trans rfl, (blk_cell h 2).trans rfl, (blk_cell h 3).trans rfl, (blk_cell h 4).trans rfl⟩, blk_frozen h 0, blk_frozen h 1, blk_frozen h 2, blk_frozen h 3, blk_frozen h 4⟩
theorem cells3 {W : World} {g : Nat} {t : TypeId} {a0 a1 a2 : Value} (h : W.heap[g]? = some (.cells #[a0, a1, a2] t (0, 0))) : W.cell? ⟨g, 0, none⟩ = some a0 ∧ W.cell? ⟨g, 1, none⟩ = some a1 ∧ W.cell? ⟨g, 2, none⟩ = some a2 := ⟨(blk_cell h 0).trans rfl, (blk_cell h 1).trans rfl, (blk_cell h 2).trans rfl⟩
theorem put5 {W : World} {g : Nat} {t : TypeId} {a0 a1 a2 a3 a4 : Value} (h : W.heap[g]? = some (.cells #[a0, a1, a2, a3, a4] t (0, 0))) (x0 x1 x2 x3 x4 : Value) :
  (((((W.setCell ⟨g, 0, none⟩ x0).setCell ⟨g, 1, none⟩ x1).setCell ⟨g, 2, none⟩ x2).setCell ⟨g, 3, none⟩ x3).setCell ⟨g, 4, none⟩ x4).heap[g]? = some (.cells #[x0, x1, x2, x3, x4] t (0, 0)) := by
 simpa using blk_set (blk_set (blk_set (blk_set (blk_set h 0 x0) 1 x1) 2 x2) 3 x3) 4 x4
def AL (w w' : World) (g2 : Nat) (v : Value) : Prop := ∃ g, v = .pointer (some ⟨g, 0, none⟩) ∧ w.heap.size ≤ g ∧ w'.heap[g]? = some (.cells #[.int .i64 0, .int .i64 0, .bool false] 76 (0, 0)) ∧ g ≠ g2
theorem AL.below {w w' w1 : World} {g2 : Nat} {v : Value} (h : AL w w' g2 v) (hb : Below w'.heap.size w' w1) : AL w w1 g2 v := by
 obtain ⟨g, h1, h2, h3, h4⟩ := h
 exact ⟨g, h1, h2, blk_below h3 hb, h4⟩
theorem AL.new {w w' w1 : World} {g2 g : Nat} (hg : g = w'.heap.size) (hB : Below w.heap.size w w') (hz : g2 < w'.heap.size) (hx : w1.heap[g]? = some (.cells #[.int .i64 0, .int .i64 0, .bool false] 76 (0, 0))) : AL w w1 g2 (.pointer (some ⟨g, 0, none⟩)) :=
 ⟨g, rfl, by rw [hg]; exact hB.size, hx, by omega⟩
theorem AL.ne {w w' : World} {g2 g : Nat} {v : Value} (h : AL w w' g2 v) (hg : g = w'.heap.size) : v ≠ .pointer (some ⟨g, 0, none⟩) := by
 obtain ⟨g', rfl, _, h3, _⟩ := h
 have := blk_lt h3
 intro e
 injection e with e
 injection e with e
 injection e with e
 omega
theorem put3 {W : World} {g : Nat} {t : TypeId} {a0 a1 a2 : Value} (h : W.heap[g]? = some (.cells #[a0, a1, a2] t (0, 0))) (x0 x1 x2 : Value) :
  (((W.setCell ⟨g, 0, none⟩ x0).setCell ⟨g, 1, none⟩ x1).setCell ⟨g, 2, none⟩ x2).heap[g]? = some (.cells #[x0, x1, x2] t (0, 0)) := by simpa using blk_set (blk_set (blk_set h 0 x0) 1 x1) 2 x2
theorem far3 {W : World} {g g' : Nat} {t : TypeId} {cs : Array Value} (h : W.heap[g]? = some (.cells cs t (0, 0))) (hne : g ≠ g') (x0 x1 x2 : Value) :
  (((W.setCell ⟨g', 0, none⟩ x0).setCell ⟨g', 1, none⟩ x1).setCell ⟨g', 2, none⟩ x2).heap[g]? = some (.cells cs t (0, 0)) := blk_far (p := ⟨g', 2, none⟩) (blk_far (p := ⟨g', 1, none⟩) (blk_far (p := ⟨g', 0, none⟩) h hne _) hne _) hne _
theorem oculusref04_Parse.calls (k : Nat) (a0 : ByteArray) (r1 : Int) (r2 : Int) (r3 : Int) (r4 : Int) (r5 : Bool) (w : World) (h : oculusref04_Parse.f k a0 = some (r1, r2, r3, r4, r5)) :
  Calls Tryd.prog 41 #[.string a0] w fun e w' => e = .returned (.agg #[.int .i64 r1, .int .i64 r2, .int .i64 r3, .int .i64 r4, .bool r5]) ∧ Below w.heap.size w w' := by
 have hu73 := Tryd.underlying73; have hu76 := Tryd.underlying76; have hu27 := Tryd.underlying27; have hu29 := Tryd.underlying29; obtain ⟨⟨t1, t2, t3⟩, A1, H⟩ := Option.bind_eq_some_iff.mp h; have HH := A_ H; have HA := A_ A1; clear h A1 H
 go_enter Tryd.func41, Tryd.ntmps41
 go_upto_region 2 with (go_at_call 43; refine (oculusref03_Parse.calls k a0 t1 t2 t3 _ HA.out).mono ?_; rintro e w1 ⟨rfl, hb⟩)
 have hB1 : Below w.heap.size w (w1.alloc (.cells #[.int .i64 t1, .int .i64 t2, .bool t3] 76)) := below_alloc ((below_alloc (Below.refl _ _) _).trans (hb.mono (by simp))) _
 have HB := A_ hB1; have HZ := A_ (blk_alloc (blk_below (blk_new w (.cells #[.int .i64 0, .int .i64 0, .int .i64 0, .int .i64 0, .bool false] 73)) hb) (.cells #[.int .i64 t1, .int .i64 t2, .bool t3] 76)); have HO := blk_new w1 (.cells #[.int .i64 t1, .int .i64 t2, .bool t3] 76)
 have hne : w.heap.size ≠ w1.heap.size := by have := hb.size; simp at this; omega
 clear hB1 hb; generalize w1.alloc (.cells #[.int .i64 t1, .int .i64 t2, .bool t3] 76) = w2 at HB HZ HO ⊢; generalize w1.heap.size = g3 at HO hne ⊢; have HG : Aside0 (w.heap.size ≤ w.heap.size) := ⟨Nat.le_refl _⟩; generalize hg2 : w.heap.size = g2 at hne HZ ⊢; have HN := A_ hne; have HG2 := A_ hg2; clear hne hg2 w1
 cases t3 with
 | true =>
  have H := HH.out; rw [if_pos rfl] at H
  simp only [Option.some.injEq, Prod.mk.injEq] at H
  obtain ⟨rfl, rfl, rfl, rfl, rfl⟩ := H; obtain ⟨o0, o1, o2⟩ := cells3 HO; obtain ⟨⟨z0, z1, z2, z3, z4⟩, f0, f1, f2, f3, f4⟩ := cells5 HZ.out; clear HO
  go_wp2
  refine bodyPost_ret (results_cell_row rfl _ _ g2 73 #[.int .i64 t1, .int .i64 t2, .int .i64 t1, .int .i64 t2, .bool true] (0, 0) _ rfl (put5 HZ.out _ _ _ _ _) Tryd.underlying73 rfl (by kernel_rfl)) rfl ⟨rfl, ?_⟩
  have hg := Nat.le_of_eq HG2.out
  exact below_set (below_set (below_set (below_set (below_set HB.out hg) hg) hg) hg) hg
 | false =>
  have H := HH.out; rw [if_neg (by decide)] at H
  have H' := A_ H
  obtain ⟨o0, o1, o2⟩ := cells3 HO; clear H HH HO HA
  go_wp2
  go_loopg [4] k (fun kq v4 w' => ∃ x : Int, v4 = .int .i64 x ∧ Aside0 (oculusref04_Parse.l0 kq a0 x = some (r1, r2, r3, r4, r5)) ∧ Aside0 (kq ≤ k) ∧ Aside0 (w'.heap[g2]? = some (.cells #[.int .i64 0, .int .i64 0, .int .i64 0, .int .i64 0, .bool false] 73 (0, 0))) ∧ Aside0 (Below w.heap.size w w'))
  case atStart => exact ⟨0, rfl, H', ⟨Nat.le_refl _⟩, HZ, HB⟩
  case round =>
   clear H' HZ HB o0 o1 o2; obtain ⟨x, rfl, HA, HK, HZ, HB⟩ := hrel
   cases gk with
   | zero => exact absurd HA.out (by simp [oculusref04_Parse.l0])
   | succ k1 =>
    have H := HA.out; clear HA
    simp only [oculusref04_Parse.l0] at H
    go_upto_region 5 with fail
    go_cut [25] (fun v wx => ∃ bb : Bool, v = .bool bb ∧ Aside0 (oculusref04_Parse.j1 k1 a0 x bb = some (r1, r2, r3, r4, r5)) ∧ wx = wr)
    case first =>
     by_cases c1 : x < (a0.size : Int)
     ·rw [if_pos c1] at H; have HH := A_ H; have d1 : decide (x < (a0.size : Int)) = true := decide_eq_true c1; clear H c1
      go_wp2
      go_meet
      exact ⟨_, rfl, HH, rfl⟩
     ·rw [if_neg c1] at H; have HH := A_ H; have d1 : decide (x < (a0.size : Int)) = false := decide_eq_false c1; clear H c1
      go_wp2
      go_meet
      exact ⟨_, rfl, HH, rfl⟩
    case rest =>
     clear H; obtain ⟨bb, rfl, HJ, rfl⟩ := hcut; have H := HJ.out
     cases k1 with
     | zero => exact absurd H (by simp [oculusref04_Parse.j1])
     | succ k2 =>
      simp only [oculusref04_Parse.j1] at H
      clear HJ
      cases bb with
      | false =>
       rw [if_neg (by decide)] at H
       simp only [Option.some.injEq, Prod.mk.injEq] at H
       obtain ⟨rfl, rfl, rfl, rfl, rfl⟩ := H; obtain ⟨⟨z0, z1, z2, z3, z4⟩, f0, f1, f2, f3, f4⟩ := cells5 HZ.out
       go_wp2
       refine bodyPost_ret (results_cell_row rfl _ _ g2 73 #[.int .i64 0, .int .i64 0, .int .i64 0, .int .i64 0, .bool false] (0, 0) _ rfl (put5 HZ.out _ _ _ _ _) Tryd.underlying73 rfl (by kernel_rfl)) rfl ⟨rfl, ?_⟩
       have hg := Nat.le_of_eq HG2.out
       exact below_set (below_set (below_set (below_set (below_set HB.out hg) hg) hg) hg) hg
      | true =>
       rw [if_pos rfl] at H
       by_cases c2 : 0 ≤ x
       ·rw [if_pos c2] at H
        by_cases c3 : x < (a0.size : Int)
        ·rw [if_pos c3] at H
         by_cases c4 : bt a0 x = 58
         ·rw [if_pos c4] at H
          by_cases c5 : x ≤ (a0.size : Int)
          ·rw [if_pos c5] at H; obtain ⟨⟨u1, u2, u3⟩, A1, H⟩ := Option.bind_eq_some_iff.mp H
           by_cases c6 : 0 ≤ wrap64 (x + 1)
           ·rw [if_pos c6] at H
            by_cases c7 : wrap64 (x + 1) ≤ (a0.size : Int)
            ·rw [if_pos c7] at H; obtain ⟨⟨v1, v2, v3⟩, A2, H⟩ := Option.bind_eq_some_iff.mp H; have hbt := bt_at a0 x (by omega); have HH := A_ H; have HA1 := A_ A1; have HA2 := A_ A2; clear H A1 A2; have d4 : (bt a0 x != 58) = false := bne_eq_false_iff_eq.mpr c4; clear c4
             go_upto_region 8 with fail
             go_cut [5, 6] (fun v5 v6 wx => ∃ g5 g6, v5 = .pointer (some ⟨g5, 0, none⟩) ∧ v6 = .pointer (some ⟨g6, 0, none⟩) ∧ Aside0 (wx.heap[g5]? = some (.cells #[.int .i64 u1, .int .i64 u2, .bool u3] 76 (0, 0))) ∧ Aside0 (wx.heap[g6]? = some (.cells #[.int .i64 v1, .int .i64 v2, .bool v3] 76 (0, 0))) ∧ Aside0 (wx.heap[g2]? = some (.cells #[.int .i64 0, .int .i64 0, .int .i64 0, .int .i64 0, .bool false] 73 (0, 0))) ∧ Aside0 (Below w.heap.size w wx))
             case first =>
              obtain ⟨y, hy⟩ : ∃ y, wrap64 (x + 1) = y := ⟨_, rfl⟩
              have hwr : IntKind.i64.wrap (x + 1) = y := (i64_w _).trans hy
              rw [hy] at c6 c7 HA2
              clear hy
              have e0 := eq_true c2; have e1 := eq_true c5; have e2 := eq_true c6; have e3 := eq_true c7
              have HZ2 := A_ (blk_drew HZ.out); have HB2 := A_ (below_drew1 HB.out); clear c2 c3 c5 c6 c7 HZ HB d4 hbt HH HK
              refine start_ (n:=13) (S := fun w' => True) (ds := []) #[F,F,F,F,F,F,F,F,F,F,F,F,F] (by kernel_rfl) rfl rfl trivial (fun _ => ?_)
              generalize wc.drew = w4 at HZ2 HB2 ⊢; refine pure_ (i:=0) (N:=some 32) (v:=?_) (a':=?_) ⟨m_ 13 1⟩ rfl rfl (by kernel_rfl) (fun _ _ _ h=>h) (Or.inl ⟨rfl, ?_⟩) ?_ ?_; rotate_left
              ·intro w'; go_simp; with_reducible rfl
              rotate_left
              ·simp only [q_, i64_w, i32_w]; rfl
              refine pure_ (i:=1) (N:=some 33) (v:=?_) (a':=?_) ⟨m_ 13 3⟩ rfl rfl (by kernel_rfl) (fun _ _ _ h=>h) (Or.inl ⟨rfl, ?_⟩) ?_ ?_; rotate_left
              ·intro w'; go_simp; with_reducible rfl
              rotate_left
              ·simp only [q_, i64_w, i32_w]; rfl
              refine pure_ (i:=2) (N:=some 34) (v:=?_) (a':=?_) ⟨m_ 13 7⟩ rfl rfl (by kernel_rfl) (fun _ _ _ h=>h) (Or.inl ⟨rfl, ?_⟩) ?_ ?_; rotate_left
              ·intro w'; go_simp; with_reducible rfl
              rotate_left
              ·simp only [q_, i64_w, i32_w]; rfl
              refine pure_ (i:=4) (N:=some 36) (v:=?_) (a':=?_) ⟨m_ 13 23⟩ rfl rfl (by kernel_rfl) (fun _ _ _ h=>h) (Or.inl ⟨rfl, ?_⟩) ?_ ?_; rotate_left
              ·intro w'; go_simp; with_reducible rfl
              rotate_left
              ·simp only [q_, i64_w, i32_w]; rfl
              refine pure_ (i:=5) (N:=some 37) (v:=?_) (a':=?_) ⟨m_ 13 55⟩ rfl rfl (by kernel_rfl) (fun _ _ _ h=>h) (Or.inl ⟨rfl, ?_⟩) ?_ ?_; rotate_left
              ·intro w'; go_simp; with_reducible rfl
              rotate_left
              ·simp only [q_, i64_w, i32_w]; rfl
              refine pure_ (i:=6) (N:=some 38) (v:=?_) (a':=?_) ⟨m_ 13 119⟩ rfl rfl (by kernel_rfl) (fun _ _ _ h=>h) (Or.inl ⟨rfl, ?_⟩) ?_ ?_; rotate_left
              ·intro w'; go_simp; with_reducible rfl
              rotate_left
              ·simp only [q_, i64_w, i32_w]; rfl
              refine pure_ (i:=7) (N:=some 39) (v:=?_) (a':=?_) ⟨m_ 13 247⟩ rfl rfl (by kernel_rfl) (fun _ _ _ h=>h) (Or.inl ⟨rfl, ?_⟩) ?_ ?_; rotate_left
              ·intro w'; go_simp; with_reducible rfl
              rotate_left
              ·simp only [q_, i64_w, i32_w]; rfl
              generalize haf : Act.mk _ _ = af
              refine free_ (base := [true, true, true, false, true, true, true, true, false, false, false, false, false]) (M := [3, 8, 9, 10]) 2 (by decide) (by kernel_rfl) (fun b a' w' => ∃ v35 v40 v5 v6, a' = (((af.put (some 35) v35).put (some 40) v40).put (some 5) v5).put (some 6) v6 ∧ (b 3 = true → v35 = .agg #[.int .i64 u1, .int .i64 u2, .bool u3]) ∧ (b 8 = true → v40 = .agg #[.int .i64 v1, .int .i64 v2, .bool v3]) ∧ (b 9 = true → AL w w' g2 v5) ∧ (b 10 = true → AL w w' g2 v6) ∧ (b 9 = true → b 10 = true → v5 ≠ v6) ∧ w'.heap[g2]? = some (.cells #[.int .i64 0, .int .i64 0, .int .i64 0, .int .i64 0, .bool false] 73 (0, 0)) ∧ Below w.heap.size w w') (fun _ _ _ _ => trivial) ?_ ?_ 4 (fun _ => false) _ _ rfl ?_
              ·intro i hi b a' w' hb hI o ho K hK; obtain ⟨v35, v40, v5, v6, ha, h3, h8, h9, h10, h11, hz, hB⟩ := hI
               simp only [List.mem_cons, List.not_mem_nil, or_false] at hi
               subst haf
               simp only [q_] at ha
               subst ha
               rcases hi with rfl | rfl | rfl | rfl
               ·cases ho
                refine goes_ Tryd.func43 (by kernel_rfl) rfl #[.string (a0.extract 0 x.toNat)] (by rfl) rfl rfl (by (try simp only [List.map_toArray, List.map_cons, List.map_nil]); first | done | rfl) ?_; with_reducible refine (oculusref03_Parse.calls k2 (a0.extract 0 x.toNat) u1 u2 u3 _ HA1.out).mono ?_; rintro e w5 ⟨rfl, hb5⟩
                exact ⟨_, rfl, hK _ _ ⟨_, v40, v5, v6, by simp only [q_]; rfl, fun _ => rfl, fun h => h8 (by simpa using h), fun h => (h9 (by simpa using h)).below hb5, fun h => (h10 (by simpa using h)).below hb5, h11, blk_below hz hb5, below_then hB hB.size hb5⟩⟩
               ·cases ho
                refine goes_ Tryd.func43 (by kernel_rfl) rfl #[.string (a0.extract y.toNat a0.size)] (by rfl) rfl rfl (by (try simp only [List.map_toArray, List.map_cons, List.map_nil]); first | done | rfl) ?_; with_reducible refine (oculusref03_Parse.calls k2 (a0.extract y.toNat a0.size) v1 v2 v3 _ HA2.out).mono ?_; rintro e w5 ⟨rfl, hb5⟩
                exact ⟨_, rfl, hK _ _ ⟨v35, _, v5, v6, by simp only [q_]; rfl, fun h => h3 (by simpa using h), fun _ => rfl, fun h => (h9 (by simpa using h)).below hb5, fun h => (h10 (by simpa using h)).below hb5, h11, blk_below hz hb5, below_then hB hB.size hb5⟩⟩
               ·cases ho
                refine box_step ?hg (N:=5) ?hd (cs := #[.int .i64 0, .int .i64 0, .bool false]) (t:=76) ?hr ?_
                (case hd => rfl); (case hg => rfl); (case hr => first | (go_simp; done) | (go_simp; rfl)); intro g hg wb hbox hb5
                refine hK _ _ ⟨v35, v40, _, v6, by simp only [q_]; rfl, fun h => h3 (by simpa using h), fun h => h8 (by simpa using h), fun _ => AL.new hg hB (blk_lt hz) hbox, fun h => (h10 (by simpa using h)).below hb5, fun _ h => ((h10 (by simpa using h)).ne hg).symm, blk_below hz hb5, below_then hB hB.size hb5⟩
               ·cases ho
                refine box_step ?hg (N:=6) ?hd (cs := #[.int .i64 0, .int .i64 0, .bool false]) (t:=76) ?hr ?_
                (case hd => rfl); (case hg => rfl); (case hr => first | (go_simp; done) | (go_simp; rfl)); intro g hg wb hbox hb5
                refine hK _ _ ⟨v35, v40, v5, _, by simp only [q_]; rfl, fun h => h3 (by simpa using h), fun h => h8 (by simpa using h), fun h => (h9 (by simpa using h)).below hb5, fun _ => AL.new hg hB (blk_lt hz) hbox, fun h _ => (h9 (by simpa using h)).ne hg, blk_below hz hb5, below_then hB hB.size hb5⟩
              ·intro b a' w' hall hI
               obtain ⟨v35, v40, v5, v6, ha, h3, h8, h9, h10, h11, hz, hB⟩ := hI; obtain rfl := h3 (hall 3 (by simp)); obtain rfl := h8 (hall 8 (by simp)); have hne := h11 (hall 9 (by simp)) (hall 10 (by simp)); obtain ⟨g5, rfl, k5, n5, m5⟩ := h9 (hall 9 (by simp)); obtain ⟨g6, rfl, k6, n6, m6⟩ := h10 (hall 10 (by simp)); subst haf
               simp only [q_] at ha
               subst ha; clear h3 h8 h9 h10 h11 hall
               have hg : g5 ≠ g6 := fun e => hne (by rw [e])
               have hg' := Ne.symm hg
               obtain ⟨a0_, a1_, a2_⟩ := cells3 n5; obtain ⟨b0_, b1_, b2_⟩ := cells3 n6
               have fa0 := blk_frozen n5 0; have fa1 := blk_frozen n5 1; have fa2 := blk_frozen n5 2
               have fb0 := blk_frozen n6 0; have fb1 := blk_frozen n6 1; have fb2 := blk_frozen n6 2
               have HX5 := A_ n5; have HX6 := A_ n6; have HX2 := A_ hz; have HXB := A_ hB; have HXG := A_ (show (g5 ≠ g2 ∧ g6 ≠ g2 ∧ w.heap.size ≤ g5 ∧ w.heap.size ≤ g6) ∧ g5 ≠ g6 from ⟨⟨m5, m6, k5, k6⟩, hg⟩); clear n5 n6 hz hB m5 m6 k5 k6 hne; refine one_ (i:=11) (N:=none) ⟨m_ 13 4095⟩ rfl rfl (by kernel_rfl) (by decide) (fun K hK => ?_)
               refine skip_ (w1 := ?_) (by rfl) rfl ?_ ?_
               rotate_left
               ·go_simp; rfl
               refine hK.out _ _ trivial (fun _ => ?_); clear hK K; refine one_ (i:=12) (N:=none) ⟨m_ 13 8191⟩ rfl rfl (by kernel_rfl) (by decide) (fun K hK => ?_)
               refine skip_ (w1 := ?_) (by rfl) rfl ?_ ?_
               rotate_left
               ·go_simp; rfl
               refine hK.out _ _ trivial (fun _ => ?_); clear hK K
               refine done_ (by kernel_rfl) ?_
               go_wp2_with fail
               go_meet
               have hh := HXG.out
               exact ⟨g5, g6, rfl, rfl, ⟨far3 (put3 HX5.out _ _ _) hg _ _ _⟩, ⟨put3 (far3 HX6.out hg' _ _ _) _ _ _⟩, ⟨far3 (far3 HX2.out (Ne.symm hh.1.1) _ _ _) (Ne.symm hh.1.2.1) _ _ _⟩, ⟨below_set (below_set (below_set (below_set (below_set (below_set HXB.out hh.1.2.2.1) hh.1.2.2.1) hh.1.2.2.1) hh.1.2.2.2) hh.1.2.2.2) hh.1.2.2.2⟩⟩
              ·exact ⟨_, _, _, _, by subst haf; simp only [q_]; rfl, by simp, by simp, by simp, by simp, by simp, HZ2.out, HB2.out⟩
             case rest =>
              clear HZ HB d4 hbt; obtain ⟨g5, g6, rfl, rfl, H5, H6, HZ, HB⟩ := hcut; obtain ⟨a0_, a1_, a2_⟩ := cells3 H5.out; obtain ⟨b0_, b1_, b2_⟩ := cells3 H6.out
              go_upto_region 10 with fail
              clear a0_ a1_ a2_ b0_ b1_ b2_; replace H5 := blk_alloc H5.out (.cells #[.int .i64 u1, .int .i64 u2, .int .i64 v1, .int .i64 v2] 29); replace H6 := blk_alloc H6.out (.cells #[.int .i64 u1, .int .i64 u2, .int .i64 v1, .int .i64 v2] 29); replace HZ := A_ (blk_alloc HZ.out (.cells #[.int .i64 u1, .int .i64 u2, .int .i64 v1, .int .i64 v2] 29)); replace HB := A_ (below_alloc HB.out (.cells #[.int .i64 u1, .int .i64 u2, .int .i64 v1, .int .i64 v2] 29)); have H7 := blk_new wc (.cells #[.int .i64 u1, .int .i64 u2, .int .i64 v1, .int .i64 v2] 29); generalize wc.alloc (.cells #[.int .i64 u1, .int .i64 u2, .int .i64 v1, .int .i64 v2] 29) = w9 at H5 H6 HZ HB H7 ⊢; generalize wc.heap.size = g7 at H7 ⊢; obtain ⟨a0_, a1_, a2_⟩ := cells3 H5; obtain ⟨b0_, b1_, b2_⟩ := cells3 H6
              have s0 : w9.cell? ⟨g7, 0, none⟩ = some (.int .i64 u1) := (blk_cell H7 0).trans rfl
              have s1 : w9.cell? ⟨g7, 1, none⟩ = some (.int .i64 u2) := (blk_cell H7 1).trans rfl
              have s2 : w9.cell? ⟨g7, 2, none⟩ = some (.int .i64 v1) := (blk_cell H7 2).trans rfl
              have s3 : w9.cell? ⟨g7, 3, none⟩ = some (.int .i64 v2) := (blk_cell H7 3).trans rfl
              have H := HH.out
              dsimp only at H
              clear H5 H6 H7
              cases u3 with
              | false =>
               rw [if_neg (show ¬ (false = true) by decide)] at H; have HL := A_ H; clear H HH
               go_wp2
               go_roundg k2
               case measure => omega
               case rel => exact ⟨_, rfl, HL, ⟨by have := HK.out; omega⟩, HZ, HB⟩
              | true =>
               rw [if_pos rfl] at H
               cases v3 with
               | false =>
                rw [if_neg (show ¬ (false = true) by decide)] at H; have HL := A_ H; clear H HH
                go_wp2
                go_roundg k2
                case measure => omega
                case rel => exact ⟨_, rfl, HL, ⟨by have := HK.out; omega⟩, HZ, HB⟩
               | true =>
                rw [if_pos rfl] at H
                by_cases c8 : (!(u1 == v1) || (!(u2 == v2))) = true
                ·rw [if_pos c8] at H
                 simp only [Option.some.injEq, Prod.mk.injEq] at H
                 obtain ⟨rfl, rfl, rfl, rfl, rfl⟩ := H; obtain ⟨⟨z0, z1, z2, z3, z4⟩, f0, f1, f2, f3, f4⟩ := cells5 HZ.out; clear HH
                 go_wp2
                 refine bodyPost_ret (results_cell_row rfl _ _ g2 73 #[.int .i64 u1, .int .i64 u2, .int .i64 v1, .int .i64 v2, .bool true] (0, 0) _ rfl (put5 HZ.out _ _ _ _ _) Tryd.underlying73 rfl (by kernel_rfl)) rfl ⟨rfl, ?_⟩
                 have hg := Nat.le_of_eq HG2.out
                 exact below_set (below_set (below_set (below_set (below_set HB.out hg) hg) hg) hg) hg
                ·rw [if_neg c8] at H
                 replace c8 : (!(u1 == v1) || (!(u2 == v2))) = false := by simpa using c8
                 have HL := A_ H; clear H HH
                 go_wp2
                 go_roundg k2
                 case measure => omega
                 case rel => exact ⟨_, rfl, HL, ⟨by have := HK.out; omega⟩, HZ, HB⟩
            ·rw [if_neg c7] at H
             cases H
           ·rw [if_neg c6] at H
            cases H
          ·rw [if_neg c5] at H
           cases H
         ·rw [if_neg c4] at H; have hbt := bt_at a0 x (by omega); have HH := A_ H; clear H; have d4 : (bt a0 x != 58) = true := bne_iff_ne.mpr c4; clear c4
          go_wp2
          go_roundg k2
          case measure => omega
          case rel => exact ⟨_, rfl, HH, ⟨by have := HK.out; omega⟩, HZ, HB⟩
        ·rw [if_neg c3] at H
         cases H
       ·rw [if_neg c2] at H
        cases H
end Go.Proofs.YtajoebfkkknjhaaDoor.X
namespace Go.Proofs.YtajoebfkkknjhaaDoor.X
open Go.RowKit Go.Proofs.YtajoebfkkknjhaaDoorW.PrintWords Go.Proofs.YtajoebfkkknjhaaDoorW.PrintLast Go.Proofs.YtajoebfkkknjhaaDoorW.PrintMore
attribute [local go_sem] max2_int min2_int max_two min_two max_three min_three max_four min_four
set_option linter.unusedVariables false
set_option linter.unusedSimpArgs false
def oculusref44_digits.l0 : Nat → ByteArray → Int → Int → Option (Int)
 | 0, _, _, _ => none
 | k + 1, x0, x3, x4 => if x4 < (x0.size : Int) then (if x4 < 7 then (if 0 ≤ x4 then (oculusref44_digits.l0 k x0 (wrap64 ((wrap64 ((wrap64 (x3 * 10)) + (wrap64 (bt x0 x4)))) - 48)) (wrap64 (x4 + 1))) else (none)) else (if x3 < 1 then (some 0) else (if x3 > 999999 then (some 0) else ((oculusref01_Digits.f k x3).bind fun t101 => (if t101.toList = x0.toList then (some x3) else (some 0)))))) else (if x3 < 1 then (some 0) else (if x3 > 999999 then (some 0) else ((oculusref01_Digits.f k x3).bind fun t102 => (if t102.toList = x0.toList then (some x3) else (some 0)))))
def oculusref44_digits.f (k : Nat) (a0 : ByteArray) : Option (Int) := oculusref44_digits.l0 k a0 0 0
theorem oculusref44_digits.calls (k : Nat) (a0 : ByteArray) (r : Int) (w : World) (h : oculusref44_digits.f k a0 = some r) :
  Calls Tryd.prog 42 #[.string a0] w fun e w' => e = .returned (.int .i64 r) ∧ Below w.heap.size w w' := by
 have HB := A_ (Below.refl w.heap.size w)
 have H : (oculusref44_digits.l0 k a0 0 0) = some r := h
 clear h
 have H' := A_ H
 clear H
 go_enter Tryd.func42, Tryd.ntmps42
 go_wp2
 go_loopg [3, 4] k (fun kq v3 v4 w' => ∃ (x3_1 : Int) (x4_1 : Int), v3 = .int .i64 x3_1 ∧ v4 = .int .i64 x4_1 ∧ Aside0 (oculusref44_digits.l0 kq a0 x3_1 x4_1 = some r) ∧ Aside0 (kq ≤ k) ∧ Aside0 (Below w.heap.size w w'))
 case atStart => exact ⟨(0), (0), sq_, sq_, H', ⟨Nat.le_refl _⟩, ⟨pbx HB⟩⟩
 case round =>
  clear H'; obtain ⟨x3_1, x4_1, rfl, rfl, HA, HK1, HB⟩ := hrel
  cases gk with
  | zero => exact absurd HA.out (by simp [oculusref44_digits.l0])
  | succ k1 =>
   have H := HA.out; clear HA
   simp only [oculusref44_digits.l0] at H
   by_cases c2 : x4_1 < (a0.size : Int)
   ·rw [if_pos c2] at H; have c2b0 := decide_eq_true c2; clear c2
    by_cases c3 : x4_1 < 7
    ·rw [if_pos c3] at H; have c3b0 := decide_eq_true c3; clear c3
     by_cases c4 : 0 ≤ x4_1
     ·rw [if_pos c4] at H; have c4b0 := decide_eq_true c4; clear c4
      have H' := A_ H
      clear H
      have p5 : 0 ≤ (x4_1 : Int) := of_decide_eq_true as_
      have q5 : x4_1 < (a0.size : Int) := of_decide_eq_true as_
      have hx5 := bt_at a0 x4_1; replace p5 := eq_true p5; replace q5 := eq_true q5
      go_wp2
      go_roundg k1
      case measure => have := HK1.out; omega
      case rel => exact ⟨(wrap64 ((wrap64 ((wrap64 (x3_1 * 10)) + (wrap64 (bt a0 x4_1)))) - 48)), (wrap64 (x4_1 + 1)), sq_, sq_, H', ⟨by have := HK1.out; omega⟩, ⟨pbx HB⟩⟩
     ·rw [if_neg c4] at H
      exact absurd H (by simp)
    ·rw [if_neg c3] at H; have c3b0 := decide_eq_false c3; clear c3
     by_cases c6 : x3_1 < 1
     ·rw [if_pos c6] at H; have c6b0 := decide_eq_true c6; clear c6; obtain rfl := Option.some.inj H
      go_wp2
      go_ret
      exact fi_ (pbx HB)
     ·rw [if_neg c6] at H; have c6b0 := decide_eq_false c6; clear c6
      by_cases c7 : x3_1 > 999999
      ·rw [if_pos c7] at H; have c7b0 := decide_eq_true c7; clear c7; obtain rfl := Option.some.inj H
       go_wp2
       go_ret
       exact fi_ (pbx HB)
      ·rw [if_neg c7] at H; have c7b0 := decide_eq_false c7; clear c7; obtain ⟨t101, A8, H⟩ := bo_ H
       by_cases c9 : t101.toList = a0.toList
       ·rw [if_pos c9] at H; have ⟨c9b0,c9b1⟩ := e1_ c9; clear c9; obtain rfl := Option.some.inj H
        go_wp2_with (first | (go_at_call 31; (with_reducible refine (oculusref01_Digits.calls k1 x3_1 t101 _ A8.out).mono ?_); rintro e w10 ⟨rfl, hb⟩; replace HB := bs_ HB hb; ))
        go_ret
        exact fi_ (pbx HB)
       ·rw [if_neg c9] at H; have ⟨c9b0,c9b1⟩ := e0_ c9; obtain rfl := Option.some.inj H
        go_wp2_with (first | (go_at_call 31; (with_reducible refine (oculusref01_Digits.calls k1 x3_1 t101 _ A8.out).mono ?_); rintro e w11 ⟨rfl, hb⟩; replace HB := bs_ HB hb; ))
        go_ret
        exact fi_ (pbx HB)
   ·rw [if_neg c2] at H; have c2b0 := decide_eq_false c2; clear c2
    by_cases c12 : x3_1 < 1
    ·rw [if_pos c12] at H; have c12b0 := decide_eq_true c12; clear c12; obtain rfl := Option.some.inj H
     go_wp2
     go_ret
     exact fi_ (pbx HB)
    ·rw [if_neg c12] at H; have c12b0 := decide_eq_false c12; clear c12
     by_cases c13 : x3_1 > 999999
     ·rw [if_pos c13] at H; have c13b0 := decide_eq_true c13; clear c13; obtain rfl := Option.some.inj H
      go_wp2
      go_ret
      exact fi_ (pbx HB)
     ·rw [if_neg c13] at H; have c13b0 := decide_eq_false c13; clear c13; obtain ⟨t102, A14, H⟩ := bo_ H
      by_cases c15 : t102.toList = a0.toList
      ·rw [if_pos c15] at H; have ⟨c15b0,c15b1⟩ := e1_ c15; clear c15; obtain rfl := Option.some.inj H
       go_wp2_with (first | (go_at_call 31; (with_reducible refine (oculusref01_Digits.calls k1 x3_1 t102 _ A14.out).mono ?_); rintro e w16 ⟨rfl, hb⟩; replace HB := bs_ HB hb; ))
       go_ret
       exact fi_ (pbx HB)
      ·rw [if_neg c15] at H; have ⟨c15b0,c15b1⟩ := e0_ c15; obtain rfl := Option.some.inj H
       go_wp2_with (first | (go_at_call 31; (with_reducible refine (oculusref01_Digits.calls k1 x3_1 t102 _ A14.out).mono ?_); rintro e w17 ⟨rfl, hb⟩; replace HB := bs_ HB hb; ))
       go_ret
       exact fi_ (pbx HB)

mutual
def oculusref44_from.l0 : Nat → ByteArray → Int → Int → Option (ByteArray)
 | 0, _, _, _ => none
 | k + 1, x0, x1, x5 => if x1 > 0 then (oculusref44_from.j1 k x0 x1 x5 (decide (x5 < (x0.size : Int)))) else (oculusref44_from.j1 k x0 x1 x5 false)
def oculusref44_from.j1 : Nat → ByteArray → Int → Int → Bool → Option (ByteArray)
 | 0, _, _, _, _ => none
 | k + 1, x0, x1, x5, x13 => if x13 = true then (if 0 ≤ x5 then (if x5 < (x0.size : Int) then (if (bt x0 x5) = 32 then (oculusref44_from.l0 k x0 (wrap64 (x1 - 1)) (wrap64 (x5 + 1))) else (oculusref44_from.l0 k x0 x1 (wrap64 (x5 + 1)))) else (none)) else (none)) else (if 0 ≤ x5 then (if x5 ≤ (x0.size : Int) then (some (x0.extract (x5 : Int).toNat x0.size)) else (none)) else (none))
end
def oculusref44_from.f (k : Nat) (a0 : ByteArray) (a1 : Int) : Option (ByteArray) := oculusref44_from.l0 k a0 a1 0
theorem oculusref44_from.calls (k : Nat) (a0 : ByteArray) (a1 : Int) (r : ByteArray) (w : World) (h : oculusref44_from.f k a0 a1 = some r) :
  Calls Tryd.prog 44 #[.string a0, .int .i64 a1] w fun e w' => e = .returned (.string r) ∧ Drawn0 w w' := by
 have H : (oculusref44_from.l0 k a0 a1 0) = some r := h
 clear h
 have H' := A_ H
 clear H
 go_enter Tryd.func44, Tryd.ntmps44
 go_wp2
 go_loopg [1, 5] k (fun kq v1 v5 w' => ∃ (x1_1 : Int) (x5_1 : Int), v1 = .int .i64 x1_1 ∧ v5 = .int .i64 x5_1 ∧ Aside0 (oculusref44_from.l0 kq a0 x1_1 x5_1 = some r) ∧ Aside0 (kq ≤ k) ∧ Drawn0 w w')
 case atStart => exact ⟨(a1), (0), sq_, sq_, H', ⟨Nat.le_refl _⟩, dr_⟩
 case round =>
  clear H'; obtain ⟨x1_1, x5_1, rfl, rfl, HA, HK1, ⟨m1, rfl⟩⟩ := hrel
  cases gk with
  | zero => exact absurd HA.out (by simp [oculusref44_from.l0])
  | succ k1 =>
   have H := HA.out; clear HA
   simp only [oculusref44_from.l0] at H
   have HC3 := A_ H; clear H
   go_upto_region 2 with (fail)
   go_cut [13] (fun v13 wc => ∃ (kq : Nat) (x13_2 : Bool), v13 = .bool x13_2 ∧ Aside0 (oculusref44_from.j1 kq a0 x1_1 x5_1 x13_2 = some r) ∧ Aside0 (kq ≤ k1) ∧ Drawn0 w wc)
   case first =>
    have H := HC3.out; clear HC3
    by_cases c4 : x1_1 > 0
    ·rw [if_pos c4] at H; have c4b0 := decide_eq_true c4; clear c4; (first | rw [c4b0] | (simp only [i64_w, i32_w]; rw [c4b0]) | skip)
     have H' := A_ H
     clear H
     go_wp2
     go_meet
     case rel => exact ⟨_, (decide (x5_1 < (a0.size : Int))), sq_, H', ⟨by have := HK1.out; first | omega | exact Nat.le_refl _⟩, dr_⟩
    ·rw [if_neg c4] at H; have c4b0 := decide_eq_false c4; clear c4; (first | rw [c4b0] | (simp only [i64_w, i32_w]; rw [c4b0]) | skip)
     have H' := A_ H
     clear H
     go_wp2
     go_meet
     case rel => exact ⟨_, (false), sq_, H', ⟨by have := HK1.out; first | omega | exact Nat.le_refl _⟩, dr_⟩
   case rest =>
    clear HC3; obtain ⟨kq, x13_2, rfl, HA, HJ2, ⟨mc2, rfl⟩⟩ := hcut
    cases kq with
    | zero => exact absurd HA.out (by simp [oculusref44_from.j1])
    | succ kj2 =>
     have H := HA.out; clear HA
     simp only [oculusref44_from.j1] at H
     by_cases c5 : x13_2 = true
     ·subst c5
      replace H := it_ H
      by_cases c6 : 0 ≤ x5_1
      ·rw [if_pos c6] at H; have c6b0 := decide_eq_true c6; clear c6
       by_cases c7 : x5_1 < (a0.size : Int)
       ·rw [if_pos c7] at H; have c7b0 := decide_eq_true c7; clear c7
        by_cases c9 : (bt a0 x5_1) = 32
        ·rw [if_pos c9] at H; have ⟨c9b0,c9b1⟩ := e1_ c9; clear c9
         have H' := A_ H
         clear H
         have p8 : 0 ≤ (x5_1 : Int) := of_decide_eq_true as_
         have q8 : x5_1 < (a0.size : Int) := of_decide_eq_true as_
         have hx8 := bt_at a0 x5_1; replace p8 := eq_true p8; replace q8 := eq_true q8
         go_wp2
         go_roundg kj2
         case measure => have := HK1.out; have := HJ2.out; omega
         case rel => exact ⟨(wrap64 (x1_1 - 1)), (wrap64 (x5_1 + 1)), sq_, sq_, H', ⟨by have := HK1.out; have := HJ2.out; omega⟩, dr_⟩
        ·rw [if_neg c9] at H; have ⟨c9b0,c9b1⟩ := e0_ c9
         have H' := A_ H
         clear H
         have p8 : 0 ≤ (x5_1 : Int) := of_decide_eq_true as_
         have q8 : x5_1 < (a0.size : Int) := of_decide_eq_true as_
         have hx8 := bt_at a0 x5_1; replace p8 := eq_true p8; replace q8 := eq_true q8
         go_wp2
         go_roundg kj2
         case measure => have := HK1.out; have := HJ2.out; omega
         case rel => exact ⟨(x1_1), (wrap64 (x5_1 + 1)), sq_, sq_, H', ⟨by have := HK1.out; have := HJ2.out; omega⟩, dr_⟩
       ·rw [if_neg c7] at H
        exact absurd H (by simp)
      ·rw [if_neg c6] at H
       exact absurd H (by simp)
     ·replace c5 := Bool.eq_false_iff.mpr c5; subst c5
      replace H := ie_ H
      by_cases c10 : 0 ≤ x5_1
      ·rw [if_pos c10] at H; have c10b0 := eq_true c10; have c10b1 := decide_eq_true c10; clear c10
       by_cases c11 : x5_1 ≤ (a0.size : Int)
       ·rw [if_pos c11] at H; have c11b0 := eq_true c11; have c11b1 := decide_eq_true c11; clear c11; obtain rfl := Option.some.inj H
        go_wp2
        go_ret
        exact ⟨by first | rfl | (simp; done) | (simp [*]; done), dr_⟩
       ·rw [if_neg c11] at H
        exact absurd H (by simp)
      ·rw [if_neg c10] at H
       exact absurd H (by simp)

end Go.Proofs.YtajoebfkkknjhaaDoor.X
