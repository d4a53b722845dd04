/- Contracts of the functions that the law LookCounts reaches, and what they answer (a session's own texts, joined; part 6). -/
import Derived.Test.YtejkoenlfcghbaaGreatBLookCounts5
set_option maxHeartbeats 8000000
set_option maxRecDepth 100000
namespace Go.Proofs.YtejkoenlfcghbaaGreat.X
open Go.RowKit Go.Proofs.YtejkoenlfcghbaaGreatW.PrintWords Go.Proofs.YtejkoenlfcghbaaGreatW.PrintLast Go.Proofs.YtejkoenlfcghbaaGreatW.PrintMore
attribute [local go_sem] max2_int min2_int max_two min_two max_three min_three max_four min_four
set_option linter.unusedVariables false
set_option linter.unusedSimpArgs false
mutual
def oculusref17_Of.j0 : Nat → Bool → Int → Int → ByteArray → Option (Int × Int × Int × ByteArray)
 | 0, _, _, _, _ => none
 | k + 1, x19, x102000, x102001, x102002 => if x19 = true then (some (7, x102000, x102001, x102002)) else (oculusref17_Of.l0 k x102002 (([(⟨#[60, 62]⟩ : ByteArray), (⟨#[60, 61]⟩ : ByteArray), (⟨#[62, 61]⟩ : ByteArray), (⟨#[60]⟩ : ByteArray), (⟨#[62]⟩ : ByteArray), (⟨#[61]⟩ : ByteArray)] : List ByteArray)) (([8, 10, 12, 9, 11, 7] : List Int)) 0)
def oculusref17_Of.l0 : Nat → ByteArray → List ByteArray → List Int → Int → Option (Int × Int × Int × ByteArray)
 | 0, _, _, _, _ => none
 | k + 1, x3, x4, x5, x6 => if x6 < 6 then (if 0 ≤ x6 then (if x6 < (x4.length : Int) then (if (x3.size : Int) ≥ ((rdOf ByteArray.empty x4 x6).size : Int) then (if 0 ≤ ((rdOf ByteArray.empty x4 x6).size : Int) then (if ((rdOf ByteArray.empty x4 x6).size : Int) ≤ (x3.size : Int) then (if (x3.extract 0 (((rdOf ByteArray.empty x4 x6).size : Int) : Int).toNat).toList = (rdOf ByteArray.empty x4 x6).toList then (if x6 < (x5.length : Int) then ((oculusref17_read.f k (x3.extract (((rdOf ByteArray.empty x4 x6).size : Int) : Int).toNat x3.size)).bind fun bt111 => (some (rd x5 x6, bt111.1, bt111.2.1, bt111.2.2))) else (none)) else (oculusref17_Of.l0 k x3 x4 x5 (wrap64 (x6 + 1)))) else (none)) else (none)) else (oculusref17_Of.l0 k x3 x4 x5 (wrap64 (x6 + 1)))) else (none)) else (none)) else ((oculusref17_read.f k x3).bind fun bt114 => (some (7, bt114.1, bt114.2.1, bt114.2.2)))
end
def oculusref17_Of.f (k : Nat) (a0_0 : Int) (a0_1 : Int) (a0_2 : ByteArray) : Option (Int × Int × Int × ByteArray) := if a0_0 = 4 then (some (0, 0, 0, (⟨#[]⟩ : ByteArray))) else (if a0_0 = 1 then (oculusref17_Of.j0 k true a0_0 a0_1 a0_2) else (oculusref17_Of.j0 k (a0_0 == 3) a0_0 a0_1 a0_2))
def oculusref17_Of.T13 : Bool × List (List Nat × List Nat) := (true, [([], []), ([], []), ([0, 1], [0, 1]), ([2], [2]), ([], []), ([], []), ([5], [5]), ([4, 6], [4, 6]), ([7], [7]), ([3, 8], [3, 8]), ([9, 8, 0, 1, 2, 3, 4, 5, 6, 7, 8, 9], [9])])
def oculusref17_Of.B13 : List Nat := [0, 0, 3, 7, 0, 0, 32, 112, 240, 511, 1023]
theorem oculusref17_Of.tab13 : rtab .any (opsOf Tryz.f43 13) = oculusref17_Of.T13 := by kernel_rfl
theorem oculusref17_Of.bits13 : waitsOk oculusref17_Of.T13.2 oculusref17_Of.B13 = true := by kernel_rfl
theorem oculusref17_Of.calls (k : Nat) (a0_0 : Int) (a0_1 : Int) (a0_2 : ByteArray) (r1 : Int) (r2 : Int) (r3 : Int) (r4 : ByteArray) (w : World) (h : oculusref17_Of.f k a0_0 a0_1 a0_2 = some (r1, r2, r3, r4)) :
  Calls Tryz.prog 43 #[.agg #[.int .i64 a0_0, .int .i64 a0_1, .string a0_2]] w fun e w' => e = .returned (.agg #[.int .i64 r1, .int .i64 r2, .int .i64 r3, .string r4]) ∧ Below w.heap.size w w' := by
 have hu26 := Tryz.underlying26; have hu64 := Tryz.underlying64; have HB := A_ (Below.refl w.heap.size w)
 have H : (if a0_0 = 4 then (some (0, 0, 0, (⟨#[]⟩ : ByteArray))) else (if a0_0 = 1 then (oculusref17_Of.j0 k true a0_0 a0_1 a0_2) else (oculusref17_Of.j0 k (a0_0 == 3) a0_0 a0_1 a0_2))) = some (r1, r2, r3, r4) := h
 clear h
 by_cases c2 : a0_0 = 4
 ·rw [if_pos c2] at H; have ⟨c2b0,c2b1⟩ := e1_ c2; clear c2
  simp only [Option.some.injEq, Prod.mk.injEq] at H
  obtain ⟨rfl, rfl, rfl, rfl⟩ := H
  go_enter Tryz.func43, Tryz.ntmps43
  go_wp2_with (first | ((with_reducible refine gd_ 1 ?_); (try (refine gate_guard (by rfl) ?_; dsimp only)); refine be_ (N:=1) (cs := #[.int .i64 a0_0, .int .i64 a0_1, .string a0_2]) (t:=26) ?_; intro g1 hg w3 hbox hb; have B1 := A_ (hbox); have GW101 := hs_ HB hg; have GE101 := hs_ HB hg; replace HB := bs_ HB hb; clear hb hbox hg) | ((with_reducible refine gd_ 2 ?_); (try (refine gate_guard (by rfl) ?_; dsimp only)); refine be_ (N:=2) (cs := #[.int .i64 0, .int .i64 0, .int .i64 0, .string (⟨#[]⟩ : ByteArray)]) (t:=64) ?_; intro g2 hg w4 hbox hb; have B2 := A_ (hbox); have GW102 := hs_ HB hg; have GE102 := hs_ HB hg; have N12 := hl_ B1 hg; have N21 := hr_ B1 hg; replace B1 := bb_ B1 hb; replace HB := bs_ HB hb; clear hb hbox hg; have hnb5 := N12.out; have hnc5 := N21.out; have ⟨hcz6_0,hcz6_1,hcz6_2,hfz6_0,hfz6_1,hfz6_2⟩ := z3_ B1; have ⟨hcz7_0,hcz7_1,hcz7_2,hcz7_3,hfz7_0,hfz7_1,hfz7_2,hfz7_3⟩ := z4_ B2))
  refine bodyPost_ret (results_cell_row rfl _ _ g2 64 #[.int .i64 0, .int .i64 0, .int .i64 0, .string (⟨#[]⟩ : ByteArray)] (0, 0) _ rfl (by (iterate 4 apply pp_); exact pkx B2; all_goals rfl) Tryz.underlying64 rfl (by kernel_rfl)) rfl ?_
  exact fi_ bl_
 ·rw [if_neg c2] at H; have ⟨c2b0,c2b1⟩ := e0_ c2; have HC8 := A_ H; clear H
  go_enter Tryz.func43, Tryz.ntmps43
  go_upto_region 3 with (first | ((with_reducible refine gd_ 1 ?_); (try (refine gate_guard (by rfl) ?_; dsimp only)); refine be_ (N:=1) (cs := #[.int .i64 a0_0, .int .i64 a0_1, .string a0_2]) (t:=26) ?_; intro g1 hg w9 hbox hb; have B1 := A_ (hbox); have GW101 := hs_ HB hg; have GE101 := hs_ HB hg; replace HB := bs_ HB hb; clear hb hbox hg) | ((with_reducible refine gd_ 2 ?_); (try (refine gate_guard (by rfl) ?_; dsimp only)); refine be_ (N:=2) (cs := #[.int .i64 0, .int .i64 0, .int .i64 0, .string (⟨#[]⟩ : ByteArray)]) (t:=64) ?_; intro g2 hg w10 hbox hb; have B2 := A_ (hbox); have GW102 := hs_ HB hg; have GE102 := hs_ HB hg; have N12 := hl_ B1 hg; have N21 := hr_ B1 hg; replace B1 := bb_ B1 hb; replace HB := bs_ HB hb; clear hb hbox hg; have hnb11 := N12.out; have hnc11 := N21.out; have ⟨hcz12_0,hcz12_1,hcz12_2,hfz12_0,hfz12_1,hfz12_2⟩ := z3_ B1))
  (try simp only [q_])
  go_cut [19] (fun v19 wc => ∃ (kq : Nat) (x19_7 : Bool), v19 = .bool x19_7 ∧ Aside0 (oculusref17_Of.j0 kq x19_7 a0_0 a0_1 a0_2 = some (r1, r2, r3, r4)) ∧ Aside0 (kq ≤ k) ∧ Aside0 (wc.heap[g1]? = some (.cells #[.int .i64 a0_0, .int .i64 a0_1, .string a0_2] 26 (0, 0))) ∧ Aside0 (wc.heap[g2]? = some (.cells #[.int .i64 0, .int .i64 0, .int .i64 0, .string (⟨#[]⟩ : ByteArray)] 64 (0, 0))) ∧ Aside0 (Below w.heap.size w wc))
  case first =>
   have H := HC8.out; clear HC8
   by_cases c13 : a0_0 = 1
   ·rw [if_pos c13] at H; have ⟨c13b0,c13b1⟩ := e1_ c13; clear c13; (first | rw [c13b0] | (simp only [i64_w, i32_w]; rw [c13b0]) | skip)
    have H' := A_ H
    clear H; have hnb14 := N12.out; have hnc14 := N21.out
    have ⟨hcz15_0,hcz15_1,hcz15_2,hfz15_0,hfz15_1,hfz15_2⟩ := z3_ B1
    go_wp2
    go_meet
    case rel => exact ⟨_, (true), sq_, H', le_, ⟨pkx B1⟩, ⟨pkx B2⟩, ⟨pbx HB⟩⟩
   ·rw [if_neg c13] at H; have ⟨c13b0,c13b1⟩ := e0_ c13; (first | rw [c13b0] | (simp only [i64_w, i32_w]; rw [c13b0]) | skip)
    have H' := A_ H
    clear H; have hnb16 := N12.out; have hnc16 := N21.out
    have ⟨hcz17_0,hcz17_1,hcz17_2,hfz17_0,hfz17_1,hfz17_2⟩ := z3_ B1
    go_wp2
    go_meet
    case rel => exact ⟨_, ((a0_0 == 3)), sq_, H', le_, ⟨pkx B1⟩, ⟨pkx B2⟩, ⟨pbx HB⟩⟩
  case rest =>
   clear HC8; (try clear c2); (try clear c2b0); (try clear c2b1); (try clear hcz12_0); (try clear hcz12_1); (try clear hcz12_2); (try clear hfz12_0); (try clear hfz12_1); (try clear hfz12_2); obtain ⟨kq, x19_7, rfl, HA, HJ7, B1, B2, HB⟩ := hcut
   cases kq with
   | zero => exact absurd HA.out (by simp [oculusref17_Of.j0])
   | succ kj7 =>
    have H := HA.out; clear HA
    simp only [oculusref17_Of.j0] at H
    replace H := ib_ H; rcases H with ⟨rfl,H⟩|⟨rfl,H⟩
    ·simp only [Option.some.injEq, Prod.mk.injEq] at H
     obtain ⟨rfl, rfl, rfl, rfl⟩ := H; have hnb19 := N12.out; have hnc19 := N21.out
     have ⟨hcz20_0,hcz20_1,hcz20_2,hfz20_0,hfz20_1,hfz20_2⟩ := z3_ B1
     have ⟨hcz21_0,hcz21_1,hcz21_2,hcz21_3,hfz21_0,hfz21_1,hfz21_2,hfz21_3⟩ := z4_ B2
     go_wp2
     refine bodyPost_ret (results_cell_row rfl _ _ g2 64 #[.int .i64 7, .int .i64 a0_0, .int .i64 a0_1, .string a0_2] (0, 0) _ rfl (by (iterate 4 apply pp_); exact pkx B2; all_goals rfl) Tryz.underlying64 rfl (by kernel_rfl)) rfl ?_
     exact fi_ bl_
    ·obtain ⟨y103, hy103⟩ : ∃ y_ : List ByteArray, y_ = (([(⟨#[60, 62]⟩ : ByteArray), (⟨#[60, 61]⟩ : ByteArray), (⟨#[62, 61]⟩ : ByteArray), (⟨#[60]⟩ : ByteArray), (⟨#[62]⟩ : ByteArray), (⟨#[61]⟩ : ByteArray)] : List ByteArray)) := ⟨_, rfl⟩
     replace H : (oculusref17_Of.l0 kj7 a0_2 y103 (([8, 10, 12, 9, 11, 7] : List Int)) 0) = some (r1, r2, r3, r4) := by first | (rw [hy103]; with_reducible exact H) | (have H2_ := (Option.bind_some _ _).symm.trans H; rw [hy103]; with_reducible exact H2_) | (have H2_ := (Option.bind_some _ _).symm.trans H; with_reducible exact H2_) | with_reducible exact H | (rw [hy103]; exact H) | exact H
     have Ny103 := A_ hy103; clear hy103; obtain ⟨y106, hy106⟩ : ∃ y_ : List Int, y_ = (([8, 10, 12, 9, 11, 7] : List Int)) := ⟨_, rfl⟩
     replace H : (oculusref17_Of.l0 kj7 a0_2 y103 y106 0) = some (r1, r2, r3, r4) := by first | (rw [hy106]; with_reducible exact H) | (have H2_ := (Option.bind_some _ _).symm.trans H; rw [hy106]; with_reducible exact H2_) | (have H2_ := (Option.bind_some _ _).symm.trans H; with_reducible exact H2_) | with_reducible exact H | (rw [hy106]; exact H) | exact H
     have Ny106 := A_ hy106; clear hy106
     have H' := A_ H
     clear H; have hnb22 := N12.out; have hnc22 := N21.out
     have ⟨hcz23_0,hcz23_1,hcz23_2,hfz23_0,hfz23_1,hfz23_2⟩ := z3_ B1
     go_wp2_with (first | ((with_reducible refine gd_ 24 ?_); (try (refine gate_guard (by rfl) ?_; dsimp only)); refine Kd.R_lit Kd.string _ 9 ?hg (N:=24) ?hd (xs := ([(⟨#[60, 62]⟩ : ByteArray), (⟨#[60, 61]⟩ : ByteArray), (⟨#[62, 61]⟩ : ByteArray), (⟨#[60]⟩ : ByteArray), (⟨#[62]⟩ : ByteArray), (⟨#[61]⟩ : ByteArray)] : List ByteArray)) (inner := [.string (⟨#[60, 62]⟩ : ByteArray), .string (⟨#[60, 61]⟩ : ByteArray), .string (⟨#[62, 61]⟩ : ByteArray), .string (⟨#[60]⟩ : ByteArray), .string (⟨#[62]⟩ : ByteArray), .string (⟨#[61]⟩ : ByteArray)]) (ok := fun _ => True) (okp := fun _ => True) ?hr ?hp (fun _ hk => hk) trivial (Below.refl _ _) (Nat.le_refl _) (by simp) ?_; (case hd => rfl); (case hg => rfl); (case hr => first | (go_simp; done) | (go_simp; rfl)); (case hp => exact (Reps.one (show Kd.M Kd.string _ _ _ (⟨#[60, 62]⟩ : ByteArray) [.string (⟨#[60, 62]⟩ : ByteArray)] from rfl) (Reps.one (show Kd.M Kd.string _ _ _ (⟨#[60, 61]⟩ : ByteArray) [.string (⟨#[60, 61]⟩ : ByteArray)] from rfl) (Reps.one (show Kd.M Kd.string _ _ _ (⟨#[62, 61]⟩ : ByteArray) [.string (⟨#[62, 61]⟩ : ByteArray)] from rfl) (Reps.one (show Kd.M Kd.string _ _ _ (⟨#[60]⟩ : ByteArray) [.string (⟨#[60]⟩ : ByteArray)] from rfl) (Reps.one (show Kd.M Kd.string _ _ _ (⟨#[62]⟩ : ByteArray) [.string (⟨#[62]⟩ : ByteArray)] from rfl) (Reps.one (show Kd.M Kd.string _ _ _ (⟨#[61]⟩ : ByteArray) [.string (⟨#[61]⟩ : ByteArray)] from rfl) (Reps.none _ _)))))))); intro v104 w24 ho25 hb hg_ hnew_; clear hg_ hnew_; (first | rw [← Ny103.out] at ho25 | (simp only [Int.reduceToNat] at ho25; rw [← Ny103.out] at ho25)); have HO105 := A_ (Kd.R_lower ho25 (below_size (pbx HB))); replace B1 := bb_ B1 hb; replace B2 := bb_ B2 hb; replace HB := bs_ HB hb; clear hb ho25) | ((with_reducible refine gd_ 25 ?_); (try (refine gate_guard (by rfl) ?_; dsimp only)); refine Kd.R_lit (Kd.int .i64) _ 3 ?hg (N:=25) ?hd (xs := ([8, 10, 12, 9, 11, 7] : List Int)) (inner := [.int .i64 8, .int .i64 10, .int .i64 12, .int .i64 9, .int .i64 11, .int .i64 7]) (ok := fun _ => True) (okp := fun _ => True) ?hr ?hp (fun _ hk => hk) trivial (Below.refl _ _) (Nat.le_refl _) (by simp) ?_; (case hd => rfl); (case hg => rfl); (case hr => first | (go_simp; done) | (go_simp; rfl)); (case hp => exact (Reps.one (show Kd.M (Kd.int .i64) _ _ _ 8 [.int .i64 8] from rfl) (Reps.one (show Kd.M (Kd.int .i64) _ _ _ 10 [.int .i64 10] from rfl) (Reps.one (show Kd.M (Kd.int .i64) _ _ _ 12 [.int .i64 12] from rfl) (Reps.one (show Kd.M (Kd.int .i64) _ _ _ 9 [.int .i64 9] from rfl) (Reps.one (show Kd.M (Kd.int .i64) _ _ _ 11 [.int .i64 11] from rfl) (Reps.one (show Kd.M (Kd.int .i64) _ _ _ 7 [.int .i64 7] from rfl) (Reps.none _ _)))))))); intro v107 w26 ho27 hb hg_ hnew_; clear hg_ hnew_; (first | rw [← Ny106.out] at ho27 | (simp only [Int.reduceToNat] at ho27; rw [← Ny106.out] at ho27)); have HO108 := A_ (Kd.R_lower ho27 (below_size (pbx HB))); replace HO105 := A_ (Kd.R_below (ra_ HO105.out) hb); replace B1 := bb_ B1 hb; replace B2 := bb_ B2 hb; replace HB := bs_ HB hb; clear hb ho27))
     go_loopg [6] kj7 (fun kq v6 w' => ∃ (x6_2 : Int) (x103000_2 : Int) (x103001_2 : Int) (x103002_2 : Int) (x103003_2 : ByteArray), v6 = .int .i64 x6_2 ∧ Aside0 (oculusref17_Of.l0 kq a0_2 y103 y106 x6_2 = some (r1, r2, r3, r4)) ∧ Aside0 (kq ≤ kj7) ∧ Aside0 (Kd.R Kd.string 9 w' w.heap.size (fun _ => True) v104 y103) ∧ Aside0 (Kd.R (Kd.int .i64) 3 w' w.heap.size (fun _ => True) v107 y106) ∧ Aside0 (w'.heap[g1]? = some (.cells #[.int .i64 a0_0, .int .i64 a0_1, .string a0_2] 26 (0, 0))) ∧ Aside0 (w'.heap[g2]? = some (.cells #[.int .i64 x103000_2, .int .i64 x103001_2, .int .i64 x103002_2, .string x103003_2] 64 (0, 0))) ∧ Aside0 (Below w.heap.size w w'))
     case atStart => exact ⟨(0), (0), (0), (0), ((⟨#[]⟩ : ByteArray)), sq_, H', ⟨Nat.le_refl _⟩, ⟨ra_ HO105.out⟩, ⟨ra_ HO108.out⟩, ⟨pkx B1⟩, ⟨pkx B2⟩, ⟨pbx HB⟩⟩
     case round =>
      clear H'; (try clear c2); (try clear c2b0); (try clear c2b1); (try clear c18); (try clear hcz12_0); (try clear hcz12_1); (try clear hcz12_2); (try clear hcz23_0); (try clear hcz23_1); (try clear hcz23_2); (try clear hfz12_0); (try clear hfz12_1); (try clear hfz12_2)
      (try clear hfz23_0); (try clear hfz23_1); (try clear hfz23_2); obtain ⟨x6_2, x103000_2, x103001_2, x103002_2, x103003_2, rfl, HA, HK2, HO_4, HO_5, B1, B2, HB⟩ := hrel
      cases gk with
      | zero => exact absurd HA.out (by simp [oculusref17_Of.l0])
      | succ k2 =>
       have H := HA.out; clear HA
       simp only [oculusref17_Of.l0] at H
       by_cases c28 : x6_2 < 6
       ·rw [if_pos c28] at H; have c28b0 := decide_eq_true c28; clear c28
        by_cases c29 : 0 ≤ x6_2
        ·rw [if_pos c29] at H; have c29b0 := decide_eq_true c29; clear c29
         by_cases c30 : x6_2 < (y103.length : Int)
         ·rw [if_pos c30] at H; have c30b0 := decide_eq_true c30; clear c30
          by_cases c31 : (a0_2.size : Int) ≥ ((rdOf ByteArray.empty y103 x6_2).size : Int)
          ·rw [if_pos c31] at H; have c31b0 := decide_eq_true c31; have c31b1 : decide ((rdOf ByteArray.empty y103 x6_2).size ≤ a0_2.size) = true := decide_eq_true (Int.ofNat_le.mp c31); clear c31
           by_cases c32 : 0 ≤ ((rdOf ByteArray.empty y103 x6_2).size : Int)
           ·rw [if_pos c32] at H; have c32b0 := eq_true c32; have c32b1 := decide_eq_true c32; clear c32
            by_cases c33 : ((rdOf ByteArray.empty y103 x6_2).size : Int) ≤ (a0_2.size : Int)
            ·rw [if_pos c33] at H; have c33b0 := eq_true c33; have c33b1 := decide_eq_true c33; clear c33
             by_cases c34 : (a0_2.extract 0 (((rdOf ByteArray.empty y103 x6_2).size : Int) : Int).toNat).toList = (rdOf ByteArray.empty y103 x6_2).toList
             ·rw [if_pos c34] at H; have c34b0 : ((a0_2.extract 0 (((rdOf ByteArray.empty y103 x6_2).size : Int) : Int).toNat).toList == (rdOf ByteArray.empty y103 x6_2).toList) = true := beq_iff_eq.mpr c34
              try (have c34b0z := c34b0; simp only [Int.toNat_natCast] at c34b0z)
              have c34b1 : ((a0_2.extract 0 (((rdOf ByteArray.empty y103 x6_2).size : Int) : Int).toNat).toList != (rdOf ByteArray.empty y103 x6_2).toList) = false := bne_eq_false_iff_eq.mpr c34
              try (have c34b1z := c34b1; simp only [Int.toNat_natCast] at c34b1z)
              clear c34
              by_cases c35 : x6_2 < (y106.length : Int)
              ·rw [if_pos c35] at H; have c35b0 := decide_eq_true c35; clear c35; have c36b0 := eq_true (of_decide_eq_true as_ : 0 ≤ ((rdOf ByteArray.empty y103 x6_2).size : Int)); have c37b0 := eq_true (of_decide_eq_true as_ : ((rdOf ByteArray.empty y103 x6_2).size : Int) ≤ (a0_2.size : Int)); obtain ⟨⟨t111, t112, t113⟩, A38, H⟩ := bo_ H; dsimp only at H
               simp only [Option.some.injEq, Prod.mk.injEq] at H
               obtain ⟨rfl, rfl, rfl, rfl⟩ := H; obtain ⟨Ao39, co39, eo39⟩ := Kd.R_slice HO_4.out; subst eo39
               have p109 : 0 ≤ (x6_2 : Int) := of_decide_eq_true as_
               have q109 : x6_2 < (y103.length : Int) := of_decide_eq_true as_
               obtain ⟨ad109, e109, hx109_0⟩ := Kd.at_string (Kd.R_reads' HO_4.out).2.2 x6_2 p109 q109
               cases e109
               replace p109 := eq_true p109; replace q109 := eq_true q109
               try go_wp2
               (try (rw [drewN_self wr]; generalize hq_ : World.drewN wr _ = wr; have n0_ : Aside0 (Kd.R Kd.string 9 wr w.heap.size (fun _ => True) (.slice (some ad109) y103.length co39) y103) := ⟨by rw [← hq_]; exact (ra_ HO_4.out)⟩; have n1_ : Aside0 (Kd.R (Kd.int .i64) 3 wr w.heap.size (fun _ => True) v107 y106) := ⟨by rw [← hq_]; exact (ra_ HO_5.out)⟩; have n2_ : Aside0 (wr.heap[g1]? = some (.cells #[.int .i64 a0_0, .int .i64 a0_1, .string a0_2] 26 (0, 0))) := ⟨by rw [← hq_]; exact (pkx B1)⟩; have n3_ : Aside0 (wr.heap[g2]? = some (.cells #[.int .i64 x103000_2, .int .i64 x103001_2, .int .i64 x103002_2, .string x103003_2] 64 (0, 0))) := ⟨by rw [← hq_]; exact (pkx B2)⟩; have n4_ : Aside0 (Below w.heap.size w wr) := ⟨by rw [← hq_]; exact (pbx HB)⟩; clear HO_4 HO_5 B1 B2 HB hq_; have HO_4 := n0_; have HO_5 := n1_; have B1 := n2_; have B2 := n3_; have HB := n4_; clear n0_ n1_ n2_ n3_ n4_))
               replace HO_4 := A_ (Kd.R_drew HO_4.out); replace HO_5 := A_ (Kd.R_drew HO_5.out); replace B1 := A_ (blk_drew B1.out); replace B2 := A_ (blk_drew B2.out); replace HB := A_ (below_drew1 HB.out); obtain ⟨Ao41, co41, eo41⟩ := Kd.R_slice HO_5.out; (first | subst eo41 | (injection eo41 with f1_ f2_ f3_; have f4_ := f1_.symm; have f5_ := f3_.symm; clear f1_ f2_ f3_; subst f4_; subst f5_))
               have p110 : 0 ≤ (x6_2 : Int) := of_decide_eq_true as_
               have q110 : x6_2 < (y106.length : Int) := of_decide_eq_true as_
               obtain ⟨ad110, e110, hx110_0⟩ := Kd.at_int (Kd.R_reads' HO_5.out).2.2 x6_2 p110 q110
               cases e110
               replace p110 := eq_true p110; replace q110 := eq_true q110
               refine start_ (n:=11) (S := fun w' => w'.cell? (ad110.add (x6_2).toNat) = some (.int .i64 (rd y106 x6_2))) (ds := []) #[F,F,F,F,F,F,F,F,F,F,F] (by kernel_rfl) rfl rfl (hx110_0) (fun hHeld => ?_); refine with_tabW oculusref17_Of.tab13 oculusref17_Of.bits13 (fun HT_ HW_ => ?_)
               generalize wr.drew = w40 at HO_4 HO_5 B1 B2 HB hx110_0 hHeld ⊢; refine pure_ (i:=0) (N:=some 47) (v:=?_) (a':=?_) ⟨m_ 11 1⟩ rfl rfl (ao_ HT_) (fun _ _ _ h=>h) (Or.inl ⟨rfl, ?_⟩) ?_ ?_; rotate_left
               ·intro w'; go_simp; with_reducible rfl
               rotate_left
               ·simp only [q_, i64_w, i32_w]; rfl
               refine pure_ (i:=1) (N:=some 48) (v:=?_) (a':=?_) ⟨m_ 11 3⟩ rfl rfl (ao_ HT_) (fun _ _ _ h=>h) (Or.inl ⟨rfl, ?_⟩) ?_ ?_; rotate_left
               ·intro w'; go_simp; with_reducible rfl
               rotate_left
               ·simp only [q_, i64_w, i32_w]; rfl
               refine pure_ (i:=2) (N:=some 49) (v:=?_) (a':=?_) ⟨m_ 11 7⟩ rfl rfl (ao_ HT_) (fun _ _ _ h=>h) (Or.inl ⟨rfl, ?_⟩) ?_ ?_; rotate_left
               ·intro w'; go_simp; with_reducible rfl
               rotate_left
               ·simp only [q_, i64_w, i32_w]; rfl
               refine pure_ (i:=4) (N:=some 51) (v:=?_) (a':=?_) ⟨m_ 11 23⟩ rfl rfl (ao_ HT_) (fun _ _ _ h=>h) (Or.inl ⟨rfl, ?_⟩) ?_ ?_; rotate_left
               ·intro w'; go_simp; with_reducible rfl
               rotate_left
               ·simp only [q_, i64_w, i32_w]; rfl
               refine pure_ (i:=5) (N:=some 52) (v:=?_) (a':=?_) ⟨m_ 11 55⟩ rfl rfl (ao_ HT_) (fun _ _ _ h=>h) (Or.inl ⟨rfl, ?_⟩) ?_ ?_; rotate_left
               ·intro w'; go_simp; with_reducible rfl
               rotate_left
               ·simp only [q_, i64_w, i32_w]; rfl
               refine pure_ (i:=6) (N:=some 53) (v:=?_) (a':=?_) ⟨m_ 11 119⟩ rfl rfl (ao_ HT_) (fun _ _ _ h=>h) (Or.inl ⟨rfl, ?_⟩) ?_ ?_; rotate_left
               ·intro w'; go_simp; with_reducible rfl
               rotate_left
               ·simp only [q_, i64_w, i32_w]; rfl
               refine pure_ (i:=7) (N:=some 54) (v:=?_) (a':=?_) ⟨m_ 11 247⟩ rfl rfl (ao_ HT_) (fun _ _ _ h=>h) (Or.inl ⟨rfl, ?_⟩) ?_ ?_; rotate_left
               ·intro w'; go_simp; with_reducible rfl
               rotate_left
               ·simp only [q_, i64_w, i32_w]; rfl
               refine take_ (i:=3) (N:=some 50) (v:=?_) (a':=?_) ⟨m_ 11 255⟩ rfl rfl (tw_ HT_ HW_) (fun _ _ _ h=>h) (Or.inl ⟨rfl, ?_⟩) hHeld ?_ ?_; rotate_left
               ·intro w' s0; go_simp; with_reducible rfl
               rotate_left
               ·simp only [q_, i64_w, i32_w]; rfl
               refine one_ (i:=8) (N:=some 55) ⟨m_ 11 511⟩ rfl rfl (oo_ HT_) (by decide) (fun K hK => ?_); refine goes_ Tryz.func63 (by kernel_rfl) rfl #[.string (a0_2.extract (((rdOf ByteArray.empty y103 x6_2).size : Int) : Int).toNat a0_2.size)] (by rfl) rfl rfl ha_ ?_; with_reducible refine (oculusref17_read.calls k2 (a0_2.extract (((rdOf ByteArray.empty y103 x6_2).size : Int) : Int).toNat a0_2.size) t111 t112 t113 _ A38.out).mono ?_; rintro e w42 ⟨rfl, hb⟩; have HS0_ := (hb.cell (World.block_lt_of_cell? _ _ (hHeld))).trans (hHeld); refine ⟨_, rfl, ?_⟩
               replace HO_4 := A_ (Kd.R_below (ra_ HO_4.out) hb); replace HO_5 := A_ (Kd.R_below (ra_ HO_5.out) hb); replace B1 := bb_ B1 hb; replace B2 := bb_ B2 hb; replace HB := bs_ HB hb
               (try clear hb); (try clear hk); refine hK.out _ _ (HS0_) (fun hHeld => ?_); clear hK K; refine norm_ (a':=?_) ?_ ?_; rotate_left
               ·show Act.put _ (some 55) _ = _; simp only [q_, i64_w, i32_w]; rfl
               refine pure_ (i:=9) (N:=some 56) (v:=?_) (a':=?_) ⟨m_ 11 1023⟩ rfl rfl (ao_ HT_) (fun _ _ _ h=>h) (Or.inl ⟨rfl, ?_⟩) ?_ ?_; rotate_left
               ·intro w'; go_simp; with_reducible rfl
               rotate_left
               ·simp only [q_, i64_w, i32_w]; rfl
               refine one_ (i:=10) (N:=none) ⟨m_ 11 2047⟩ rfl rfl (oo_ HT_) (by decide) (fun K hK => ?_)
               have hs43 : w42.cell? ⟨g2, 0, none⟩ = some (.int .i64 x103000_2) := bc_ B2 0 rfl
               have hfs43 := blk_frozen B2.out 0; have hns43_0 := N12.out; have hms43_0 := N21.out
               have hs44 : w42.cell? ⟨g2, 1, none⟩ = some (.int .i64 x103001_2) := bc_ B2 1 rfl
               have hfs44 := blk_frozen B2.out 1; have hns44_0 := N12.out; have hms44_0 := N21.out
               have hs45 : w42.cell? ⟨g2, 2, none⟩ = some (.int .i64 x103002_2) := bc_ B2 2 rfl
               have hfs45 := blk_frozen B2.out 2; have hns45_0 := N12.out; have hms45_0 := N21.out
               have hs46 : w42.cell? ⟨g2, 3, none⟩ = some (.string x103003_2) := bc_ B2 3 rfl
               have hfs46 := blk_frozen B2.out 3; have hns46_0 := N12.out; have hms46_0 := N21.out
               refine skip_ (w1 := ?_) (by rfl) rfl ?_ ?_
               rotate_left
               ·go_simp; rfl
               refine hK.out _ _ (((cell_far (p := ⟨g2, _, none⟩) (by first | exact Kd.own_blk (Kd.R_ne HO_5.out B2.out (by decide)) | (rw [add_block]; exact Kd.own_blk (Kd.R_ne HO_5.out B2.out (by decide))) | (show (Addr.add _ _).block ≠ _; rw [add_block]; exact Kd.own_blk (Kd.R_ne HO_5.out B2.out (by decide))) | (dsimp only; exact Kd.own_blk (Kd.R_ne HO_5.out B2.out (by decide)))) _).trans (((cell_far (p := ⟨g2, _, none⟩) (by first | exact Kd.own_blk (Kd.R_ne HO_5.out B2.out (by decide)) | (rw [add_block]; exact Kd.own_blk (Kd.R_ne HO_5.out B2.out (by decide))) | (show (Addr.add _ _).block ≠ _; rw [add_block]; exact Kd.own_blk (Kd.R_ne HO_5.out B2.out (by decide))) | (dsimp only; exact Kd.own_blk (Kd.R_ne HO_5.out B2.out (by decide)))) _).trans (((cell_far (p := ⟨g2, _, none⟩) (by first | exact Kd.own_blk (Kd.R_ne HO_5.out B2.out (by decide)) | (rw [add_block]; exact Kd.own_blk (Kd.R_ne HO_5.out B2.out (by decide))) | (show (Addr.add _ _).block ≠ _; rw [add_block]; exact Kd.own_blk (Kd.R_ne HO_5.out B2.out (by decide))) | (dsimp only; exact Kd.own_blk (Kd.R_ne HO_5.out B2.out (by decide)))) _).trans (((cell_far (p := ⟨g2, _, none⟩) (by first | exact Kd.own_blk (Kd.R_ne HO_5.out B2.out (by decide)) | (rw [add_block]; exact Kd.own_blk (Kd.R_ne HO_5.out B2.out (by decide))) | (show (Addr.add _ _).block ≠ _; rw [add_block]; exact Kd.own_blk (Kd.R_ne HO_5.out B2.out (by decide))) | (dsimp only; exact Kd.own_blk (Kd.R_ne HO_5.out B2.out (by decide)))) _).trans (hHeld))))))))) (fun hHeld => ?_)
               clear hK K
               refine done_ (done_of HT_.out (by kernel_rfl)) ?_
               try go_wp2
               refine bodyPost_ret (results_cell_row rfl _ _ g2 64 #[.int .i64 (rd y106 x6_2), .int .i64 t111, .int .i64 t112, .string t113] (0, 0) _ rfl (by refine pp_ (cs := #[.int .i64 (rd y106 x6_2), .int .i64 t111, .int .i64 t112, .string x103003_2]) 3 ?_ rfl; refine blk_put (cs := #[.int .i64 (rd y106 x6_2), .int .i64 t111, .int .i64 x103002_2, .string x103003_2]) ?_ 2 _ rfl; refine blk_put (cs := #[.int .i64 (rd y106 x6_2), .int .i64 x103001_2, .int .i64 x103002_2, .string x103003_2]) ?_ 1 _ rfl; refine blk_put (cs := #[.int .i64 x103000_2, .int .i64 x103001_2, .int .i64 x103002_2, .string x103003_2]) ?_ 0 _ rfl; exact pkx B2) Tryz.underlying64 rfl (by kernel_rfl)) rfl ?_
               exact fi_ bl_
              ·rw [if_neg c35] at H
               exact absurd H (by simp)
             ·rw [if_neg c34] at H; have c34b0 : ((a0_2.extract 0 (((rdOf ByteArray.empty y103 x6_2).size : Int) : Int).toNat).toList == (rdOf ByteArray.empty y103 x6_2).toList) = false := beq_eq_false_iff_ne.mpr c34
              try (have c34b0z := c34b0; simp only [Int.toNat_natCast] at c34b0z)
              have c34b1 : ((a0_2.extract 0 (((rdOf ByteArray.empty y103 x6_2).size : Int) : Int).toNat).toList != (rdOf ByteArray.empty y103 x6_2).toList) = true := bne_iff_ne.mpr c34
              try (have c34b1z := c34b1; simp only [Int.toNat_natCast] at c34b1z)
              have H' := A_ H
              clear H; obtain ⟨Ao47, co47, eo47⟩ := Kd.R_slice HO_4.out; subst eo47
              have p109 : 0 ≤ (x6_2 : Int) := of_decide_eq_true as_
              have q109 : x6_2 < (y103.length : Int) := of_decide_eq_true as_
              obtain ⟨ad109, e109, hx109_0⟩ := Kd.at_string (Kd.R_reads' HO_4.out).2.2 x6_2 p109 q109
              cases e109
              replace p109 := eq_true p109; replace q109 := eq_true q109
              go_wp2
              go_roundg k2
              case measure => have := HJ7.out; have := HK2.out; omega
              case rel => exact ⟨(wrap64 (x6_2 + 1)), (x103000_2), (x103001_2), (x103002_2), (x103003_2), sq_, H', ⟨by have := HJ7.out; have := HK2.out; omega⟩, ⟨ra_ HO_4.out⟩, ⟨ra_ HO_5.out⟩, ⟨pkx B1⟩, ⟨pkx B2⟩, ⟨pbx HB⟩⟩
            ·rw [if_neg c33] at H
             exact absurd H (by simp)
           ·rw [if_neg c32] at H
            exact absurd H (by simp)
          ·rw [if_neg c31] at H; have c31b0 := decide_eq_false c31; have c31b1 : decide ((rdOf ByteArray.empty y103 x6_2).size ≤ a0_2.size) = false := decide_eq_false (fun h => c31 (Int.ofNat_le.mpr h)); clear c31
           have H' := A_ H
           clear H; obtain ⟨Ao48, co48, eo48⟩ := Kd.R_slice HO_4.out; subst eo48
           have p109 : 0 ≤ (x6_2 : Int) := of_decide_eq_true as_
           have q109 : x6_2 < (y103.length : Int) := of_decide_eq_true as_
           obtain ⟨ad109, e109, hx109_0⟩ := Kd.at_string (Kd.R_reads' HO_4.out).2.2 x6_2 p109 q109
           cases e109
           replace p109 := eq_true p109; replace q109 := eq_true q109
           go_wp2
           go_roundg k2
           case measure => have := HJ7.out; have := HK2.out; omega
           case rel => exact ⟨(wrap64 (x6_2 + 1)), (x103000_2), (x103001_2), (x103002_2), (x103003_2), sq_, H', ⟨by have := HJ7.out; have := HK2.out; omega⟩, ⟨ra_ HO_4.out⟩, ⟨ra_ HO_5.out⟩, ⟨pkx B1⟩, ⟨pkx B2⟩, ⟨pbx HB⟩⟩
         ·rw [if_neg c30] at H
          exact absurd H (by simp)
        ·rw [if_neg c29] at H
         exact absurd H (by simp)
       ·rw [if_neg c28] at H; have c28b0 := decide_eq_false c28; clear c28; obtain ⟨⟨t114, t115, t116⟩, A49, H⟩ := bo_ H; dsimp only at H
        simp only [Option.some.injEq, Prod.mk.injEq] at H
        obtain ⟨rfl, rfl, rfl, rfl⟩ := H
        go_wp2_with (first | ((with_reducible refine gate_callee (f:=63) rfl ?_); refine gL_ (some 58) rfl rfl Tryz.func63 rfl #[.string a0_2] rfl ?_; (with_reducible refine (oculusref17_read.calls k2 a0_2 t114 t115 t116 _ A49.out).mono ?_); rintro e w50 ⟨rfl, hb⟩; refine ⟨_, rfl, ?_⟩; replace HO_4 := A_ (Kd.R_below (ra_ HO_4.out) hb); replace HO_5 := A_ (Kd.R_below (ra_ HO_5.out) hb); replace B1 := bb_ B1 hb; replace B2 := bb_ B2 hb; replace HB := bs_ HB hb; (try clear hb); (try clear hk); have hnb51 := N21.out; have hnc51 := N12.out; have ⟨hcz52_0,hcz52_1,hcz52_2,hcz52_3,hfz52_0,hfz52_1,hfz52_2,hfz52_3⟩ := z4_ B2))
        refine bodyPost_ret (results_cell_row rfl _ _ g2 64 #[.int .i64 7, .int .i64 t114, .int .i64 t115, .string t116] (0, 0) _ rfl (by refine pp_ (cs := #[.int .i64 7, .int .i64 t114, .int .i64 t115, .string x103003_2]) 3 ?_ rfl; refine blk_put (cs := #[.int .i64 7, .int .i64 t114, .int .i64 x103002_2, .string x103003_2]) ?_ 2 _ rfl; refine blk_put (cs := #[.int .i64 7, .int .i64 x103001_2, .int .i64 x103002_2, .string x103003_2]) ?_ 1 _ rfl; refine blk_put (cs := #[.int .i64 x103000_2, .int .i64 x103001_2, .int .i64 x103002_2, .string x103003_2]) ?_ 0 _ rfl; exact pkx B2) Tryz.underlying64 rfl (by kernel_rfl)) rfl ?_
        exact fi_ bl_

mutual
def oculusref12_Less.l0 : Nat → ByteArray → ByteArray → Int → Option (Bool)
 | 0, _, _, _ => none
 | k + 1, x0, x1, x5 => if x5 < (x0.size : Int) then (oculusref12_Less.j1 k x0 x1 x5 (decide (x5 < (x1.size : Int)))) else (oculusref12_Less.j1 k x0 x1 x5 false)
def oculusref12_Less.j1 : Nat → ByteArray → ByteArray → Int → Bool → Option (Bool)
 | 0, _, _, _, _ => none
 | k + 1, x0, x1, x5, x15 => if x15 = true then (if 0 ≤ x5 then (if x5 < (x0.size : Int) then (if x5 < (x1.size : Int) then (if (bt x0 x5) = (bt x1 x5) then (oculusref12_Less.l0 k x0 x1 (wrap64 (x5 + 1))) else (some (decide ((bt x0 x5) < (bt x1 x5))))) else (none)) else (none)) else (none)) else (some (decide ((x0.size : Int) < (x1.size : Int))))
end
def oculusref12_Less.f (k : Nat) (a0 : ByteArray) (a1 : ByteArray) : Option (Bool) := oculusref12_Less.l0 k a0 a1 0
theorem oculusref12_Less.calls (k : Nat) (a0 : ByteArray) (a1 : ByteArray) (r : Bool) (w : World) (h : oculusref12_Less.f k a0 a1 = some r) :
  Calls Tryz.prog 92 #[.string a0, .string a1] w fun e w' => e = .returned (.bool r) ∧ Drawn0 w w' := by
 have H : (oculusref12_Less.l0 k a0 a1 0) = some r := h
 clear h
 have H' := A_ H
 clear H
 go_enter Tryz.func92, Tryz.ntmps92
 go_wp2
 repeat (go_quiet (fail); try go_wp2)
 go_loopg [5] k (fun kq v5 w' => ∃ (x5_1 : Int), v5 = .int .i64 x5_1 ∧ Aside0 (oculusref12_Less.l0 kq a0 a1 x5_1 = some r) ∧ Aside0 (kq ≤ k) ∧ Drawn0 w w')
 case atStart => exact ⟨(0), sq_, H', ⟨Nat.le_refl _⟩, dr_⟩
 case round =>
  clear H'; obtain ⟨x5_1, rfl, HA, HK1, ⟨m1, rfl⟩⟩ := hrel
  cases gk with
  | zero => exact absurd HA.out (by simp [oculusref12_Less.l0])
  | succ k1 =>
   have H := HA.out; clear HA
   simp only [oculusref12_Less.l0] at H
   have HC3 := A_ H; clear H
   go_upto_region 2 with (fail)
   repeat (go_quiet (fail); go_upto_region 2 with (fail))
   go_cut [15] (fun v15 wc => ∃ (kq : Nat) (x15_2 : Bool), v15 = .bool x15_2 ∧ Aside0 (oculusref12_Less.j1 kq a0 a1 x5_1 x15_2 = some r) ∧ Aside0 (kq ≤ k1) ∧ Drawn0 w wc)
   case first =>
    have H := HC3.out; clear HC3
    by_cases c4 : x5_1 < (a0.size : Int)
    ·rw [if_pos c4] at H; have c4b0 := decide_eq_true c4; clear c4; (first | rw [c4b0] | (simp only [i64_w, i32_w]; rw [c4b0]) | skip)
     have H' := A_ H
     clear H
     go_wp2
     repeat (go_quiet (fail); try go_wp2)
     go_meet
     case rel => exact ⟨_, (decide (x5_1 < (a1.size : Int))), sq_, H', ⟨by have := HK1.out; first | omega | exact Nat.le_refl _⟩, dr_⟩
    ·rw [if_neg c4] at H; have c4b0 := decide_eq_false c4; clear c4; (first | rw [c4b0] | (simp only [i64_w, i32_w]; rw [c4b0]) | skip)
     have H' := A_ H
     clear H
     go_wp2
     repeat (go_quiet (fail); try go_wp2)
     go_meet
     case rel => exact ⟨_, (false), sq_, H', ⟨by have := HK1.out; first | omega | exact Nat.le_refl _⟩, dr_⟩
   case rest =>
    clear HC3; obtain ⟨kq, x15_2, rfl, HA, HJ2, ⟨mc2, rfl⟩⟩ := hcut
    cases kq with
    | zero => exact absurd HA.out (by simp [oculusref12_Less.j1])
    | succ kj2 =>
     have H := HA.out; clear HA
     simp only [oculusref12_Less.j1] at H
     replace H := ib_ H; rcases H with ⟨rfl,H⟩|⟨rfl,H⟩
     ·by_cases c6 : 0 ≤ x5_1
      ·rw [if_pos c6] at H; have c6b0 := decide_eq_true c6; clear c6
       by_cases c7 : x5_1 < (a0.size : Int)
       ·rw [if_pos c7] at H; have c7b0 := decide_eq_true c7; clear c7
        by_cases c9 : x5_1 < (a1.size : Int)
        ·rw [if_pos c9] at H; have c9b0 := decide_eq_true c9; clear c9
         by_cases c11 : (bt a0 x5_1) = (bt a1 x5_1)
         ·rw [if_pos c11] at H; have ⟨c11b0,c11b1⟩ := e1_ c11; clear c11
          have H' := A_ H
          clear H
          have p8 : 0 ≤ (x5_1 : Int) := of_decide_eq_true as_
          have q8 : x5_1 < (a0.size : Int) := of_decide_eq_true as_
          have hx8 := bt_at a0 x5_1; replace p8 := eq_true p8; replace q8 := eq_true q8
          have p10 : 0 ≤ (x5_1 : Int) := of_decide_eq_true as_
          have q10 : x5_1 < (a1.size : Int) := of_decide_eq_true as_
          have hx10 := bt_at a1 x5_1; replace p10 := eq_true p10; replace q10 := eq_true q10
          go_wp2
          repeat (go_quiet (fail); try go_wp2)
          go_roundg kj2
          case measure => have := HK1.out; have := HJ2.out; omega
          case rel => exact ⟨(wrap64 (x5_1 + 1)), sq_, H', ⟨by have := HK1.out; have := HJ2.out; omega⟩, dr_⟩
         ·rw [if_neg c11] at H; have ⟨c11b0,c11b1⟩ := e0_ c11; obtain rfl := Option.some.inj H
          have p8 : 0 ≤ (x5_1 : Int) := of_decide_eq_true as_
          have q8 : x5_1 < (a0.size : Int) := of_decide_eq_true as_
          have hx8 := bt_at a0 x5_1; replace p8 := eq_true p8; replace q8 := eq_true q8
          have p10 : 0 ≤ (x5_1 : Int) := of_decide_eq_true as_
          have q10 : x5_1 < (a1.size : Int) := of_decide_eq_true as_
          have hx10 := bt_at a1 x5_1; replace p10 := eq_true p10; replace q10 := eq_true q10
          have p12 : 0 ≤ (x5_1 : Int) := of_decide_eq_true as_
          have q12 : x5_1 < (a0.size : Int) := of_decide_eq_true as_
          have hx12 := bt_at a0 x5_1; replace p12 := eq_true p12; replace q12 := eq_true q12
          have p13 : 0 ≤ (x5_1 : Int) := of_decide_eq_true as_
          have q13 : x5_1 < (a1.size : Int) := of_decide_eq_true as_
          have hx13 := bt_at a1 x5_1; replace p13 := eq_true p13; replace q13 := eq_true q13
          go_wp2
          repeat (go_quiet (fail); try go_wp2)
          go_ret
          exact ⟨by first | rfl | (simp; done) | (simp [*]; done), dr_⟩
        ·rw [if_neg c9] at H
         exact absurd H (by simp)
       ·rw [if_neg c7] at H
        exact absurd H (by simp)
      ·rw [if_neg c6] at H
       exact absurd H (by simp)
     ·obtain rfl := Option.some.inj H
      go_wp2
      repeat (go_quiet (fail); try go_wp2)
      go_ret
      exact ⟨by first | rfl | (simp; done) | (simp [*]; done), dr_⟩

mutual
def oculusref12_ahead.j0 : Nat → Int → Int → Int → Int → ByteArray → Int → Int → ByteArray → Option (Bool)
 | 0, _, _, _, _, _, _, _, _ => none
 | k + 1, x5, x6, x102000, x102001, x102002, x103000, x103001, x103002 => if x6 = 0 then (oculusref12_ahead.j1 k x5 x5 x102000 x102001 x102002 x103000 x103001 x103002) else (oculusref12_ahead.j1 k x5 x6 x102000 x102001 x102002 x103000 x103001 x103002)
def oculusref12_ahead.j1 : Nat → Int → Int → Int → Int → ByteArray → Int → Int → ByteArray → Option (Bool)
 | 0, _, _, _, _, _, _, _, _ => none
 | k + 1, x5, x6, x102000, x102001, x102002, x103000, x103001, x103002 => if x5 = x6 then (if x102001 < x103001 then (some true) else ((oculusref12_Less.f k x102002 x103002).bind fun t103 => (some t103))) else (some (decide (x5 < x6)))
end
def oculusref12_ahead.f (k : Nat) (a0_0 : Int) (a0_1 : Int) (a0_2 : ByteArray) (a1_0 : Int) (a1_1 : Int) (a1_2 : ByteArray) : Option (Bool) := if a0_0 = 0 then (oculusref12_ahead.j0 k a1_0 a1_0 a0_0 a0_1 a0_2 a1_0 a1_1 a1_2) else (oculusref12_ahead.j0 k a0_0 a1_0 a0_0 a0_1 a0_2 a1_0 a1_1 a1_2)
theorem oculusref12_ahead.calls (k : Nat) (a0_0 : Int) (a0_1 : Int) (a0_2 : ByteArray) (a1_0 : Int) (a1_1 : Int) (a1_2 : ByteArray) (r : Bool) (w : World) (h : oculusref12_ahead.f k a0_0 a0_1 a0_2 a1_0 a1_1 a1_2 = some r) :
  Calls Tryz.prog 80 #[.agg #[.int .i64 a0_0, .int .i64 a0_1, .string a0_2], .agg #[.int .i64 a1_0, .int .i64 a1_1, .string a1_2]] w fun e w' => e = .returned (.bool r) ∧ Below w.heap.size w w' := by
 have hu26 := Tryz.underlying26; have HB := A_ (Below.refl w.heap.size w)
 have H : (if a0_0 = 0 then (oculusref12_ahead.j0 k a1_0 a1_0 a0_0 a0_1 a0_2 a1_0 a1_1 a1_2) else (oculusref12_ahead.j0 k a0_0 a1_0 a0_0 a0_1 a0_2 a1_0 a1_1 a1_2)) = some r := h
 clear h; have HC3 := A_ H; clear H
 go_enter Tryz.func80, Tryz.ntmps80
 go_upto_if 12 with (first | ((with_reducible refine gd_ 2 ?_); refine be_ (N:=2) (cs := #[.int .i64 a0_0, .int .i64 a0_1, .string a0_2]) (t:=26) ?_; intro g1 hg w4 hbox hb; have B1 := A_ (hbox); replace HB := bs_ HB hb; clear hb hbox hg) | ((with_reducible refine gd_ 3 ?_); refine be_ (N:=3) (cs := #[.int .i64 a1_0, .int .i64 a1_1, .string a1_2]) (t:=26) ?_; intro g2 hg w5 hbox hb; have B2 := A_ (hbox); replace B1 := bb_ B1 hb; replace HB := bs_ HB hb; clear hb hbox hg; have hcz6_0 : w5.cell? ⟨g1, 0, none⟩ = some (.int .i64 a0_0) := bc_ B1 0 rfl; have hcz6_1 : w5.cell? ⟨g1, 1, none⟩ = some (.int .i64 a0_1) := bc_ B1 1 rfl; have hcz6_2 : w5.cell? ⟨g1, 2, none⟩ = some (.string a0_2) := bc_ B1 2 rfl; have hcz7_0 : w5.cell? ⟨g2, 0, none⟩ = some (.int .i64 a1_0) := bc_ B2 0 rfl; have hcz7_1 : w5.cell? ⟨g2, 1, none⟩ = some (.int .i64 a1_1) := bc_ B2 1 rfl; have hcz7_2 : w5.cell? ⟨g2, 2, none⟩ = some (.string a1_2) := bc_ B2 2 rfl))
 repeat (go_quiet (first | ((with_reducible refine gd_ 2 ?_); refine be_ (N:=2) (cs := #[.int .i64 a0_0, .int .i64 a0_1, .string a0_2]) (t:=26) ?_; intro g1 hg w4 hbox hb; have B1 := A_ (hbox); replace HB := bs_ HB hb; clear hb hbox hg) | ((with_reducible refine gd_ 3 ?_); refine be_ (N:=3) (cs := #[.int .i64 a1_0, .int .i64 a1_1, .string a1_2]) (t:=26) ?_; intro g2 hg w5 hbox hb; have B2 := A_ (hbox); replace B1 := bb_ B1 hb; replace HB := bs_ HB hb; clear hb hbox hg; have hcz6_0 : w5.cell? ⟨g1, 0, none⟩ = some (.int .i64 a0_0) := bc_ B1 0 rfl; have hcz6_1 : w5.cell? ⟨g1, 1, none⟩ = some (.int .i64 a0_1) := bc_ B1 1 rfl; have hcz6_2 : w5.cell? ⟨g1, 2, none⟩ = some (.string a0_2) := bc_ B1 2 rfl; have hcz7_0 : w5.cell? ⟨g2, 0, none⟩ = some (.int .i64 a1_0) := bc_ B2 0 rfl; have hcz7_1 : w5.cell? ⟨g2, 1, none⟩ = some (.int .i64 a1_1) := bc_ B2 1 rfl; have hcz7_2 : w5.cell? ⟨g2, 2, none⟩ = some (.string a1_2) := bc_ B2 2 rfl)); go_upto_if 12 with (first | ((with_reducible refine gd_ 2 ?_); refine be_ (N:=2) (cs := #[.int .i64 a0_0, .int .i64 a0_1, .string a0_2]) (t:=26) ?_; intro g1 hg w4 hbox hb; have B1 := A_ (hbox); replace HB := bs_ HB hb; clear hb hbox hg) | ((with_reducible refine gd_ 3 ?_); refine be_ (N:=3) (cs := #[.int .i64 a1_0, .int .i64 a1_1, .string a1_2]) (t:=26) ?_; intro g2 hg w5 hbox hb; have B2 := A_ (hbox); replace B1 := bb_ B1 hb; replace HB := bs_ HB hb; clear hb hbox hg; have hcz6_0 : w5.cell? ⟨g1, 0, none⟩ = some (.int .i64 a0_0) := bc_ B1 0 rfl; have hcz6_1 : w5.cell? ⟨g1, 1, none⟩ = some (.int .i64 a0_1) := bc_ B1 1 rfl; have hcz6_2 : w5.cell? ⟨g1, 2, none⟩ = some (.string a0_2) := bc_ B1 2 rfl; have hcz7_0 : w5.cell? ⟨g2, 0, none⟩ = some (.int .i64 a1_0) := bc_ B2 0 rfl; have hcz7_1 : w5.cell? ⟨g2, 1, none⟩ = some (.int .i64 a1_1) := bc_ B2 1 rfl; have hcz7_2 : w5.cell? ⟨g2, 2, none⟩ = some (.string a1_2) := bc_ B2 2 rfl)))
 (try simp only [q_])
 go_cut [5] (fun v5 wc => ∃ (kq : Nat) (x5_2 : Int), v5 = .int .i64 x5_2 ∧ Aside0 (oculusref12_ahead.j0 kq x5_2 a1_0 a0_0 a0_1 a0_2 a1_0 a1_1 a1_2 = some r) ∧ Aside0 (kq ≤ k) ∧ Aside0 (wc.heap[g1]? = some (.cells #[.int .i64 a0_0, .int .i64 a0_1, .string a0_2] 26 (0, 0))) ∧ Aside0 (wc.heap[g2]? = some (.cells #[.int .i64 a1_0, .int .i64 a1_1, .string a1_2] 26 (0, 0))) ∧ Aside0 (Below w.heap.size w wc))
 case first =>
  have H := HC3.out; clear HC3
  by_cases c8 : a0_0 = 0
  ·rw [if_pos c8] at H; have ⟨c8b0,c8b1⟩ := e1_ c8; clear c8; (first | rw [c8b0] | (simp only [i64_w, i32_w]; rw [c8b0]) | skip)
   have H' := A_ H
   clear H
   go_wp2
   repeat (go_quiet (fail); try go_wp2)
   go_meet
   case rel => exact ⟨_, (a1_0), sq_, H', le_, ⟨pkx B1⟩, ⟨pkx B2⟩, ⟨pbx HB⟩⟩
  ·rw [if_neg c8] at H; have ⟨c8b0,c8b1⟩ := e0_ c8; (first | rw [c8b0] | (simp only [i64_w, i32_w]; rw [c8b0]) | skip)
   have H' := A_ H
   clear H
   go_wp2
   repeat (go_quiet (fail); try go_wp2)
   go_meet
   case rel => exact ⟨_, (a0_0), sq_, H', le_, ⟨pkx B1⟩, ⟨pkx B2⟩, ⟨pbx HB⟩⟩
 case rest =>
  clear HC3; (try clear hcz6_0); (try clear hcz6_1); (try clear hcz6_2); (try clear hcz7_0); (try clear hcz7_1); (try clear hcz7_2); obtain ⟨kq, x5_2, rfl, HA, HJ2, B1, B2, HB⟩ := hcut
  cases kq with
  | zero => exact absurd HA.out (by simp [oculusref12_ahead.j0])
  | succ kj2 =>
   have H := HA.out; clear HA
   simp only [oculusref12_ahead.j0] at H
   have HC9 := A_ H; clear H
   go_upto_if 15 with (fail)
   repeat (go_quiet (fail); go_upto_if 15 with (fail))
   go_cut [6] (fun v6 wc => ∃ (kq : Nat) (x6_8 : Int), v6 = .int .i64 x6_8 ∧ Aside0 (oculusref12_ahead.j1 kq x5_2 x6_8 a0_0 a0_1 a0_2 a1_0 a1_1 a1_2 = some r) ∧ Aside0 (kq ≤ kj2) ∧ Aside0 (wc.heap[g1]? = some (.cells #[.int .i64 a0_0, .int .i64 a0_1, .string a0_2] 26 (0, 0))) ∧ Aside0 (wc.heap[g2]? = some (.cells #[.int .i64 a1_0, .int .i64 a1_1, .string a1_2] 26 (0, 0))) ∧ Aside0 (Below w.heap.size w wc))
   case first =>
    have H := HC9.out; clear HC9
    by_cases c10 : a1_0 = 0
    ·rw [if_pos c10] at H; have ⟨c10b0,c10b1⟩ := e1_ c10; clear c10; (first | rw [c10b0] | (simp only [i64_w, i32_w]; rw [c10b0]) | skip)
     have H' := A_ H
     clear H
     go_wp2
     repeat (go_quiet (fail); try go_wp2)
     go_meet
     case rel => exact ⟨_, (x5_2), sq_, H', ⟨by have := HJ2.out; first | omega | exact Nat.le_refl _⟩, ⟨pkx B1⟩, ⟨pkx B2⟩, ⟨pbx HB⟩⟩
    ·rw [if_neg c10] at H; have ⟨c10b0,c10b1⟩ := e0_ c10; (first | rw [c10b0] | (simp only [i64_w, i32_w]; rw [c10b0]) | skip)
     have H' := A_ H
     clear H
     go_wp2
     repeat (go_quiet (fail); try go_wp2)
     go_meet
     case rel => exact ⟨_, (a1_0), sq_, H', ⟨by have := HJ2.out; first | omega | exact Nat.le_refl _⟩, ⟨pkx B1⟩, ⟨pkx B2⟩, ⟨pbx HB⟩⟩
   case rest =>
    clear HC9; (try clear hcz6_0); (try clear hcz6_1); (try clear hcz6_2); (try clear hcz7_0); (try clear hcz7_1); (try clear hcz7_2); obtain ⟨kq, x6_8, rfl, HA, HJ8, B1, B2, HB⟩ := hcut
    cases kq with
    | zero => exact absurd HA.out (by simp [oculusref12_ahead.j1])
    | succ kj8 =>
     have H := HA.out; clear HA
     simp only [oculusref12_ahead.j1] at H
     by_cases c11 : x5_2 = x6_8
     ·rw [if_pos c11] at H; have ⟨c11b0,c11b1⟩ := e1_ c11; clear c11
      by_cases c12 : a0_1 < a1_1
      ·rw [if_pos c12] at H; have c12b0 := decide_eq_true c12; clear c12; obtain rfl := Option.some.inj H
       have hcz13_0 : wc.cell? ⟨g1, 0, none⟩ = some (.int .i64 a0_0) := bc_ B1 0 rfl
       have hcz13_1 : wc.cell? ⟨g1, 1, none⟩ = some (.int .i64 a0_1) := bc_ B1 1 rfl
       have hcz13_2 : wc.cell? ⟨g1, 2, none⟩ = some (.string a0_2) := bc_ B1 2 rfl
       have hcz14_0 : wc.cell? ⟨g2, 0, none⟩ = some (.int .i64 a1_0) := bc_ B2 0 rfl
       have hcz14_1 : wc.cell? ⟨g2, 1, none⟩ = some (.int .i64 a1_1) := bc_ B2 1 rfl
       have hcz14_2 : wc.cell? ⟨g2, 2, none⟩ = some (.string a1_2) := bc_ B2 2 rfl
       go_wp2
       repeat (go_quiet (fail); try go_wp2)
       go_ret
       exact fi_ (pbx HB)
      ·rw [if_neg c12] at H; have c12b0 := decide_eq_false c12; clear c12; obtain ⟨t103, A15, H⟩ := bo_ H; obtain rfl := Option.some.inj H
       have hcz16_0 : wc.cell? ⟨g1, 0, none⟩ = some (.int .i64 a0_0) := bc_ B1 0 rfl
       have hcz16_1 : wc.cell? ⟨g1, 1, none⟩ = some (.int .i64 a0_1) := bc_ B1 1 rfl
       have hcz16_2 : wc.cell? ⟨g1, 2, none⟩ = some (.string a0_2) := bc_ B1 2 rfl
       have hcz17_0 : wc.cell? ⟨g2, 0, none⟩ = some (.int .i64 a1_0) := bc_ B2 0 rfl
       have hcz17_1 : wc.cell? ⟨g2, 1, none⟩ = some (.int .i64 a1_1) := bc_ B2 1 rfl
       have hcz17_2 : wc.cell? ⟨g2, 2, none⟩ = some (.string a1_2) := bc_ B2 2 rfl
       go_wp2_with (first | (go_at_call 92; (with_reducible refine (oculusref12_Less.calls kj8 a0_2 a1_2 t103 _ A15.out).mono ?_); rintro e w' ⟨rfl, ⟨nd, rfl⟩⟩; (try first | exact ⟨rfl, _, World.drewN_drewN _ _ _⟩ | exact ⟨rfl, _, Eq.trans (World.drewN_drewN _ _ _) (congrArg (World.drewN _) (Nat.add_assoc _ _ _))⟩)))
       repeat (go_quiet (first | (go_at_call 92; (with_reducible refine (oculusref12_Less.calls kj8 a0_2 a1_2 t103 _ A15.out).mono ?_); rintro e w' ⟨rfl, ⟨nd, rfl⟩⟩; (try first | exact ⟨rfl, _, World.drewN_drewN _ _ _⟩ | exact ⟨rfl, _, Eq.trans (World.drewN_drewN _ _ _) (congrArg (World.drewN _) (Nat.add_assoc _ _ _))⟩))); try go_wp2_with (first | (go_at_call 92; (with_reducible refine (oculusref12_Less.calls kj8 a0_2 a1_2 t103 _ A15.out).mono ?_); rintro e w' ⟨rfl, ⟨nd, rfl⟩⟩; (try first | exact ⟨rfl, _, World.drewN_drewN _ _ _⟩ | exact ⟨rfl, _, Eq.trans (World.drewN_drewN _ _ _) (congrArg (World.drewN _) (Nat.add_assoc _ _ _))⟩))))
       go_ret
       exact fi_ (pbx HB)
     ·rw [if_neg c11] at H; have ⟨c11b0,c11b1⟩ := e0_ c11; obtain rfl := Option.some.inj H
      go_wp2
      repeat (go_quiet (fail); try go_wp2)
      go_ret
      exact fi_ (pbx HB)

def oculusref12_Compare.j0 : Nat → Bool → Int → Int → ByteArray → Int → Int → ByteArray → Option (Int)
 | 0, _, _, _, _, _, _, _ => none
 | k + 1, x12, x102000, x102001, x102002, x103000, x103001, x103002 => if x12 = true then (some 0) else ((oculusref12_ahead.f k x102000 x102001 x102002 x103000 x103001 x103002).bind fun t103 => (if t103 = true then (some (-1)) else ((oculusref12_ahead.f k x103000 x103001 x103002 x102000 x102001 x102002).bind fun t104 => (if t104 = true then (some 1) else (some 0)))))
def oculusref12_Compare.f (k : Nat) (a0_0 : Int) (a0_1 : Int) (a0_2 : ByteArray) (a1_0 : Int) (a1_1 : Int) (a1_2 : ByteArray) : Option (Int) := if a0_0 = 4 then (oculusref12_Compare.j0 k true a0_0 a0_1 a0_2 a1_0 a1_1 a1_2) else (oculusref12_Compare.j0 k (a1_0 == 4) a0_0 a0_1 a0_2 a1_0 a1_1 a1_2)
theorem oculusref12_Compare.calls (k : Nat) (a0_0 : Int) (a0_1 : Int) (a0_2 : ByteArray) (a1_0 : Int) (a1_1 : Int) (a1_2 : ByteArray) (r : Int) (w : World) (h : oculusref12_Compare.f k a0_0 a0_1 a0_2 a1_0 a1_1 a1_2 = some r) :
  Calls Tryz.prog 64 #[.agg #[.int .i64 a0_0, .int .i64 a0_1, .string a0_2], .agg #[.int .i64 a1_0, .int .i64 a1_1, .string a1_2]] w fun e w' => e = .returned (.int .i64 r) ∧ Below w.heap.size w w' := by
 have hu26 := Tryz.underlying26; have HB := A_ (Below.refl w.heap.size w)
 have H : (if a0_0 = 4 then (oculusref12_Compare.j0 k true a0_0 a0_1 a0_2 a1_0 a1_1 a1_2) else (oculusref12_Compare.j0 k (a1_0 == 4) a0_0 a0_1 a0_2 a1_0 a1_1 a1_2)) = some r := h
 clear h; have HC3 := A_ H; clear H
 go_enter Tryz.func64, Tryz.ntmps64
 go_upto_region 1 with (first | ((with_reducible refine gd_ 2 ?_); refine be_ (N:=2) (cs := #[.int .i64 a0_0, .int .i64 a0_1, .string a0_2]) (t:=26) ?_; intro g1 hg w4 hbox hb; have B1 := A_ (hbox); replace HB := bs_ HB hb; clear hb hbox hg) | ((with_reducible refine gd_ 3 ?_); refine be_ (N:=3) (cs := #[.int .i64 a1_0, .int .i64 a1_1, .string a1_2]) (t:=26) ?_; intro g2 hg w5 hbox hb; have B2 := A_ (hbox); replace B1 := bb_ B1 hb; replace HB := bs_ HB hb; clear hb hbox hg))
 (try simp only [q_])
 go_cut [12] (fun v12 wc => ∃ (kq : Nat) (x12_2 : Bool), v12 = .bool x12_2 ∧ Aside0 (oculusref12_Compare.j0 kq x12_2 a0_0 a0_1 a0_2 a1_0 a1_1 a1_2 = some r) ∧ Aside0 (kq ≤ k) ∧ Aside0 (wc.heap[g1]? = some (.cells #[.int .i64 a0_0, .int .i64 a0_1, .string a0_2] 26 (0, 0))) ∧ Aside0 (wc.heap[g2]? = some (.cells #[.int .i64 a1_0, .int .i64 a1_1, .string a1_2] 26 (0, 0))) ∧ Aside0 (Below w.heap.size w wc))
 case first =>
  have H := HC3.out; clear HC3
  by_cases c6 : a0_0 = 4
  ·rw [if_pos c6] at H; have ⟨c6b0,c6b1⟩ := e1_ c6; clear c6; (first | rw [c6b0] | (simp only [i64_w, i32_w]; rw [c6b0]) | skip)
   have H' := A_ H
   clear H
   have hcz7_0 : w5.cell? ⟨g1, 0, none⟩ = some (.int .i64 a0_0) := bc_ B1 0 rfl
   have hcz7_1 : w5.cell? ⟨g1, 1, none⟩ = some (.int .i64 a0_1) := bc_ B1 1 rfl
   have hcz7_2 : w5.cell? ⟨g1, 2, none⟩ = some (.string a0_2) := bc_ B1 2 rfl
   go_wp2
   go_meet
   case rel => exact ⟨_, (true), sq_, H', le_, ⟨pkx B1⟩, ⟨pkx B2⟩, ⟨pbx HB⟩⟩
  ·rw [if_neg c6] at H; have ⟨c6b0,c6b1⟩ := e0_ c6; (first | rw [c6b0] | (simp only [i64_w, i32_w]; rw [c6b0]) | skip)
   have H' := A_ H
   clear H
   have hcz8_0 : w5.cell? ⟨g1, 0, none⟩ = some (.int .i64 a0_0) := bc_ B1 0 rfl
   have hcz8_1 : w5.cell? ⟨g1, 1, none⟩ = some (.int .i64 a0_1) := bc_ B1 1 rfl
   have hcz8_2 : w5.cell? ⟨g1, 2, none⟩ = some (.string a0_2) := bc_ B1 2 rfl
   have hcz9_0 : w5.cell? ⟨g2, 0, none⟩ = some (.int .i64 a1_0) := bc_ B2 0 rfl
   have hcz9_1 : w5.cell? ⟨g2, 1, none⟩ = some (.int .i64 a1_1) := bc_ B2 1 rfl
   have hcz9_2 : w5.cell? ⟨g2, 2, none⟩ = some (.string a1_2) := bc_ B2 2 rfl
   go_wp2
   go_meet
   case rel => exact ⟨_, ((a1_0 == 4)), sq_, H', le_, ⟨pkx B1⟩, ⟨pkx B2⟩, ⟨pbx HB⟩⟩
 case rest =>
  clear HC3; obtain ⟨kq, x12_2, rfl, HA, HJ2, B1, B2, HB⟩ := hcut
  cases kq with
  | zero => exact absurd HA.out (by simp [oculusref12_Compare.j0])
  | succ kj2 =>
   have H := HA.out; clear HA
   simp only [oculusref12_Compare.j0] at H
   replace H := ib_ H; rcases H with ⟨rfl,H⟩|⟨rfl,H⟩
   ·obtain rfl := Option.some.inj H
    go_wp2
    go_ret
    exact fi_ (pbx HB)
   ·obtain ⟨t103, A11, H⟩ := bo_ H
    replace H := ib_ H; rcases H with ⟨rfl,H⟩|⟨rfl,H⟩
    ·obtain rfl := Option.some.inj H
     have hcz13_0 : wc.cell? ⟨g1, 0, none⟩ = some (.int .i64 a0_0) := bc_ B1 0 rfl
     have hcz13_1 : wc.cell? ⟨g1, 1, none⟩ = some (.int .i64 a0_1) := bc_ B1 1 rfl
     have hcz13_2 : wc.cell? ⟨g1, 2, none⟩ = some (.string a0_2) := bc_ B1 2 rfl
     have hcz14_0 : wc.cell? ⟨g2, 0, none⟩ = some (.int .i64 a1_0) := bc_ B2 0 rfl
     have hcz14_1 : wc.cell? ⟨g2, 1, none⟩ = some (.int .i64 a1_1) := bc_ B2 1 rfl
     have hcz14_2 : wc.cell? ⟨g2, 2, none⟩ = some (.string a1_2) := bc_ B2 2 rfl
     go_wp2_with (first | ((with_reducible refine gate_callee (f:=80) rfl ?_); refine gL_ (some 15) rfl rfl Tryz.func80 rfl #[.agg #[.int .i64 a0_0, .int .i64 a0_1, .string a0_2], .agg #[.int .i64 a1_0, .int .i64 a1_1, .string a1_2]] rfl ?_; (with_reducible refine (oculusref12_ahead.calls kj2 a0_0 a0_1 a0_2 a1_0 a1_1 a1_2 true _ A11.out).mono ?_); rintro e w15 ⟨rfl, hb⟩; refine ⟨_, rfl, ?_⟩; replace B1 := bb_ B1 hb; replace B2 := bb_ B2 hb; replace HB := bs_ HB hb; (try clear hb); ))
     go_ret
     exact fi_ (pbx HB)
    ·obtain ⟨t104, A16, H⟩ := bo_ H
     replace H := ib_ H; rcases H with ⟨rfl,H⟩|⟨rfl,H⟩
     ·obtain rfl := Option.some.inj H
      have hcz18_0 : wc.cell? ⟨g1, 0, none⟩ = some (.int .i64 a0_0) := bc_ B1 0 rfl
      have hcz18_1 : wc.cell? ⟨g1, 1, none⟩ = some (.int .i64 a0_1) := bc_ B1 1 rfl
      have hcz18_2 : wc.cell? ⟨g1, 2, none⟩ = some (.string a0_2) := bc_ B1 2 rfl
      have hcz19_0 : wc.cell? ⟨g2, 0, none⟩ = some (.int .i64 a1_0) := bc_ B2 0 rfl
      have hcz19_1 : wc.cell? ⟨g2, 1, none⟩ = some (.int .i64 a1_1) := bc_ B2 1 rfl
      have hcz19_2 : wc.cell? ⟨g2, 2, none⟩ = some (.string a1_2) := bc_ B2 2 rfl
      go_wp2_with (first | ((with_reducible refine gate_callee (f:=80) rfl ?_); refine gL_ (some 15) rfl rfl Tryz.func80 rfl #[.agg #[.int .i64 a0_0, .int .i64 a0_1, .string a0_2], .agg #[.int .i64 a1_0, .int .i64 a1_1, .string a1_2]] rfl ?_; (with_reducible refine (oculusref12_ahead.calls kj2 a0_0 a0_1 a0_2 a1_0 a1_1 a1_2 false _ A11.out).mono ?_); rintro e w20 ⟨rfl, hb⟩; refine ⟨_, rfl, ?_⟩; replace B1 := bb_ B1 hb; replace B2 := bb_ B2 hb; replace HB := bs_ HB hb; (try clear hb); have hcz21_0 : w20.cell? ⟨g2, 0, none⟩ = some (.int .i64 a1_0) := bc_ B2 0 rfl; have hcz21_1 : w20.cell? ⟨g2, 1, none⟩ = some (.int .i64 a1_1) := bc_ B2 1 rfl; have hcz21_2 : w20.cell? ⟨g2, 2, none⟩ = some (.string a1_2) := bc_ B2 2 rfl; have hcz22_0 : w20.cell? ⟨g1, 0, none⟩ = some (.int .i64 a0_0) := bc_ B1 0 rfl; have hcz22_1 : w20.cell? ⟨g1, 1, none⟩ = some (.int .i64 a0_1) := bc_ B1 1 rfl; have hcz22_2 : w20.cell? ⟨g1, 2, none⟩ = some (.string a0_2) := bc_ B1 2 rfl) | ((with_reducible refine gate_callee (f:=80) rfl ?_); refine gL_ (some 18) rfl rfl Tryz.func80 rfl #[.agg #[.int .i64 a1_0, .int .i64 a1_1, .string a1_2], .agg #[.int .i64 a0_0, .int .i64 a0_1, .string a0_2]] rfl ?_; (with_reducible refine (oculusref12_ahead.calls kj2 a1_0 a1_1 a1_2 a0_0 a0_1 a0_2 true _ A16.out).mono ?_); rintro e w23 ⟨rfl, hb⟩; refine ⟨_, rfl, ?_⟩; replace B1 := bb_ B1 hb; replace B2 := bb_ B2 hb; replace HB := bs_ HB hb; (try clear hb); ))
      go_ret
      exact fi_ (pbx HB)
     ·obtain rfl := Option.some.inj H
      have hcz24_0 : wc.cell? ⟨g1, 0, none⟩ = some (.int .i64 a0_0) := bc_ B1 0 rfl
      have hcz24_1 : wc.cell? ⟨g1, 1, none⟩ = some (.int .i64 a0_1) := bc_ B1 1 rfl
      have hcz24_2 : wc.cell? ⟨g1, 2, none⟩ = some (.string a0_2) := bc_ B1 2 rfl
      have hcz25_0 : wc.cell? ⟨g2, 0, none⟩ = some (.int .i64 a1_0) := bc_ B2 0 rfl
      have hcz25_1 : wc.cell? ⟨g2, 1, none⟩ = some (.int .i64 a1_1) := bc_ B2 1 rfl
      have hcz25_2 : wc.cell? ⟨g2, 2, none⟩ = some (.string a1_2) := bc_ B2 2 rfl
      go_wp2_with (first | ((with_reducible refine gate_callee (f:=80) rfl ?_); refine gL_ (some 15) rfl rfl Tryz.func80 rfl #[.agg #[.int .i64 a0_0, .int .i64 a0_1, .string a0_2], .agg #[.int .i64 a1_0, .int .i64 a1_1, .string a1_2]] rfl ?_; (with_reducible refine (oculusref12_ahead.calls kj2 a0_0 a0_1 a0_2 a1_0 a1_1 a1_2 false _ A11.out).mono ?_); rintro e w26 ⟨rfl, hb⟩; refine ⟨_, rfl, ?_⟩; replace B1 := bb_ B1 hb; replace B2 := bb_ B2 hb; replace HB := bs_ HB hb; (try clear hb); have hcz27_0 : w26.cell? ⟨g2, 0, none⟩ = some (.int .i64 a1_0) := bc_ B2 0 rfl; have hcz27_1 : w26.cell? ⟨g2, 1, none⟩ = some (.int .i64 a1_1) := bc_ B2 1 rfl; have hcz27_2 : w26.cell? ⟨g2, 2, none⟩ = some (.string a1_2) := bc_ B2 2 rfl; have hcz28_0 : w26.cell? ⟨g1, 0, none⟩ = some (.int .i64 a0_0) := bc_ B1 0 rfl; have hcz28_1 : w26.cell? ⟨g1, 1, none⟩ = some (.int .i64 a0_1) := bc_ B1 1 rfl; have hcz28_2 : w26.cell? ⟨g1, 2, none⟩ = some (.string a0_2) := bc_ B1 2 rfl) | ((with_reducible refine gate_callee (f:=80) rfl ?_); refine gL_ (some 18) rfl rfl Tryz.func80 rfl #[.agg #[.int .i64 a1_0, .int .i64 a1_1, .string a1_2], .agg #[.int .i64 a0_0, .int .i64 a0_1, .string a0_2]] rfl ?_; (with_reducible refine (oculusref12_ahead.calls kj2 a1_0 a1_1 a1_2 a0_0 a0_1 a0_2 false _ A16.out).mono ?_); rintro e w29 ⟨rfl, hb⟩; refine ⟨_, rfl, ?_⟩; replace B1 := bb_ B1 hb; replace B2 := bb_ B2 hb; replace HB := bs_ HB hb; (try clear hb); ))
      go_ret
      exact fi_ (pbx HB)

mutual
def oculusref17_Like.l0 : Nat → ByteArray → ByteArray → List Bool → Int → Option (Bool)
 | 0, _, _, _, _ => none
 | k + 1, x0, x1, x5, x6 => if x6 < (x0.size : Int) then (if 0 ≤ (wrap64 ((x1.size : Int) + 1)) then (if (wrap64 ((x1.size : Int) + 1) : Int).toNat ≤ 281474976710656 then (oculusref17_Like.l1 k x0 x1 x5 x6 (List.replicate (wrap64 ((x1.size : Int) + 1) : Int).toNat false) 0) else (none)) else (none)) else (if 0 ≤ (x1.size : Int) then (if (x1.size : Int) < (x5.length : Int) then (some (rdOf false x5 (x1.size : Int))) else (none)) else (none))
def oculusref17_Like.l1 : Nat → ByteArray → ByteArray → List Bool → Int → List Bool → Int → Option (Bool)
 | 0, _, _, _, _, _, _ => none
 | k + 1, x0, x1, x5, x6, x7, x8 => if x8 ≤ (x1.size : Int) then (if 0 ≤ x6 then (if x6 < (x0.size : Int) then (if (bt x0 x6) = 42 then (if 0 ≤ x8 then (if x8 < (x5.length : Int) then (if rdOf false x5 x8 = true then (if x8 < (x7.length : Int) then (oculusref17_Like.l1 k x0 x1 x5 x6 (x7.set (x8 : Int).toNat true) (wrap64 (x8 + 1))) else (none)) else (if x8 > 0 then (if 0 ≤ (wrap64 (x8 - 1)) then (if (wrap64 (x8 - 1)) < (x7.length : Int) then (if x8 < (x7.length : Int) then (oculusref17_Like.l1 k x0 x1 x5 x6 (x7.set (x8 : Int).toNat (rdOf false x7 (wrap64 (x8 - 1)))) (wrap64 (x8 + 1))) else (none)) else (none)) else (none)) else (if x8 < (x7.length : Int) then (oculusref17_Like.l1 k x0 x1 x5 x6 (x7.set (x8 : Int).toNat false) (wrap64 (x8 + 1))) else (none)))) else (none)) else (none)) else (if x8 > 0 then (if 0 ≤ (wrap64 (x8 - 1)) then (if (wrap64 (x8 - 1)) < (x5.length : Int) then (if rdOf false x5 (wrap64 (x8 - 1)) = true then (if (bt x0 x6) = 63 then (if 0 ≤ x8 then (if x8 < (x7.length : Int) then (oculusref17_Like.l1 k x0 x1 x5 x6 (x7.set (x8 : Int).toNat true) (wrap64 (x8 + 1))) else (none)) else (none)) else (if (wrap64 (x8 - 1)) < (x1.size : Int) then (if 0 ≤ x8 then (if x8 < (x7.length : Int) then (oculusref17_Like.l1 k x0 x1 x5 x6 (x7.set (x8 : Int).toNat ((bt x0 x6) == (bt x1 (wrap64 (x8 - 1))))) (wrap64 (x8 + 1))) else (none)) else (none)) else (none))) else (if 0 ≤ x8 then (if x8 < (x7.length : Int) then (oculusref17_Like.l1 k x0 x1 x5 x6 (x7.set (x8 : Int).toNat false) (wrap64 (x8 + 1))) else (none)) else (none))) else (none)) else (none)) else (oculusref17_Like.l1 k x0 x1 x5 x6 x7 (wrap64 (x8 + 1))))) else (none)) else (none)) else (oculusref17_Like.l0 k x0 x1 x7 (wrap64 (x6 + 1)))
end
def oculusref17_Like.f (k : Nat) (a0 : ByteArray) (a1 : ByteArray) : Option (Bool) := if 0 ≤ (wrap64 ((a1.size : Int) + 1)) then (if (wrap64 ((a1.size : Int) + 1) : Int).toNat ≤ 281474976710656 then ((some (List.replicate (wrap64 ((a1.size : Int) + 1) : Int).toNat false : List Bool)).bind fun y101 => (if 0 < (y101.length : Int) then (oculusref17_Like.l0 k a0 a1 (y101.set (0 : Int).toNat true) 0) else (none))) else (none)) else (none)
def oculusref17_Like.T13 : Bool × List (List Nat × List Nat) := (true, [([], []), ([], []), ([], []), ([], []), ([3], [3]), ([2, 4], [2, 4]), ([5], [5]), ([6], [6]), ([7], [7]), ([7], [7]), ([8, 9, 7], [7, 8, 9]), ([10, 7], [7, 10]), ([11, 7, 7], [7, 11]), ([12], [12]), ([12], [12]), ([13, 14, 12], [12, 13, 14]), ([12], [12]), ([12], [12]), ([17, 12], [12, 17]), ([16, 18, 12], [12, 16, 18]), ([15, 19, 12], [12, 15, 19]), ([12, 20, 7], [7, 12, 20]), ([7, 21], [7, 21]), ([0, 1, 0, 1, 2, 3, 4, 5, 6, 7, 8, 9, 10, 11, 12, 13, 14, 15, 16, 17, 18, 19, 20, 21, 22], [0, 1]), ([23, 22, 12, 0, 1, 2, 3, 4, 5, 6, 7, 8, 9, 10, 11, 12, 13, 14, 15, 16, 17, 18, 19, 20, 21, 22], [22, 23])])
def oculusref17_Like.B13 : List Nat := [0, 0, 0, 0, 8, 28, 60, 124, 252, 252, 1020, 2044, 4092, 8188, 8188, 32764, 8188, 8188, 139260, 466940, 1048572, 2097148, 4194300, 8388607, 16777215]
theorem oculusref17_Like.tab13 : rtab .any (opsOf Tryz.f65 13) = oculusref17_Like.T13 := by kernel_rfl
theorem oculusref17_Like.bits13 : waitsOk oculusref17_Like.T13.2 oculusref17_Like.B13 = true := by kernel_rfl
theorem oculusref17_Like.calls (k : Nat) (a0 : ByteArray) (a1 : ByteArray) (r : Bool) (w : World) (h : oculusref17_Like.f k a0 a1 = some r) :
  Calls Tryz.prog 65 #[.string a0, .string a1] w fun e w' => e = .returned (.bool r) ∧ Below w.heap.size w w' := by
 have HB := A_ (Below.refl w.heap.size w)
 have H : (if 0 ≤ (wrap64 ((a1.size : Int) + 1)) then (if (wrap64 ((a1.size : Int) + 1) : Int).toNat ≤ 281474976710656 then ((some (List.replicate (wrap64 ((a1.size : Int) + 1) : Int).toNat false : List Bool)).bind fun y101 => (if 0 < (y101.length : Int) then (oculusref17_Like.l0 k a0 a1 (y101.set (0 : Int).toNat true) 0) else (none))) else (none)) else (none)) = some r := h
 clear h; obtain ⟨ji3, hji3⟩ : ∃ j_ : Int, (wrap64 ((a1.size : Int) + 1)) = j_ := ⟨_, rfl⟩
 replace H : (if 0 ≤ (ji3) then (if (ji3 : Int).toNat ≤ 281474976710656 then ((some (List.replicate (ji3 : Int).toNat false : List Bool)).bind fun y101 => (if 0 < (y101.length : Int) then (oculusref17_Like.l0 k a0 a1 (y101.set (0 : Int).toNat true) 0) else (none))) else (none)) else (none)) = some r := by first | (rw [hji3] at H; exact H) | (simp only [hji3] at H ⊢; exact H)
 have hji3w : (IntKind.i64.wrap ((a1.size : Int) + 1)) = ji3 := (i64_w _).trans hji3
 by_cases c4 : 0 ≤ (ji3)
 ·rw [if_pos c4] at H; have c4b0 := eq_true c4; have c4b1 := decide_eq_true c4; clear c4
  by_cases c5 : (ji3 : Int).toNat ≤ 281474976710656
  ·rw [if_pos c5] at H; have c5b0 := eq_true c5; have c5b1 := decide_eq_true c5; clear c5; obtain ⟨y101, hy101⟩ : ∃ y_ : List Bool, y_ = (List.replicate (ji3 : Int).toNat false) := ⟨_, rfl⟩
   replace H : (if 0 < (y101.length : Int) then (oculusref17_Like.l0 k a0 a1 (y101.set (0 : Int).toNat true) 0) else (none)) = some r := by first | (rw [hy101]; with_reducible exact H) | (have H2_ := (Option.bind_some _ _).symm.trans H; rw [hy101]; with_reducible exact H2_) | (have H2_ := (Option.bind_some _ _).symm.trans H; with_reducible exact H2_) | with_reducible exact H | (rw [hy101]; exact H) | exact H
   have Ny101 := A_ hy101; clear hy101
   by_cases c6 : 0 < (y101.length : Int)
   ·rw [if_pos c6] at H; have c6b0 := decide_eq_true c6; have c6b1 : decide (0 < y101.length) = true := decide_eq_true (by omega); clear c6; obtain ⟨y104, hy104⟩ : ∃ y_ : List Bool, y_ = (y101.set (0 : Int).toNat true) := ⟨_, rfl⟩
    replace H : (oculusref17_Like.l0 k a0 a1 y104 0) = some r := by first | (rw [hy104]; with_reducible exact H) | (have H2_ := (Option.bind_some _ _).symm.trans H; rw [hy104]; with_reducible exact H2_) | (have H2_ := (Option.bind_some _ _).symm.trans H; with_reducible exact H2_) | with_reducible exact H | (rw [hy104]; exact H) | exact H
    have Ny104 := A_ hy104; clear hy104
    have H' := A_ H
    clear H
    go_enter Tryz.func65, Tryz.ntmps65
    go_wp2_with (first | ((with_reducible refine gd_ 12 ?_); refine Kd.R_make Kd.bool _ 4 rfl (N:=12) rfl 88 _ _ rfl ji3 rfl rfl Tryz.underlying88 (.bool false) 1 info4 rfl (by decide) (by omega) false (ok := fun _ => True) (okp := fun _ => True) rfl (fun _ hk => hk) trivial (of_decide_eq_true as_) (Nat.le_trans (Nat.mul_le_mul_right _ (of_decide_eq_true as_ : ji3.toNat ≤ 281474976710656)) (by omega)) (Below.refl _ _) (Nat.le_refl _) ?_; intro v102 w8 ho9 hb hg_ hnew_; clear hg_ hnew_; (first | rw [← Ny101.out] at ho9 | (simp only [Int.reduceToNat] at ho9; rw [← Ny101.out] at ho9)); have HO103 := A_ (Kd.R_lower ho9 (below_size (pbx HB))); replace HB := bs_ HB hb; clear hb ho9; have p7 : 0 ≤ (0 : Int) := (by omega); have q7 : (0 : Int) < ((y101.length : Int) : Int) := of_decide_eq_true as_; have qi7 : (0 < y101.length) = True := eq_true (by omega); obtain ⟨go7, co7, eo7, gb7, gl7, cl7, HG7⟩ := Kd.R_form HO103.out (by omega); (first | cases eo7 | (injection eo7 with ea_ en_ ec_; (first | subst ea_ | (injection ea_ with ea_; subst ea_)); subst ec_; clear en_)); have GB7 := A_ gb7; have GG7 := A_ HG7; clear gb7 gl7 HG7; obtain ⟨hx7_0, hf7_0⟩ := Kd.R_celln false HO103.out (0 : Int) p7 q7; (try rw [show ((0 : Int)).toNat = 0 from rfl] at hx7_0); (try simp only [Nat.reduceMul, Nat.zero_mul, Nat.zero_add, Nat.reduceAdd] at hx7_0); (try rw [show ((0 : Int)).toNat = 0 from rfl] at hf7_0); (try simp only [Nat.reduceMul, Nat.zero_mul, Nat.zero_add, Nat.reduceAdd] at hf7_0); replace p7 := eq_true p7; replace q7 := eq_true q7; obtain ⟨hy10_, hz10_⟩ := Kd.R_celln false HO103.out (0 : Int) (by omega) (of_decide_eq_true as_); (try simp only [Int.reduceToNat, Int.toNat_zero, Int.toNat_ofNat, Nat.reduceMul, Nat.zero_mul, Nat.zero_add] at hy10_ hz10_); (try rw [show ((0 : Int)).toNat = 0 from rfl] at hy10_); (try rw [show ((0 : Int)).toNat = 0 from rfl] at hz10_); have HP10 := Kd.R_putg HO103.out (0 : Int) true) | ((with_reducible refine gate_store (t:=4) (p:=14) rfl ?_); refine store_event (t:=4) (p:=14) (v:=?vo_w11) (w1 := (w8.setCell ⟨go7, (0 : Int).toNat, none⟩ (.bool true))) ?hg ?ho ?hn ?hr ?_; (case ho => rfl); (case hg => rfl); (case hn => rfl); (case hr => first | (go_simp; done) | (go_simp; rfl)); intro w11 hw; have hg : w8.grownBy w11 (some go7) := (by rw [hw]; exact HP10.2); have hp_ : Kd.R Kd.bool 4 w11 w.heap.size (fun _ => True) (.slice (some ⟨go7, 0, none⟩) y101.length co7) y104 := (by rw [hw, Ny104.out]; exact HP10.1); clear HP10; replace HO103 := A_ (hp_); replace HB := A_ ((by rw [hw]; exact below_set (HB.out) GB7.out : Below w.heap.size w w11)); clear hg hw hp_))
    go_loopg [5, 6] k (fun kq v5 v6 w' => ∃ (x5_1 : List Bool) (x6_1 : Int), v6 = .int .i64 x6_1 ∧ Aside0 (oculusref17_Like.l0 kq a0 a1 x5_1 x6_1 = some r) ∧ Aside0 (kq ≤ k) ∧ Aside0 (Kd.R Kd.bool 4 w' w.heap.size (fun _ => True) v5 x5_1) ∧ Aside0 (Below w.heap.size w w'))
    case atStart => exact ⟨(y104), (0), sq_, H', ⟨Nat.le_refl _⟩, ⟨ra_ HO103.out⟩, ⟨pbx HB⟩⟩
    case round =>
     clear H'; (try clear c4); (try clear c4b0); (try clear c4b1); (try clear c5); (try clear c5b0); (try clear c5b1); (try clear c6); (try clear c6b0); (try clear c6b1); (try clear p7); (try clear q7); (try clear qi7); (try clear hx7_0); (try clear p7); (try clear q7); obtain ⟨x5_1, x6_1, rfl, HA, HK1, HO_5, HB⟩ := hrel
     cases gk with
     | zero => exact absurd HA.out (by simp [oculusref17_Like.l0])
     | succ k1 =>
      have H := HA.out; clear HA
      simp only [oculusref17_Like.l0] at H
      by_cases c12 : x6_1 < (a0.size : Int)
      ·rw [if_pos c12] at H; have c12b0 := decide_eq_true c12; clear c12; obtain ⟨ji13, hji13⟩ : ∃ j_ : Int, (wrap64 ((a1.size : Int) + 1)) = j_ := ⟨_, rfl⟩
       replace H : (if 0 ≤ (ji13) then (if (ji13 : Int).toNat ≤ 281474976710656 then (oculusref17_Like.l1 k1 a0 a1 x5_1 x6_1 (List.replicate (ji13 : Int).toNat false) 0) else (none)) else (none)) = some r := by first | (rw [hji13] at H; exact H) | (simp only [hji13] at H ⊢; exact H)
       have hji13w : (IntKind.i64.wrap ((a1.size : Int) + 1)) = ji13 := (i64_w _).trans hji13
       by_cases c14 : 0 ≤ (ji13)
       ·rw [if_pos c14] at H; have c14b0 := eq_true c14; have c14b1 := decide_eq_true c14; clear c14
        by_cases c15 : (ji13 : Int).toNat ≤ 281474976710656
        ·rw [if_pos c15] at H; have c15b0 := eq_true c15; have c15b1 := decide_eq_true c15; clear c15; obtain ⟨y106, hy106⟩ : ∃ y_ : List Bool, y_ = (List.replicate (ji13 : Int).toNat false) := ⟨_, rfl⟩
         replace H : (oculusref17_Like.l1 k1 a0 a1 x5_1 x6_1 y106 0) = some r := by first | (rw [hy106]; with_reducible exact H) | (have H2_ := (Option.bind_some _ _).symm.trans H; rw [hy106]; with_reducible exact H2_) | (have H2_ := (Option.bind_some _ _).symm.trans H; with_reducible exact H2_) | with_reducible exact H | (rw [hy106]; exact H) | exact H
         have Ny106 := A_ hy106; clear hy106
         have H' := A_ H
         clear H; obtain rfl : ji13 = ji3 := hji13.symm.trans hji3
         go_wp2_with (first | ((with_reducible refine gd_ 24 ?_); refine Kd.R_make Kd.bool _ 4 rfl (N:=24) rfl 88 _ _ rfl ji13 rfl rfl Tryz.underlying88 (.bool false) 1 info4 rfl (by decide) (by omega) false (ok := fun _ => True) (okp := fun _ => True) rfl (fun _ hk => hk) trivial (of_decide_eq_true as_) (Nat.le_trans (Nat.mul_le_mul_right _ (of_decide_eq_true as_ : ji13.toNat ≤ 281474976710656)) (by omega)) (Below.refl _ _) (Nat.le_refl _) ?_; intro v107 w16 ho17 hb hg_ hnew_; clear hg_ hnew_; (first | rw [← Ny106.out] at ho17 | (simp only [Int.reduceToNat] at ho17; rw [← Ny106.out] at ho17)); have HO108 := A_ (Kd.R_lower (Kd.R_new' ho17 (Kd.R_lt (ra_ HO_5.out))) (below_size (pbx HB))); replace HO_5 := A_ (Kd.R_elder' (ra_ HO_5.out) (Kd.R_base ho17) hb); replace HB := bs_ HB hb; clear hb ho17))
         go_loopg [8] k1 (fun kq v8 w' => ∃ (x7_2 : List Bool) (x8_2 : Int), v8 = .int .i64 x8_2 ∧ Aside0 (oculusref17_Like.l1 kq a0 a1 x5_1 x6_1 x7_2 x8_2 = some r) ∧ Aside0 (kq ≤ k1) ∧ Aside0 (Kd.R Kd.bool 4 w' w.heap.size (fun k_ => some k_ ≠ (v107 : Value).ownBlock) u5 x5_1) ∧ Aside0 (Kd.R Kd.bool 4 w' w.heap.size (fun k_ => some k_ ≠ (u5 : Value).ownBlock) v107 x7_2) ∧ Aside0 (Below w.heap.size w w'))
         case atStart => exact ⟨(y106), (0), sq_, H', ⟨Nat.le_refl _⟩, ⟨by (with_reducible repeat (first | apply Kd.R_alloc | apply Kd.R_drewN | apply Kd.R_drew)); exact Kd.R_mono HO_5.out (fun _ hk => hk.2)⟩, ⟨by (with_reducible repeat (first | apply Kd.R_alloc | apply Kd.R_drewN | apply Kd.R_drew)); exact Kd.R_mono HO108.out (fun _ hk => hk.2)⟩, ⟨pbx HB⟩⟩
         case round =>
          clear H'; (try clear c4); (try clear c4b0); (try clear c4b1); (try clear c5); (try clear c5b0); (try clear c5b1); (try clear c6); (try clear c6b0); (try clear c6b1); (try clear p7); (try clear q7); (try clear qi7); (try clear c12); (try clear c12b0); (try clear c14); (try clear c14b0); (try clear c14b1); (try clear c15); (try clear c15b0); (try clear c15b1); (try clear hx7_0); (try clear p7); (try clear q7); obtain ⟨x7_2, x8_2, rfl, HA, HK2, HO_5, HO_7, HB⟩ := hrel
          cases gk with
          | zero => exact absurd HA.out (by simp [oculusref17_Like.l1])
          | succ k2 =>
           have H := HA.out; clear HA
           simp only [oculusref17_Like.l1] at H
           by_cases c18 : x8_2 ≤ (a1.size : Int)
           ·rw [if_pos c18] at H; have c18b0 := decide_eq_true c18; clear c18
            by_cases c19 : 0 ≤ x6_1
            ·rw [if_pos c19] at H; have c19b0 := decide_eq_true c19; clear c19
             by_cases c20 : x6_1 < (a0.size : Int)
             ·rw [if_pos c20] at H; have c20b0 := decide_eq_true c20; clear c20
              by_cases c22 : (bt a0 x6_1) = 42
              ·rw [if_pos c22] at H; have ⟨c22b0,c22b1⟩ := e1_ c22; clear c22
               by_cases c23 : 0 ≤ x8_2
               ·rw [if_pos c23] at H; have c23b0 := decide_eq_true c23; clear c23
                by_cases c24 : x8_2 < (x5_1.length : Int)
                ·rw [if_pos c24] at H; have c24b0 := decide_eq_true c24; clear c24; obtain ⟨bq25, hbq25⟩ : ∃ b_ : Bool, b_ = (rdOf false x5_1 x8_2) := ⟨_, rfl⟩
                 replace H : (if bq25 = true then (if x8_2 < (x7_2.length : Int) then (oculusref17_Like.l1 k2 a0 a1 x5_1 x6_1 (x7_2.set (x8_2 : Int).toNat true) (wrap64 (x8_2 + 1))) else (none)) else (if x8_2 > 0 then (if 0 ≤ (wrap64 (x8_2 - 1)) then (if (wrap64 (x8_2 - 1)) < (x7_2.length : Int) then (if x8_2 < (x7_2.length : Int) then (oculusref17_Like.l1 k2 a0 a1 x5_1 x6_1 (x7_2.set (x8_2 : Int).toNat (rdOf false x7_2 (wrap64 (x8_2 - 1)))) (wrap64 (x8_2 + 1))) else (none)) else (none)) else (none)) else (if x8_2 < (x7_2.length : Int) then (oculusref17_Like.l1 k2 a0 a1 x5_1 x6_1 (x7_2.set (x8_2 : Int).toNat false) (wrap64 (x8_2 + 1))) else (none)))) = some r := by rw [← hbq25] at H; exact H
                 have Nbq25 := A_ hbq25; clear hbq25
                 replace H := ib_ H; rcases H with ⟨rfl,H⟩|⟨rfl,H⟩
                 ·by_cases c27 : x8_2 < (x7_2.length : Int)
                  ·rw [if_pos c27] at H; have c27b0 := decide_eq_true c27; clear c27; obtain ⟨y110, hy110⟩ : ∃ y_ : List Bool, y_ = (x7_2.set (x8_2 : Int).toNat true) := ⟨_, rfl⟩
                   replace H : (oculusref17_Like.l1 k2 a0 a1 x5_1 x6_1 y110 (wrap64 (x8_2 + 1))) = some r := by first | (rw [hy110]; with_reducible exact H) | (have H2_ := (Option.bind_some _ _).symm.trans H; rw [hy110]; with_reducible exact H2_) | (have H2_ := (Option.bind_some _ _).symm.trans H; with_reducible exact H2_) | with_reducible exact H | (rw [hy110]; exact H) | exact H
                   have Ny110 := A_ hy110; clear hy110
                   have H' := A_ H
                   clear H
                   have p21 : 0 ≤ (x6_1 : Int) := of_decide_eq_true as_
                   have q21 : x6_1 < (a0.size : Int) := of_decide_eq_true as_
                   have hx21 := bt_at a0 x6_1; replace p21 := eq_true p21; replace q21 := eq_true q21; obtain ⟨Ao29, co29, eo29⟩ := Kd.R_slice HO_5.out; subst eo29
                   have p109 : 0 ≤ (x8_2 : Int) := of_decide_eq_true as_
                   have q109 : x8_2 < (x5_1.length : Int) := of_decide_eq_true as_
                   obtain ⟨ad109, e109, hx109_0⟩ := Kd.at_bool (Kd.R_reads' HO_5.out).2.2 x8_2 p109 q109; (try rw [← Nbq25.out] at hx109_0)
                   cases e109
                   replace p109 := eq_true p109; replace q109 := eq_true q109
                   have p28 : 0 ≤ (x8_2 : Int) := of_decide_eq_true as_
                   have q28 : (x8_2 : Int) < ((x7_2.length : Int) : Int) := of_decide_eq_true as_
                   obtain ⟨go28, co28, eo28, gb28, gl28, cl28, HG28⟩ := Kd.R_form HO_7.out (by omega); (first | cases eo28 | (injection eo28 with ea_ en_ ec_; (first | subst ea_ | (injection ea_ with ea_; subst ea_)); subst ec_; clear en_))
                   have GB28 := A_ gb28; have GG28 := A_ HG28; clear gb28 gl28 HG28; obtain ⟨hx28_0, hf28_0⟩ := Kd.R_celln false HO_7.out (x8_2 : Int) p28 q28; replace p28 := eq_true p28; replace q28 := eq_true q28; have HP30 := Kd.R_putg HO_7.out (x8_2 : Int) true
                   go_wp2_with (first | ((with_reducible refine gate_store (t:=4) (p:=52) rfl ?_); refine store_event (t:=4) (p:=52) (v:=?vo_w31) (w1 := (wr.setCell ⟨go28, (x8_2 : Int).toNat, none⟩ (.bool true))) ?hg ?ho ?hn ?hr ?_; (case ho => rfl); (case hg => rfl); (case hn => rfl); (case hr => first | (go_simp; done) | (go_simp; rfl)); intro w31 hw; have hg : wr.grownBy w31 (some go28) := (by rw [hw]; exact HP30.2); have hp_ : Kd.R Kd.bool 4 w31 w.heap.size (fun k_ => some k_ ≠ (.slice (some ad109) x5_1.length co29 : Value).ownBlock) (.slice (some ⟨go28, 0, none⟩) x7_2.length co28) y110 := (by rw [hw, Ny110.out]; exact HP30.1); clear HP30; replace HO_5 := A_ (Kd.R_after (v := (.slice (some ⟨go28, 0, none⟩) x7_2.length co28)) (v1 := (.slice (some ⟨go28, 0, none⟩) x7_2.length co28)) (ok := (fun _ => True)) (by (with_reducible repeat (first | apply Kd.R_alloc | apply Kd.R_drewN | apply Kd.R_drew)); exact Kd.R_mono HO_5.out (fun _ hk => ⟨trivial, hk⟩)) hg (.inl rfl)); replace HO_7 := A_ (hp_); replace HB := A_ ((by rw [hw]; exact below_set (HB.out) GB28.out : Below w.heap.size w w31)); clear hg hw hp_))
                   go_roundg k2
                   case measure => have := HK1.out; have := HK2.out; omega
                   case rel => exact ⟨(y110), (wrap64 (x8_2 + 1)), sq_, H', ⟨by have := HK1.out; have := HK2.out; omega⟩, ⟨by (with_reducible repeat (first | apply Kd.R_alloc | apply Kd.R_drewN | apply Kd.R_drew)); exact Kd.R_mono HO_5.out (fun _ hk => hk.2)⟩, ⟨ra_ HO_7.out⟩, ⟨pbx HB⟩⟩
                  ·rw [if_neg c27] at H
                   exact absurd H (by simp)
                 ·by_cases c32 : x8_2 > 0
                  ·rw [if_pos c32] at H; have c32b0 := decide_eq_true c32; clear c32; obtain ⟨ji33, hji33⟩ : ∃ j_ : Int, (wrap64 (x8_2 - 1)) = j_ := ⟨_, rfl⟩
                   replace H : (if 0 ≤ (ji33) then (if (ji33) < (x7_2.length : Int) then (if x8_2 < (x7_2.length : Int) then (oculusref17_Like.l1 k2 a0 a1 x5_1 x6_1 (x7_2.set (x8_2 : Int).toNat (rdOf false x7_2 (ji33))) (wrap64 (x8_2 + 1))) else (none)) else (none)) else (none)) = some r := by first | (rw [hji33] at H; exact H) | (simp only [hji33] at H ⊢; exact H)
                   have hji33w : (IntKind.i64.wrap (x8_2 - 1)) = ji33 := (i64_w _).trans hji33
                   by_cases c34 : 0 ≤ (ji33)
                   ·rw [if_pos c34] at H; have c34b0 := decide_eq_true c34; clear c34
                    by_cases c35 : (ji33) < (x7_2.length : Int)
                    ·rw [if_pos c35] at H; have c35b0 := decide_eq_true c35; clear c35
                     by_cases c36 : x8_2 < (x7_2.length : Int)
                     ·rw [if_pos c36] at H; have c36b0 := decide_eq_true c36; clear c36; obtain ⟨y112, hy112⟩ : ∃ y_ : List Bool, y_ = (x7_2.set (x8_2 : Int).toNat (rdOf false x7_2 (ji33))) := ⟨_, rfl⟩
                      replace H : (oculusref17_Like.l1 k2 a0 a1 x5_1 x6_1 y112 (wrap64 (x8_2 + 1))) = some r := by first | (rw [hy112]; with_reducible exact H) | (have H2_ := (Option.bind_some _ _).symm.trans H; rw [hy112]; with_reducible exact H2_) | (have H2_ := (Option.bind_some _ _).symm.trans H; with_reducible exact H2_) | with_reducible exact H | (rw [hy112]; exact H) | exact H
                      have Ny112 := A_ hy112; clear hy112
                      have H' := A_ H
                      clear H
                      have p21 : 0 ≤ (x6_1 : Int) := of_decide_eq_true as_
                      have q21 : x6_1 < (a0.size : Int) := of_decide_eq_true as_
                      have hx21 := bt_at a0 x6_1; replace p21 := eq_true p21; replace q21 := eq_true q21; obtain ⟨Ao38, co38, eo38⟩ := Kd.R_slice HO_5.out; subst eo38
                      have p109 : 0 ≤ (x8_2 : Int) := of_decide_eq_true as_
                      have q109 : x8_2 < (x5_1.length : Int) := of_decide_eq_true as_
                      obtain ⟨ad109, e109, hx109_0⟩ := Kd.at_bool (Kd.R_reads' HO_5.out).2.2 x8_2 p109 q109; (try rw [← Nbq25.out] at hx109_0)
                      cases e109
                      replace p109 := eq_true p109; replace q109 := eq_true q109; obtain ⟨Ao39, co39, eo39⟩ := Kd.R_slice HO_7.out; subst eo39
                      have p111 : 0 ≤ ((ji33) : Int) := of_decide_eq_true as_
                      have q111 : (ji33) < (x7_2.length : Int) := of_decide_eq_true as_
                      obtain ⟨ad111, e111, hx111_0⟩ := Kd.at_bool (Kd.R_reads' HO_7.out).2.2 (ji33) p111 q111; (try rw [← Nbq25.out] at hx111_0)
                      cases e111
                      replace p111 := eq_true p111; replace q111 := eq_true q111
                      have p37 : 0 ≤ (x8_2 : Int) := of_decide_eq_true as_
                      have q37 : (x8_2 : Int) < ((x7_2.length : Int) : Int) := of_decide_eq_true as_
                      obtain ⟨go37, co37, eo37, gb37, gl37, cl37, HG37⟩ := Kd.R_form HO_7.out (by omega); (first | cases eo37 | (injection eo37 with ea_ en_ ec_; (first | subst ea_ | (injection ea_ with ea_; subst ea_)); subst ec_; clear en_))
                      have GB37 := A_ gb37; have GG37 := A_ HG37; clear gb37 gl37 HG37; (first | simp only [add_plain] at hx111_0 | skip)
                      obtain ⟨hx37_0, hf37_0⟩ := Kd.R_celln false HO_7.out (x8_2 : Int) p37 q37; replace p37 := eq_true p37; replace q37 := eq_true q37; have HP40 := Kd.R_putg HO_7.out (x8_2 : Int) (rdOf false x7_2 (ji33))
                      go_wp2_with (first | ((with_reducible refine gate_store (t:=4) (p:=52) rfl ?_); refine store_event (t:=4) (p:=52) (v:=?vo_w41) (w1 := (wr.setCell ⟨go37, (x8_2 : Int).toNat, none⟩ (.bool (rdOf false x7_2 (ji33))))) ?hg ?ho ?hn ?hr ?_; (case ho => rfl); (case hg => rfl); (case hn => rfl); (case hr => first | (go_simp; done) | (go_simp; rfl)); intro w41 hw; have hg : wr.grownBy w41 (some go37) := (by rw [hw]; exact HP40.2); have hp_ : Kd.R Kd.bool 4 w41 w.heap.size (fun k_ => some k_ ≠ (.slice (some ad109) x5_1.length co38 : Value).ownBlock) (.slice (some ⟨go37, 0, none⟩) x7_2.length co39) y112 := (by rw [hw, Ny112.out]; exact HP40.1); clear HP40; replace HO_5 := A_ (Kd.R_after (v := (.slice (some ⟨go37, 0, none⟩) x7_2.length co39)) (v1 := (.slice (some ⟨go37, 0, none⟩) x7_2.length co39)) (ok := (fun _ => True)) (by (with_reducible repeat (first | apply Kd.R_alloc | apply Kd.R_drewN | apply Kd.R_drew)); exact Kd.R_mono HO_5.out (fun _ hk => ⟨trivial, hk⟩)) hg (.inl rfl)); replace HO_7 := A_ (hp_); replace HB := A_ ((by rw [hw]; exact below_set (HB.out) GB37.out : Below w.heap.size w w41)); clear hg hw hp_))
                      go_roundg k2
                      case measure => have := HK1.out; have := HK2.out; omega
                      case rel => exact ⟨(y112), (wrap64 (x8_2 + 1)), sq_, H', ⟨by have := HK1.out; have := HK2.out; omega⟩, ⟨by (with_reducible repeat (first | apply Kd.R_alloc | apply Kd.R_drewN | apply Kd.R_drew)); exact Kd.R_mono HO_5.out (fun _ hk => hk.2)⟩, ⟨ra_ HO_7.out⟩, ⟨pbx HB⟩⟩
                     ·rw [if_neg c36] at H
                      exact absurd H (by simp)
                    ·rw [if_neg c35] at H
                     exact absurd H (by simp)
                   ·rw [if_neg c34] at H
                    exact absurd H (by simp)
                  ·rw [if_neg c32] at H; have c32b0 := decide_eq_false c32; clear c32
                   by_cases c42 : x8_2 < (x7_2.length : Int)
                   ·rw [if_pos c42] at H; have c42b0 := decide_eq_true c42; clear c42; obtain ⟨y113, hy113⟩ : ∃ y_ : List Bool, y_ = (x7_2.set (x8_2 : Int).toNat false) := ⟨_, rfl⟩
                    replace H : (oculusref17_Like.l1 k2 a0 a1 x5_1 x6_1 y113 (wrap64 (x8_2 + 1))) = some r := by first | (rw [hy113]; with_reducible exact H) | (have H2_ := (Option.bind_some _ _).symm.trans H; rw [hy113]; with_reducible exact H2_) | (have H2_ := (Option.bind_some _ _).symm.trans H; with_reducible exact H2_) | with_reducible exact H | (rw [hy113]; exact H) | exact H
                    have Ny113 := A_ hy113; clear hy113
                    have H' := A_ H
                    clear H
                    have p21 : 0 ≤ (x6_1 : Int) := of_decide_eq_true as_
                    have q21 : x6_1 < (a0.size : Int) := of_decide_eq_true as_
                    have hx21 := bt_at a0 x6_1; replace p21 := eq_true p21; replace q21 := eq_true q21; obtain ⟨Ao44, co44, eo44⟩ := Kd.R_slice HO_5.out; subst eo44
                    have p109 : 0 ≤ (x8_2 : Int) := of_decide_eq_true as_
                    have q109 : x8_2 < (x5_1.length : Int) := of_decide_eq_true as_
                    obtain ⟨ad109, e109, hx109_0⟩ := Kd.at_bool (Kd.R_reads' HO_5.out).2.2 x8_2 p109 q109; (try rw [← Nbq25.out] at hx109_0)
                    cases e109
                    replace p109 := eq_true p109; replace q109 := eq_true q109
                    have p43 : 0 ≤ (x8_2 : Int) := of_decide_eq_true as_
                    have q43 : (x8_2 : Int) < ((x7_2.length : Int) : Int) := of_decide_eq_true as_
                    obtain ⟨go43, co43, eo43, gb43, gl43, cl43, HG43⟩ := Kd.R_form HO_7.out (by omega); (first | cases eo43 | (injection eo43 with ea_ en_ ec_; (first | subst ea_ | (injection ea_ with ea_; subst ea_)); subst ec_; clear en_))
                    have GB43 := A_ gb43; have GG43 := A_ HG43; clear gb43 gl43 HG43; obtain ⟨hx43_0, hf43_0⟩ := Kd.R_celln false HO_7.out (x8_2 : Int) p43 q43; replace p43 := eq_true p43; replace q43 := eq_true q43; have HP45 := Kd.R_putg HO_7.out (x8_2 : Int) false
                    go_wp2_with (first | ((with_reducible refine gate_store (t:=4) (p:=52) rfl ?_); refine store_event (t:=4) (p:=52) (v:=?vo_w46) (w1 := (wr.setCell ⟨go43, (x8_2 : Int).toNat, none⟩ (.bool false))) ?hg ?ho ?hn ?hr ?_; (case ho => rfl); (case hg => rfl); (case hn => rfl); (case hr => first | (go_simp; done) | (go_simp; rfl)); intro w46 hw; have hg : wr.grownBy w46 (some go43) := (by rw [hw]; exact HP45.2); have hp_ : Kd.R Kd.bool 4 w46 w.heap.size (fun k_ => some k_ ≠ (.slice (some ad109) x5_1.length co44 : Value).ownBlock) (.slice (some ⟨go43, 0, none⟩) x7_2.length co43) y113 := (by rw [hw, Ny113.out]; exact HP45.1); clear HP45; replace HO_5 := A_ (Kd.R_after (v := (.slice (some ⟨go43, 0, none⟩) x7_2.length co43)) (v1 := (.slice (some ⟨go43, 0, none⟩) x7_2.length co43)) (ok := (fun _ => True)) (by (with_reducible repeat (first | apply Kd.R_alloc | apply Kd.R_drewN | apply Kd.R_drew)); exact Kd.R_mono HO_5.out (fun _ hk => ⟨trivial, hk⟩)) hg (.inl rfl)); replace HO_7 := A_ (hp_); replace HB := A_ ((by rw [hw]; exact below_set (HB.out) GB43.out : Below w.heap.size w w46)); clear hg hw hp_))
                    go_roundg k2
                    case measure => have := HK1.out; have := HK2.out; omega
                    case rel => exact ⟨(y113), (wrap64 (x8_2 + 1)), sq_, H', ⟨by have := HK1.out; have := HK2.out; omega⟩, ⟨by (with_reducible repeat (first | apply Kd.R_alloc | apply Kd.R_drewN | apply Kd.R_drew)); exact Kd.R_mono HO_5.out (fun _ hk => hk.2)⟩, ⟨ra_ HO_7.out⟩, ⟨pbx HB⟩⟩
                   ·rw [if_neg c42] at H
                    exact absurd H (by simp)
                ·rw [if_neg c24] at H
                 exact absurd H (by simp)
               ·rw [if_neg c23] at H
                exact absurd H (by simp)
              ·rw [if_neg c22] at H; have ⟨c22b0,c22b1⟩ := e0_ c22
               by_cases c47 : x8_2 > 0
               ·rw [if_pos c47] at H; have c47b0 := decide_eq_true c47; clear c47; obtain ⟨ji48, hji48⟩ : ∃ j_ : Int, (wrap64 (x8_2 - 1)) = j_ := ⟨_, rfl⟩
                replace H : (if 0 ≤ (ji48) then (if (ji48) < (x5_1.length : Int) then (if rdOf false x5_1 (ji48) = true then (if (bt a0 x6_1) = 63 then (if 0 ≤ x8_2 then (if x8_2 < (x7_2.length : Int) then (oculusref17_Like.l1 k2 a0 a1 x5_1 x6_1 (x7_2.set (x8_2 : Int).toNat true) (wrap64 (x8_2 + 1))) else (none)) else (none)) else (if (ji48) < (a1.size : Int) then (if 0 ≤ x8_2 then (if x8_2 < (x7_2.length : Int) then (oculusref17_Like.l1 k2 a0 a1 x5_1 x6_1 (x7_2.set (x8_2 : Int).toNat ((bt a0 x6_1) == (bt a1 (ji48)))) (wrap64 (x8_2 + 1))) else (none)) else (none)) else (none))) else (if 0 ≤ x8_2 then (if x8_2 < (x7_2.length : Int) then (oculusref17_Like.l1 k2 a0 a1 x5_1 x6_1 (x7_2.set (x8_2 : Int).toNat false) (wrap64 (x8_2 + 1))) else (none)) else (none))) else (none)) else (none)) = some r := by first | (rw [hji48] at H; exact H) | (simp only [hji48] at H ⊢; exact H)
                have hji48w : (IntKind.i64.wrap (x8_2 - 1)) = ji48 := (i64_w _).trans hji48
                by_cases c49 : 0 ≤ (ji48)
                ·rw [if_pos c49] at H; have c49b0 := decide_eq_true c49; clear c49
                 by_cases c50 : (ji48) < (x5_1.length : Int)
                 ·rw [if_pos c50] at H; have c50b0 := decide_eq_true c50; clear c50; obtain ⟨bq51, hbq51⟩ : ∃ b_ : Bool, b_ = (rdOf false x5_1 (ji48)) := ⟨_, rfl⟩
                  replace H : (if bq51 = true then (if (bt a0 x6_1) = 63 then (if 0 ≤ x8_2 then (if x8_2 < (x7_2.length : Int) then (oculusref17_Like.l1 k2 a0 a1 x5_1 x6_1 (x7_2.set (x8_2 : Int).toNat true) (wrap64 (x8_2 + 1))) else (none)) else (none)) else (if (ji48) < (a1.size : Int) then (if 0 ≤ x8_2 then (if x8_2 < (x7_2.length : Int) then (oculusref17_Like.l1 k2 a0 a1 x5_1 x6_1 (x7_2.set (x8_2 : Int).toNat ((bt a0 x6_1) == (bt a1 (ji48)))) (wrap64 (x8_2 + 1))) else (none)) else (none)) else (none))) else (if 0 ≤ x8_2 then (if x8_2 < (x7_2.length : Int) then (oculusref17_Like.l1 k2 a0 a1 x5_1 x6_1 (x7_2.set (x8_2 : Int).toNat false) (wrap64 (x8_2 + 1))) else (none)) else (none))) = some r := by rw [← hbq51] at H; exact H
                  have Nbq51 := A_ hbq51; clear hbq51
                  replace H := ib_ H; rcases H with ⟨rfl,H⟩|⟨rfl,H⟩
                  ·by_cases c54 : (bt a0 x6_1) = 63
                   ·rw [if_pos c54] at H; have ⟨c54b0,c54b1⟩ := e1_ c54; clear c54
                    by_cases c55 : 0 ≤ x8_2
                    ·rw [if_pos c55] at H; have c55b0 := decide_eq_true c55; clear c55
                     by_cases c56 : x8_2 < (x7_2.length : Int)
                     ·rw [if_pos c56] at H; have c56b0 := decide_eq_true c56; clear c56; obtain ⟨y115, hy115⟩ : ∃ y_ : List Bool, y_ = (x7_2.set (x8_2 : Int).toNat true) := ⟨_, rfl⟩
                      replace H : (oculusref17_Like.l1 k2 a0 a1 x5_1 x6_1 y115 (wrap64 (x8_2 + 1))) = some r := by first | (rw [hy115]; with_reducible exact H) | (have H2_ := (Option.bind_some _ _).symm.trans H; rw [hy115]; with_reducible exact H2_) | (have H2_ := (Option.bind_some _ _).symm.trans H; with_reducible exact H2_) | with_reducible exact H | (rw [hy115]; exact H) | exact H
                      have Ny115 := A_ hy115; clear hy115
                      have H' := A_ H
                      clear H
                      have p21 : 0 ≤ (x6_1 : Int) := of_decide_eq_true as_
                      have q21 : x6_1 < (a0.size : Int) := of_decide_eq_true as_
                      have hx21 := bt_at a0 x6_1; replace p21 := eq_true p21; replace q21 := eq_true q21
                      try go_wp2
                      (try (rw [drewN_self wr]; generalize hq_ : World.drewN wr _ = wr; have n0_ : Aside0 (Kd.R Kd.bool 4 wr w.heap.size (fun k_ => some k_ ≠ (v107 : Value).ownBlock) u5 x5_1) := ⟨by rw [← hq_]; exact (ra_ HO_5.out)⟩; have n1_ : Aside0 (Kd.R Kd.bool 4 wr w.heap.size (fun k_ => some k_ ≠ (u5 : Value).ownBlock) v107 x7_2) := ⟨by rw [← hq_]; exact (ra_ HO_7.out)⟩; have n2_ : Aside0 (Below w.heap.size w wr) := ⟨by rw [← hq_]; exact (pbx HB)⟩; clear HO_5 HO_7 HB hq_; have HO_5 := n0_; have HO_7 := n1_; have HB := n2_; clear n0_ n1_ n2_))
                      replace HO_5 := A_ (Kd.R_drew HO_5.out); replace HO_7 := A_ (Kd.R_drew HO_7.out); replace HB := A_ (below_drew1 HB.out); obtain ⟨Ao59, co59, eo59⟩ := Kd.R_slice HO_5.out; (first | subst eo59 | (injection eo59 with f1_ f2_ f3_; have f4_ := f1_.symm; have f5_ := f3_.symm; clear f1_ f2_ f3_; subst f4_; subst f5_))
                      have p114 : 0 ≤ ((ji48) : Int) := of_decide_eq_true as_
                      have q114 : (ji48) < (x5_1.length : Int) := of_decide_eq_true as_
                      obtain ⟨ad114, e114, hx114_0⟩ := Kd.at_bool (Kd.R_reads' HO_5.out).2.2 (ji48) p114 q114; (try rw [← Nbq51.out] at hx114_0)
                      cases e114
                      replace p114 := eq_true p114; replace q114 := eq_true q114
                      have p53 : 0 ≤ (x6_1 : Int) := of_decide_eq_true as_
                      have q53 : x6_1 < (a0.size : Int) := of_decide_eq_true as_
                      have hx53 := bt_at a0 x6_1; replace p53 := eq_true p53; replace q53 := eq_true q53
                      have p57 : 0 ≤ (x8_2 : Int) := of_decide_eq_true as_
                      have q57 : (x8_2 : Int) < ((x7_2.length : Int) : Int) := of_decide_eq_true as_
                      obtain ⟨go57, co57, eo57, gb57, gl57, cl57, HG57⟩ := Kd.R_form HO_7.out (by omega); (first | cases eo57 | (injection eo57 with ea_ en_ ec_; (first | subst ea_ | (injection ea_ with ea_; subst ea_)); subst ec_; clear en_))
                      have GB57 := A_ gb57; have GG57 := A_ HG57; clear gb57 gl57 HG57; obtain ⟨hx57_0, hf57_0⟩ := Kd.R_celln false HO_7.out (x8_2 : Int) p57 q57; replace p57 := eq_true p57; replace q57 := eq_true q57; have HP60 := Kd.R_putn HO_7.out (x8_2 : Int) true; rw [← Ny115.out] at HP60; have HQ60 := A_ HP60; clear HP60
                      refine start_ (n:=25) (S := fun w' => w'.cell? (ad114.add ((ji48)).toNat) = some (.bool true)) (ds := [24]) #[F,F,F,F,F,F,F,F,F,F,F,F,F,F,F,F,F,F,F,F,F,F,F,F,F] (by kernel_rfl) rfl rfl (hx114_0) (fun hHeld => ?_); refine with_tabW oculusref17_Like.tab13 oculusref17_Like.bits13 (fun HT_ HW_ => ?_)
                      generalize wr.drew = w58 at HO_5 HO_7 HB GG57 HQ60 hf57_0 hx114_0 hx57_0 hHeld ⊢; refine pure_ (i:=0) (N:=some 55) (v:=?_) (a':=?_) ⟨m_ 25 1⟩ rfl rfl (ao_ HT_) (fun _ _ _ h=>h) (Or.inl ⟨rfl, ?_⟩) ?_ ?_; rotate_left
                      ·intro w'; go_simp; with_reducible rfl
                      rotate_left
                      ·simp only [q_, i64_w, i32_w]; rfl
                      refine pure_ (i:=1) (N:=some 56) (v:=?_) (a':=?_) ⟨m_ 25 3⟩ rfl rfl (ao_ HT_) (fun _ _ _ h=>h) (Or.inl ⟨rfl, ?_⟩) ?_ ?_; rotate_left
                      ·intro w'; go_simp; with_reducible rfl
                      rotate_left
                      ·simp only [q_, i64_w, i32_w]; rfl
                      refine pure_ (i:=2) (N:=some 57) (v:=?_) (a':=?_) ⟨m_ 25 7⟩ rfl rfl (ao_ HT_) (fun _ _ _ h=>h) (Or.inl ⟨rfl, ?_⟩) ?_ ?_; rotate_left
                      ·intro w'; go_simp; with_reducible rfl
                      rotate_left
                      ·simp only [q_, i64_w, i32_w]; rfl
                      refine pure_ (i:=3) (N:=some 58) (v:=?_) (a':=?_) ⟨m_ 25 15⟩ rfl rfl (ao_ HT_) (fun _ _ _ h=>h) (Or.inl ⟨rfl, ?_⟩) ?_ ?_; rotate_left
                      ·intro w'; go_simp; with_reducible rfl
                      rotate_left
                      ·simp only [q_, i64_w, i32_w]; rfl
                      refine pure_ (i:=4) (N:=some 59) (v:=?_) (a':=?_) ⟨m_ 25 31⟩ rfl rfl (ao_ HT_) (fun _ _ _ h=>h) (Or.inl ⟨rfl, ?_⟩) ?_ ?_; rotate_left
                      ·intro w'; go_simp; with_reducible rfl
                      rotate_left
                      ·simp only [q_, i64_w, i32_w]; rfl
                      refine pure_ (i:=5) (N:=some 60) (v:=?_) (a':=?_) ⟨m_ 25 63⟩ rfl rfl (ao_ HT_) (fun _ _ _ h=>h) (Or.inl ⟨rfl, ?_⟩) ?_ ?_; rotate_left
                      ·intro w'; go_simp; with_reducible rfl
                      rotate_left
                      ·simp only [q_, i64_w, i32_w]; rfl
                      refine take_ (i:=6) (N:=some 61) (v:=?_) (a':=?_) ⟨m_ 25 127⟩ rfl rfl (tw_ HT_ HW_) (fun _ _ _ h=>h) (Or.inl ⟨rfl, ?_⟩) hHeld ?_ ?_; rotate_left
                      ·intro w' s0; go_simp; with_reducible rfl
                      rotate_left
                      ·simp only [q_, i64_w, i32_w]; rfl
                      refine pure_ (i:=7) (N:=some 62) (v:=?_) (a':=?_) ⟨m_ 25 255⟩ rfl rfl (ao_ HT_) (fun _ _ _ h=>h) (Or.inl ⟨rfl, ?_⟩) ?_ ?_; rotate_left
                      ·intro w'; go_simp; with_reducible rfl
                      rotate_left
                      ·simp only [q_, i64_w, i32_w]; rfl
                      refine pure_ (i:=8) (N:=some 63) (v:=?_) (a':=?_) ⟨m_ 25 511⟩ rfl rfl (ao_ HT_) (fun _ _ _ h=>h) (Or.inl ⟨rfl, ?_⟩) ?_ ?_; rotate_left
                      ·intro w'; go_simp; with_reducible rfl
                      rotate_left
                      ·simp only [q_, i64_w, i32_w]; rfl
                      refine pure_ (i:=9) (N:=some 64) (v:=?_) (a':=?_) ⟨m_ 25 1023⟩ rfl rfl (ao_ HT_) (fun _ _ _ h=>h) (Or.inl ⟨rfl, ?_⟩) ?_ ?_; rotate_left
                      ·intro w'; go_simp; with_reducible rfl
                      rotate_left
                      ·simp only [q_, i64_w, i32_w]; rfl
                      refine take_ (i:=10) (N:=some 65) (v:=?_) (a':=?_) ⟨m_ 25 2047⟩ rfl rfl (tw_ HT_ HW_) (fun _ _ _ h=>h) (Or.inl ⟨rfl, ?_⟩) hHeld ?_ ?_; rotate_left
                      ·intro w' s0; go_simp; with_reducible rfl
                      rotate_left
                      ·simp only [q_, i64_w, i32_w]; rfl
                      refine pure_ (i:=11) (N:=some 66) (v:=?_) (a':=?_) ⟨m_ 25 4095⟩ rfl rfl (ao_ HT_) (fun _ _ _ h=>h) (Or.inl ⟨rfl, ?_⟩) ?_ ?_; rotate_left
                      ·intro w'; go_simp; with_reducible rfl
                      rotate_left
                      ·simp only [q_, i64_w, i32_w]; rfl
                      refine pure_ (i:=12) (N:=some 67) (v:=?_) (a':=?_) ⟨m_ 25 8191⟩ rfl rfl (ao_ HT_) (fun _ _ _ h=>h) (Or.inl ⟨rfl, ?_⟩) ?_ ?_; rotate_left
                      ·intro w'; go_simp; with_reducible rfl
                      rotate_left
                      ·simp only [q_, i64_w, i32_w]; rfl
                      refine pure_ (i:=13) (N:=some 68) (v:=undef) (a':=?_) ⟨m_ 25 16383⟩ rfl rfl (ao_ HT_) (fun _ _ _ h=>h) (Or.inr ⟨by rfl, rfl⟩) ?_ ?_; rotate_left
                      ·simp only [q_, i64_w, i32_w]; rfl
                      refine pure_ (i:=14) (N:=some 69) (v:=undef) (a':=?_) ⟨m_ 25 32767⟩ rfl rfl (ao_ HT_) (fun _ _ _ h=>h) (Or.inr ⟨by rfl, rfl⟩) ?_ ?_; rotate_left
                      ·simp only [q_, i64_w, i32_w]; rfl
                      refine pure_ (i:=15) (N:=some 70) (v:=undef) (a':=?_) ⟨m_ 25 65535⟩ rfl rfl (ao_ HT_) (fun _ _ _ h=>h) (Or.inr ⟨by rfl, rfl⟩) ?_ ?_; rotate_left
                      ·simp only [q_, i64_w, i32_w]; rfl
                      refine pure_ (i:=16) (N:=some 71) (v:=undef) (a':=?_) ⟨m_ 25 131071⟩ rfl rfl (ao_ HT_) (fun _ _ _ h=>h) (Or.inr ⟨by rfl, rfl⟩) ?_ ?_; rotate_left
                      ·simp only [q_, i64_w, i32_w]; rfl
                      refine pure_ (i:=17) (N:=some 72) (v:=undef) (a':=?_) ⟨m_ 25 262143⟩ rfl rfl (ao_ HT_) (fun _ _ _ h=>h) (Or.inr ⟨by rfl, rfl⟩) ?_ ?_; rotate_left
                      ·simp only [q_, i64_w, i32_w]; rfl
                      refine pure_ (i:=18) (N:=some 73) (v:=undef) (a':=?_) ⟨m_ 25 524287⟩ rfl rfl (ao_ HT_) (fun _ _ _ h=>h) (Or.inr ⟨by rfl, rfl⟩) ?_ ?_; rotate_left
                      ·simp only [q_, i64_w, i32_w]; rfl
                      refine pure_ (i:=19) (N:=some 74) (v:=undef) (a':=?_) ⟨m_ 25 1048575⟩ rfl rfl (ao_ HT_) (fun _ _ _ h=>h) (Or.inr ⟨by rfl, rfl⟩) ?_ ?_; rotate_left
                      ·simp only [q_, i64_w, i32_w]; rfl
                      refine pure_ (i:=20) (N:=some 75) (v:=undef) (a':=?_) ⟨m_ 25 2097151⟩ rfl rfl (ao_ HT_) (fun _ _ _ h=>h) (Or.inr ⟨by rfl, rfl⟩) ?_ ?_; rotate_left
                      ·simp only [q_, i64_w, i32_w]; rfl
                      refine pure_ (i:=21) (N:=some 76) (v:=?_) (a':=?_) ⟨m_ 25 4194303⟩ rfl rfl (ao_ HT_) (fun _ _ _ h=>h) (Or.inl ⟨rfl, ?_⟩) ?_ ?_; rotate_left
                      ·intro w'; go_simp; with_reducible rfl
                      rotate_left
                      ·simp only [q_, i64_w, i32_w]; rfl
                      refine pure_ (i:=22) (N:=some 77) (v:=?_) (a':=?_) ⟨m_ 25 8388607⟩ rfl rfl (ao_ HT_) (fun _ _ _ h=>h) (Or.inl ⟨rfl, ?_⟩) ?_ ?_; rotate_left
                      ·intro w'; go_simp; with_reducible rfl
                      rotate_left
                      ·simp only [q_, i64_w, i32_w]; rfl
                      refine pure_ (i:=23) (N:=some 78) (v:=?_) (a':=?_) ⟨m_ 25 16777215⟩ rfl rfl (ao_ HT_) (fun _ _ _ h=>h) (Or.inl ⟨rfl, ?_⟩) ?_ ?_; rotate_left
                      ·intro w'; go_simp; with_reducible rfl
                      rotate_left
                      ·simp only [q_, i64_w, i32_w]; rfl
                      refine last_ (i:=24) (N:=none) ⟨m_ 25 33554431⟩ rfl rfl (oo_ HT_) (by decide) (fun K hK => ?_)
                      refine skip_ (w1 := ?_) (by rfl) rfl ?_ ?_
                      rotate_left
                      ·go_simp; rfl
                      refine hK.out _ _ ?_; clear hK K
                      refine done_ (done_of HT_.out (by kernel_rfl)) ?_
                      try go_wp2
                      go_roundg k2
                      case measure => have := HK1.out; have := HK2.out; omega
                      case rel => exact ⟨(y115), (wrap64 (x8_2 + 1)), sq_, H', ⟨by have := HK1.out; have := HK2.out; omega⟩, ⟨by (with_reducible repeat (first | apply Kd.R_alloc | apply Kd.R_drewN | apply Kd.R_drew)); exact Kd.R_mono (Kd.R_far (p := ⟨go57, (x8_2 : Int).toNat, none⟩) (Kd.R_mono HO_5.out (fun k_ hk => (⟨hk, fun e_ => hk (by rw [e_]; rfl)⟩ : _ ∧ k_ ≠ go57))) (fun _ hk => hk.2) (.bool true)) (fun _ hk => hk.1)⟩, ⟨by (with_reducible repeat (first | apply Kd.R_alloc | apply Kd.R_drewN | apply Kd.R_drew)); exact HQ60.out⟩, ⟨by repeat (first | (with_reducible first | exact HB.out | apply below_alloc | apply pw_below_drewN | apply below_drew1 | refine below_set ?_ GB57.out) | exact HB.out)⟩⟩
                     ·rw [if_neg c56] at H
                      exact absurd H (by simp)
                    ·rw [if_neg c55] at H
                     exact absurd H (by simp)
                   ·rw [if_neg c54] at H; have ⟨c54b0,c54b1⟩ := e0_ c54
                    by_cases c62 : (ji48) < (a1.size : Int)
                    ·rw [if_pos c62] at H; have c62b0 := decide_eq_true c62; clear c62
                     by_cases c64 : 0 ≤ x8_2
                     ·rw [if_pos c64] at H; have c64b0 := decide_eq_true c64; clear c64
                      by_cases c65 : x8_2 < (x7_2.length : Int)
                      ·rw [if_pos c65] at H; have c65b0 := decide_eq_true c65; clear c65; obtain ⟨y116, hy116⟩ : ∃ y_ : List Bool, y_ = (x7_2.set (x8_2 : Int).toNat ((bt a0 x6_1) == (bt a1 (ji48)))) := ⟨_, rfl⟩
                       replace H : (oculusref17_Like.l1 k2 a0 a1 x5_1 x6_1 y116 (wrap64 (x8_2 + 1))) = some r := by first | (rw [hy116]; with_reducible exact H) | (have H2_ := (Option.bind_some _ _).symm.trans H; rw [hy116]; with_reducible exact H2_) | (have H2_ := (Option.bind_some _ _).symm.trans H; with_reducible exact H2_) | with_reducible exact H | (rw [hy116]; exact H) | exact H
                       have Ny116 := A_ hy116; clear hy116
                       have H' := A_ H
                       clear H
                       have p21 : 0 ≤ (x6_1 : Int) := of_decide_eq_true as_
                       have q21 : x6_1 < (a0.size : Int) := of_decide_eq_true as_
                       have hx21 := bt_at a0 x6_1; replace p21 := eq_true p21; replace q21 := eq_true q21
                       try go_wp2
                       (try (rw [drewN_self wr]; generalize hq_ : World.drewN wr _ = wr; have n0_ : Aside0 (Kd.R Kd.bool 4 wr w.heap.size (fun k_ => some k_ ≠ (v107 : Value).ownBlock) u5 x5_1) := ⟨by rw [← hq_]; exact (ra_ HO_5.out)⟩; have n1_ : Aside0 (Kd.R Kd.bool 4 wr w.heap.size (fun k_ => some k_ ≠ (u5 : Value).ownBlock) v107 x7_2) := ⟨by rw [← hq_]; exact (ra_ HO_7.out)⟩; have n2_ : Aside0 (Below w.heap.size w wr) := ⟨by rw [← hq_]; exact (pbx HB)⟩; clear HO_5 HO_7 HB hq_; have HO_5 := n0_; have HO_7 := n1_; have HB := n2_; clear n0_ n1_ n2_))
                       replace HO_5 := A_ (Kd.R_drew HO_5.out); replace HO_7 := A_ (Kd.R_drew HO_7.out); replace HB := A_ (below_drew1 HB.out); obtain ⟨Ao68, co68, eo68⟩ := Kd.R_slice HO_5.out; (first | subst eo68 | (injection eo68 with f1_ f2_ f3_; have f4_ := f1_.symm; have f5_ := f3_.symm; clear f1_ f2_ f3_; subst f4_; subst f5_))
                       have p114 : 0 ≤ ((ji48) : Int) := of_decide_eq_true as_
                       have q114 : (ji48) < (x5_1.length : Int) := of_decide_eq_true as_
                       obtain ⟨ad114, e114, hx114_0⟩ := Kd.at_bool (Kd.R_reads' HO_5.out).2.2 (ji48) p114 q114; (try rw [← Nbq51.out] at hx114_0)
                       cases e114
                       replace p114 := eq_true p114; replace q114 := eq_true q114
                       have p53 : 0 ≤ (x6_1 : Int) := of_decide_eq_true as_
                       have q53 : x6_1 < (a0.size : Int) := of_decide_eq_true as_
                       have hx53 := bt_at a0 x6_1; replace p53 := eq_true p53; replace q53 := eq_true q53
                       have p61 : 0 ≤ (x6_1 : Int) := of_decide_eq_true as_
                       have q61 : x6_1 < (a0.size : Int) := of_decide_eq_true as_
                       have hx61 := bt_at a0 x6_1; replace p61 := eq_true p61; replace q61 := eq_true q61
                       have p63 : 0 ≤ ((ji48) : Int) := of_decide_eq_true as_
                       have q63 : (ji48) < (a1.size : Int) := of_decide_eq_true as_
                       have hx63 := bt_at a1 (ji48); replace p63 := eq_true p63; replace q63 := eq_true q63
                       have p66 : 0 ≤ (x8_2 : Int) := of_decide_eq_true as_
                       have q66 : (x8_2 : Int) < ((x7_2.length : Int) : Int) := of_decide_eq_true as_
                       obtain ⟨go66, co66, eo66, gb66, gl66, cl66, HG66⟩ := Kd.R_form HO_7.out (by omega); (first | cases eo66 | (injection eo66 with ea_ en_ ec_; (first | subst ea_ | (injection ea_ with ea_; subst ea_)); subst ec_; clear en_))
                       have GB66 := A_ gb66; have GG66 := A_ HG66; clear gb66 gl66 HG66; obtain ⟨hx66_0, hf66_0⟩ := Kd.R_celln false HO_7.out (x8_2 : Int) p66 q66; replace p66 := eq_true p66; replace q66 := eq_true q66; have HP69 := Kd.R_putn HO_7.out (x8_2 : Int) ((bt a0 x6_1) == (bt a1 (ji48))); rw [← Ny116.out] at HP69; have HQ69 := A_ HP69; clear HP69
                       refine start_ (n:=25) (S := fun w' => w'.cell? (ad114.add ((ji48)).toNat) = some (.bool true)) (ds := [24]) #[F,F,F,F,F,F,F,F,F,F,F,F,F,F,F,F,F,F,F,F,F,F,F,F,F] (by kernel_rfl) rfl rfl (hx114_0) (fun hHeld => ?_); refine with_tabW oculusref17_Like.tab13 oculusref17_Like.bits13 (fun HT_ HW_ => ?_)
                       generalize wr.drew = w67 at HO_5 HO_7 HB GG66 HQ69 hf66_0 hx114_0 hx66_0 hHeld ⊢; refine pure_ (i:=0) (N:=some 55) (v:=?_) (a':=?_) ⟨m_ 25 1⟩ rfl rfl (ao_ HT_) (fun _ _ _ h=>h) (Or.inl ⟨rfl, ?_⟩) ?_ ?_; rotate_left
                       ·intro w'; go_simp; with_reducible rfl
                       rotate_left
                       ·simp only [q_, i64_w, i32_w]; rfl
                       refine pure_ (i:=1) (N:=some 56) (v:=?_) (a':=?_) ⟨m_ 25 3⟩ rfl rfl (ao_ HT_) (fun _ _ _ h=>h) (Or.inl ⟨rfl, ?_⟩) ?_ ?_; rotate_left
                       ·intro w'; go_simp; with_reducible rfl
                       rotate_left
                       ·simp only [q_, i64_w, i32_w]; rfl
                       refine pure_ (i:=2) (N:=some 57) (v:=?_) (a':=?_) ⟨m_ 25 7⟩ rfl rfl (ao_ HT_) (fun _ _ _ h=>h) (Or.inl ⟨rfl, ?_⟩) ?_ ?_; rotate_left
                       ·intro w'; go_simp; with_reducible rfl
                       rotate_left
                       ·simp only [q_, i64_w, i32_w]; rfl
                       refine pure_ (i:=3) (N:=some 58) (v:=?_) (a':=?_) ⟨m_ 25 15⟩ rfl rfl (ao_ HT_) (fun _ _ _ h=>h) (Or.inl ⟨rfl, ?_⟩) ?_ ?_; rotate_left
                       ·intro w'; go_simp; with_reducible rfl
                       rotate_left
                       ·simp only [q_, i64_w, i32_w]; rfl
                       refine pure_ (i:=4) (N:=some 59) (v:=?_) (a':=?_) ⟨m_ 25 31⟩ rfl rfl (ao_ HT_) (fun _ _ _ h=>h) (Or.inl ⟨rfl, ?_⟩) ?_ ?_; rotate_left
                       ·intro w'; go_simp; with_reducible rfl
                       rotate_left
                       ·simp only [q_, i64_w, i32_w]; rfl
                       refine pure_ (i:=5) (N:=some 60) (v:=?_) (a':=?_) ⟨m_ 25 63⟩ rfl rfl (ao_ HT_) (fun _ _ _ h=>h) (Or.inl ⟨rfl, ?_⟩) ?_ ?_; rotate_left
                       ·intro w'; go_simp; with_reducible rfl
                       rotate_left
                       ·simp only [q_, i64_w, i32_w]; rfl
                       refine take_ (i:=6) (N:=some 61) (v:=?_) (a':=?_) ⟨m_ 25 127⟩ rfl rfl (tw_ HT_ HW_) (fun _ _ _ h=>h) (Or.inl ⟨rfl, ?_⟩) hHeld ?_ ?_; rotate_left
                       ·intro w' s0; go_simp; with_reducible rfl
                       rotate_left
                       ·simp only [q_, i64_w, i32_w]; rfl
                       refine pure_ (i:=7) (N:=some 62) (v:=?_) (a':=?_) ⟨m_ 25 255⟩ rfl rfl (ao_ HT_) (fun _ _ _ h=>h) (Or.inl ⟨rfl, ?_⟩) ?_ ?_; rotate_left
                       ·intro w'; go_simp; with_reducible rfl
                       rotate_left
                       ·simp only [q_, i64_w, i32_w]; rfl
                       refine pure_ (i:=8) (N:=some 63) (v:=?_) (a':=?_) ⟨m_ 25 511⟩ rfl rfl (ao_ HT_) (fun _ _ _ h=>h) (Or.inl ⟨rfl, ?_⟩) ?_ ?_; rotate_left
                       ·intro w'; go_simp; with_reducible rfl
                       rotate_left
                       ·simp only [q_, i64_w, i32_w]; rfl
                       refine pure_ (i:=9) (N:=some 64) (v:=?_) (a':=?_) ⟨m_ 25 1023⟩ rfl rfl (ao_ HT_) (fun _ _ _ h=>h) (Or.inl ⟨rfl, ?_⟩) ?_ ?_; rotate_left
                       ·intro w'; go_simp; with_reducible rfl
                       rotate_left
                       ·simp only [q_, i64_w, i32_w]; rfl
                       refine take_ (i:=10) (N:=some 65) (v:=?_) (a':=?_) ⟨m_ 25 2047⟩ rfl rfl (tw_ HT_ HW_) (fun _ _ _ h=>h) (Or.inl ⟨rfl, ?_⟩) hHeld ?_ ?_; rotate_left
                       ·intro w' s0; go_simp; with_reducible rfl
                       rotate_left
                       ·simp only [q_, i64_w, i32_w]; rfl
                       refine pure_ (i:=11) (N:=some 66) (v:=?_) (a':=?_) ⟨m_ 25 4095⟩ rfl rfl (ao_ HT_) (fun _ _ _ h=>h) (Or.inl ⟨rfl, ?_⟩) ?_ ?_; rotate_left
                       ·intro w'; go_simp; with_reducible rfl
                       rotate_left
                       ·simp only [q_, i64_w, i32_w]; rfl
                       refine pure_ (i:=12) (N:=some 67) (v:=?_) (a':=?_) ⟨m_ 25 8191⟩ rfl rfl (ao_ HT_) (fun _ _ _ h=>h) (Or.inl ⟨rfl, ?_⟩) ?_ ?_; rotate_left
                       ·intro w'; go_simp; with_reducible rfl
                       rotate_left
                       ·simp only [q_, i64_w, i32_w]; rfl
                       refine pure_ (i:=13) (N:=some 68) (v:=?_) (a':=?_) ⟨m_ 25 16383⟩ rfl rfl (ao_ HT_) (fun _ _ _ h=>h) (Or.inl ⟨rfl, ?_⟩) ?_ ?_; rotate_left
                       ·intro w'; go_simp; with_reducible rfl
                       rotate_left
                       ·simp only [q_, i64_w, i32_w]; rfl
                       refine pure_ (i:=14) (N:=some 69) (v:=?_) (a':=?_) ⟨m_ 25 32767⟩ rfl rfl (ao_ HT_) (fun _ _ _ h=>h) (Or.inl ⟨rfl, ?_⟩) ?_ ?_; rotate_left
                       ·intro w'; go_simp; with_reducible rfl
                       rotate_left
                       ·simp only [q_, i64_w, i32_w]; rfl
                       refine pure_ (i:=16) (N:=some 71) (v:=?_) (a':=?_) ⟨m_ 25 98303⟩ rfl rfl (ao_ HT_) (fun _ _ _ h=>h) (Or.inl ⟨rfl, ?_⟩) ?_ ?_; rotate_left
                       ·intro w'; go_simp; with_reducible rfl
                       rotate_left
                       ·simp only [q_, i64_w, i32_w]; rfl
                       refine pure_ (i:=17) (N:=some 72) (v:=?_) (a':=?_) ⟨m_ 25 229375⟩ rfl rfl (ao_ HT_) (fun _ _ _ h=>h) (Or.inl ⟨rfl, ?_⟩) ?_ ?_; rotate_left
                       ·intro w'; go_simp; with_reducible rfl
                       rotate_left
                       ·simp only [q_, i64_w, i32_w]; rfl
                       refine pure_ (i:=18) (N:=some 73) (v:=?_) (a':=?_) ⟨m_ 25 491519⟩ rfl rfl (ao_ HT_) (fun _ _ _ h=>h) (Or.inl ⟨rfl, ?_⟩) ?_ ?_; rotate_left
                       ·intro w'; go_simp; with_reducible rfl
                       rotate_left
                       ·simp only [q_, i64_w, i32_w]; rfl
                       refine take_ (i:=15) (N:=some 70) (v:=?_) (a':=?_) ⟨m_ 25 524287⟩ rfl rfl (tw_ HT_ HW_) (fun _ _ _ h=>h) (Or.inl ⟨rfl, ?_⟩) hHeld ?_ ?_; rotate_left
                       ·intro w' s0; go_simp; with_reducible rfl
                       rotate_left
                       ·simp only [q_, i64_w, i32_w]; rfl
                       refine take_ (i:=19) (N:=some 74) (v:=?_) (a':=?_) ⟨m_ 25 1048575⟩ rfl rfl (tw_ HT_ HW_) (fun _ _ _ h=>h) (Or.inl ⟨rfl, ?_⟩) hHeld ?_ ?_; rotate_left
                       ·intro w' s0; go_simp; with_reducible rfl
                       rotate_left
                       ·simp only [q_, i64_w, i32_w]; rfl
                       refine pure_ (i:=20) (N:=some 75) (v:=?_) (a':=?_) ⟨m_ 25 2097151⟩ rfl rfl (ao_ HT_) (fun _ _ _ h=>h) (Or.inl ⟨rfl, ?_⟩) ?_ ?_; rotate_left
                       ·intro w'; go_simp; with_reducible rfl
                       rotate_left
                       ·simp only [q_, i64_w, i32_w]; rfl
                       refine pure_ (i:=21) (N:=some 76) (v:=?_) (a':=?_) ⟨m_ 25 4194303⟩ rfl rfl (ao_ HT_) (fun _ _ _ h=>h) (Or.inl ⟨rfl, ?_⟩) ?_ ?_; rotate_left
                       ·intro w'; go_simp; with_reducible rfl
                       rotate_left
                       ·simp only [q_, i64_w, i32_w]; rfl
                       refine pure_ (i:=22) (N:=some 77) (v:=?_) (a':=?_) ⟨m_ 25 8388607⟩ rfl rfl (ao_ HT_) (fun _ _ _ h=>h) (Or.inl ⟨rfl, ?_⟩) ?_ ?_; rotate_left
                       ·intro w'; go_simp; with_reducible rfl
                       rotate_left
                       ·simp only [q_, i64_w, i32_w]; rfl
                       refine pure_ (i:=23) (N:=some 78) (v:=?_) (a':=?_) ⟨m_ 25 16777215⟩ rfl rfl (ao_ HT_) (fun _ _ _ h=>h) (Or.inl ⟨rfl, ?_⟩) ?_ ?_; rotate_left
                       ·intro w'; go_simp; with_reducible rfl
                       rotate_left
                       ·simp only [q_, i64_w, i32_w]; rfl
                       refine last_ (i:=24) (N:=none) ⟨m_ 25 33554431⟩ rfl rfl (oo_ HT_) (by decide) (fun K hK => ?_)
                       refine skip_ (w1 := ?_) (by rfl) rfl ?_ ?_
                       rotate_left
                       ·go_simp; rfl
                       refine hK.out _ _ ?_; clear hK K
                       refine done_ (done_of HT_.out (by kernel_rfl)) ?_
                       try go_wp2
                       go_roundg k2
                       case measure => have := HK1.out; have := HK2.out; omega
                       case rel => exact ⟨(y116), (wrap64 (x8_2 + 1)), sq_, H', ⟨by have := HK1.out; have := HK2.out; omega⟩, ⟨by (with_reducible repeat (first | apply Kd.R_alloc | apply Kd.R_drewN | apply Kd.R_drew)); exact Kd.R_mono (Kd.R_far (p := ⟨go66, (x8_2 : Int).toNat, none⟩) (Kd.R_mono HO_5.out (fun k_ hk => (⟨hk, fun e_ => hk (by rw [e_]; rfl)⟩ : _ ∧ k_ ≠ go66))) (fun _ hk => hk.2) (.bool ((bt a0 x6_1) == (bt a1 (ji48))))) (fun _ hk => hk.1)⟩, ⟨by (with_reducible repeat (first | apply Kd.R_alloc | apply Kd.R_drewN | apply Kd.R_drew)); exact HQ69.out⟩, ⟨by repeat (first | (with_reducible first | exact HB.out | apply below_alloc | apply pw_below_drewN | apply below_drew1 | refine below_set ?_ GB66.out) | exact HB.out)⟩⟩
                      ·rw [if_neg c65] at H
                       exact absurd H (by simp)
                     ·rw [if_neg c64] at H
                      exact absurd H (by simp)
                    ·rw [if_neg c62] at H
                     exact absurd H (by simp)
                  ·by_cases c70 : 0 ≤ x8_2
                   ·rw [if_pos c70] at H; have c70b0 := decide_eq_true c70; clear c70
                    by_cases c71 : x8_2 < (x7_2.length : Int)
                    ·rw [if_pos c71] at H; have c71b0 := decide_eq_true c71; clear c71; obtain ⟨y117, hy117⟩ : ∃ y_ : List Bool, y_ = (x7_2.set (x8_2 : Int).toNat false) := ⟨_, rfl⟩
                     replace H : (oculusref17_Like.l1 k2 a0 a1 x5_1 x6_1 y117 (wrap64 (x8_2 + 1))) = some r := by first | (rw [hy117]; with_reducible exact H) | (have H2_ := (Option.bind_some _ _).symm.trans H; rw [hy117]; with_reducible exact H2_) | (have H2_ := (Option.bind_some _ _).symm.trans H; with_reducible exact H2_) | with_reducible exact H | (rw [hy117]; exact H) | exact H
                     have Ny117 := A_ hy117; clear hy117
                     have H' := A_ H
                     clear H
                     have p21 : 0 ≤ (x6_1 : Int) := of_decide_eq_true as_
                     have q21 : x6_1 < (a0.size : Int) := of_decide_eq_true as_
                     have hx21 := bt_at a0 x6_1; replace p21 := eq_true p21; replace q21 := eq_true q21
                     try go_wp2
                     (try (rw [drewN_self wr]; generalize hq_ : World.drewN wr _ = wr; have n0_ : Aside0 (Kd.R Kd.bool 4 wr w.heap.size (fun k_ => some k_ ≠ (v107 : Value).ownBlock) u5 x5_1) := ⟨by rw [← hq_]; exact (ra_ HO_5.out)⟩; have n1_ : Aside0 (Kd.R Kd.bool 4 wr w.heap.size (fun k_ => some k_ ≠ (u5 : Value).ownBlock) v107 x7_2) := ⟨by rw [← hq_]; exact (ra_ HO_7.out)⟩; have n2_ : Aside0 (Below w.heap.size w wr) := ⟨by rw [← hq_]; exact (pbx HB)⟩; clear HO_5 HO_7 HB hq_; have HO_5 := n0_; have HO_7 := n1_; have HB := n2_; clear n0_ n1_ n2_))
                     replace HO_5 := A_ (Kd.R_drew HO_5.out); replace HO_7 := A_ (Kd.R_drew HO_7.out); replace HB := A_ (below_drew1 HB.out); obtain ⟨Ao74, co74, eo74⟩ := Kd.R_slice HO_5.out; (first | subst eo74 | (injection eo74 with f1_ f2_ f3_; have f4_ := f1_.symm; have f5_ := f3_.symm; clear f1_ f2_ f3_; subst f4_; subst f5_))
                     have p114 : 0 ≤ ((ji48) : Int) := of_decide_eq_true as_
                     have q114 : (ji48) < (x5_1.length : Int) := of_decide_eq_true as_
                     obtain ⟨ad114, e114, hx114_0⟩ := Kd.at_bool (Kd.R_reads' HO_5.out).2.2 (ji48) p114 q114; (try rw [← Nbq51.out] at hx114_0)
                     cases e114
                     replace p114 := eq_true p114; replace q114 := eq_true q114
                     have p72 : 0 ≤ (x8_2 : Int) := of_decide_eq_true as_
                     have q72 : (x8_2 : Int) < ((x7_2.length : Int) : Int) := of_decide_eq_true as_
                     obtain ⟨go72, co72, eo72, gb72, gl72, cl72, HG72⟩ := Kd.R_form HO_7.out (by omega); (first | cases eo72 | (injection eo72 with ea_ en_ ec_; (first | subst ea_ | (injection ea_ with ea_; subst ea_)); subst ec_; clear en_))
                     have GB72 := A_ gb72; have GG72 := A_ HG72; clear gb72 gl72 HG72; obtain ⟨hx72_0, hf72_0⟩ := Kd.R_celln false HO_7.out (x8_2 : Int) p72 q72; replace p72 := eq_true p72; replace q72 := eq_true q72; have HP75 := Kd.R_putn HO_7.out (x8_2 : Int) false; rw [← Ny117.out] at HP75; have HQ75 := A_ HP75; clear HP75
                     refine start_ (n:=25) (S := fun w' => w'.cell? (ad114.add ((ji48)).toNat) = some (.bool false)) (ds := [24]) #[F,F,F,F,F,F,F,F,F,F,F,F,F,F,F,F,F,F,F,F,F,F,F,F,F] (by kernel_rfl) rfl rfl (hx114_0) (fun hHeld => ?_); refine with_tabW oculusref17_Like.tab13 oculusref17_Like.bits13 (fun HT_ HW_ => ?_)
                     generalize wr.drew = w73 at HO_5 HO_7 HB GG72 HQ75 hf72_0 hx114_0 hx72_0 hHeld ⊢; refine pure_ (i:=0) (N:=some 55) (v:=?_) (a':=?_) ⟨m_ 25 1⟩ rfl rfl (ao_ HT_) (fun _ _ _ h=>h) (Or.inl ⟨rfl, ?_⟩) ?_ ?_; rotate_left
                     ·intro w'; go_simp; with_reducible rfl
                     rotate_left
                     ·simp only [q_, i64_w, i32_w]; rfl
                     refine pure_ (i:=1) (N:=some 56) (v:=?_) (a':=?_) ⟨m_ 25 3⟩ rfl rfl (ao_ HT_) (fun _ _ _ h=>h) (Or.inl ⟨rfl, ?_⟩) ?_ ?_; rotate_left
                     ·intro w'; go_simp; with_reducible rfl
                     rotate_left
                     ·simp only [q_, i64_w, i32_w]; rfl
                     refine pure_ (i:=2) (N:=some 57) (v:=?_) (a':=?_) ⟨m_ 25 7⟩ rfl rfl (ao_ HT_) (fun _ _ _ h=>h) (Or.inl ⟨rfl, ?_⟩) ?_ ?_; rotate_left
                     ·intro w'; go_simp; with_reducible rfl
                     rotate_left
                     ·simp only [q_, i64_w, i32_w]; rfl
                     refine pure_ (i:=3) (N:=some 58) (v:=?_) (a':=?_) ⟨m_ 25 15⟩ rfl rfl (ao_ HT_) (fun _ _ _ h=>h) (Or.inl ⟨rfl, ?_⟩) ?_ ?_; rotate_left
                     ·intro w'; go_simp; with_reducible rfl
                     rotate_left
                     ·simp only [q_, i64_w, i32_w]; rfl
                     refine pure_ (i:=4) (N:=some 59) (v:=?_) (a':=?_) ⟨m_ 25 31⟩ rfl rfl (ao_ HT_) (fun _ _ _ h=>h) (Or.inl ⟨rfl, ?_⟩) ?_ ?_; rotate_left
                     ·intro w'; go_simp; with_reducible rfl
                     rotate_left
                     ·simp only [q_, i64_w, i32_w]; rfl
                     refine pure_ (i:=5) (N:=some 60) (v:=?_) (a':=?_) ⟨m_ 25 63⟩ rfl rfl (ao_ HT_) (fun _ _ _ h=>h) (Or.inl ⟨rfl, ?_⟩) ?_ ?_; rotate_left
                     ·intro w'; go_simp; with_reducible rfl
                     rotate_left
                     ·simp only [q_, i64_w, i32_w]; rfl
                     refine take_ (i:=6) (N:=some 61) (v:=?_) (a':=?_) ⟨m_ 25 127⟩ rfl rfl (tw_ HT_ HW_) (fun _ _ _ h=>h) (Or.inl ⟨rfl, ?_⟩) hHeld ?_ ?_; rotate_left
                     ·intro w' s0; go_simp; with_reducible rfl
                     rotate_left
                     ·simp only [q_, i64_w, i32_w]; rfl
                     refine pure_ (i:=7) (N:=some 62) (v:=?_) (a':=?_) ⟨m_ 25 255⟩ rfl rfl (ao_ HT_) (fun _ _ _ h=>h) (Or.inl ⟨rfl, ?_⟩) ?_ ?_; rotate_left
                     ·intro w'; go_simp; with_reducible rfl
                     rotate_left
                     ·simp only [q_, i64_w, i32_w]; rfl
                     refine pure_ (i:=8) (N:=some 63) (v:=undef) (a':=?_) ⟨m_ 25 511⟩ rfl rfl (ao_ HT_) (fun _ _ _ h=>h) (Or.inr ⟨by rfl, rfl⟩) ?_ ?_; rotate_left
                     ·simp only [q_, i64_w, i32_w]; rfl
                     refine pure_ (i:=9) (N:=some 64) (v:=undef) (a':=?_) ⟨m_ 25 1023⟩ rfl rfl (ao_ HT_) (fun _ _ _ h=>h) (Or.inr ⟨by rfl, rfl⟩) ?_ ?_; rotate_left
                     ·simp only [q_, i64_w, i32_w]; rfl
                     refine pure_ (i:=10) (N:=some 65) (v:=undef) (a':=?_) ⟨m_ 25 2047⟩ rfl rfl (ao_ HT_) (fun _ _ _ h=>h) (Or.inr ⟨by rfl, rfl⟩) ?_ ?_; rotate_left
                     ·simp only [q_, i64_w, i32_w]; rfl
                     refine pure_ (i:=11) (N:=some 66) (v:=undef) (a':=?_) ⟨m_ 25 4095⟩ rfl rfl (ao_ HT_) (fun _ _ _ h=>h) (Or.inr ⟨by rfl, rfl⟩) ?_ ?_; rotate_left
                     ·simp only [q_, i64_w, i32_w]; rfl
                     refine pure_ (i:=12) (N:=some 67) (v:=undef) (a':=?_) ⟨m_ 25 8191⟩ rfl rfl (ao_ HT_) (fun _ _ _ h=>h) (Or.inr ⟨by rfl, rfl⟩) ?_ ?_; rotate_left
                     ·simp only [q_, i64_w, i32_w]; rfl
                     refine pure_ (i:=13) (N:=some 68) (v:=undef) (a':=?_) ⟨m_ 25 16383⟩ rfl rfl (ao_ HT_) (fun _ _ _ h=>h) (Or.inr ⟨by rfl, rfl⟩) ?_ ?_; rotate_left
                     ·simp only [q_, i64_w, i32_w]; rfl
                     refine pure_ (i:=14) (N:=some 69) (v:=undef) (a':=?_) ⟨m_ 25 32767⟩ rfl rfl (ao_ HT_) (fun _ _ _ h=>h) (Or.inr ⟨by rfl, rfl⟩) ?_ ?_; rotate_left
                     ·simp only [q_, i64_w, i32_w]; rfl
                     refine pure_ (i:=15) (N:=some 70) (v:=undef) (a':=?_) ⟨m_ 25 65535⟩ rfl rfl (ao_ HT_) (fun _ _ _ h=>h) (Or.inr ⟨by rfl, rfl⟩) ?_ ?_; rotate_left
                     ·simp only [q_, i64_w, i32_w]; rfl
                     refine pure_ (i:=16) (N:=some 71) (v:=undef) (a':=?_) ⟨m_ 25 131071⟩ rfl rfl (ao_ HT_) (fun _ _ _ h=>h) (Or.inr ⟨by rfl, rfl⟩) ?_ ?_; rotate_left
                     ·simp only [q_, i64_w, i32_w]; rfl
                     refine pure_ (i:=17) (N:=some 72) (v:=undef) (a':=?_) ⟨m_ 25 262143⟩ rfl rfl (ao_ HT_) (fun _ _ _ h=>h) (Or.inr ⟨by rfl, rfl⟩) ?_ ?_; rotate_left
                     ·simp only [q_, i64_w, i32_w]; rfl
                     refine pure_ (i:=18) (N:=some 73) (v:=undef) (a':=?_) ⟨m_ 25 524287⟩ rfl rfl (ao_ HT_) (fun _ _ _ h=>h) (Or.inr ⟨by rfl, rfl⟩) ?_ ?_; rotate_left
                     ·simp only [q_, i64_w, i32_w]; rfl
                     refine pure_ (i:=19) (N:=some 74) (v:=undef) (a':=?_) ⟨m_ 25 1048575⟩ rfl rfl (ao_ HT_) (fun _ _ _ h=>h) (Or.inr ⟨by rfl, rfl⟩) ?_ ?_; rotate_left
                     ·simp only [q_, i64_w, i32_w]; rfl
                     refine pure_ (i:=20) (N:=some 75) (v:=undef) (a':=?_) ⟨m_ 25 2097151⟩ rfl rfl (ao_ HT_) (fun _ _ _ h=>h) (Or.inr ⟨by rfl, rfl⟩) ?_ ?_; rotate_left
                     ·simp only [q_, i64_w, i32_w]; rfl
                     refine pure_ (i:=21) (N:=some 76) (v:=undef) (a':=?_) ⟨m_ 25 4194303⟩ rfl rfl (ao_ HT_) (fun _ _ _ h=>h) (Or.inr ⟨by rfl, rfl⟩) ?_ ?_; rotate_left
                     ·simp only [q_, i64_w, i32_w]; rfl
                     refine pure_ (i:=22) (N:=some 77) (v:=?_) (a':=?_) ⟨m_ 25 8388607⟩ rfl rfl (ao_ HT_) (fun _ _ _ h=>h) (Or.inl ⟨rfl, ?_⟩) ?_ ?_; rotate_left
                     ·intro w'; go_simp; with_reducible rfl
                     rotate_left
                     ·simp only [q_, i64_w, i32_w]; rfl
                     refine pure_ (i:=23) (N:=some 78) (v:=?_) (a':=?_) ⟨m_ 25 16777215⟩ rfl rfl (ao_ HT_) (fun _ _ _ h=>h) (Or.inl ⟨rfl, ?_⟩) ?_ ?_; rotate_left
                     ·intro w'; go_simp; with_reducible rfl
                     rotate_left
                     ·simp only [q_, i64_w, i32_w]; rfl
                     refine last_ (i:=24) (N:=none) ⟨m_ 25 33554431⟩ rfl rfl (oo_ HT_) (by decide) (fun K hK => ?_)
                     refine skip_ (w1 := ?_) (by rfl) rfl ?_ ?_
                     rotate_left
                     ·go_simp; rfl
                     refine hK.out _ _ ?_; clear hK K
                     refine done_ (done_of HT_.out (by kernel_rfl)) ?_
                     try go_wp2
                     go_roundg k2
                     case measure => have := HK1.out; have := HK2.out; omega
                     case rel => exact ⟨(y117), (wrap64 (x8_2 + 1)), sq_, H', ⟨by have := HK1.out; have := HK2.out; omega⟩, ⟨by (with_reducible repeat (first | apply Kd.R_alloc | apply Kd.R_drewN | apply Kd.R_drew)); exact Kd.R_mono (Kd.R_far (p := ⟨go72, (x8_2 : Int).toNat, none⟩) (Kd.R_mono HO_5.out (fun k_ hk => (⟨hk, fun e_ => hk (by rw [e_]; rfl)⟩ : _ ∧ k_ ≠ go72))) (fun _ hk => hk.2) (.bool false)) (fun _ hk => hk.1)⟩, ⟨by (with_reducible repeat (first | apply Kd.R_alloc | apply Kd.R_drewN | apply Kd.R_drew)); exact HQ75.out⟩, ⟨by repeat (first | (with_reducible first | exact HB.out | apply below_alloc | apply pw_below_drewN | apply below_drew1 | refine below_set ?_ GB72.out) | exact HB.out)⟩⟩
                    ·rw [if_neg c71] at H
                     exact absurd H (by simp)
                   ·rw [if_neg c70] at H
                    exact absurd H (by simp)
                 ·rw [if_neg c50] at H
                  exact absurd H (by simp)
                ·rw [if_neg c49] at H
                 exact absurd H (by simp)
               ·rw [if_neg c47] at H; have c47b0 := decide_eq_false c47; clear c47
                have H' := A_ H
                clear H
                have p21 : 0 ≤ (x6_1 : Int) := of_decide_eq_true as_
                have q21 : x6_1 < (a0.size : Int) := of_decide_eq_true as_
                have hx21 := bt_at a0 x6_1; replace p21 := eq_true p21; replace q21 := eq_true q21
                go_wp2
                go_roundg k2
                case measure => have := HK1.out; have := HK2.out; omega
                case rel => exact ⟨(x7_2), (wrap64 (x8_2 + 1)), sq_, H', ⟨by have := HK1.out; have := HK2.out; omega⟩, ⟨ra_ HO_5.out⟩, ⟨ra_ HO_7.out⟩, ⟨pbx HB⟩⟩
             ·rw [if_neg c20] at H
              exact absurd H (by simp)
            ·rw [if_neg c19] at H
             exact absurd H (by simp)
           ·rw [if_neg c18] at H; have c18b0 := decide_eq_false c18; clear c18
            have H' := A_ H
            clear H
            go_wp2
            go_roundg k2
            case measure => have := HK1.out; have := HK2.out; omega
            case rel => exact ⟨(x7_2), (wrap64 (x6_1 + 1)), sq_, H', ⟨by have := HK1.out; have := HK2.out; omega⟩, ⟨by (with_reducible repeat (first | apply Kd.R_alloc | apply Kd.R_drewN | apply Kd.R_drew)); exact Kd.R_mono HO_7.out (fun _ hk => trivial)⟩, ⟨pbx HB⟩⟩
        ·rw [if_neg c15] at H
         exact absurd H (by simp)
       ·rw [if_neg c14] at H
        exact absurd H (by simp)
      ·rw [if_neg c12] at H; have c12b0 := decide_eq_false c12; clear c12
       by_cases c76 : 0 ≤ (a1.size : Int)
       ·rw [if_pos c76] at H; have c76b0 := decide_eq_true c76; have c76b1 : decide (0 ≤ a1.size) = true := decide_eq_true (by omega); clear c76
        by_cases c77 : (a1.size : Int) < (x5_1.length : Int)
        ·rw [if_pos c77] at H; have c77b0 := decide_eq_true c77; have c77b1 : decide (a1.size < x5_1.length) = true := decide_eq_true (Int.ofNat_lt.mp c77); clear c77; obtain rfl := Option.some.inj H; obtain ⟨Ao78, co78, eo78⟩ := Kd.R_slice HO_5.out; subst eo78
         have p105 : 0 ≤ ((a1.size : Int) : Int) := of_decide_eq_true as_
         have q105 : (a1.size : Int) < (x5_1.length : Int) := of_decide_eq_true as_
         obtain ⟨ad105, e105, hx105_0⟩ := Kd.at_bool (Kd.R_reads' HO_5.out).2.2 (a1.size : Int) p105 q105
         cases e105
         replace p105 := eq_true p105; replace q105 := eq_true q105; have q105z : (a1.size < x5_1.length) = True := eq_true (by have := of_eq_true q105; omega); have hx105z := hx105_0; rw [Int.toNat_natCast] at hx105z
         go_wp2
         go_ret
         exact ⟨by first | rfl | (simp [errW_none, errW_some] <;> rfl) | (simp only [← hji3]; first | rfl | (simp [errW_none, errW_some] <;> rfl)) | (simp [*, errW_none, errW_some] <;> rfl), pbx HB⟩
        ·rw [if_neg c77] at H
         exact absurd H (by simp)
       ·rw [if_neg c76] at H
        exact absurd H (by simp)
   ·rw [if_neg c6] at H
    exact absurd H (by simp)
  ·rw [if_neg c5] at H
   exact absurd H (by simp)
 ·rw [if_neg c4] at H
  exact absurd H (by simp)

def oculusref17_Hits.j0 : Nat → Int → Int → Int → ByteArray → Int → Int → ByteArray → Option (Bool)
 | 0, _, _, _, _, _, _, _ => none
 | k + 1, x102000, x102001, x102002, x102003, x103000, x103001, x103002 => if x103000 = x102001 then ((oculusref12_Compare.f k x103000 x103001 x103002 x102001 x102002 x102003).bind fun t103 => (if x103000 = 2 then ((oculusref17_Like.f k x102003 x103002).bind fun t104 => ((some (([t104, !t104, decide (t103 < 0), decide (t103 ≤ 0), decide (t103 > 0), decide (t103 ≥ 0)] : List Bool) : List Bool)).bind fun y105 => (if 0 ≤ (wrap64 (x102000 - 7)) then (if (wrap64 (x102000 - 7)) < (y105.length : Int) then (some (rdOf false y105 (wrap64 (x102000 - 7)))) else (none)) else (none)))) else ((some (([(t103 == 0), !(t103 == 0), decide (t103 < 0), decide (t103 ≤ 0), decide (t103 > 0), decide (t103 ≥ 0)] : List Bool) : List Bool)).bind fun y109 => (if 0 ≤ (wrap64 (x102000 - 7)) then (if (wrap64 (x102000 - 7)) < (y109.length : Int) then (some (rdOf false y109 (wrap64 (x102000 - 7)))) else (none)) else (none))))) else (some (x102000 == 8))
def oculusref17_Hits.f (k : Nat) (a0_0 : Int) (a0_1 : Int) (a0_2 : Int) (a0_3 : ByteArray) (a1_0 : Int) (a1_1 : Int) (a1_2 : ByteArray) : Option (Bool) := if a1_0 = 4 then (some false) else (if a1_0 = 0 then (oculusref17_Hits.j0 k a0_0 a0_1 a0_2 a0_3 2 a1_1 a1_2) else (oculusref17_Hits.j0 k a0_0 a0_1 a0_2 a0_3 a1_0 a1_1 a1_2))
theorem oculusref17_Hits.calls (k : Nat) (a0_0 : Int) (a0_1 : Int) (a0_2 : Int) (a0_3 : ByteArray) (a1_0 : Int) (a1_1 : Int) (a1_2 : ByteArray) (r : Bool) (w : World) (h : oculusref17_Hits.f k a0_0 a0_1 a0_2 a0_3 a1_0 a1_1 a1_2 = some r) :
  Calls Tryz.prog 44 #[.agg #[.int .i64 a0_0, .int .i64 a0_1, .int .i64 a0_2, .string a0_3], .agg #[.int .i64 a1_0, .int .i64 a1_1, .string a1_2]] w fun e w' => e = .returned (.bool r) ∧ Below w.heap.size w w' := by
 have hu64 := Tryz.underlying64; have hu26 := Tryz.underlying26; have HB := A_ (Below.refl w.heap.size w)
 have H : (if a1_0 = 4 then (some false) else (if a1_0 = 0 then (oculusref17_Hits.j0 k a0_0 a0_1 a0_2 a0_3 2 a1_1 a1_2) else (oculusref17_Hits.j0 k a0_0 a0_1 a0_2 a0_3 a1_0 a1_1 a1_2))) = some r := h
 clear h
 by_cases c3 : a1_0 = 4
 ·rw [if_pos c3] at H; have ⟨c3b0,c3b1⟩ := e1_ c3; clear c3; obtain rfl := Option.some.inj H
  go_enter Tryz.func44, Tryz.ntmps44
  go_wp2_with (first | ((with_reducible refine gd_ 2 ?_); refine be_ (N:=2) (cs := #[.int .i64 a0_0, .int .i64 a0_1, .int .i64 a0_2, .string a0_3]) (t:=64) ?_; intro g1 hg w4 hbox hb; have B1 := A_ (hbox); have GW101 := hs_ HB hg; have GE101 := hs_ HB hg; replace HB := bs_ HB hb; clear hb hbox hg) | ((with_reducible refine gd_ 3 ?_); refine be_ (N:=3) (cs := #[.int .i64 a1_0, .int .i64 a1_1, .string a1_2]) (t:=26) ?_; intro g2 hg w5 hbox hb; have B2 := A_ (hbox); have GW102 := hs_ HB hg; have GE102 := hs_ HB hg; have N12 := hl_ B1 hg; have N21 := hr_ B1 hg; replace B1 := bb_ B1 hb; replace HB := bs_ HB hb; clear hb hbox hg; have hnb6 := N21.out; have hnc6 := N12.out; have ⟨hcz7_0,hcz7_1,hcz7_2,hfz7_0,hfz7_1,hfz7_2⟩ := z3_ B2))
  go_ret
  exact fi_ (pbx HB)
 ·rw [if_neg c3] at H; have ⟨c3b0,c3b1⟩ := e0_ c3; have HC8 := A_ H; clear H
  go_enter Tryz.func44, Tryz.ntmps44
  go_upto_if 13 with (first | ((with_reducible refine gd_ 2 ?_); refine be_ (N:=2) (cs := #[.int .i64 a0_0, .int .i64 a0_1, .int .i64 a0_2, .string a0_3]) (t:=64) ?_; intro g1 hg w9 hbox hb; have B1 := A_ (hbox); have GW101 := hs_ HB hg; have GE101 := hs_ HB hg; replace HB := bs_ HB hb; clear hb hbox hg) | ((with_reducible refine gd_ 3 ?_); refine be_ (N:=3) (cs := #[.int .i64 a1_0, .int .i64 a1_1, .string a1_2]) (t:=26) ?_; intro g2 hg w10 hbox hb; have B2 := A_ (hbox); have GW102 := hs_ HB hg; have GE102 := hs_ HB hg; have N12 := hl_ B1 hg; have N21 := hr_ B1 hg; replace B1 := bb_ B1 hb; replace HB := bs_ HB hb; clear hb hbox hg; have hnb11 := N21.out; have hnc11 := N12.out; have ⟨hcz12_0,hcz12_1,hcz12_2,hfz12_0,hfz12_1,hfz12_2⟩ := z3_ B2))
  (try simp only [q_])
  go_cut [] (fun wc => ∃ (kq : Nat) (x103000_7 : Int), Aside0 (oculusref17_Hits.j0 kq a0_0 a0_1 a0_2 a0_3 x103000_7 a1_1 a1_2 = some r) ∧ Aside0 (kq ≤ k) ∧ Aside0 (wc.heap[g1]? = some (.cells #[.int .i64 a0_0, .int .i64 a0_1, .int .i64 a0_2, .string a0_3] 64 (0, 0))) ∧ Aside0 (wc.heap[g2]? = some (.cells #[.int .i64 x103000_7, .int .i64 a1_1, .string a1_2] 26 (0, 0))) ∧ Aside0 (Below w.heap.size w wc))
  case first =>
   have H := HC8.out; clear HC8
   by_cases c13 : a1_0 = 0
   ·rw [if_pos c13] at H; have ⟨c13b0,c13b1⟩ := e1_ c13; clear c13; (first | rw [c13b0] | (simp only [i64_w, i32_w]; rw [c13b0]) | skip)
    have H' := A_ H
    clear H; have hnb14 := N21.out; have hnc14 := N12.out
    have ⟨hcz15_0,hcz15_1,hcz15_2,hfz15_0,hfz15_1,hfz15_2⟩ := z3_ B2
    go_wp2
    go_meet
    case rel => exact ⟨_, (2), H', le_, ⟨by refine pf_ ?_ N12.out; exact pkx B1⟩, ⟨by refine pp_ (cs := #[.int .i64 a1_0, .int .i64 a1_1, .string a1_2]) 0 ?_ rfl; exact pkx B2⟩, ⟨bl_⟩⟩
   ·rw [if_neg c13] at H; have ⟨c13b0,c13b1⟩ := e0_ c13; (first | rw [c13b0] | (simp only [i64_w, i32_w]; rw [c13b0]) | skip)
    have H' := A_ H
    clear H
    go_wp2
    go_meet
    case rel => exact ⟨_, (a1_0), H', le_, ⟨pkx B1⟩, ⟨pkx B2⟩, ⟨pbx HB⟩⟩
  case rest =>
   clear HC8; (try clear c3); (try clear c3b0); (try clear c3b1); (try clear hcz12_0); (try clear hcz12_1); (try clear hcz12_2); (try clear hfz12_0); (try clear hfz12_1); (try clear hfz12_2); obtain ⟨kq, x103000_7, HA, HJ7, B1, B2, HB⟩ := hcut
   cases kq with
   | zero => exact absurd HA.out (by simp [oculusref17_Hits.j0])
   | succ kj7 =>
    have H := HA.out; clear HA
    simp only [oculusref17_Hits.j0] at H
    by_cases c16 : x103000_7 = a0_1
    ·rw [if_pos c16] at H; have ⟨c16b0,c16b1⟩ := e1_ c16; clear c16; obtain ⟨t103, A17, H⟩ := bo_ H
     by_cases c18 : x103000_7 = 2
     ·rw [if_pos c18] at H; have ⟨c18b0,c18b1⟩ := e1_ c18; clear c18; obtain ⟨t104, A19, H⟩ := bo_ H; obtain ⟨y105, hy105⟩ : ∃ y_ : List Bool, y_ = (([t104, !t104, decide (t103 < 0), decide (t103 ≤ 0), decide (t103 > 0), decide (t103 ≥ 0)] : List Bool)) := ⟨_, rfl⟩
      replace H : (if 0 ≤ (wrap64 (a0_0 - 7)) then (if (wrap64 (a0_0 - 7)) < (y105.length : Int) then (some (rdOf false y105 (wrap64 (a0_0 - 7)))) else (none)) else (none)) = some r := by first | (rw [hy105]; with_reducible exact H) | (have H2_ := (Option.bind_some _ _).symm.trans H; rw [hy105]; with_reducible exact H2_) | (have H2_ := (Option.bind_some _ _).symm.trans H; with_reducible exact H2_) | with_reducible exact H | (rw [hy105]; exact H) | exact H
      have Ny105 := A_ hy105; clear hy105; obtain ⟨ji20, hji20⟩ : ∃ j_ : Int, (wrap64 (a0_0 - 7)) = j_ := ⟨_, rfl⟩
      replace H : (if 0 ≤ (ji20) then (if (ji20) < (y105.length : Int) then (some (rdOf false y105 (ji20))) else (none)) else (none)) = some r := by first | (rw [hji20] at H; exact H) | (simp only [hji20] at H ⊢; exact H)
      (try rw [hji20] at A17); (try rw [hji20] at A19)
      have hji20w : (IntKind.i64.wrap (a0_0 - 7)) = ji20 := (i64_w _).trans hji20
      by_cases c21 : 0 ≤ (ji20)
      ·rw [if_pos c21] at H; have c21b0 := decide_eq_true c21; clear c21
       by_cases c22 : (ji20) < (y105.length : Int)
       ·rw [if_pos c22] at H; have c22b0 := decide_eq_true c22; clear c22; obtain rfl := Option.some.inj H; have hnb23 := N21.out; have hnc23 := N12.out
        have ⟨hcz24_0,hcz24_1,hcz24_2,hfz24_0,hfz24_1,hfz24_2⟩ := z3_ B2
        have ⟨hcz25_0,hcz25_1,hcz25_2,hcz25_3,hfz25_0,hfz25_1,hfz25_2,hfz25_3⟩ := z4_ B1
        go_wp2_with (first | ((with_reducible refine gate_callee (f:=64) rfl ?_); refine gL_ (some 27) rfl rfl Tryz.func64 rfl #[.agg #[.int .i64 x103000_7, .int .i64 a1_1, .string a1_2], .agg #[.int .i64 a0_1, .int .i64 a0_2, .string a0_3]] rfl ?_; (with_reducible refine (oculusref12_Compare.calls kj7 x103000_7 a1_1 a1_2 a0_1 a0_2 a0_3 t103 _ A17.out).mono ?_); rintro e w26 ⟨rfl, hb⟩; refine ⟨_, rfl, ?_⟩; replace B1 := bb_ B1 hb; replace B2 := bb_ B2 hb; replace HB := bs_ HB hb; (try clear hb); have ⟨hcz27_0,hcz27_1,hcz27_2,hfz27_0,hfz27_1,hfz27_2⟩ := z3_ B2; have ⟨hcz28_0,hcz28_1,hcz28_2,hcz28_3,hfz28_0,hfz28_1,hfz28_2,hfz28_3⟩ := z4_ B1) | ((with_reducible refine gate_callee (f:=65) rfl ?_); refine gL_ (some 38) rfl rfl Tryz.func65 rfl #[.string a0_3, .string a1_2] rfl ?_; (with_reducible refine (oculusref17_Like.calls kj7 a0_3 a1_2 t104 _ A19.out).mono ?_); rintro e w29 ⟨rfl, hb⟩; refine ⟨_, rfl, ?_⟩; replace B1 := bb_ B1 hb; replace B2 := bb_ B2 hb; replace HB := bs_ HB hb; (try clear hb); ) | ((with_reducible refine gd_ 50 ?_); refine Kd.R_lit Kd.bool _ 4 ?hg (N:=50) ?hd (xs := ([t104, !t104, decide (t103 < 0), decide (t103 ≤ 0), decide (t103 > 0), decide (t103 ≥ 0)] : List Bool)) (inner := [.bool t104, .bool (!t104), .bool (decide (t103 < 0)), .bool (decide (t103 ≤ 0)), .bool (decide (t103 > 0)), .bool (decide (t103 ≥ 0))]) (ok := fun _ => True) (okp := fun _ => True) ?hr ?hp (fun _ hk => hk) trivial (Below.refl _ _) (Nat.le_refl _) (by simp) ?_; (case hd => rfl); (case hg => rfl); (case hr => first | (go_simp; done) | (go_simp; rfl)); (case hp => exact (Reps.one (show Kd.M Kd.bool _ _ _ t104 [.bool t104] from rfl) (Reps.one (show Kd.M Kd.bool _ _ _ (!t104) [.bool (!t104)] from rfl) (Reps.one (show Kd.M Kd.bool _ _ _ (decide (t103 < 0)) [.bool (decide (t103 < 0))] from rfl) (Reps.one (show Kd.M Kd.bool _ _ _ (decide (t103 ≤ 0)) [.bool (decide (t103 ≤ 0))] from rfl) (Reps.one (show Kd.M Kd.bool _ _ _ (decide (t103 > 0)) [.bool (decide (t103 > 0))] from rfl) (Reps.one (show Kd.M Kd.bool _ _ _ (decide (t103 ≥ 0)) [.bool (decide (t103 ≥ 0))] from rfl) (Reps.none _ _)))))))); intro v106 w30 ho31 hb hg_ hnew_; clear hg_ hnew_; (first | rw [← Ny105.out] at ho31 | (simp only [Int.reduceToNat] at ho31; rw [← Ny105.out] at ho31)); have HO107 := A_ (Kd.R_lower ho31 (below_size (pbx HB))); replace B1 := bb_ B1 hb; replace B2 := bb_ B2 hb; replace HB := bs_ HB hb; clear hb ho31; have ⟨hcz32_0,hcz32_1,hcz32_2,hcz32_3,hfz32_0,hfz32_1,hfz32_2,hfz32_3⟩ := z4_ B1; obtain ⟨Ao33, co33, eo33⟩ := Kd.R_slice HO107.out; subst eo33; have p108 : 0 ≤ ((ji20) : Int) := of_decide_eq_true as_; have q108 : (ji20) < (y105.length : Int) := of_decide_eq_true as_; obtain ⟨ad108, e108, hx108_0⟩ := Kd.at_bool (Kd.R_reads' HO107.out).2.2 (ji20) p108 q108; cases e108; replace p108 := eq_true p108; replace q108 := eq_true q108))
        go_ret
        exact ⟨by first | rfl | (simp [errW_none, errW_some] <;> rfl) | (simp only [← hji20]; first | rfl | (simp [errW_none, errW_some] <;> rfl)) | (simp [*, errW_none, errW_some] <;> rfl), pbx HB⟩
       ·rw [if_neg c22] at H
        exact absurd H (by simp)
      ·rw [if_neg c21] at H
       exact absurd H (by simp)
     ·rw [if_neg c18] at H; have ⟨c18b0,c18b1⟩ := e0_ c18; obtain ⟨y109, hy109⟩ : ∃ y_ : List Bool, y_ = (([(t103 == 0), !(t103 == 0), decide (t103 < 0), decide (t103 ≤ 0), decide (t103 > 0), decide (t103 ≥ 0)] : List Bool)) := ⟨_, rfl⟩
      replace H : (if 0 ≤ (wrap64 (a0_0 - 7)) then (if (wrap64 (a0_0 - 7)) < (y109.length : Int) then (some (rdOf false y109 (wrap64 (a0_0 - 7)))) else (none)) else (none)) = some r := by first | (rw [hy109]; with_reducible exact H) | (have H2_ := (Option.bind_some _ _).symm.trans H; rw [hy109]; with_reducible exact H2_) | (have H2_ := (Option.bind_some _ _).symm.trans H; with_reducible exact H2_) | with_reducible exact H | (rw [hy109]; exact H) | exact H
      have Ny109 := A_ hy109; clear hy109; obtain ⟨ji34, hji34⟩ : ∃ j_ : Int, (wrap64 (a0_0 - 7)) = j_ := ⟨_, rfl⟩
      replace H : (if 0 ≤ (ji34) then (if (ji34) < (y109.length : Int) then (some (rdOf false y109 (ji34))) else (none)) else (none)) = some r := by first | (rw [hji34] at H; exact H) | (simp only [hji34] at H ⊢; exact H)
      (try rw [hji34] at A17)
      have hji34w : (IntKind.i64.wrap (a0_0 - 7)) = ji34 := (i64_w _).trans hji34
      by_cases c35 : 0 ≤ (ji34)
      ·rw [if_pos c35] at H; have c35b0 := decide_eq_true c35; clear c35
       by_cases c36 : (ji34) < (y109.length : Int)
       ·rw [if_pos c36] at H; have c36b0 := decide_eq_true c36; clear c36; obtain rfl := Option.some.inj H; have hnb37 := N21.out; have hnc37 := N12.out
        have ⟨hcz38_0,hcz38_1,hcz38_2,hfz38_0,hfz38_1,hfz38_2⟩ := z3_ B2
        have ⟨hcz39_0,hcz39_1,hcz39_2,hcz39_3,hfz39_0,hfz39_1,hfz39_2,hfz39_3⟩ := z4_ B1
        go_wp2_with (first | ((with_reducible refine gate_callee (f:=64) rfl ?_); refine gL_ (some 27) rfl rfl Tryz.func64 rfl #[.agg #[.int .i64 x103000_7, .int .i64 a1_1, .string a1_2], .agg #[.int .i64 a0_1, .int .i64 a0_2, .string a0_3]] rfl ?_; (with_reducible refine (oculusref12_Compare.calls kj7 x103000_7 a1_1 a1_2 a0_1 a0_2 a0_3 t103 _ A17.out).mono ?_); rintro e w40 ⟨rfl, hb⟩; refine ⟨_, rfl, ?_⟩; replace B1 := bb_ B1 hb; replace B2 := bb_ B2 hb; replace HB := bs_ HB hb; (try clear hb); have ⟨hcz41_0,hcz41_1,hcz41_2,hfz41_0,hfz41_1,hfz41_2⟩ := z3_ B2) | ((with_reducible refine gd_ 50 ?_); refine Kd.R_lit Kd.bool _ 4 ?hg (N:=50) ?hd (xs := ([(t103 == 0), !(t103 == 0), decide (t103 < 0), decide (t103 ≤ 0), decide (t103 > 0), decide (t103 ≥ 0)] : List Bool)) (inner := [.bool (t103 == 0), .bool (!(t103 == 0)), .bool (decide (t103 < 0)), .bool (decide (t103 ≤ 0)), .bool (decide (t103 > 0)), .bool (decide (t103 ≥ 0))]) (ok := fun _ => True) (okp := fun _ => True) ?hr ?hp (fun _ hk => hk) trivial (Below.refl _ _) (Nat.le_refl _) (by simp) ?_; (case hd => rfl); (case hg => rfl); (case hr => first | (go_simp; done) | (go_simp; rfl)); (case hp => exact (Reps.one (show Kd.M Kd.bool _ _ _ (t103 == 0) [.bool (t103 == 0)] from rfl) (Reps.one (show Kd.M Kd.bool _ _ _ (!(t103 == 0)) [.bool (!(t103 == 0))] from rfl) (Reps.one (show Kd.M Kd.bool _ _ _ (decide (t103 < 0)) [.bool (decide (t103 < 0))] from rfl) (Reps.one (show Kd.M Kd.bool _ _ _ (decide (t103 ≤ 0)) [.bool (decide (t103 ≤ 0))] from rfl) (Reps.one (show Kd.M Kd.bool _ _ _ (decide (t103 > 0)) [.bool (decide (t103 > 0))] from rfl) (Reps.one (show Kd.M Kd.bool _ _ _ (decide (t103 ≥ 0)) [.bool (decide (t103 ≥ 0))] from rfl) (Reps.none _ _)))))))); intro v110 w42 ho43 hb hg_ hnew_; clear hg_ hnew_; (first | rw [← Ny109.out] at ho43 | (simp only [Int.reduceToNat] at ho43; rw [← Ny109.out] at ho43)); have HO111 := A_ (Kd.R_lower ho43 (below_size (pbx HB))); replace B1 := bb_ B1 hb; replace B2 := bb_ B2 hb; replace HB := bs_ HB hb; clear hb ho43; have ⟨hcz44_0,hcz44_1,hcz44_2,hcz44_3,hfz44_0,hfz44_1,hfz44_2,hfz44_3⟩ := z4_ B1; obtain ⟨Ao45, co45, eo45⟩ := Kd.R_slice HO111.out; subst eo45; have p112 : 0 ≤ ((ji34) : Int) := of_decide_eq_true as_; have q112 : (ji34) < (y109.length : Int) := of_decide_eq_true as_; obtain ⟨ad112, e112, hx112_0⟩ := Kd.at_bool (Kd.R_reads' HO111.out).2.2 (ji34) p112 q112; cases e112; replace p112 := eq_true p112; replace q112 := eq_true q112))
        go_ret
        exact ⟨by first | rfl | (simp [errW_none, errW_some] <;> rfl) | (simp only [← hji34]; first | rfl | (simp [errW_none, errW_some] <;> rfl)) | (simp [*, errW_none, errW_some] <;> rfl), pbx HB⟩
       ·rw [if_neg c36] at H
        exact absurd H (by simp)
      ·rw [if_neg c35] at H
       exact absurd H (by simp)
    ·rw [if_neg c16] at H; have ⟨c16b0,c16b1⟩ := e0_ c16; obtain rfl := Option.some.inj H; have hnb46 := N21.out; have hnc46 := N12.out
     have ⟨hcz47_0,hcz47_1,hcz47_2,hfz47_0,hfz47_1,hfz47_2⟩ := z3_ B2
     have ⟨hcz48_0,hcz48_1,hcz48_2,hcz48_3,hfz48_0,hfz48_1,hfz48_2,hfz48_3⟩ := z4_ B1
     go_wp2
     go_ret
     exact fi_ (pbx HB)

mutual
def oculusref18_Hit.l0 : Nat → List (S26) → Int → Int → Int → List (S26) → Int → Int → Int → ByteArray → Option ((List (S26)))
 | 0, _, _, _, _, _, _, _, _, _ => none
 | k + 1, x5, x7, x102000, x102001, x102002, x108000, x108001, x108002, x108003 => if x7 < (x102002.length : Int) then (if x108000 = 0 then (oculusref18_Hit.j1 k x5 x7 false x102000 x102001 x102002 x108000 x108001 x108002 x108003) else (if 0 ≤ x7 then ((oculusref17_Hits.f k x108000 x108001 x108002 x108003 ((rd_T26 x102002 x7).f0) ((rd_T26 x102002 x7).f1) ((rd_T26 x102002 x7).f2)).bind fun t109 => (oculusref18_Hit.j1 k x5 x7 t109 x102000 x102001 x102002 x108000 x108001 x108002 x108003)) else (none))) else (some x5)
def oculusref18_Hit.j1 : Nat → List (S26) → Int → Bool → Int → Int → List (S26) → Int → Int → Int → ByteArray → Option ((List (S26)))
 | 0, _, _, _, _, _, _, _, _, _, _ => none
 | k + 1, x5, x7, x28, x102000, x102001, x102002, x108000, x108001, x108002, x108003 => if x28 = true then (if 0 ≤ x7 then (if x7 < (x102002.length : Int) then (if x5.length < 4398046511104 then (oculusref18_Hit.l0 k (x5 ++ [(⟨(rd_T26 x102002 x7).f0, (rd_T26 x102002 x7).f1, (rd_T26 x102002 x7).f2⟩ : S26)]) (wrap64 (x7 + 1)) x102000 x102001 x102002 x108000 x108001 x108002 x108003) else (none)) else (none)) else (none)) else (oculusref18_Hit.l0 k x5 (wrap64 (x7 + 1)) x102000 x102001 x102002 x108000 x108001 x108002 x108003)
end
def oculusref18_Hit.f (k : Nat) (a0_0 : Int) (a0_1 : Int) (l0_2 : List (S26)) (a1_0 : Int) (a1_1 : Int) (a1_2 : ByteArray) : Option ((List (S26))) := (oculusref17_Of.f k a1_0 a1_1 a1_2).bind fun bt103 => (oculusref18_Hit.l0 k ([] : List (S26)) 0 a0_0 a0_1 l0_2 bt103.1 bt103.2.1 bt103.2.2.1 bt103.2.2.2)
def oculusref18_Hit.T6 : Bool × List (List Nat × List Nat) := (true, [([], []), ([0], [0]), ([1], [1]), ([2], [2]), ([3], [3]), ([3], [3]), ([5, 3], [3, 5]), ([3], [3]), ([6, 7, 3], [3, 6, 7]), ([8, 3], [3, 8]), ([4, 9, 3, 3], [3, 4, 9]), ([3, 10], [3, 10])])
def oculusref18_Hit.B6 : List Nat := [0, 1, 3, 7, 15, 15, 47, 15, 239, 495, 1023, 2047]
theorem oculusref18_Hit.tab6 : rtab .any (opsOf Tryz.f25 6) = oculusref18_Hit.T6 := by kernel_rfl
theorem oculusref18_Hit.bits6 : waitsOk oculusref18_Hit.T6.2 oculusref18_Hit.B6 = true := by kernel_rfl
theorem oculusref18_Hit.calls (k : Nat) (a0_0 : Int) (a0_1 : Int) (A0_2 : Option Addr) (c0_2 : Nat) (l0_2 : List (S26)) (a1_0 : Int) (a1_1 : Int) (a1_2 : ByteArray) (r : List (S26)) (w : World) (hr0_2 : Kd.C k26 w A0_2 l0_2.length l0_2) (hc0_2 : l0_2.length ≤ c0_2) (h : oculusref18_Hit.f k a0_0 a0_1 l0_2 a1_0 a1_1 a1_2 = some r) :
  Calls Tryz.prog 25 #[.agg #[.int .i64 a0_0, .int .i64 a0_1, .slice A0_2 l0_2.length c0_2], .agg #[.int .i64 a1_0, .int .i64 a1_1, .string a1_2]] w fun e w' => ∃ v0_ : Value, e = .returned (v0_) ∧ Kd.R k26 26 w' w.heap.size (fun _ => True) v0_ r ∧ Below w.heap.size w w' := by
 have hu24 := Tryz.underlying24; have hu26 := Tryz.underlying26; have hu64 := Tryz.underlying64; have HR0_2 := A_ hr0_2; have HC0_2 := A_ hc0_2; clear hr0_2 hc0_2; have HB := A_ (Below.refl w.heap.size w)
 have H : ((oculusref17_Of.f k a1_0 a1_1 a1_2).bind fun bt103 => (oculusref18_Hit.l0 k ([] : List (S26)) 0 a0_0 a0_1 l0_2 bt103.1 bt103.2.1 bt103.2.2.1 bt103.2.2.2)) = some r := h
 clear h; obtain ⟨⟨t103, t104, t105, t106⟩, A3, H⟩ := bo_ H; dsimp only at H
 have H' := A_ H
 clear H
 go_enter Tryz.func25, Tryz.ntmps25
 go_wp2_with (first | ((with_reducible refine gd_ 2 ?_); refine be_ (N:=2) (cs := #[.int .i64 a0_0, .int .i64 a0_1, .slice A0_2 l0_2.length c0_2]) (t:=24) ?_; intro g1 hg w4 hbox hb; have B1 := A_ (hbox); have GW101 := hs_ HB hg; have GE101 := hs_ HB hg; replace HB := bs_ HB hb; clear hb hbox hg) | ((with_reducible refine gd_ 3 ?_); refine be_ (N:=3) (cs := #[.int .i64 a1_0, .int .i64 a1_1, .string a1_2]) (t:=26) ?_; intro g2 hg w5 hbox hb; have B2 := A_ (hbox); have GW102 := hs_ HB hg; have GE102 := hs_ HB hg; have N12 := hl_ B1 hg; have N21 := hr_ B1 hg; replace B1 := bb_ B1 hb; replace HB := bs_ HB hb; clear hb hbox hg; have hnb6 := N21.out; have hnc6 := N12.out; have ⟨hcz7_0,hcz7_1,hcz7_2,hfz7_0,hfz7_1,hfz7_2⟩ := z3_ B2) | ((with_reducible refine gate_callee (f:=43) rfl ?_); refine gL_ (some 9) rfl rfl Tryz.func43 rfl #[.agg #[.int .i64 a1_0, .int .i64 a1_1, .string a1_2]] rfl ?_; (with_reducible refine (oculusref17_Of.calls k a1_0 a1_1 a1_2 t103 t104 t105 t106 _ A3.out).mono ?_); rintro e w8 ⟨rfl, hb⟩; refine ⟨_, rfl, ?_⟩; replace B1 := bb_ B1 hb; replace B2 := bb_ B2 hb; replace HB := bs_ HB hb; ) | ((with_reducible refine gd_ 6 ?_); refine be_ (N:=6) (cs := #[.int .i64 0, .int .i64 0, .int .i64 0, .string (⟨#[]⟩ : ByteArray)]) (t:=64) ?_; intro g7 hg w9 hbox hb; have B7 := A_ (hbox); have GW107 := hs_ HB hg; have GE107 := hs_ HB hg; have N17 := hl_ B1 hg; have N71 := hr_ B1 hg; have N27 := hl_ B2 hg; have N72 := hr_ B2 hg; replace B1 := bb_ B1 hb; replace B2 := bb_ B2 hb; replace HB := bs_ HB hb; clear hb hbox hg; have hnb10 := N71.out; have hnc10 := N17.out; have hnb11 := N72.out; have hnc11 := N27.out; have ⟨hcz12_0,hcz12_1,hcz12_2,hcz12_3,hfz12_0,hfz12_1,hfz12_2,hfz12_3⟩ := z4_ B7))
 go_loopg [5, 7] k (fun kq v5 v7 w' => ∃ (x5_1 : List (S26)) (x7_1 : Int), v7 = .int .i64 x7_1 ∧ Aside0 (oculusref18_Hit.l0 kq x5_1 x7_1 a0_0 a0_1 l0_2 t103 t104 t105 t106 = some r) ∧ Aside0 (kq ≤ k) ∧ Aside0 (Kd.R k26 26 w' w.heap.size (fun k_ => k_ ≠ g2) v5 x5_1) ∧ Aside0 (w'.heap[g1]? = some (.cells #[.int .i64 a0_0, .int .i64 a0_1, (.slice A0_2 l0_2.length c0_2)] 24 (0, 0))) ∧ Aside0 (w'.heap[g2]? = some (.cells #[.int .i64 a1_0, .int .i64 a1_1, .string a1_2] 26 (0, 0))) ∧ Aside0 (w'.heap[g7]? = some (.cells #[.int .i64 t103, .int .i64 t104, .int .i64 t105, .string t106] 64 (0, 0))) ∧ Aside0 (Below w.heap.size w w'))
 case atStart => exact ⟨(([] : List (S26))), (0), sq_, H', ⟨Nat.le_refl _⟩, ⟨by first | exact Kd.R_nil _ _ _ _ _ | exact Kd.N_nil _ _ _ _ _ | exact Kd.V_nil _ _ _ _ _ | exact Kd.Q_nil _ _ _ _ _ | exact Kd.S_nil _ _ _ _ _⟩, ⟨by (iterate 4 refine pf_ ?_ N17.out); exact pkx B1⟩, ⟨by (iterate 4 refine pf_ ?_ N27.out); exact pkx B2⟩, ⟨by (iterate 4 apply pp_); exact pkx B7; all_goals rfl⟩, ⟨bl_⟩⟩
 case round =>
  clear H'; (try clear hcz12_0); (try clear hcz12_1); (try clear hcz12_2); (try clear hcz12_3); (try clear hcz7_0); (try clear hcz7_1); (try clear hcz7_2); (try clear hfz12_0); (try clear hfz12_1); (try clear hfz12_2); (try clear hfz12_3); (try clear hfz7_0); (try clear hfz7_1); (try clear hfz7_2); obtain ⟨x5_1, x7_1, rfl, HA, HK1, HO_5, B1, B2, B7, HB⟩ := hrel
  cases gk with
  | zero => exact absurd HA.out (by simp [oculusref18_Hit.l0])
  | succ k1 =>
   have H := HA.out; clear HA
   simp only [oculusref18_Hit.l0] at H
   by_cases c13 : x7_1 < (l0_2.length : Int)
   ·rw [if_pos c13] at H; have c13b0 := decide_eq_true c13; clear c13; have HC14 := A_ H; clear H; have hnb15 := N12.out; have hnc15 := N21.out; have hnb16 := N17.out; have hnc16 := N71.out
    have ⟨hcz17_0,hcz17_1,hcz17_2,hfz17_0,hfz17_1,hfz17_2⟩ := z3_ B1
    go_upto_region 6 with (fail)
    go_cut [28] (fun v28 wc => ∃ (kq : Nat) (x28_13 : Bool), v28 = .bool x28_13 ∧ Aside0 (oculusref18_Hit.j1 kq x5_1 x7_1 x28_13 a0_0 a0_1 l0_2 t103 t104 t105 t106 = some r) ∧ Aside0 (kq ≤ k1) ∧ Aside0 (Kd.R k26 26 wc w.heap.size (fun k_ => k_ ≠ g2) u5 x5_1) ∧ Aside0 (wc.heap[g1]? = some (.cells #[.int .i64 a0_0, .int .i64 a0_1, (.slice A0_2 l0_2.length c0_2)] 24 (0, 0))) ∧ Aside0 (wc.heap[g2]? = some (.cells #[.int .i64 a1_0, .int .i64 a1_1, .string a1_2] 26 (0, 0))) ∧ Aside0 (wc.heap[g7]? = some (.cells #[.int .i64 t103, .int .i64 t104, .int .i64 t105, .string t106] 64 (0, 0))) ∧ Aside0 (Below w.heap.size w wc))
    case first =>
     have H := HC14.out; clear HC14
     by_cases c18 : t103 = 0
     ·rw [if_pos c18] at H; have ⟨c18b0,c18b1⟩ := e1_ c18; clear c18; (first | rw [c18b0] | (simp only [i64_w, i32_w]; rw [c18b0]) | skip)
      have H' := A_ H
      clear H
      try go_wp2
      (try (rw [drewN_self wr]; generalize hq_ : World.drewN wr _ = wr; have n0_ : Aside0 (Kd.R k26 26 wr w.heap.size (fun k_ => k_ ≠ g2) u5 x5_1) := ⟨by rw [← hq_]; exact (ra_ HO_5.out)⟩; have n1_ : Aside0 (wr.heap[g1]? = some (.cells #[.int .i64 a0_0, .int .i64 a0_1, .slice A0_2 l0_2.length c0_2] 24 (0, 0))) := ⟨by rw [← hq_]; exact (pkx B1)⟩; have n2_ : Aside0 (wr.heap[g2]? = some (.cells #[.int .i64 a1_0, .int .i64 a1_1, .string a1_2] 26 (0, 0))) := ⟨by rw [← hq_]; exact (pkx B2)⟩; have n3_ : Aside0 (wr.heap[g7]? = some (.cells #[.int .i64 t103, .int .i64 t104, .int .i64 t105, .string t106] 64 (0, 0))) := ⟨by rw [← hq_]; exact (pkx B7)⟩; have n4_ : Aside0 (Below w.heap.size w wr) := ⟨by rw [← hq_]; exact (pbx HB)⟩; clear HO_5 B1 B2 B7 HB hq_; have HO_5 := n0_; have B1 := n1_; have B2 := n2_; have B7 := n3_; have HB := n4_; clear n0_ n1_ n2_ n3_ n4_))
      replace HO_5 := A_ (Kd.R_drew HO_5.out); replace B1 := A_ (blk_drew B1.out); replace B2 := A_ (blk_drew B2.out); replace B7 := A_ (blk_drew B7.out); replace HB := A_ (below_drew1 HB.out)
      refine start_ (n:=12) (S := fun w' => w'.cell? ⟨g7, 0, none⟩ = some (.int .i64 t103) ∧ w'.cell? ⟨g7, 1, none⟩ = some (.int .i64 t104) ∧ w'.cell? ⟨g7, 2, none⟩ = some (.int .i64 t105) ∧ w'.cell? ⟨g7, 3, none⟩ = some (.string t106)) (ds := []) #[F,F,F,F,F,F,F,F,F,F,F,F] (by kernel_rfl) rfl rfl ⟨bc_ B7 0 rfl, bc_ B7 1 rfl, bc_ B7 2 rfl, bc_ B7 3 rfl⟩ (fun hHeld => ?_); refine with_tabW oculusref18_Hit.tab6 oculusref18_Hit.bits6 (fun HT_ HW_ => ?_)
      generalize wr.drew = w19 at HO_5 B1 B2 B7 HB hHeld ⊢; refine pure_ (i:=0) (N:=some 17) (v:=?_) (a':=?_) ⟨m_ 12 1⟩ rfl rfl (ao_ HT_) (fun _ _ _ h=>h) (Or.inl ⟨rfl, ?_⟩) ?_ ?_; rotate_left
      ·intro w'; go_simp; with_reducible rfl
      rotate_left
      ·simp only [q_, i64_w, i32_w]; rfl
      refine take_ (i:=1) (N:=some 18) (v:=?_) (a':=?_) ⟨m_ 12 3⟩ rfl rfl (tw_ HT_ HW_) (fun _ _ _ h=>h) (Or.inl ⟨rfl, ?_⟩) hHeld ?_ ?_; rotate_left
      ·rintro w' ⟨s0, s1, s2, s3⟩; go_simp; with_reducible rfl
      rotate_left
      ·simp only [q_, i64_w, i32_w]; rfl
      refine pure_ (i:=2) (N:=some 19) (v:=?_) (a':=?_) ⟨m_ 12 7⟩ rfl rfl (ao_ HT_) (fun _ _ _ h=>h) (Or.inl ⟨rfl, ?_⟩) ?_ ?_; rotate_left
      ·intro w'; go_simp; with_reducible rfl
      rotate_left
      ·simp only [q_, i64_w, i32_w]; rfl
      refine pure_ (i:=3) (N:=some 20) (v:=?_) (a':=?_) ⟨m_ 12 15⟩ rfl rfl (ao_ HT_) (fun _ _ _ h=>h) (Or.inl ⟨rfl, ?_⟩) ?_ ?_; rotate_left
      ·intro w'; go_simp; with_reducible rfl
      rotate_left
      ·simp only [q_, i64_w, i32_w]; rfl
      refine pure_ (i:=4) (N:=some 21) (v:=undef) (a':=?_) ⟨m_ 12 31⟩ rfl rfl (ao_ HT_) (fun _ _ _ h=>h) (Or.inr ⟨by rfl, rfl⟩) ?_ ?_; rotate_left
      ·simp only [q_, i64_w, i32_w]; rfl
      refine pure_ (i:=5) (N:=some 22) (v:=undef) (a':=?_) ⟨m_ 12 63⟩ rfl rfl (ao_ HT_) (fun _ _ _ h=>h) (Or.inr ⟨by rfl, rfl⟩) ?_ ?_; rotate_left
      ·simp only [q_, i64_w, i32_w]; rfl
      refine pure_ (i:=6) (N:=some 23) (v:=undef) (a':=?_) ⟨m_ 12 127⟩ rfl rfl (ao_ HT_) (fun _ _ _ h=>h) (Or.inr ⟨by rfl, rfl⟩) ?_ ?_; rotate_left
      ·simp only [q_, i64_w, i32_w]; rfl
      refine pure_ (i:=7) (N:=some 24) (v:=undef) (a':=?_) ⟨m_ 12 255⟩ rfl rfl (ao_ HT_) (fun _ _ _ h=>h) (Or.inr ⟨by rfl, rfl⟩) ?_ ?_; rotate_left
      ·simp only [q_, i64_w, i32_w]; rfl
      refine pure_ (i:=8) (N:=some 25) (v:=undef) (a':=?_) ⟨m_ 12 511⟩ rfl rfl (ao_ HT_) (fun _ _ _ h=>h) (Or.inr ⟨by rfl, rfl⟩) ?_ ?_; rotate_left
      ·simp only [q_, i64_w, i32_w]; rfl
      refine pure_ (i:=9) (N:=some 26) (v:=undef) (a':=?_) ⟨m_ 12 1023⟩ rfl rfl (ao_ HT_) (fun _ _ _ h=>h) (Or.inr ⟨by rfl, rfl⟩) ?_ ?_; rotate_left
      ·simp only [q_, i64_w, i32_w]; rfl
      refine pure_ (i:=10) (N:=some 27) (v:=undef) (a':=?_) ⟨m_ 12 2047⟩ rfl rfl (ao_ HT_) (fun _ _ _ h=>h) (Or.inr ⟨by rfl, rfl⟩) ?_ ?_; rotate_left
      ·simp only [q_, i64_w, i32_w]; rfl
      refine pure_ (i:=11) (N:=some 28) (v:=?_) (a':=?_) ⟨m_ 12 4095⟩ rfl rfl (ao_ HT_) (fun _ _ _ h=>h) (Or.inl ⟨rfl, ?_⟩) ?_ ?_; rotate_left
      ·intro w'; go_simp; with_reducible rfl
      rotate_left
      ·simp only [q_, i64_w, i32_w]; rfl
      refine done_ (done_of HT_.out (by kernel_rfl)) ?_
      try go_wp2
      go_meet
      case rel => exact ⟨_, (false), sq_, H', ⟨by have := HK1.out; first | omega | exact Nat.le_refl _⟩, ⟨ra_ HO_5.out⟩, ⟨pkx B1⟩, ⟨pkx B2⟩, ⟨pkx B7⟩, ⟨pbx HB⟩⟩
     ·rw [if_neg c18] at H; have ⟨c18b0,c18b1⟩ := e0_ c18; (first | rw [c18b0] | (simp only [i64_w, i32_w]; rw [c18b0]) | skip)
      by_cases c20 : 0 ≤ x7_1
      ·rw [if_pos c20] at H; have c20b0 := decide_eq_true c20; clear c20; obtain ⟨t109, A21, H⟩ := bo_ H
       have H' := A_ H
       clear H
       try go_wp2
       (try (rw [drewN_self wr]; generalize hq_ : World.drewN wr _ = wr; have n0_ : Aside0 (Kd.R k26 26 wr w.heap.size (fun k_ => k_ ≠ g2) u5 x5_1) := ⟨by rw [← hq_]; exact (ra_ HO_5.out)⟩; have n1_ : Aside0 (wr.heap[g1]? = some (.cells #[.int .i64 a0_0, .int .i64 a0_1, .slice A0_2 l0_2.length c0_2] 24 (0, 0))) := ⟨by rw [← hq_]; exact (pkx B1)⟩; have n2_ : Aside0 (wr.heap[g2]? = some (.cells #[.int .i64 a1_0, .int .i64 a1_1, .string a1_2] 26 (0, 0))) := ⟨by rw [← hq_]; exact (pkx B2)⟩; have n3_ : Aside0 (wr.heap[g7]? = some (.cells #[.int .i64 t103, .int .i64 t104, .int .i64 t105, .string t106] 64 (0, 0))) := ⟨by rw [← hq_]; exact (pkx B7)⟩; have n4_ : Aside0 (Below w.heap.size w wr) := ⟨by rw [← hq_]; exact (pbx HB)⟩; clear HO_5 B1 B2 B7 HB hq_; have HO_5 := n0_; have B1 := n1_; have B2 := n2_; have B7 := n3_; have HB := n4_; clear n0_ n1_ n2_ n3_ n4_))
       replace HO_5 := A_ (Kd.R_drew HO_5.out); replace B1 := A_ (blk_drew B1.out); replace B2 := A_ (blk_drew B2.out); replace B7 := A_ (blk_drew B7.out); replace HB := A_ (below_drew1 HB.out)
       have p108 : 0 ≤ (x7_1 : Int) := of_decide_eq_true as_
       have q108 : x7_1 < (l0_2.length : Int) := of_decide_eq_true as_
       obtain ⟨ad108, e108, hx108_0, hx108_1, hx108_2⟩ := at_T26 HR0_2.out x7_1 p108 q108; have hw108_2 := hx108_2; have hw108_1 := hx108_1; have hw108_0 := hx108_0
       cases e108
       replace hx108_0 := (HB.out.cell (World.block_lt_of_cell? w _ hx108_0)).trans hx108_0; replace hx108_1 := (HB.out.cell (World.block_lt_of_cell? w _ hx108_1)).trans hx108_1; replace hx108_2 := (HB.out.cell (World.block_lt_of_cell? w _ hx108_2)).trans hx108_2; replace p108 := eq_true p108; replace q108 := eq_true q108
       refine start_ (n:=12) (S := fun w' => w'.cell? ⟨g7, 0, none⟩ = some (.int .i64 t103) ∧ w'.cell? ⟨g7, 1, none⟩ = some (.int .i64 t104) ∧ w'.cell? ⟨g7, 2, none⟩ = some (.int .i64 t105) ∧ w'.cell? ⟨g7, 3, none⟩ = some (.string t106) ∧ w'.cell? ⟨g1, 0, none⟩ = some (.int .i64 a0_0) ∧ w'.cell? ⟨g1, 1, none⟩ = some (.int .i64 a0_1) ∧ w'.cell? ⟨g1, 2, none⟩ = some (.slice (some ad108) l0_2.length c0_2) ∧ w'.cell? (ad108.add ((x7_1).toNat * 3)) = some (.int .i64 ((rd_T26 l0_2 x7_1).f0)) ∧ w'.cell? ⟨(ad108.add ((x7_1).toNat * 3)).block, (ad108.add ((x7_1).toNat * 3)).off + 1, none⟩ = some (.int .i64 ((rd_T26 l0_2 x7_1).f1)) ∧ w'.cell? ⟨(ad108.add ((x7_1).toNat * 3)).block, (ad108.add ((x7_1).toNat * 3)).off + 2, none⟩ = some (.string ((rd_T26 l0_2 x7_1).f2))) (ds := []) #[F,F,F,F,F,F,F,F,F,F,F,F] (by kernel_rfl) rfl rfl ⟨bc_ B7 0 rfl, bc_ B7 1 rfl, bc_ B7 2 rfl, bc_ B7 3 rfl, bc_ B1 0 rfl, bc_ B1 1 rfl, bc_ B1 2 rfl, ((HB.out.cell (World.block_lt_of_cell? w _ hw108_0)).trans hw108_0), ((HB.out.cell (World.block_lt_of_cell? w _ hw108_1)).trans hw108_1), ((HB.out.cell (World.block_lt_of_cell? w _ hw108_2)).trans hw108_2)⟩ (fun hHeld => ?_); refine with_tabW oculusref18_Hit.tab6 oculusref18_Hit.bits6 (fun HT_ HW_ => ?_)
       generalize wr.drew = w22 at HO_5 B1 B2 B7 HB hx108_0 hx108_1 hx108_2 hHeld ⊢; refine pure_ (i:=0) (N:=some 17) (v:=?_) (a':=?_) ⟨m_ 12 1⟩ rfl rfl (ao_ HT_) (fun _ _ _ h=>h) (Or.inl ⟨rfl, ?_⟩) ?_ ?_; rotate_left
       ·intro w'; go_simp; with_reducible rfl
       rotate_left
       ·simp only [q_, i64_w, i32_w]; rfl
       refine take_ (i:=1) (N:=some 18) (v:=?_) (a':=?_) ⟨m_ 12 3⟩ rfl rfl (tw_ HT_ HW_) (fun _ _ _ h=>h) (Or.inl ⟨rfl, ?_⟩) hHeld ?_ ?_; rotate_left
       ·rintro w' ⟨s0, s1, s2, s3, s4, s5, s6, s7, s8, s9⟩; go_simp; with_reducible rfl
       rotate_left
       ·simp only [q_, i64_w, i32_w]; rfl
       refine pure_ (i:=2) (N:=some 19) (v:=?_) (a':=?_) ⟨m_ 12 7⟩ rfl rfl (ao_ HT_) (fun _ _ _ h=>h) (Or.inl ⟨rfl, ?_⟩) ?_ ?_; rotate_left
       ·intro w'; go_simp; with_reducible rfl
       rotate_left
       ·simp only [q_, i64_w, i32_w]; rfl
       refine pure_ (i:=3) (N:=some 20) (v:=?_) (a':=?_) ⟨m_ 12 15⟩ rfl rfl (ao_ HT_) (fun _ _ _ h=>h) (Or.inl ⟨rfl, ?_⟩) ?_ ?_; rotate_left
       ·intro w'; go_simp; with_reducible rfl
       rotate_left
       ·simp only [q_, i64_w, i32_w]; rfl
       refine pure_ (i:=5) (N:=some 22) (v:=?_) (a':=?_) ⟨m_ 12 47⟩ rfl rfl (ao_ HT_) (fun _ _ _ h=>h) (Or.inl ⟨rfl, ?_⟩) ?_ ?_; rotate_left
       ·intro w'; go_simp; with_reducible rfl
       rotate_left
       ·simp only [q_, i64_w, i32_w]; rfl
       refine pure_ (i:=7) (N:=some 24) (v:=?_) (a':=?_) ⟨m_ 12 175⟩ rfl rfl (ao_ HT_) (fun _ _ _ h=>h) (Or.inl ⟨rfl, ?_⟩) ?_ ?_; rotate_left
       ·intro w'; go_simp; with_reducible rfl
       rotate_left
       ·simp only [q_, i64_w, i32_w]; rfl
       refine take_ (i:=4) (N:=some 21) (v:=?_) (a':=?_) ⟨m_ 12 191⟩ rfl rfl (tw_ HT_ HW_) (fun _ _ _ h=>h) (Or.inl ⟨rfl, ?_⟩) hHeld ?_ ?_; rotate_left
       ·rintro w' ⟨s0, s1, s2, s3, s4, s5, s6, s7, s8, s9⟩; go_simp; with_reducible rfl
       rotate_left
       ·simp only [q_, i64_w, i32_w]; rfl
       refine take_ (i:=6) (N:=some 23) (v:=?_) (a':=?_) ⟨m_ 12 255⟩ rfl rfl (tw_ HT_ HW_) (fun _ _ _ h=>h) (Or.inl ⟨rfl, ?_⟩) hHeld ?_ ?_; rotate_left
       ·rintro w' ⟨s0, s1, s2, s3, s4, s5, s6, s7, s8, s9⟩; go_simp; with_reducible rfl
       rotate_left
       ·simp only [q_, i64_w, i32_w]; rfl
       refine pure_ (i:=8) (N:=some 25) (v:=?_) (a':=?_) ⟨m_ 12 511⟩ rfl rfl (ao_ HT_) (fun _ _ _ h=>h) (Or.inl ⟨rfl, ?_⟩) ?_ ?_; rotate_left
       ·intro w'; go_simp; with_reducible rfl
       rotate_left
       ·simp only [q_, i64_w, i32_w]; rfl
       refine take_ (i:=9) (N:=some 26) (v:=?_) (a':=?_) ⟨m_ 12 1023⟩ rfl rfl (tw_ HT_ HW_) (fun _ _ _ h=>h) (Or.inl ⟨rfl, ?_⟩) hHeld ?_ ?_; rotate_left
       ·rintro w' ⟨s0, s1, s2, s3, s4, s5, s6, s7, s8, s9⟩; go_simp; with_reducible rfl
       rotate_left
       ·simp only [q_, i64_w, i32_w]; rfl
       refine one_ (i:=10) (N:=some 27) ⟨m_ 12 2047⟩ rfl rfl (oo_ HT_) (by decide) (fun K hK => ?_); refine goes_ Tryz.func44 (by kernel_rfl) rfl #[.agg #[.int .i64 t103, .int .i64 t104, .int .i64 t105, .string t106], .agg #[.int .i64 ((rd_T26 l0_2 x7_1).f0), .int .i64 ((rd_T26 l0_2 x7_1).f1), .string ((rd_T26 l0_2 x7_1).f2)]] (by rfl) rfl rfl ha_ ?_; with_reducible refine (oculusref17_Hits.calls k1 t103 t104 t105 t106 ((rd_T26 l0_2 x7_1).f0) ((rd_T26 l0_2 x7_1).f1) ((rd_T26 l0_2 x7_1).f2) t109 _ A21.out).mono ?_; rintro e w23 ⟨rfl, hb⟩; refine ⟨_, rfl, ?_⟩
       replace HO_5 := A_ (Kd.R_below (ra_ HO_5.out) hb); replace B1 := bb_ B1 hb; replace B2 := bb_ B2 hb; replace B7 := bb_ B7 hb; replace HB := bs_ HB hb
       (try clear hb); refine hK.out _ _ ⟨bc_ B7 0 rfl, bc_ B7 1 rfl, bc_ B7 2 rfl, bc_ B7 3 rfl, bc_ B1 0 rfl, bc_ B1 1 rfl, bc_ B1 2 rfl, ((HB.out.cell (World.block_lt_of_cell? w _ hw108_0)).trans hw108_0), ((HB.out.cell (World.block_lt_of_cell? w _ hw108_1)).trans hw108_1), ((HB.out.cell (World.block_lt_of_cell? w _ hw108_2)).trans hw108_2)⟩ (fun hHeld => ?_); clear hK K; refine norm_ (a':=?_) ?_ ?_; rotate_left
       ·show Act.put _ (some 27) _ = _; simp only [q_, i64_w, i32_w]; rfl
       refine pure_ (i:=11) (N:=some 28) (v:=?_) (a':=?_) ⟨m_ 12 4095⟩ rfl rfl (ao_ HT_) (fun _ _ _ h=>h) (Or.inl ⟨rfl, ?_⟩) ?_ ?_; rotate_left
       ·intro w'; go_simp; with_reducible rfl
       rotate_left
       ·simp only [q_, i64_w, i32_w]; rfl
       refine done_ (done_of HT_.out (by kernel_rfl)) ?_
       try go_wp2
       go_meet
       case rel => exact ⟨_, (t109), (by first | rfl | (simp; done) | (simp [*]; done) | (cases t109 <;> simp; done)), H', ⟨by have := HK1.out; first | omega | exact Nat.le_refl _⟩, ⟨ra_ HO_5.out⟩, ⟨pkx B1⟩, ⟨pkx B2⟩, ⟨pkx B7⟩, ⟨pbx HB⟩⟩
      ·rw [if_neg c20] at H
       exact absurd H (by simp)
    case rest =>
     clear HC14; (try clear c13); (try clear c13b0); (try clear hcz12_0); (try clear hcz12_1); (try clear hcz12_2); (try clear hcz12_3); (try clear hcz17_0); (try clear hcz17_1); (try clear hcz17_2); (try clear hcz7_0); (try clear hcz7_1); (try clear hcz7_2); (try clear hfz12_0); (try clear hfz12_1); (try clear hfz12_2); (try clear hfz12_3); (try clear hfz17_0); (try clear hfz17_1); (try clear hfz17_2); (try clear hfz7_0); (try clear hfz7_1); (try clear hfz7_2)
     obtain ⟨kq, x28_13, rfl, HA, HJ13, HO_5, B1, B2, B7, HB⟩ := hcut
     cases kq with
     | zero => exact absurd HA.out (by simp [oculusref18_Hit.j1])
     | succ kj13 =>
      have H := HA.out; clear HA
      simp only [oculusref18_Hit.j1] at H
      replace H := ib_ H; rcases H with ⟨rfl,H⟩|⟨rfl,H⟩
      ·by_cases c25 : 0 ≤ x7_1
       ·rw [if_pos c25] at H; have c25b0 := decide_eq_true c25; clear c25
        by_cases c26 : x7_1 < (l0_2.length : Int)
        ·rw [if_pos c26] at H; have c26b0 := decide_eq_true c26; clear c26
         by_cases c27 : x5_1.length < 4398046511104
         ·rw [if_pos c27] at H; have LMc27 := A_ c27; clear c27; obtain ⟨y111, hy111⟩ : ∃ y_ : List (S26), y_ = (x5_1 ++ [(⟨(rd_T26 l0_2 x7_1).f0, (rd_T26 l0_2 x7_1).f1, (rd_T26 l0_2 x7_1).f2⟩ : S26)]) := ⟨_, rfl⟩
          replace H : (oculusref18_Hit.l0 kj13 y111 (wrap64 (x7_1 + 1)) a0_0 a0_1 l0_2 t103 t104 t105 t106) = some r := by first | (rw [hy111]; with_reducible exact H) | (have H2_ := (Option.bind_some _ _).symm.trans H; rw [hy111]; with_reducible exact H2_) | (have H2_ := (Option.bind_some _ _).symm.trans H; with_reducible exact H2_) | with_reducible exact H | (rw [hy111]; exact H) | exact H
          have Ny111 := A_ hy111; clear hy111
          have H' := A_ H
          clear H; have hnb28 := N12.out; have hnc28 := N21.out; have hnb29 := N17.out; have hnc29 := N71.out
          have ⟨hcz30_0,hcz30_1,hcz30_2,hfz30_0,hfz30_1,hfz30_2⟩ := z3_ B1
          have p110 : 0 ≤ (x7_1 : Int) := of_decide_eq_true as_
          have q110 : x7_1 < (l0_2.length : Int) := of_decide_eq_true as_
          obtain ⟨ad110, e110, hx110_0, hx110_1, hx110_2⟩ := at_T26 HR0_2.out x7_1 p110 q110
          cases e110
          replace hx110_0 := (HB.out.cell (World.block_lt_of_cell? w _ hx110_0)).trans hx110_0; replace hx110_1 := (HB.out.cell (World.block_lt_of_cell? w _ hx110_1)).trans hx110_1; replace hx110_2 := (HB.out.cell (World.block_lt_of_cell? w _ hx110_2)).trans hx110_2; replace p110 := eq_true p110; replace q110 := eq_true q110
          go_wp2_with (first | ((with_reducible refine gate_builtin (b := .append) (xs := #[.tmp 29, .tmp 35]) rfl ?_); at_builtin; refine Kd.R_append k26 (w0 := w) w.heap.size rfl (.tmp 29) (.tmp 35) 22 26 (.agg #[(.int .i64 0), (.int .i64 0), (.string ⟨#[]⟩)]) 32 rfl Tryz.underlying22 info26 rfl (by decide) (by omega) u5 x5_1 (⟨(rd_T26 l0_2 x7_1).f0, (rd_T26 l0_2 x7_1).f1, (rd_T26 l0_2 x7_1).f2⟩ : S26) [.int .i64 ((rd_T26 l0_2 x7_1).f0), .int .i64 ((rd_T26 l0_2 x7_1).f1), .string ((rd_T26 l0_2 x7_1).f2)] (fun k_ => k_ ≠ g2) (fun _ => False) rfl rfl ?aP (fun _ hk => hk.elim) ?aF ?aO ?aB ?aS ?aL ?_; (case aP => exact k26_mkM _ _ _ (⟨(rd_T26 l0_2 x7_1).f0, (rd_T26 l0_2 x7_1).f1, (rd_T26 l0_2 x7_1).f2⟩ : S26)); (case aB => exact (pbx HB)); (case aF => exact (fun k_ hk => Kd.freshB (pkx B2) k_ hk)); (case aO => exact (ra_ HO_5.out)); (case aS => exact (below_size (pbx HB))); (case aL => have := LMc27.out; omega); intro v112 w31 ho hb hg hat; rw [← Ny111.out] at ho; have HO113 := A_ (ho); replace B1 := A_ (blk_grown (pkx B1) hg (Kd.R_ne HO_5.out B1.out (by decide))); replace B2 := A_ (blk_grown (pkx B2) hg (Kd.R_away HO_5.out (fun _ hk => hk))); replace B7 := A_ (blk_grown (pkx B7) hg (Kd.R_ne HO_5.out B7.out (by decide))); replace HB := A_ (hb); clear HO_5; clear ho hb hg hat))
          go_roundg kj13
          case measure => have := HK1.out; have := HJ13.out; omega
          case rel => exact ⟨(y111), (wrap64 (x7_1 + 1)), sq_, H', ⟨by have := HK1.out; have := HJ13.out; omega⟩, ⟨ra_ HO113.out⟩, ⟨pkx B1⟩, ⟨pkx B2⟩, ⟨pkx B7⟩, ⟨pbx HB⟩⟩
         ·rw [if_neg c27] at H
          exact absurd H (by simp)
        ·rw [if_neg c26] at H
         exact absurd H (by simp)
       ·rw [if_neg c25] at H
        exact absurd H (by simp)
      ·have H' := A_ H
       clear H
       go_wp2
       go_roundg kj13
       case measure => have := HK1.out; have := HJ13.out; omega
       case rel => exact ⟨(x5_1), (wrap64 (x7_1 + 1)), sq_, H', ⟨by have := HK1.out; have := HJ13.out; omega⟩, ⟨ra_ HO_5.out⟩, ⟨pkx B1⟩, ⟨pkx B2⟩, ⟨pkx B7⟩, ⟨pbx HB⟩⟩
   ·rw [if_neg c13] at H; have c13b0 := decide_eq_false c13; clear c13; obtain rfl := Option.some.inj H; have hnb32 := N12.out; have hnc32 := N21.out; have hnb33 := N17.out; have hnc33 := N71.out
    have ⟨hcz34_0,hcz34_1,hcz34_2,hfz34_0,hfz34_1,hfz34_2⟩ := z3_ B1
    go_wp2
    go_ret
    exact ⟨_, by first | rfl | (simp [errW_none, errW_some] <;> rfl) | (simp [*, errW_none, errW_some] <;> rfl), by (with_reducible repeat (first | apply Kd.R_alloc | apply Kd.R_drewN | apply Kd.R_drew)); exact Kd.R_mono HO_5.out (fun _ hk => trivial), pbx HB⟩

def oculusref18_Count.f (k : Nat) (a0_0 : Int) (a0_1 : Int) (l0_2 : List (S26)) (a1_0 : Int) (a1_1 : Int) (a1_2 : ByteArray) : Option (Int × Int × ByteArray) := if a1_0 = 4 then (some (a1_0, a1_1, a1_2)) else ((oculusref18_Hit.f k a0_0 a0_1 l0_2 a1_0 a1_1 a1_2).bind fun t104 => ((oculusref12_Num.f (wrap64 ((t104.length : Int) * 10000))).bind fun bt107 => (some (bt107.1, bt107.2.1, bt107.2.2))))
theorem oculusref18_Count.calls (k : Nat) (a0_0 : Int) (a0_1 : Int) (A0_2 : Option Addr) (c0_2 : Nat) (l0_2 : List (S26)) (a1_0 : Int) (a1_1 : Int) (a1_2 : ByteArray) (r1 : Int) (r2 : Int) (r3 : ByteArray) (w : World) (hr0_2 : Kd.C k26 w A0_2 l0_2.length l0_2) (hc0_2 : l0_2.length ≤ c0_2) (h : oculusref18_Count.f k a0_0 a0_1 l0_2 a1_0 a1_1 a1_2 = some (r1, r2, r3)) :
  Calls Tryz.prog 8 #[.agg #[.int .i64 a0_0, .int .i64 a0_1, .slice A0_2 l0_2.length c0_2], .agg #[.int .i64 a1_0, .int .i64 a1_1, .string a1_2]] w fun e w' => e = .returned (.agg #[.int .i64 r1, .int .i64 r2, .string r3]) ∧ Below w.heap.size w w' := by
 have hu24 := Tryz.underlying24; have hu26 := Tryz.underlying26; have HR0_2 := A_ hr0_2; have HC0_2 := A_ hc0_2; clear hr0_2 hc0_2; have HB := A_ (Below.refl w.heap.size w)
 have H : (if a1_0 = 4 then (some (a1_0, a1_1, a1_2)) else ((oculusref18_Hit.f k a0_0 a0_1 l0_2 a1_0 a1_1 a1_2).bind fun t104 => ((oculusref12_Num.f (wrap64 ((t104.length : Int) * 10000))).bind fun bt107 => (some (bt107.1, bt107.2.1, bt107.2.2))))) = some (r1, r2, r3) := h
 clear h
 by_cases c3 : a1_0 = 4
 ·rw [if_pos c3] at H; have ⟨c3b0,c3b1⟩ := e1_ c3; clear c3
  simp only [Option.some.injEq, Prod.mk.injEq] at H
  obtain ⟨rfl, rfl, rfl⟩ := H
  go_enter Tryz.func8, Tryz.ntmps8
  go_wp2_with (first | ((with_reducible refine gd_ 2 ?_); refine be_ (N:=2) (cs := #[.int .i64 a0_0, .int .i64 a0_1, .slice A0_2 l0_2.length c0_2]) (t:=24) ?_; intro g1 hg w4 hbox hb; have B1 := A_ (hbox); have GW101 := hs_ HB hg; have GE101 := hs_ HB hg; replace HB := bs_ HB hb; clear hb hbox hg) | ((with_reducible refine gd_ 3 ?_); refine be_ (N:=3) (cs := #[.int .i64 a1_0, .int .i64 a1_1, .string a1_2]) (t:=26) ?_; intro g2 hg w5 hbox hb; have B2 := A_ (hbox); have GW102 := hs_ HB hg; have GE102 := hs_ HB hg; have N12 := hl_ B1 hg; have N21 := hr_ B1 hg; replace B1 := bb_ B1 hb; replace HB := bs_ HB hb; clear hb hbox hg) | ((with_reducible refine gd_ 4 ?_); refine be_ (N:=4) (cs := #[.int .i64 0, .int .i64 0, .string (⟨#[]⟩ : ByteArray)]) (t:=26) ?_; intro g3 hg w6 hbox hb; have B3 := A_ (hbox); have GW103 := hs_ HB hg; have GE103 := hs_ HB hg; have N13 := hl_ B1 hg; have N31 := hr_ B1 hg; have N23 := hl_ B2 hg; have N32 := hr_ B2 hg; replace B1 := bb_ B1 hb; replace B2 := bb_ B2 hb; replace HB := bs_ HB hb; clear hb hbox hg; have hnb7 := N21.out; have hnc7 := N12.out; have hnb8 := N23.out; have hnc8 := N32.out; have ⟨hcz9_0,hcz9_1,hcz9_2,hfz9_0,hfz9_1,hfz9_2⟩ := z3_ B2; have hnb10 := N31.out; have hnc10 := N13.out; have ⟨hcz11_0,hcz11_1,hcz11_2,hfz11_0,hfz11_1,hfz11_2⟩ := z3_ B3))
  refine bodyPost_ret (results_cell_row rfl _ _ g3 26 #[.int .i64 a1_0, .int .i64 a1_1, .string a1_2] (0, 0) _ rfl (by (iterate 3 apply pp_); exact pkx B3; all_goals rfl) Tryz.underlying26 rfl (by kernel_rfl)) rfl ?_
  exact fi_ bl_
 ·rw [if_neg c3] at H; have ⟨c3b0,c3b1⟩ := e0_ c3; obtain ⟨t104, A12, H⟩ := bo_ H; obtain ⟨⟨t107, t108, t109⟩, A13, H⟩ := bo_ H; dsimp only at H
  simp only [Option.some.injEq, Prod.mk.injEq] at H
  obtain ⟨rfl, rfl, rfl⟩ := H
  go_enter Tryz.func8, Tryz.ntmps8
  go_wp2_with (first | ((with_reducible refine gd_ 2 ?_); refine be_ (N:=2) (cs := #[.int .i64 a0_0, .int .i64 a0_1, .slice A0_2 l0_2.length c0_2]) (t:=24) ?_; intro g1 hg w14 hbox hb; have B1 := A_ (hbox); have GW101 := hs_ HB hg; have GE101 := hs_ HB hg; replace HB := bs_ HB hb; clear hb hbox hg) | ((with_reducible refine gd_ 3 ?_); refine be_ (N:=3) (cs := #[.int .i64 a1_0, .int .i64 a1_1, .string a1_2]) (t:=26) ?_; intro g2 hg w15 hbox hb; have B2 := A_ (hbox); have GW102 := hs_ HB hg; have GE102 := hs_ HB hg; have N12 := hl_ B1 hg; have N21 := hr_ B1 hg; replace B1 := bb_ B1 hb; replace HB := bs_ HB hb; clear hb hbox hg) | ((with_reducible refine gd_ 4 ?_); refine be_ (N:=4) (cs := #[.int .i64 0, .int .i64 0, .string (⟨#[]⟩ : ByteArray)]) (t:=26) ?_; intro g3 hg w16 hbox hb; have B3 := A_ (hbox); have GW103 := hs_ HB hg; have GE103 := hs_ HB hg; have N13 := hl_ B1 hg; have N31 := hr_ B1 hg; have N23 := hl_ B2 hg; have N32 := hr_ B2 hg; replace B1 := bb_ B1 hb; replace B2 := bb_ B2 hb; replace HB := bs_ HB hb; clear hb hbox hg; have hnb17 := N21.out; have hnc17 := N12.out; have hnb18 := N23.out; have hnc18 := N32.out; have ⟨hcz19_0,hcz19_1,hcz19_2,hfz19_0,hfz19_1,hfz19_2⟩ := z3_ B2; have hnb20 := N13.out; have hnc20 := N31.out; have ⟨hcz21_0,hcz21_1,hcz21_2,hfz21_0,hfz21_1,hfz21_2⟩ := z3_ B1) | ((with_reducible refine gate_callee (f:=25) rfl ?_); refine gL_ (some 11) rfl rfl Tryz.func25 rfl #[.agg #[.int .i64 a0_0, .int .i64 a0_1, .slice A0_2 l0_2.length c0_2], .agg #[.int .i64 a1_0, .int .i64 a1_1, .string a1_2]] rfl ?_; (with_reducible refine (oculusref18_Hit.calls k a0_0 a0_1 _ _ l0_2 a1_0 a1_1 a1_2 t104 _ ?side1 ?side2 A12.out).mono ?_); (case side1 => exact ca_ (Kd.C_below HR0_2.out HB.out)); (case side2 => exact HC0_2.out); rintro e w22 ⟨v105, rfl, ho0, hb⟩; refine ⟨_, rfl, ?_⟩; have HO106 := A_ (Kd.R_lower (Kd.R_newB (Kd.R_newB ho0 (pkx B2)) (pkx B3)) (below_size (pbx HB))); replace B1 := bb_ B1 hb; replace B2 := bb_ B2 hb; replace B3 := bb_ B3 hb; replace HB := bs_ HB hb; obtain ⟨Ao23, co23, eo23⟩ := Kd.R_slice HO106.out; subst eo23) | ((with_reducible refine gate_callee (f:=24) rfl ?_); refine gL_ (some 14) rfl rfl Tryz.func24 rfl #[.int .i64 (wrap64 ((t104.length : Int) * 10000))] rfl ?_; (with_reducible refine (oculusref12_Num.calls (wrap64 ((t104.length : Int) * 10000)) t107 t108 t109 _ A13.out).mono ?_); rintro e w24 ⟨rfl, hb⟩; refine ⟨_, rfl, ?_⟩; replace HO106 := A_ (Kd.R_below (ra_ HO106.out) hb); replace B1 := bb_ B1 hb; replace B2 := bb_ B2 hb; replace B3 := bb_ B3 hb; replace HB := bs_ HB hb; have ⟨hcz25_0,hcz25_1,hcz25_2,hfz25_0,hfz25_1,hfz25_2⟩ := z3_ B3))
  refine bodyPost_ret (results_cell_row rfl _ _ g3 26 #[.int .i64 t107, .int .i64 t108, .string t109] (0, 0) _ rfl (by (iterate 3 apply pp_); exact pkx B3; all_goals rfl) Tryz.underlying26 rfl (by kernel_rfl)) rfl ?_
  exact fi_ bl_

def oculusref15_Fault.l0 : Nat → List (S26) → Int → Option (Int)
 | 0, _, _ => none
 | k + 1, x0, x3 => if x3 < (x0.length : Int) then (if 0 ≤ x3 then (if ((rd_T26 x0 x3).f0) = 4 then (some x3) else (oculusref15_Fault.l0 k x0 (wrap64 (x3 + 1)))) else (none)) else (some (-1))
def oculusref15_Fault.f (k : Nat) (l0 : List (S26)) : Option (Int) := oculusref15_Fault.l0 k l0 0
theorem oculusref15_Fault.calls (k : Nat) (A0 : Option Addr) (c0 : Nat) (l0 : List (S26)) (r : Int) (w : World) (hr0 : Kd.C k26 w A0 l0.length l0) (hc0 : l0.length ≤ c0) (h : oculusref15_Fault.f k l0 = some r) :
  Calls Tryz.prog 46 #[.slice A0 l0.length c0] w fun e w' => e = .returned (.int .i64 r) ∧ Drawn0 w w' := by
 have HR0 := A_ hr0; have HC0 := A_ hc0; clear hr0 hc0
 have H : (oculusref15_Fault.l0 k l0 0) = some r := h
 clear h
 have H' := A_ H
 clear H
 go_enter Tryz.func46, Tryz.ntmps46
 go_wp2
 go_loopg [3] k (fun kq v3 w' => ∃ (x3_1 : Int), v3 = .int .i64 x3_1 ∧ Aside0 (oculusref15_Fault.l0 kq l0 x3_1 = some r) ∧ Aside0 (kq ≤ k) ∧ Drawn0 w w')
 case atStart => exact ⟨(0), sq_, H', ⟨Nat.le_refl _⟩, dr_⟩
 case round =>
  clear H'; obtain ⟨x3_1, rfl, HA, HK1, ⟨m1, rfl⟩⟩ := hrel
  cases gk with
  | zero => exact absurd HA.out (by simp [oculusref15_Fault.l0])
  | succ k1 =>
   have H := HA.out; clear HA
   simp only [oculusref15_Fault.l0] at H
   by_cases c2 : x3_1 < (l0.length : Int)
   ·rw [if_pos c2] at H; have c2b0 := decide_eq_true c2; clear c2
    by_cases c3 : 0 ≤ x3_1
    ·rw [if_pos c3] at H; have c3b0 := decide_eq_true c3; clear c3
     by_cases c4 : ((rd_T26 l0 x3_1).f0) = 4
     ·rw [if_pos c4] at H; have ⟨c4b0,c4b1⟩ := e1_ c4; clear c4; obtain rfl := Option.some.inj H
      have p101 : 0 ≤ (x3_1 : Int) := of_decide_eq_true as_
      have q101 : x3_1 < (l0.length : Int) := of_decide_eq_true as_
      obtain ⟨ad101, e101, hx101_0, hx101_1, hx101_2⟩ := at_T26 HR0.out x3_1 p101 q101
      cases e101
      replace p101 := eq_true p101; replace q101 := eq_true q101
      go_wp2
      go_ret
      exact ⟨by first | rfl | (simp; done) | (simp [*]; done), dr_⟩
     ·rw [if_neg c4] at H; have ⟨c4b0,c4b1⟩ := e0_ c4
      have H' := A_ H
      clear H
      have p101 : 0 ≤ (x3_1 : Int) := of_decide_eq_true as_
      have q101 : x3_1 < (l0.length : Int) := of_decide_eq_true as_
      obtain ⟨ad101, e101, hx101_0, hx101_1, hx101_2⟩ := at_T26 HR0.out x3_1 p101 q101
      cases e101
      replace p101 := eq_true p101; replace q101 := eq_true q101
      go_wp2
      go_roundg k1
      case measure => have := HK1.out; omega
      case rel => exact ⟨(wrap64 (x3_1 + 1)), sq_, H', ⟨by have := HK1.out; omega⟩, dr_⟩
    ·rw [if_neg c3] at H
     exact absurd H (by simp)
   ·rw [if_neg c2] at H; have c2b0 := decide_eq_false c2; clear c2; obtain rfl := Option.some.inj H
    go_wp2
    go_ret
    exact ⟨by first | rfl | (simp; done) | (simp [*]; done), dr_⟩

def oculusref12_Of.f (a0_0 : Int) (a0_1 : Bool) : Option (Int × Int × ByteArray) := if a0_1 = true then ((oculusref12_Num.f a0_0).bind fun bt103 => (some (bt103.1, bt103.2.1, bt103.2.2))) else ((oculusref12_Bad.f 4).bind fun bt106 => (some (bt106.1, bt106.2.1, bt106.2.2)))
theorem oculusref12_Of.calls (a0_0 : Int) (a0_1 : Bool) (r1 : Int) (r2 : Int) (r3 : ByteArray) (w : World) (h : oculusref12_Of.f a0_0 a0_1 = some (r1, r2, r3)) :
  Calls Tryz.prog 47 #[.agg #[.int .i64 a0_0, .bool a0_1]] w fun e w' => e = .returned (.agg #[.int .i64 r1, .int .i64 r2, .string r3]) ∧ Below w.heap.size w w' := by
 have hu71 := Tryz.underlying71; have hu26 := Tryz.underlying26; have HB := A_ (Below.refl w.heap.size w)
 have H : (if a0_1 = true then ((oculusref12_Num.f a0_0).bind fun bt103 => (some (bt103.1, bt103.2.1, bt103.2.2))) else ((oculusref12_Bad.f 4).bind fun bt106 => (some (bt106.1, bt106.2.1, bt106.2.2)))) = some (r1, r2, r3) := h
 clear h
 replace H := ib_ H; rcases H with ⟨rfl,H⟩|⟨rfl,H⟩
 ·obtain ⟨⟨t103, t104, t105⟩, A3, H⟩ := bo_ H; dsimp only at H
  simp only [Option.some.injEq, Prod.mk.injEq] at H
  obtain ⟨rfl, rfl, rfl⟩ := H
  go_enter Tryz.func47, Tryz.ntmps47
  go_wp2_with (first | ((with_reducible refine gd_ 1 ?_); refine be_ (N:=1) (cs := #[.int .i64 a0_0, .bool true]) (t:=71) ?_; intro g1 hg w4 hbox hb; have B1 := A_ (hbox); have GW101 := hs_ HB hg; have GE101 := hs_ HB hg; replace HB := bs_ HB hb; clear hb hbox hg) | ((with_reducible refine gd_ 2 ?_); refine be_ (N:=2) (cs := #[.int .i64 0, .int .i64 0, .string (⟨#[]⟩ : ByteArray)]) (t:=26) ?_; intro g2 hg w5 hbox hb; have B2 := A_ (hbox); have GW102 := hs_ HB hg; have GE102 := hs_ HB hg; have N12 := hl_ B1 hg; have N21 := hr_ B1 hg; replace B1 := bb_ B1 hb; replace HB := bs_ HB hb; clear hb hbox hg; have hnb6 := N12.out; have hnc6 := N21.out; have ⟨hcz7_0,hcz7_1,hfz7_0,hfz7_1⟩ := z2_ B1) | ((with_reducible refine gate_callee (f:=24) rfl ?_); refine gL_ (some 7) rfl rfl Tryz.func24 rfl #[.int .i64 a0_0] rfl ?_; (with_reducible refine (oculusref12_Num.calls a0_0 t103 t104 t105 _ A3.out).mono ?_); rintro e w8 ⟨rfl, hb⟩; refine ⟨_, rfl, ?_⟩; replace B1 := bb_ B1 hb; replace B2 := bb_ B2 hb; replace HB := bs_ HB hb; have ⟨hcz9_0,hcz9_1,hcz9_2,hfz9_0,hfz9_1,hfz9_2⟩ := z3_ B2))
  refine bodyPost_ret (results_cell_row rfl _ _ g2 26 #[.int .i64 t103, .int .i64 t104, .string t105] (0, 0) _ rfl (by (iterate 3 apply pp_); exact pkx B2; all_goals rfl) Tryz.underlying26 rfl (by kernel_rfl)) rfl ?_
  exact fi_ bl_
 ·obtain ⟨⟨t106, t107, t108⟩, A10, H⟩ := bo_ H; dsimp only at H
  simp only [Option.some.injEq, Prod.mk.injEq] at H
  obtain ⟨rfl, rfl, rfl⟩ := H
  go_enter Tryz.func47, Tryz.ntmps47
  go_wp2_with (first | ((with_reducible refine gd_ 1 ?_); refine be_ (N:=1) (cs := #[.int .i64 a0_0, .bool false]) (t:=71) ?_; intro g1 hg w11 hbox hb; have B1 := A_ (hbox); have GW101 := hs_ HB hg; have GE101 := hs_ HB hg; replace HB := bs_ HB hb; clear hb hbox hg) | ((with_reducible refine gd_ 2 ?_); refine be_ (N:=2) (cs := #[.int .i64 0, .int .i64 0, .string (⟨#[]⟩ : ByteArray)]) (t:=26) ?_; intro g2 hg w12 hbox hb; have B2 := A_ (hbox); have GW102 := hs_ HB hg; have GE102 := hs_ HB hg; have N12 := hl_ B1 hg; have N21 := hr_ B1 hg; replace B1 := bb_ B1 hb; replace HB := bs_ HB hb; clear hb hbox hg; have hnb13 := N12.out; have hnc13 := N21.out; have ⟨hcz14_0,hcz14_1,hfz14_0,hfz14_1⟩ := z2_ B1) | ((with_reducible refine gate_callee (f:=42) rfl ?_); refine gL_ (some 8) rfl rfl Tryz.func42 rfl #[.int .i64 4] rfl ?_; (with_reducible refine (oculusref12_Bad.calls 4 t106 t107 t108 _ A10.out).mono ?_); rintro e w15 ⟨rfl, hb⟩; refine ⟨_, rfl, ?_⟩; replace B1 := bb_ B1 hb; replace B2 := bb_ B2 hb; replace HB := bs_ HB hb; have ⟨hcz16_0,hcz16_1,hcz16_2,hfz16_0,hfz16_1,hfz16_2⟩ := z3_ B2))
  refine bodyPost_ret (results_cell_row rfl _ _ g2 26 #[.int .i64 t106, .int .i64 t107, .string t108] (0, 0) _ rfl (by (iterate 3 apply pp_); exact pkx B2; all_goals rfl) Tryz.underlying26 rfl (by kernel_rfl)) rfl ?_
  exact fi_ bl_

def oculusref08_Mul.f (k : Nat) (a0 : Int) (a1 : Int) : Option (Int × Bool) := (oculusref08_Scaled.f k a0 a1 10000).bind fun bt102 => (some (bt102.1, bt102.2))
theorem oculusref08_Mul.calls (k : Nat) (a0 : Int) (a1 : Int) (r1 : Int) (r2 : Bool) (w : World) (h : oculusref08_Mul.f k a0 a1 = some (r1, r2)) :
  Calls Tryz.prog 82 #[.int .i64 a0, .int .i64 a1] w fun e w' => e = .returned (.agg #[.int .i64 r1, .bool r2]) ∧ Below w.heap.size w w' := by
 have hu71 := Tryz.underlying71; have HB := A_ (Below.refl w.heap.size w)
 have H : ((oculusref08_Scaled.f k a0 a1 10000).bind fun bt102 => (some (bt102.1, bt102.2))) = some (r1, r2) := h
 clear h; obtain ⟨⟨t102, t103⟩, A3, H⟩ := bo_ H; dsimp only at H
 simp only [Option.some.injEq, Prod.mk.injEq] at H
 obtain ⟨rfl, rfl⟩ := H
 go_enter Tryz.func82, Tryz.ntmps82
 go_wp2_with (first | ((with_reducible refine gd_ 4 ?_); refine be_ (N:=4) (cs := #[.int .i64 0, .bool false]) (t:=71) ?_; intro g1 hg w4 hbox hb; have B1 := A_ (hbox); have GW101 := hs_ HB hg; have GE101 := hs_ HB hg; replace HB := bs_ HB hb; clear hb hbox hg) | ((with_reducible refine gate_callee (f:=52) rfl ?_); refine gL_ (some 7) rfl rfl Tryz.func52 rfl #[.int .i64 a0, .int .i64 a1, .int .i64 10000] rfl ?_; (with_reducible refine (oculusref08_Scaled.calls k a0 a1 10000 t102 t103 _ A3.out).mono ?_); rintro e w5 ⟨rfl, hb⟩; refine ⟨_, rfl, ?_⟩; replace B1 := bb_ B1 hb; replace HB := bs_ HB hb; have ⟨hcz6_0,hcz6_1,hfz6_0,hfz6_1⟩ := z2_ B1))
 refine bodyPost_ret (results_cell_row rfl _ _ g1 71 #[.int .i64 t102, .bool t103] (0, 0) _ rfl (by refine pp_ (cs := #[.int .i64 t102, .bool false]) 1 ?_ rfl; refine blk_put (cs := #[.int .i64 0, .bool false]) ?_ 0 _ rfl; exact pkx B1) Tryz.underlying71 rfl (by kernel_rfl)) rfl ?_
 exact fi_ bl_

end Go.Proofs.YtejkoenlfcghbaaGreat.X
