/- Contracts of the functions that the law CritLike reaches, and what they answer (a session's own texts, joined; part 4). -/
import Derived.Test.YtfcpkehldmehjaaWWords
import Derived.Deep.Slices
import Derived.ChangeArms
import Derived.SizedLaws
import Derived.OpenShut
import Derived.Laws.BitsAllLaws
import Derived.Lib.Strings
import Derived.Lib.IndexBytes
import Derived.Test.YtfcpkehldmehjaaBCritLike3
namespace Go.Proofs.Ytfcpkehldmehjaa.X
open Go.RowKit Go.Proofs.YtfcpkehldmehjaaW.PrintWords Go.Proofs.YtfcpkehldmehjaaW.PrintLast Go.Proofs.YtfcpkehldmehjaaW.PrintMore
attribute [local go_sem] max2_int min2_int max_two min_two max_three min_three max_four min_four   -- for this text's walks alone
set_option linter.unusedVariables false
set_option linter.unusedSimpArgs false

/-! ### oculusref17_Like: function 12 -/
mutual
def oculusref17_Like.l0 : Nat → ByteArray → ByteArray → List Bool → Int → Option (Bool)
 | 0, _, _, _, _ => none
 | k + 1, x0, x1, x5, x6 => if x6 < (x0.size : Int) then (if 0 ≤ (wrap64 ((x1.size : Int) + 1)) then (if (wrap64 ((x1.size : Int) + 1) : Int).toNat ≤ 281474976710656 then (oculusref17_Like.l1 k x0 x1 x5 x6 (List.replicate (wrap64 ((x1.size : Int) + 1) : Int).toNat false) 0) else (none)) else (none)) else (if 0 ≤ (x1.size : Int) then (if (x1.size : Int) < (x5.length : Int) then (some (rdOf false x5 (x1.size : Int))) else (none)) else (none))
def oculusref17_Like.l1 : Nat → ByteArray → ByteArray → List Bool → Int → List Bool → Int → Option (Bool)
 | 0, _, _, _, _, _, _ => none
 | k + 1, x0, x1, x5, x6, x7, x8 => if x8 ≤ (x1.size : Int) then (if 0 ≤ x6 then (if x6 < (x0.size : Int) then (if (bt x0 x6) = 42 then (if 0 ≤ x8 then (if x8 < (x5.length : Int) then (if rdOf false x5 x8 = true then (if x8 < (x7.length : Int) then (oculusref17_Like.l1 k x0 x1 x5 x6 (x7.set (x8 : Int).toNat true) (wrap64 (x8 + 1))) else (none)) else (if x8 > 0 then (if 0 ≤ (wrap64 (x8 - 1)) then (if (wrap64 (x8 - 1)) < (x7.length : Int) then (if x8 < (x7.length : Int) then (oculusref17_Like.l1 k x0 x1 x5 x6 (x7.set (x8 : Int).toNat (rdOf false x7 (wrap64 (x8 - 1)))) (wrap64 (x8 + 1))) else (none)) else (none)) else (none)) else (if x8 < (x7.length : Int) then (oculusref17_Like.l1 k x0 x1 x5 x6 (x7.set (x8 : Int).toNat false) (wrap64 (x8 + 1))) else (none)))) else (none)) else (none)) else (if x8 > 0 then (if 0 ≤ (wrap64 (x8 - 1)) then (if (wrap64 (x8 - 1)) < (x5.length : Int) then (if rdOf false x5 (wrap64 (x8 - 1)) = true then (if (bt x0 x6) = 63 then (if 0 ≤ x8 then (if x8 < (x7.length : Int) then (oculusref17_Like.l1 k x0 x1 x5 x6 (x7.set (x8 : Int).toNat true) (wrap64 (x8 + 1))) else (none)) else (none)) else (if (wrap64 (x8 - 1)) < (x1.size : Int) then (if 0 ≤ x8 then (if x8 < (x7.length : Int) then (oculusref17_Like.l1 k x0 x1 x5 x6 (x7.set (x8 : Int).toNat ((bt x0 x6) == (bt x1 (wrap64 (x8 - 1))))) (wrap64 (x8 + 1))) else (none)) else (none)) else (none))) else (if 0 ≤ x8 then (if x8 < (x7.length : Int) then (oculusref17_Like.l1 k x0 x1 x5 x6 (x7.set (x8 : Int).toNat false) (wrap64 (x8 + 1))) else (none)) else (none))) else (none)) else (none)) else (oculusref17_Like.l1 k x0 x1 x5 x6 x7 (wrap64 (x8 + 1))))) else (none)) else (none)) else (oculusref17_Like.l0 k x0 x1 x7 (wrap64 (x6 + 1)))
end
def oculusref17_Like.f (k : Nat) (a0 : ByteArray) (a1 : ByteArray) : Option (Bool) := if 0 ≤ (wrap64 ((a1.size : Int) + 1)) then (if (wrap64 ((a1.size : Int) + 1) : Int).toNat ≤ 281474976710656 then ((some (List.replicate (wrap64 ((a1.size : Int) + 1) : Int).toNat false : List Bool)).bind fun y101 => (if 0 < (y101.length : Int) then (oculusref17_Like.l0 k a0 a1 (y101.set (0 : Int).toNat true) 0) else (none))) else (none)) else (none)
def oculusref17_Like.T13 : Bool × List (List Nat × List Nat) := (true, [([], []), ([], []), ([], []), ([], []), ([3], [3]), ([2, 4], [2, 4]), ([5], [5]), ([6], [6]), ([7], [7]), ([7], [7]), ([8, 9, 7], [7, 8, 9]), ([10, 7], [7, 10]), ([11, 7, 7], [7, 11]), ([12], [12]), ([12], [12]), ([13, 14, 12], [12, 13, 14]), ([12], [12]), ([12], [12]), ([17, 12], [12, 17]), ([16, 18, 12], [12, 16, 18]), ([15, 19, 12], [12, 15, 19]), ([12, 20, 7], [7, 12, 20]), ([7, 21], [7, 21]), ([0, 1, 0, 1, 2, 3, 4, 5, 6, 7, 8, 9, 10, 11, 12, 13, 14, 15, 16, 17, 18, 19, 20, 21, 22], [0, 1]), ([23, 22, 12, 0, 1, 2, 3, 4, 5, 6, 7, 8, 9, 10, 11, 12, 13, 14, 15, 16, 17, 18, 19, 20, 21, 22], [22, 23])])
def oculusref17_Like.B13 : List Nat := [0, 0, 0, 0, 8, 28, 60, 124, 252, 252, 1020, 2044, 4092, 8188, 8188, 32764, 8188, 8188, 139260, 466940, 1048572, 2097148, 4194300, 8388607, 16777215]
theorem oculusref17_Like.tab13 : rtab .any (opsOf Try.f12 13) = oculusref17_Like.T13 := by kernel_rfl
theorem oculusref17_Like.bits13 : waitsOk oculusref17_Like.T13.2 oculusref17_Like.B13 = true := by kernel_rfl
set_option maxHeartbeats 8000000 in
set_option maxRecDepth 100000 in
theorem oculusref17_Like.calls (k : Nat) (a0 : ByteArray) (a1 : ByteArray) (r : Bool) (w : World) (h : oculusref17_Like.f k a0 a1 = some r) :
  Calls Try.prog 12 #[.string a0, .string a1] w fun e w' => e = .returned (.bool r) ∧ Below w.heap.size w w' := by
 have HB := Aside0.mk (Below.refl w.heap.size w)
 have H : (if 0 ≤ (wrap64 ((a1.size : Int) + 1)) then (if (wrap64 ((a1.size : Int) + 1) : Int).toNat ≤ 281474976710656 then ((some (List.replicate (wrap64 ((a1.size : Int) + 1) : Int).toNat false : List Bool)).bind fun y101 => (if 0 < (y101.length : Int) then (oculusref17_Like.l0 k a0 a1 (y101.set (0 : Int).toNat true) 0) else (none))) else (none)) else (none)) = some r := h
 clear h; obtain ⟨ji3, hji3⟩ : ∃ j_ : Int, (wrap64 ((a1.size : Int) + 1)) = j_ := ⟨_, rfl⟩
 replace H : (if 0 ≤ (ji3) then (if (ji3 : Int).toNat ≤ 281474976710656 then ((some (List.replicate (ji3 : Int).toNat false : List Bool)).bind fun y101 => (if 0 < (y101.length : Int) then (oculusref17_Like.l0 k a0 a1 (y101.set (0 : Int).toNat true) 0) else (none))) else (none)) else (none)) = some r := by first | (rw [hji3] at H; exact H) | (simp only [hji3] at H ⊢; exact H)
 have hji3w : (IntKind.i64.wrap ((a1.size : Int) + 1)) = ji3 := (i64_w _).trans hji3
 by_cases c4 : 0 ≤ (ji3)
 ·
  rw [if_pos c4] at H; have c4b0 := eq_true c4; have c4b1 : decide (0 ≤ (ji3)) = true := decide_eq_true c4; clear c4
  by_cases c5 : (ji3 : Int).toNat ≤ 281474976710656
  ·
   rw [if_pos c5] at H; have c5b0 := eq_true c5; have c5b1 : decide ((ji3 : Int).toNat ≤ 281474976710656) = true := decide_eq_true c5; clear c5; obtain ⟨y101, hy101⟩ : ∃ y_ : List Bool, y_ = (List.replicate (ji3 : Int).toNat false) := ⟨_, rfl⟩
   replace H : (if 0 < (y101.length : Int) then (oculusref17_Like.l0 k a0 a1 (y101.set (0 : Int).toNat true) 0) else (none)) = some r := by first | (rw [hy101]; with_reducible exact H) | (have H2_ := (Option.bind_some _ _).symm.trans H; rw [hy101]; with_reducible exact H2_) | (have H2_ := (Option.bind_some _ _).symm.trans H; with_reducible exact H2_) | with_reducible exact H | (rw [hy101]; exact H) | exact H
   have Ny101 := Aside0.mk hy101; clear hy101
   by_cases c6 : 0 < (y101.length : Int)
   ·
    rw [if_pos c6] at H; have c6b0 : decide (0 < (y101.length : Int)) = true := decide_eq_true c6; have c6b1 : decide (0 < y101.length) = true := decide_eq_true (by omega); clear c6; obtain ⟨y104, hy104⟩ : ∃ y_ : List Bool, y_ = (y101.set (0 : Int).toNat true) := ⟨_, rfl⟩
    replace H : (oculusref17_Like.l0 k a0 a1 y104 0) = some r := by first | (rw [hy104]; with_reducible exact H) | (have H2_ := (Option.bind_some _ _).symm.trans H; rw [hy104]; with_reducible exact H2_) | (have H2_ := (Option.bind_some _ _).symm.trans H; with_reducible exact H2_) | with_reducible exact H | (rw [hy104]; exact H) | exact H
    have Ny104 := Aside0.mk hy104; clear hy104
    have H' := Aside0.mk H
    clear H
    go_enter Try.func12, Try.ntmps12
    go_wp2_with (first | ((with_reducible refine gate_dst (N := 12) rfl ?_); refine Kd.R_make Kd.bool _ 4 rfl (N := 12) rfl 47 _ _ rfl ji3 rfl rfl Try.underlying47 (.bool false) 1 info4 rfl (by decide) (by omega) false (ok := fun _ => True) (okp := fun _ => True) rfl (fun _ hk => hk) trivial (of_decide_eq_true (by first | (with_reducible assumption) | assumption)) (Nat.le_trans (Nat.mul_le_mul_right _ (of_decide_eq_true (by first | (with_reducible assumption) | assumption) : ji3.toNat ≤ 281474976710656)) (by omega)) (Below.refl _ _) (Nat.le_refl _) ?_; intro v102 w8 ho9 hb hg_ hnew_; clear hg_ hnew_; (first | rw [← Ny101.out] at ho9 | (simp only [Int.reduceToNat] at ho9; rw [← Ny101.out] at ho9)); have n0_ := Aside0.mk (Kd.R_lower ho9 (below_size (pbx HB))); have n1_ := bs_ HB hb; clear HB; have HO103 := n0_; have HB := n1_; clear n0_ n1_; clear hb ho9; have p7 : 0 ≤ (0 : Int) := (by omega); have q7 : (0 : Int) < ((y101.length : Int) : Int) := of_decide_eq_true (by first | (with_reducible assumption) | assumption); have qi7 : (0 < y101.length) = True := eq_true (by omega); obtain ⟨go7, co7, eo7, gb7, gl7, cl7, HG7⟩ := Kd.R_form HO103.out (by omega); (first | cases eo7 | (injection eo7 with ea_ en_ ec_; (first | subst ea_ | (injection ea_ with ea_; subst ea_)); subst ec_; clear en_)); have GB7 := Aside0.mk gb7; have GG7 := Aside0.mk HG7; clear gb7 gl7 HG7; obtain ⟨hx7_0, hf7_0⟩ := Kd.R_celln false HO103.out (0 : Int) p7 q7; (try rw [show ((0 : Int)).toNat = 0 from rfl] at hx7_0); (try simp only [Nat.reduceMul, Nat.zero_mul, Nat.zero_add, Nat.reduceAdd] at hx7_0); (try rw [show ((0 : Int)).toNat = 0 from rfl] at hf7_0); (try simp only [Nat.reduceMul, Nat.zero_mul, Nat.zero_add, Nat.reduceAdd] at hf7_0); replace p7 := eq_true p7; replace q7 := eq_true q7; obtain ⟨hy10_, hz10_⟩ := Kd.R_celln false HO103.out (0 : Int) (by omega) (of_decide_eq_true (by first | (with_reducible assumption) | assumption)); (try simp only [Int.reduceToNat, Int.toNat_zero, Int.toNat_ofNat, Nat.reduceMul, Nat.zero_mul, Nat.zero_add] at hy10_ hz10_); (try rw [show ((0 : Int)).toNat = 0 from rfl] at hy10_); (try rw [show ((0 : Int)).toNat = 0 from rfl] at hz10_); have HP10 := Kd.R_putg HO103.out (0 : Int) true) | ((with_reducible refine gate_store (t := 4) (p := 14) rfl ?_); refine store_event (t := 4) (p := 14) (v := ?vo_w11) (w1 := (w8.setCell ⟨go7, (0 : Int).toNat, none⟩ (.bool true))) ?hg ?ho ?hn ?hr ?_; (case ho => rfl); (case hg => rfl); (case hn => rfl); (case hr => first | (go_simp; done) | (go_simp; rfl)); intro w11 hw; have hg : w8.grownBy w11 (some go7) := (by rw [hw]; exact HP10.2); have hp_ : Kd.R Kd.bool 4 w11 w.heap.size (fun _ => True) (.slice (some ⟨go7, 0, none⟩) y101.length co7) y104 := (by rw [hw, Ny104.out]; exact HP10.1); clear HP10; have n0_ := Aside0.mk (hp_); have n1_ := Aside0.mk ((by rw [hw]; exact below_set (HB.out) GB7.out : Below w.heap.size w w11)); clear HO103; clear HB; have HO103 := n0_; have HB := n1_; clear n0_ n1_; clear hg hw hp_))
    go_loopg [5, 6] k (fun kq v5 v6 w' => ∃ (x5_1 : List Bool) (x6_1 : Int), v6 = .int .i64 x6_1 ∧ Aside0 (oculusref17_Like.l0 kq a0 a1 x5_1 x6_1 = some r) ∧ Aside0 (kq ≤ k) ∧ Aside0 (Kd.R Kd.bool 4 w' w.heap.size (fun _ => True) v5 x5_1) ∧ Aside0 (Below w.heap.size w w'))
    case atStart => exact ⟨(y104), (0), (by first | rfl | (simp; done) | (simp [*]; done)), H', ⟨Nat.le_refl _⟩, ⟨by (with_reducible repeat (first | apply Kd.R_alloc | apply Kd.R_drewN | apply Kd.R_drew)); exact HO103.out⟩, ⟨pbx HB⟩⟩
    case round =>
     clear H'; (try clear c1); (try clear p2); (try clear c4); (try clear c4b0); (try clear c4b1); (try clear c5); (try clear c5b0); (try clear c5b1); (try clear c6); (try clear c6b0); (try clear c6b1); (try clear p6); (try clear p7); (try clear q7); (try clear hx7); (try clear qi7); (try clear hf7); (try clear hx7_0); (try clear p7); (try clear q7); obtain ⟨x5_1, x6_1, rfl, HA, HK1, HO_5, HB⟩ := hrel
     cases gk with
     | zero => exact absurd HA.out (by simp [oculusref17_Like.l0])
     | succ k1 =>
      have H := HA.out; clear HA
      simp only [oculusref17_Like.l0] at H
      by_cases c12 : x6_1 < (a0.size : Int)
      ·
       rw [if_pos c12] at H; have c12b0 : decide (x6_1 < (a0.size : Int)) = true := decide_eq_true c12; clear c12; obtain ⟨ji13, hji13⟩ : ∃ j_ : Int, (wrap64 ((a1.size : Int) + 1)) = j_ := ⟨_, rfl⟩
       replace H : (if 0 ≤ (ji13) then (if (ji13 : Int).toNat ≤ 281474976710656 then (oculusref17_Like.l1 k1 a0 a1 x5_1 x6_1 (List.replicate (ji13 : Int).toNat false) 0) else (none)) else (none)) = some r := by first | (rw [hji13] at H; exact H) | (simp only [hji13] at H ⊢; exact H)
       have hji13w : (IntKind.i64.wrap ((a1.size : Int) + 1)) = ji13 := (i64_w _).trans hji13
       by_cases c14 : 0 ≤ (ji13)
       ·
        rw [if_pos c14] at H; have c14b0 := eq_true c14; have c14b1 : decide (0 ≤ (ji13)) = true := decide_eq_true c14; clear c14
        by_cases c15 : (ji13 : Int).toNat ≤ 281474976710656
        ·
         rw [if_pos c15] at H; have c15b0 := eq_true c15; have c15b1 : decide ((ji13 : Int).toNat ≤ 281474976710656) = true := decide_eq_true c15; clear c15; obtain ⟨y106, hy106⟩ : ∃ y_ : List Bool, y_ = (List.replicate (ji13 : Int).toNat false) := ⟨_, rfl⟩
         replace H : (oculusref17_Like.l1 k1 a0 a1 x5_1 x6_1 y106 0) = some r := by first | (rw [hy106]; with_reducible exact H) | (have H2_ := (Option.bind_some _ _).symm.trans H; rw [hy106]; with_reducible exact H2_) | (have H2_ := (Option.bind_some _ _).symm.trans H; with_reducible exact H2_) | with_reducible exact H | (rw [hy106]; exact H) | exact H
         have Ny106 := Aside0.mk hy106; clear hy106
         have H' := Aside0.mk H
         clear H; obtain rfl : ji13 = ji3 := hji13.symm.trans hji3
         go_wp2_with (first | ((with_reducible refine gate_dst (N := 24) rfl ?_); refine Kd.R_make Kd.bool _ 4 rfl (N := 24) rfl 47 _ _ rfl ji13 rfl rfl Try.underlying47 (.bool false) 1 info4 rfl (by decide) (by omega) false (ok := fun _ => True) (okp := fun _ => True) rfl (fun _ hk => hk) trivial (of_decide_eq_true (by first | (with_reducible assumption) | assumption)) (Nat.le_trans (Nat.mul_le_mul_right _ (of_decide_eq_true (by first | (with_reducible assumption) | assumption) : ji13.toNat ≤ 281474976710656)) (by omega)) (Below.refl _ _) (Nat.le_refl _) ?_; intro v107 w16 ho17 hb hg_ hnew_; clear hg_ hnew_; (first | rw [← Ny106.out] at ho17 | (simp only [Int.reduceToNat] at ho17; rw [← Ny106.out] at ho17)); have n0_ := Aside0.mk (Kd.R_elder' (by (with_reducible repeat (first | apply Kd.R_alloc | apply Kd.R_drewN | apply Kd.R_drew)); exact HO_5.out) (Kd.R_base ho17) hb); have n1_ := Aside0.mk (Kd.R_lower (Kd.R_new' ho17 (Kd.R_lt (by (with_reducible repeat (first | apply Kd.R_alloc | apply Kd.R_drewN | apply Kd.R_drew)); exact HO_5.out))) (below_size (pbx HB))); have n2_ := bs_ HB hb; clear HO_5; clear HB; have HO_5 := n0_; have HO108 := n1_; have HB := n2_; clear n0_ n1_ n2_; clear hb ho17))
         go_loopg [8] k1 (fun kq v8 w' => ∃ (x7_2 : List Bool) (x8_2 : Int), v8 = .int .i64 x8_2 ∧ Aside0 (oculusref17_Like.l1 kq a0 a1 x5_1 x6_1 x7_2 x8_2 = some r) ∧ Aside0 (kq ≤ k1) ∧ Aside0 (Kd.R Kd.bool 4 w' w.heap.size (fun k_ => some k_ ≠ (v107 : Value).ownBlock) u5 x5_1) ∧ Aside0 (Kd.R Kd.bool 4 w' w.heap.size (fun k_ => some k_ ≠ (u5 : Value).ownBlock) v107 x7_2) ∧ Aside0 (Below w.heap.size w w'))
         case atStart => exact ⟨(y106), (0), (by first | rfl | (simp; done) | (simp [*]; done)), H', ⟨Nat.le_refl _⟩, ⟨by (with_reducible repeat (first | apply Kd.R_alloc | apply Kd.R_drewN | apply Kd.R_drew)); exact Kd.R_mono HO_5.out (fun _ hk => hk.2)⟩, ⟨by (with_reducible repeat (first | apply Kd.R_alloc | apply Kd.R_drewN | apply Kd.R_drew)); exact Kd.R_mono HO108.out (fun _ hk => hk.2)⟩, ⟨pbx HB⟩⟩
         case round =>
          clear H'; (try clear c1); (try clear p2); (try clear c4); (try clear c4b0); (try clear c4b1); (try clear c5); (try clear c5b0); (try clear c5b1); (try clear c6); (try clear c6b0); (try clear c6b1); (try clear p6); (try clear p7); (try clear q7); (try clear hx7); (try clear qi7); (try clear hf7); (try clear c12); (try clear c12b0); (try clear c14); (try clear c14b0); (try clear c14b1); (try clear c15); (try clear c15b0); (try clear c15b1); (try clear hx7_0); (try clear p2); (try clear p6); (try clear p7); (try clear q7); obtain ⟨x7_2, x8_2, rfl, HA, HK2, HO_5, HO_7, HB⟩ := hrel
          cases gk with
          | zero => exact absurd HA.out (by simp [oculusref17_Like.l1])
          | succ k2 =>
           have H := HA.out; clear HA
           simp only [oculusref17_Like.l1] at H
           by_cases c18 : x8_2 ≤ (a1.size : Int)
           ·
            rw [if_pos c18] at H; have c18b0 : decide (x8_2 ≤ (a1.size : Int)) = true := decide_eq_true c18; clear c18
            by_cases c19 : 0 ≤ x6_1
            ·
             rw [if_pos c19] at H; have c19b0 : decide (0 ≤ x6_1) = true := decide_eq_true c19; clear c19
             by_cases c20 : x6_1 < (a0.size : Int)
             ·
              rw [if_pos c20] at H; have c20b0 : decide (x6_1 < (a0.size : Int)) = true := decide_eq_true c20; clear c20
              by_cases c22 : (bt a0 x6_1) = 42
              ·
               rw [if_pos c22] at H; have c22b0 : ((bt a0 x6_1) == 42) = true := beq_iff_eq.mpr c22; have c22b1 : ((bt a0 x6_1) != 42) = false := bne_eq_false_iff_eq.mpr c22; clear c22
               by_cases c23 : 0 ≤ x8_2
               ·
                rw [if_pos c23] at H; have c23b0 : decide (0 ≤ x8_2) = true := decide_eq_true c23; clear c23
                by_cases c24 : x8_2 < (x5_1.length : Int)
                ·
                 rw [if_pos c24] at H; have c24b0 : decide (x8_2 < (x5_1.length : Int)) = true := decide_eq_true c24; clear c24; obtain ⟨bq25, hbq25⟩ : ∃ b_ : Bool, b_ = (rdOf false x5_1 x8_2) := ⟨_, rfl⟩
                 replace H : (if bq25 = true then (if x8_2 < (x7_2.length : Int) then (oculusref17_Like.l1 k2 a0 a1 x5_1 x6_1 (x7_2.set (x8_2 : Int).toNat true) (wrap64 (x8_2 + 1))) else (none)) else (if x8_2 > 0 then (if 0 ≤ (wrap64 (x8_2 - 1)) then (if (wrap64 (x8_2 - 1)) < (x7_2.length : Int) then (if x8_2 < (x7_2.length : Int) then (oculusref17_Like.l1 k2 a0 a1 x5_1 x6_1 (x7_2.set (x8_2 : Int).toNat (rdOf false x7_2 (wrap64 (x8_2 - 1)))) (wrap64 (x8_2 + 1))) else (none)) else (none)) else (none)) else (if x8_2 < (x7_2.length : Int) then (oculusref17_Like.l1 k2 a0 a1 x5_1 x6_1 (x7_2.set (x8_2 : Int).toNat false) (wrap64 (x8_2 + 1))) else (none)))) = some r := by rw [← hbq25] at H; exact H
                 have Nbq25 := Aside0.mk hbq25; clear hbq25
                 by_cases c26 : bq25 = true
                 ·
                  subst c26
                  have H1 : (if x8_2 < (x7_2.length : Int) then (oculusref17_Like.l1 k2 a0 a1 x5_1 x6_1 (x7_2.set (x8_2 : Int).toNat true) (wrap64 (x8_2 + 1))) else (none)) = some r := by rw [if_pos rfl] at H; exact H
                  clear H; have H := H1; clear H1
                  by_cases c27 : x8_2 < (x7_2.length : Int)
                  ·
                   rw [if_pos c27] at H; have c27b0 : decide (x8_2 < (x7_2.length : Int)) = true := decide_eq_true c27; clear c27; obtain ⟨y110, hy110⟩ : ∃ y_ : List Bool, y_ = (x7_2.set (x8_2 : Int).toNat true) := ⟨_, rfl⟩
                   replace H : (oculusref17_Like.l1 k2 a0 a1 x5_1 x6_1 y110 (wrap64 (x8_2 + 1))) = some r := by first | (rw [hy110]; with_reducible exact H) | (have H2_ := (Option.bind_some _ _).symm.trans H; rw [hy110]; with_reducible exact H2_) | (have H2_ := (Option.bind_some _ _).symm.trans H; with_reducible exact H2_) | with_reducible exact H | (rw [hy110]; exact H) | exact H
                   have Ny110 := Aside0.mk hy110; clear hy110
                   have H' := Aside0.mk H
                   clear H
                   have p21 : 0 ≤ (x6_1 : Int) := of_decide_eq_true (by first | (with_reducible assumption) | assumption)
                   have q21 : x6_1 < (a0.size : Int) := of_decide_eq_true (by first | (with_reducible assumption) | assumption)
                   have hx21 := bt_at a0 x6_1; replace p21 := eq_true p21; replace q21 := eq_true q21; obtain ⟨Ao29, co29, eo29⟩ := Kd.R_slice HO_5.out; subst eo29
                   have p109 : 0 ≤ (x8_2 : Int) := of_decide_eq_true (by first | (with_reducible assumption) | assumption)
                   have q109 : x8_2 < (x5_1.length : Int) := of_decide_eq_true (by first | (with_reducible assumption) | assumption)
                   obtain ⟨ad109, e109, hx109_0⟩ := Kd.at_bool (Kd.R_reads' HO_5.out).2.2 x8_2 p109 q109
                   (try rw [← Nbq25.out] at hx109_0)
                   cases e109
                   replace p109 := eq_true p109; replace q109 := eq_true q109
                   have p28 : 0 ≤ (x8_2 : Int) := of_decide_eq_true (by first | (with_reducible assumption) | assumption)
                   have q28 : (x8_2 : Int) < ((x7_2.length : Int) : Int) := of_decide_eq_true (by first | (with_reducible assumption) | assumption)
                   obtain ⟨go28, co28, eo28, gb28, gl28, cl28, HG28⟩ := Kd.R_form HO_7.out (by omega)
                   (first | cases eo28 | (injection eo28 with ea_ en_ ec_; (first | subst ea_ | (injection ea_ with ea_; subst ea_)); subst ec_; clear en_))
                   have GB28 := Aside0.mk gb28; have GG28 := Aside0.mk HG28; clear gb28 gl28 HG28; obtain ⟨hx28_0, hf28_0⟩ := Kd.R_celln false HO_7.out (x8_2 : Int) p28 q28; replace p28 := eq_true p28; replace q28 := eq_true q28; have HP30 := Kd.R_putg HO_7.out (x8_2 : Int) true
                   go_wp2_with (first | ((with_reducible refine gate_store (t := 4) (p := 52) rfl ?_); refine store_event (t := 4) (p := 52) (v := ?vo_w31) (w1 := (wr.setCell ⟨go28, (x8_2 : Int).toNat, none⟩ (.bool true))) ?hg ?ho ?hn ?hr ?_; (case ho => rfl); (case hg => rfl); (case hn => rfl); (case hr => first | (go_simp; done) | (go_simp; rfl)); intro w31 hw; have hg : wr.grownBy w31 (some go28) := (by rw [hw]; exact HP30.2); have hp_ : Kd.R Kd.bool 4 w31 w.heap.size (fun k_ => some k_ ≠ (.slice (some ad109) x5_1.length co29 : Value).ownBlock) (.slice (some ⟨go28, 0, none⟩) x7_2.length co28) y110 := (by rw [hw, Ny110.out]; exact HP30.1); clear HP30; have n0_ := Aside0.mk (Kd.R_after (v := (.slice (some ⟨go28, 0, none⟩) x7_2.length co28)) (v1 := (.slice (some ⟨go28, 0, none⟩) x7_2.length co28)) (ok := (fun _ => True)) (by (with_reducible repeat (first | apply Kd.R_alloc | apply Kd.R_drewN | apply Kd.R_drew)); exact Kd.R_mono HO_5.out (fun _ hk => ⟨trivial, hk⟩)) hg (.inl rfl)); have n1_ := Aside0.mk (hp_); have n2_ := Aside0.mk ((by rw [hw]; exact below_set (HB.out) GB28.out : Below w.heap.size w w31)); clear HO_5; clear HO_7; clear HB; have HO_5 := n0_; have HO_7 := n1_; have HB := n2_; clear n0_ n1_ n2_; clear hg hw hp_))
                   go_roundg k2
                   case measure => have := HK1.out; have := HK2.out; omega
                   case rel => exact ⟨(y110), (wrap64 (x8_2 + 1)), (by first | rfl | (simp; done) | (simp [*]; done)), H', ⟨by have := HK1.out; have := HK2.out; omega⟩, ⟨by (with_reducible repeat (first | apply Kd.R_alloc | apply Kd.R_drewN | apply Kd.R_drew)); exact Kd.R_mono HO_5.out (fun _ hk => hk.2)⟩, ⟨by (with_reducible repeat (first | apply Kd.R_alloc | apply Kd.R_drewN | apply Kd.R_drew)); exact HO_7.out⟩, ⟨pbx HB⟩⟩
                  ·
                   rw [if_neg c27] at H
                   exact absurd H (by simp)
                 ·
                  replace c26 := Bool.eq_false_iff.mpr c26; subst c26
                  have H1 : (if x8_2 > 0 then (if 0 ≤ (wrap64 (x8_2 - 1)) then (if (wrap64 (x8_2 - 1)) < (x7_2.length : Int) then (if x8_2 < (x7_2.length : Int) then (oculusref17_Like.l1 k2 a0 a1 x5_1 x6_1 (x7_2.set (x8_2 : Int).toNat (rdOf false x7_2 (wrap64 (x8_2 - 1)))) (wrap64 (x8_2 + 1))) else (none)) else (none)) else (none)) else (if x8_2 < (x7_2.length : Int) then (oculusref17_Like.l1 k2 a0 a1 x5_1 x6_1 (x7_2.set (x8_2 : Int).toNat false) (wrap64 (x8_2 + 1))) else (none))) = some r := by rw [if_neg (show ¬ (false = true) by decide)] at H; exact H
                  clear H; have H := H1; clear H1
                  by_cases c32 : x8_2 > 0
                  ·
                   rw [if_pos c32] at H; have c32b0 : decide (0 < x8_2) = true := decide_eq_true c32; clear c32; obtain ⟨ji33, hji33⟩ : ∃ j_ : Int, (wrap64 (x8_2 - 1)) = j_ := ⟨_, rfl⟩
                   replace H : (if 0 ≤ (ji33) then (if (ji33) < (x7_2.length : Int) then (if x8_2 < (x7_2.length : Int) then (oculusref17_Like.l1 k2 a0 a1 x5_1 x6_1 (x7_2.set (x8_2 : Int).toNat (rdOf false x7_2 (ji33))) (wrap64 (x8_2 + 1))) else (none)) else (none)) else (none)) = some r := by first | (rw [hji33] at H; exact H) | (simp only [hji33] at H ⊢; exact H)
                   have hji33w : (IntKind.i64.wrap (x8_2 - 1)) = ji33 := (i64_w _).trans hji33
                   by_cases c34 : 0 ≤ (ji33)
                   ·
                    rw [if_pos c34] at H; have c34b0 : decide (0 ≤ (ji33)) = true := decide_eq_true c34; clear c34
                    by_cases c35 : (ji33) < (x7_2.length : Int)
                    ·
                     rw [if_pos c35] at H; have c35b0 : decide ((ji33) < (x7_2.length : Int)) = true := decide_eq_true c35; clear c35
                     by_cases c36 : x8_2 < (x7_2.length : Int)
                     ·
                      rw [if_pos c36] at H; have c36b0 : decide (x8_2 < (x7_2.length : Int)) = true := decide_eq_true c36; clear c36; obtain ⟨y112, hy112⟩ : ∃ y_ : List Bool, y_ = (x7_2.set (x8_2 : Int).toNat (rdOf false x7_2 (ji33))) := ⟨_, rfl⟩
                      replace H : (oculusref17_Like.l1 k2 a0 a1 x5_1 x6_1 y112 (wrap64 (x8_2 + 1))) = some r := by first | (rw [hy112]; with_reducible exact H) | (have H2_ := (Option.bind_some _ _).symm.trans H; rw [hy112]; with_reducible exact H2_) | (have H2_ := (Option.bind_some _ _).symm.trans H; with_reducible exact H2_) | with_reducible exact H | (rw [hy112]; exact H) | exact H
                      have Ny112 := Aside0.mk hy112; clear hy112
                      have H' := Aside0.mk H
                      clear H
                      have p21 : 0 ≤ (x6_1 : Int) := of_decide_eq_true (by first | (with_reducible assumption) | assumption)
                      have q21 : x6_1 < (a0.size : Int) := of_decide_eq_true (by first | (with_reducible assumption) | assumption)
                      have hx21 := bt_at a0 x6_1; replace p21 := eq_true p21; replace q21 := eq_true q21; obtain ⟨Ao38, co38, eo38⟩ := Kd.R_slice HO_5.out; subst eo38
                      have p109 : 0 ≤ (x8_2 : Int) := of_decide_eq_true (by first | (with_reducible assumption) | assumption)
                      have q109 : x8_2 < (x5_1.length : Int) := of_decide_eq_true (by first | (with_reducible assumption) | assumption)
                      obtain ⟨ad109, e109, hx109_0⟩ := Kd.at_bool (Kd.R_reads' HO_5.out).2.2 x8_2 p109 q109
                      (try rw [← Nbq25.out] at hx109_0)
                      cases e109
                      replace p109 := eq_true p109; replace q109 := eq_true q109; obtain ⟨Ao39, co39, eo39⟩ := Kd.R_slice HO_7.out; subst eo39
                      have p111 : 0 ≤ ((ji33) : Int) := of_decide_eq_true (by first | (with_reducible assumption) | assumption)
                      have q111 : (ji33) < (x7_2.length : Int) := of_decide_eq_true (by first | (with_reducible assumption) | assumption)
                      obtain ⟨ad111, e111, hx111_0⟩ := Kd.at_bool (Kd.R_reads' HO_7.out).2.2 (ji33) p111 q111
                      (try rw [← Nbq25.out] at hx111_0)
                      cases e111
                      replace p111 := eq_true p111; replace q111 := eq_true q111
                      have p37 : 0 ≤ (x8_2 : Int) := of_decide_eq_true (by first | (with_reducible assumption) | assumption)
                      have q37 : (x8_2 : Int) < ((x7_2.length : Int) : Int) := of_decide_eq_true (by first | (with_reducible assumption) | assumption)
                      obtain ⟨go37, co37, eo37, gb37, gl37, cl37, HG37⟩ := Kd.R_form HO_7.out (by omega)
                      (first | cases eo37 | (injection eo37 with ea_ en_ ec_; (first | subst ea_ | (injection ea_ with ea_; subst ea_)); subst ec_; clear en_))
                      have GB37 := Aside0.mk gb37; have GG37 := Aside0.mk HG37; clear gb37 gl37 HG37
                      (first | simp only [add_plain] at hx111_0 | skip)
                      obtain ⟨hx37_0, hf37_0⟩ := Kd.R_celln false HO_7.out (x8_2 : Int) p37 q37; replace p37 := eq_true p37; replace q37 := eq_true q37; have HP40 := Kd.R_putg HO_7.out (x8_2 : Int) (rdOf false x7_2 (ji33))
                      go_wp2_with (first | ((with_reducible refine gate_store (t := 4) (p := 52) rfl ?_); refine store_event (t := 4) (p := 52) (v := ?vo_w41) (w1 := (wr.setCell ⟨go37, (x8_2 : Int).toNat, none⟩ (.bool (rdOf false x7_2 (ji33))))) ?hg ?ho ?hn ?hr ?_; (case ho => rfl); (case hg => rfl); (case hn => rfl); (case hr => first | (go_simp; done) | (go_simp; rfl)); intro w41 hw; have hg : wr.grownBy w41 (some go37) := (by rw [hw]; exact HP40.2); have hp_ : Kd.R Kd.bool 4 w41 w.heap.size (fun k_ => some k_ ≠ (.slice (some ad109) x5_1.length co38 : Value).ownBlock) (.slice (some ⟨go37, 0, none⟩) x7_2.length co39) y112 := (by rw [hw, Ny112.out]; exact HP40.1); clear HP40; have n0_ := Aside0.mk (Kd.R_after (v := (.slice (some ⟨go37, 0, none⟩) x7_2.length co39)) (v1 := (.slice (some ⟨go37, 0, none⟩) x7_2.length co39)) (ok := (fun _ => True)) (by (with_reducible repeat (first | apply Kd.R_alloc | apply Kd.R_drewN | apply Kd.R_drew)); exact Kd.R_mono HO_5.out (fun _ hk => ⟨trivial, hk⟩)) hg (.inl rfl)); have n1_ := Aside0.mk (hp_); have n2_ := Aside0.mk ((by rw [hw]; exact below_set (HB.out) GB37.out : Below w.heap.size w w41)); clear HO_5; clear HO_7; clear HB; have HO_5 := n0_; have HO_7 := n1_; have HB := n2_; clear n0_ n1_ n2_; clear hg hw hp_))
                      go_roundg k2
                      case measure => have := HK1.out; have := HK2.out; omega
                      case rel => exact ⟨(y112), (wrap64 (x8_2 + 1)), (by first | rfl | (simp; done) | (simp [*]; done)), H', ⟨by have := HK1.out; have := HK2.out; omega⟩, ⟨by (with_reducible repeat (first | apply Kd.R_alloc | apply Kd.R_drewN | apply Kd.R_drew)); exact Kd.R_mono HO_5.out (fun _ hk => hk.2)⟩, ⟨by (with_reducible repeat (first | apply Kd.R_alloc | apply Kd.R_drewN | apply Kd.R_drew)); exact HO_7.out⟩, ⟨pbx HB⟩⟩
                     ·
                      rw [if_neg c36] at H
                      exact absurd H (by simp)
                    ·
                     rw [if_neg c35] at H
                     exact absurd H (by simp)
                   ·
                    rw [if_neg c34] at H
                    exact absurd H (by simp)
                  ·
                   rw [if_neg c32] at H; have c32b0 : decide (0 < x8_2) = false := decide_eq_false c32; clear c32
                   by_cases c42 : x8_2 < (x7_2.length : Int)
                   ·
                    rw [if_pos c42] at H; have c42b0 : decide (x8_2 < (x7_2.length : Int)) = true := decide_eq_true c42; clear c42; obtain ⟨y113, hy113⟩ : ∃ y_ : List Bool, y_ = (x7_2.set (x8_2 : Int).toNat false) := ⟨_, rfl⟩
                    replace H : (oculusref17_Like.l1 k2 a0 a1 x5_1 x6_1 y113 (wrap64 (x8_2 + 1))) = some r := by first | (rw [hy113]; with_reducible exact H) | (have H2_ := (Option.bind_some _ _).symm.trans H; rw [hy113]; with_reducible exact H2_) | (have H2_ := (Option.bind_some _ _).symm.trans H; with_reducible exact H2_) | with_reducible exact H | (rw [hy113]; exact H) | exact H
                    have Ny113 := Aside0.mk hy113; clear hy113
                    have H' := Aside0.mk H
                    clear H
                    have p21 : 0 ≤ (x6_1 : Int) := of_decide_eq_true (by first | (with_reducible assumption) | assumption)
                    have q21 : x6_1 < (a0.size : Int) := of_decide_eq_true (by first | (with_reducible assumption) | assumption)
                    have hx21 := bt_at a0 x6_1; replace p21 := eq_true p21; replace q21 := eq_true q21; obtain ⟨Ao44, co44, eo44⟩ := Kd.R_slice HO_5.out; subst eo44
                    have p109 : 0 ≤ (x8_2 : Int) := of_decide_eq_true (by first | (with_reducible assumption) | assumption)
                    have q109 : x8_2 < (x5_1.length : Int) := of_decide_eq_true (by first | (with_reducible assumption) | assumption)
                    obtain ⟨ad109, e109, hx109_0⟩ := Kd.at_bool (Kd.R_reads' HO_5.out).2.2 x8_2 p109 q109
                    (try rw [← Nbq25.out] at hx109_0)
                    cases e109
                    replace p109 := eq_true p109; replace q109 := eq_true q109
                    have p43 : 0 ≤ (x8_2 : Int) := of_decide_eq_true (by first | (with_reducible assumption) | assumption)
                    have q43 : (x8_2 : Int) < ((x7_2.length : Int) : Int) := of_decide_eq_true (by first | (with_reducible assumption) | assumption)
                    obtain ⟨go43, co43, eo43, gb43, gl43, cl43, HG43⟩ := Kd.R_form HO_7.out (by omega)
                    (first | cases eo43 | (injection eo43 with ea_ en_ ec_; (first | subst ea_ | (injection ea_ with ea_; subst ea_)); subst ec_; clear en_))
                    have GB43 := Aside0.mk gb43; have GG43 := Aside0.mk HG43; clear gb43 gl43 HG43; obtain ⟨hx43_0, hf43_0⟩ := Kd.R_celln false HO_7.out (x8_2 : Int) p43 q43; replace p43 := eq_true p43; replace q43 := eq_true q43; have HP45 := Kd.R_putg HO_7.out (x8_2 : Int) false
                    go_wp2_with (first | ((with_reducible refine gate_store (t := 4) (p := 52) rfl ?_); refine store_event (t := 4) (p := 52) (v := ?vo_w46) (w1 := (wr.setCell ⟨go43, (x8_2 : Int).toNat, none⟩ (.bool false))) ?hg ?ho ?hn ?hr ?_; (case ho => rfl); (case hg => rfl); (case hn => rfl); (case hr => first | (go_simp; done) | (go_simp; rfl)); intro w46 hw; have hg : wr.grownBy w46 (some go43) := (by rw [hw]; exact HP45.2); have hp_ : Kd.R Kd.bool 4 w46 w.heap.size (fun k_ => some k_ ≠ (.slice (some ad109) x5_1.length co44 : Value).ownBlock) (.slice (some ⟨go43, 0, none⟩) x7_2.length co43) y113 := (by rw [hw, Ny113.out]; exact HP45.1); clear HP45; have n0_ := Aside0.mk (Kd.R_after (v := (.slice (some ⟨go43, 0, none⟩) x7_2.length co43)) (v1 := (.slice (some ⟨go43, 0, none⟩) x7_2.length co43)) (ok := (fun _ => True)) (by (with_reducible repeat (first | apply Kd.R_alloc | apply Kd.R_drewN | apply Kd.R_drew)); exact Kd.R_mono HO_5.out (fun _ hk => ⟨trivial, hk⟩)) hg (.inl rfl)); have n1_ := Aside0.mk (hp_); have n2_ := Aside0.mk ((by rw [hw]; exact below_set (HB.out) GB43.out : Below w.heap.size w w46)); clear HO_5; clear HO_7; clear HB; have HO_5 := n0_; have HO_7 := n1_; have HB := n2_; clear n0_ n1_ n2_; clear hg hw hp_))
                    go_roundg k2
                    case measure => have := HK1.out; have := HK2.out; omega
                    case rel => exact ⟨(y113), (wrap64 (x8_2 + 1)), (by first | rfl | (simp; done) | (simp [*]; done)), H', ⟨by have := HK1.out; have := HK2.out; omega⟩, ⟨by (with_reducible repeat (first | apply Kd.R_alloc | apply Kd.R_drewN | apply Kd.R_drew)); exact Kd.R_mono HO_5.out (fun _ hk => hk.2)⟩, ⟨by (with_reducible repeat (first | apply Kd.R_alloc | apply Kd.R_drewN | apply Kd.R_drew)); exact HO_7.out⟩, ⟨pbx HB⟩⟩
                   ·
                    rw [if_neg c42] at H
                    exact absurd H (by simp)
                ·
                 rw [if_neg c24] at H
                 exact absurd H (by simp)
               ·
                rw [if_neg c23] at H
                exact absurd H (by simp)
              ·
               rw [if_neg c22] at H; have c22b0 : ((bt a0 x6_1) == 42) = false := beq_eq_false_iff_ne.mpr c22; have c22b1 : ((bt a0 x6_1) != 42) = true := bne_iff_ne.mpr c22
               by_cases c47 : x8_2 > 0
               ·
                rw [if_pos c47] at H; have c47b0 : decide (0 < x8_2) = true := decide_eq_true c47; clear c47; obtain ⟨ji48, hji48⟩ : ∃ j_ : Int, (wrap64 (x8_2 - 1)) = j_ := ⟨_, rfl⟩
                replace H : (if 0 ≤ (ji48) then (if (ji48) < (x5_1.length : Int) then (if rdOf false x5_1 (ji48) = true then (if (bt a0 x6_1) = 63 then (if 0 ≤ x8_2 then (if x8_2 < (x7_2.length : Int) then (oculusref17_Like.l1 k2 a0 a1 x5_1 x6_1 (x7_2.set (x8_2 : Int).toNat true) (wrap64 (x8_2 + 1))) else (none)) else (none)) else (if (ji48) < (a1.size : Int) then (if 0 ≤ x8_2 then (if x8_2 < (x7_2.length : Int) then (oculusref17_Like.l1 k2 a0 a1 x5_1 x6_1 (x7_2.set (x8_2 : Int).toNat ((bt a0 x6_1) == (bt a1 (ji48)))) (wrap64 (x8_2 + 1))) else (none)) else (none)) else (none))) else (if 0 ≤ x8_2 then (if x8_2 < (x7_2.length : Int) then (oculusref17_Like.l1 k2 a0 a1 x5_1 x6_1 (x7_2.set (x8_2 : Int).toNat false) (wrap64 (x8_2 + 1))) else (none)) else (none))) else (none)) else (none)) = some r := by first | (rw [hji48] at H; exact H) | (simp only [hji48] at H ⊢; exact H)
                have hji48w : (IntKind.i64.wrap (x8_2 - 1)) = ji48 := (i64_w _).trans hji48
                by_cases c49 : 0 ≤ (ji48)
                ·
                 rw [if_pos c49] at H; have c49b0 : decide (0 ≤ (ji48)) = true := decide_eq_true c49; clear c49
                 by_cases c50 : (ji48) < (x5_1.length : Int)
                 ·
                  rw [if_pos c50] at H; have c50b0 : decide ((ji48) < (x5_1.length : Int)) = true := decide_eq_true c50; clear c50; obtain ⟨bq51, hbq51⟩ : ∃ b_ : Bool, b_ = (rdOf false x5_1 (ji48)) := ⟨_, rfl⟩
                  replace H : (if bq51 = true then (if (bt a0 x6_1) = 63 then (if 0 ≤ x8_2 then (if x8_2 < (x7_2.length : Int) then (oculusref17_Like.l1 k2 a0 a1 x5_1 x6_1 (x7_2.set (x8_2 : Int).toNat true) (wrap64 (x8_2 + 1))) else (none)) else (none)) else (if (ji48) < (a1.size : Int) then (if 0 ≤ x8_2 then (if x8_2 < (x7_2.length : Int) then (oculusref17_Like.l1 k2 a0 a1 x5_1 x6_1 (x7_2.set (x8_2 : Int).toNat ((bt a0 x6_1) == (bt a1 (ji48)))) (wrap64 (x8_2 + 1))) else (none)) else (none)) else (none))) else (if 0 ≤ x8_2 then (if x8_2 < (x7_2.length : Int) then (oculusref17_Like.l1 k2 a0 a1 x5_1 x6_1 (x7_2.set (x8_2 : Int).toNat false) (wrap64 (x8_2 + 1))) else (none)) else (none))) = some r := by rw [← hbq51] at H; exact H
                  have Nbq51 := Aside0.mk hbq51; clear hbq51
                  by_cases c52 : bq51 = true
                  ·
                   subst c52
                   have H1 : (if (bt a0 x6_1) = 63 then (if 0 ≤ x8_2 then (if x8_2 < (x7_2.length : Int) then (oculusref17_Like.l1 k2 a0 a1 x5_1 x6_1 (x7_2.set (x8_2 : Int).toNat true) (wrap64 (x8_2 + 1))) else (none)) else (none)) else (if (ji48) < (a1.size : Int) then (if 0 ≤ x8_2 then (if x8_2 < (x7_2.length : Int) then (oculusref17_Like.l1 k2 a0 a1 x5_1 x6_1 (x7_2.set (x8_2 : Int).toNat ((bt a0 x6_1) == (bt a1 (ji48)))) (wrap64 (x8_2 + 1))) else (none)) else (none)) else (none))) = some r := by rw [if_pos rfl] at H; exact H
                   clear H; have H := H1; clear H1
                   by_cases c54 : (bt a0 x6_1) = 63
                   ·
                    rw [if_pos c54] at H; have c54b0 : ((bt a0 x6_1) == 63) = true := beq_iff_eq.mpr c54; have c54b1 : ((bt a0 x6_1) != 63) = false := bne_eq_false_iff_eq.mpr c54; clear c54
                    by_cases c55 : 0 ≤ x8_2
                    ·
                     rw [if_pos c55] at H; have c55b0 : decide (0 ≤ x8_2) = true := decide_eq_true c55; clear c55
                     by_cases c56 : x8_2 < (x7_2.length : Int)
                     ·
                      rw [if_pos c56] at H; have c56b0 : decide (x8_2 < (x7_2.length : Int)) = true := decide_eq_true c56; clear c56; obtain ⟨y115, hy115⟩ : ∃ y_ : List Bool, y_ = (x7_2.set (x8_2 : Int).toNat true) := ⟨_, rfl⟩
                      replace H : (oculusref17_Like.l1 k2 a0 a1 x5_1 x6_1 y115 (wrap64 (x8_2 + 1))) = some r := by first | (rw [hy115]; with_reducible exact H) | (have H2_ := (Option.bind_some _ _).symm.trans H; rw [hy115]; with_reducible exact H2_) | (have H2_ := (Option.bind_some _ _).symm.trans H; with_reducible exact H2_) | with_reducible exact H | (rw [hy115]; exact H) | exact H
                      have Ny115 := Aside0.mk hy115; clear hy115
                      have H' := Aside0.mk H
                      clear H
                      have p21 : 0 ≤ (x6_1 : Int) := of_decide_eq_true (by first | (with_reducible assumption) | assumption)
                      have q21 : x6_1 < (a0.size : Int) := of_decide_eq_true (by first | (with_reducible assumption) | assumption)
                      have hx21 := bt_at a0 x6_1; replace p21 := eq_true p21; replace q21 := eq_true q21
                      try go_wp2
                      (try (rw [drewN_self wr]; generalize hq_ : World.drewN wr _ = wr; have n0_ : Aside0 (Kd.R Kd.bool 4 wr w.heap.size (fun k_ => some k_ ≠ (v107 : Value).ownBlock) u5 x5_1) := ⟨by rw [← hq_]; exact (by (with_reducible repeat (first | apply Kd.R_alloc | apply Kd.R_drewN | apply Kd.R_drew)); exact HO_5.out)⟩; have n1_ : Aside0 (Kd.R Kd.bool 4 wr w.heap.size (fun k_ => some k_ ≠ (u5 : Value).ownBlock) v107 x7_2) := ⟨by rw [← hq_]; exact (by (with_reducible repeat (first | apply Kd.R_alloc | apply Kd.R_drewN | apply Kd.R_drew)); exact HO_7.out)⟩; have n2_ : Aside0 (Below w.heap.size w wr) := ⟨by rw [← hq_]; exact (pbx HB)⟩; clear HO_5 HO_7 HB hq_; have HO_5 := n0_; have HO_7 := n1_; have HB := n2_; clear n0_ n1_ n2_))
                      have n0_ := Aside0.mk (Kd.R_drew HO_5.out); have n1_ := Aside0.mk (Kd.R_drew HO_7.out); have n2_ := Aside0.mk (below_drew1 HB.out); clear HO_5; clear HO_7; clear HB; have HO_5 := n0_; have HO_7 := n1_; have HB := n2_; clear n0_ n1_ n2_; obtain ⟨Ao59, co59, eo59⟩ := Kd.R_slice HO_5.out
                      (first | subst eo59 | (injection eo59 with f1_ f2_ f3_; have f4_ := f1_.symm; have f5_ := f3_.symm; clear f1_ f2_ f3_; subst f4_; subst f5_))
                      have p114 : 0 ≤ ((ji48) : Int) := of_decide_eq_true (by first | (with_reducible assumption) | assumption)
                      have q114 : (ji48) < (x5_1.length : Int) := of_decide_eq_true (by first | (with_reducible assumption) | assumption)
                      obtain ⟨ad114, e114, hx114_0⟩ := Kd.at_bool (Kd.R_reads' HO_5.out).2.2 (ji48) p114 q114
                      (try rw [← Nbq51.out] at hx114_0)
                      cases e114
                      replace p114 := eq_true p114; replace q114 := eq_true q114
                      have p53 : 0 ≤ (x6_1 : Int) := of_decide_eq_true (by first | (with_reducible assumption) | assumption)
                      have q53 : x6_1 < (a0.size : Int) := of_decide_eq_true (by first | (with_reducible assumption) | assumption)
                      have hx53 := bt_at a0 x6_1; replace p53 := eq_true p53; replace q53 := eq_true q53
                      have p57 : 0 ≤ (x8_2 : Int) := of_decide_eq_true (by first | (with_reducible assumption) | assumption)
                      have q57 : (x8_2 : Int) < ((x7_2.length : Int) : Int) := of_decide_eq_true (by first | (with_reducible assumption) | assumption)
                      obtain ⟨go57, co57, eo57, gb57, gl57, cl57, HG57⟩ := Kd.R_form HO_7.out (by omega)
                      (first | cases eo57 | (injection eo57 with ea_ en_ ec_; (first | subst ea_ | (injection ea_ with ea_; subst ea_)); subst ec_; clear en_))
                      have GB57 := Aside0.mk gb57; have GG57 := Aside0.mk HG57; clear gb57 gl57 HG57; obtain ⟨hx57_0, hf57_0⟩ := Kd.R_celln false HO_7.out (x8_2 : Int) p57 q57; replace p57 := eq_true p57; replace q57 := eq_true q57; have HP60 := Kd.R_putn HO_7.out (x8_2 : Int) true; rw [← Ny115.out] at HP60; have HQ60 := Aside0.mk HP60; clear HP60
                      refine start_ (n := 25) (S := fun w' => w'.cell? (ad114.add ((ji48)).toNat) = some (.bool true)) (ds := [24]) #[F_,F_,F_,F_,F_,F_,F_,F_,F_,F_,F_,F_,F_,F_,F_,F_,F_,F_,F_,F_,F_,F_,F_,F_,F_] (by kernel_rfl) rfl rfl (hx114_0) (fun hHeld => ?_); refine with_tabW oculusref17_Like.tab13 oculusref17_Like.bits13 (fun HT_ HW_ => ?_)
                      generalize wr.drew = w58 at HO_5 HO_7 HB GG57 HQ60 hf57_0 hx114_0 hx57_0 hHeld ⊢
                      refine pure_ (i := 0) (N := some 55) (v := ?_) (a' := ?_) #[T_,F_,F_,F_,F_,F_,F_,F_,F_,F_,F_,F_,F_,F_,F_,F_,F_,F_,F_,F_,F_,F_,F_,F_,F_] rfl rfl (any_of HT_.out (by kernel_rfl)) (fun _ _ _ h => h) (Or.inl ⟨by rfl, ?_⟩) ?_ ?_
                      rotate_left
                      ·
                       intro w'
                       go_simp
                       with_reducible rfl
                      rotate_left
                      ·
                       simp only [Act.put, q_, i64_w, i32_w]
                       rfl
                      refine pure_ (i := 1) (N := some 56) (v := ?_) (a' := ?_) #[T_,T_,F_,F_,F_,F_,F_,F_,F_,F_,F_,F_,F_,F_,F_,F_,F_,F_,F_,F_,F_,F_,F_,F_,F_] rfl rfl (any_of HT_.out (by kernel_rfl)) (fun _ _ _ h => h) (Or.inl ⟨by rfl, ?_⟩) ?_ ?_
                      rotate_left
                      ·
                       intro w'
                       go_simp
                       with_reducible rfl
                      rotate_left
                      ·
                       simp only [Act.put, q_, i64_w, i32_w]
                       rfl
                      refine pure_ (i := 2) (N := some 57) (v := ?_) (a' := ?_) #[T_,T_,T_,F_,F_,F_,F_,F_,F_,F_,F_,F_,F_,F_,F_,F_,F_,F_,F_,F_,F_,F_,F_,F_,F_] rfl rfl (any_of HT_.out (by kernel_rfl)) (fun _ _ _ h => h) (Or.inl ⟨by rfl, ?_⟩) ?_ ?_
                      rotate_left
                      ·
                       intro w'
                       go_simp
                       with_reducible rfl
                      rotate_left
                      ·
                       simp only [Act.put, q_, i64_w, i32_w]
                       rfl
                      refine pure_ (i := 3) (N := some 58) (v := ?_) (a' := ?_) #[T_,T_,T_,T_,F_,F_,F_,F_,F_,F_,F_,F_,F_,F_,F_,F_,F_,F_,F_,F_,F_,F_,F_,F_,F_] rfl rfl (any_of HT_.out (by kernel_rfl)) (fun _ _ _ h => h) (Or.inl ⟨by rfl, ?_⟩) ?_ ?_
                      rotate_left
                      ·
                       intro w'
                       go_simp
                       with_reducible rfl
                      rotate_left
                      ·
                       simp only [Act.put, q_, i64_w, i32_w]
                       rfl
                      refine pure_ (i := 4) (N := some 59) (v := ?_) (a' := ?_) #[T_,T_,T_,T_,T_,F_,F_,F_,F_,F_,F_,F_,F_,F_,F_,F_,F_,F_,F_,F_,F_,F_,F_,F_,F_] rfl rfl (any_of HT_.out (by kernel_rfl)) (fun _ _ _ h => h) (Or.inl ⟨by rfl, ?_⟩) ?_ ?_
                      rotate_left
                      ·
                       intro w'
                       go_simp
                       with_reducible rfl
                      rotate_left
                      ·
                       simp only [Act.put, q_, i64_w, i32_w]
                       rfl
                      refine pure_ (i := 5) (N := some 60) (v := ?_) (a' := ?_) #[T_,T_,T_,T_,T_,T_,F_,F_,F_,F_,F_,F_,F_,F_,F_,F_,F_,F_,F_,F_,F_,F_,F_,F_,F_] rfl rfl (any_of HT_.out (by kernel_rfl)) (fun _ _ _ h => h) (Or.inl ⟨by rfl, ?_⟩) ?_ ?_
                      rotate_left
                      ·
                       intro w'
                       go_simp
                       with_reducible rfl
                      rotate_left
                      ·
                       simp only [Act.put, q_, i64_w, i32_w]
                       rfl
                      refine take_ (i := 6) (N := some 61) (v := ?_) (a' := ?_) #[T_,T_,T_,T_,T_,T_,T_,F_,F_,F_,F_,F_,F_,F_,F_,F_,F_,F_,F_,F_,F_,F_,F_,F_,F_] rfl rfl (take_ofW HT_.out HW_.out (by kernel_rfl)) (fun _ _ _ h => h) (Or.inl ⟨by rfl, ?_⟩) hHeld ?_ ?_
                      rotate_left
                      ·
                       intro w' s0
                       go_simp
                       with_reducible rfl
                      rotate_left
                      ·
                       simp only [Act.put, q_, i64_w, i32_w]
                       rfl
                      refine pure_ (i := 7) (N := some 62) (v := ?_) (a' := ?_) #[T_,T_,T_,T_,T_,T_,T_,T_,F_,F_,F_,F_,F_,F_,F_,F_,F_,F_,F_,F_,F_,F_,F_,F_,F_] rfl rfl (any_of HT_.out (by kernel_rfl)) (fun _ _ _ h => h) (Or.inl ⟨by rfl, ?_⟩) ?_ ?_
                      rotate_left
                      ·
                       intro w'
                       go_simp
                       with_reducible rfl
                      rotate_left
                      ·
                       simp only [Act.put, q_, i64_w, i32_w]
                       rfl
                      refine pure_ (i := 8) (N := some 63) (v := ?_) (a' := ?_) #[T_,T_,T_,T_,T_,T_,T_,T_,T_,F_,F_,F_,F_,F_,F_,F_,F_,F_,F_,F_,F_,F_,F_,F_,F_] rfl rfl (any_of HT_.out (by kernel_rfl)) (fun _ _ _ h => h) (Or.inl ⟨by rfl, ?_⟩) ?_ ?_
                      rotate_left
                      ·
                       intro w'
                       go_simp
                       with_reducible rfl
                      rotate_left
                      ·
                       simp only [Act.put, q_, i64_w, i32_w]
                       rfl
                      refine pure_ (i := 9) (N := some 64) (v := ?_) (a' := ?_) #[T_,T_,T_,T_,T_,T_,T_,T_,T_,T_,F_,F_,F_,F_,F_,F_,F_,F_,F_,F_,F_,F_,F_,F_,F_] rfl rfl (any_of HT_.out (by kernel_rfl)) (fun _ _ _ h => h) (Or.inl ⟨by rfl, ?_⟩) ?_ ?_
                      rotate_left
                      ·
                       intro w'
                       go_simp
                       with_reducible rfl
                      rotate_left
                      ·
                       simp only [Act.put, q_, i64_w, i32_w]
                       rfl
                      refine take_ (i := 10) (N := some 65) (v := ?_) (a' := ?_) #[T_,T_,T_,T_,T_,T_,T_,T_,T_,T_,T_,F_,F_,F_,F_,F_,F_,F_,F_,F_,F_,F_,F_,F_,F_] rfl rfl (take_ofW HT_.out HW_.out (by kernel_rfl)) (fun _ _ _ h => h) (Or.inl ⟨by rfl, ?_⟩) hHeld ?_ ?_
                      rotate_left
                      ·
                       intro w' s0
                       go_simp
                       with_reducible rfl
                      rotate_left
                      ·
                       simp only [Act.put, q_, i64_w, i32_w]
                       rfl
                      refine pure_ (i := 11) (N := some 66) (v := ?_) (a' := ?_) #[T_,T_,T_,T_,T_,T_,T_,T_,T_,T_,T_,T_,F_,F_,F_,F_,F_,F_,F_,F_,F_,F_,F_,F_,F_] rfl rfl (any_of HT_.out (by kernel_rfl)) (fun _ _ _ h => h) (Or.inl ⟨by rfl, ?_⟩) ?_ ?_
                      rotate_left
                      ·
                       intro w'
                       go_simp
                       with_reducible rfl
                      rotate_left
                      ·
                       simp only [Act.put, q_, i64_w, i32_w]
                       rfl
                      refine pure_ (i := 12) (N := some 67) (v := ?_) (a' := ?_) #[T_,T_,T_,T_,T_,T_,T_,T_,T_,T_,T_,T_,T_,F_,F_,F_,F_,F_,F_,F_,F_,F_,F_,F_,F_] rfl rfl (any_of HT_.out (by kernel_rfl)) (fun _ _ _ h => h) (Or.inl ⟨by rfl, ?_⟩) ?_ ?_
                      rotate_left
                      ·
                       intro w'
                       go_simp
                       with_reducible rfl
                      rotate_left
                      ·
                       simp only [Act.put, q_, i64_w, i32_w]
                       rfl
                      refine pure_ (i := 13) (N := some 68) (v := undef) (a' := ?_) #[T_,T_,T_,T_,T_,T_,T_,T_,T_,T_,T_,T_,T_,T_,F_,F_,F_,F_,F_,F_,F_,F_,F_,F_,F_] rfl rfl (any_of HT_.out (by kernel_rfl)) (fun _ _ _ h => h) (Or.inr ⟨by rfl, rfl⟩) ?_ ?_
                      rotate_left
                      ·
                       simp only [Act.put, q_, i64_w, i32_w]
                       rfl
                      refine pure_ (i := 14) (N := some 69) (v := undef) (a' := ?_) #[T_,T_,T_,T_,T_,T_,T_,T_,T_,T_,T_,T_,T_,T_,T_,F_,F_,F_,F_,F_,F_,F_,F_,F_,F_] rfl rfl (any_of HT_.out (by kernel_rfl)) (fun _ _ _ h => h) (Or.inr ⟨by rfl, rfl⟩) ?_ ?_
                      rotate_left
                      ·
                       simp only [Act.put, q_, i64_w, i32_w]
                       rfl
                      refine pure_ (i := 15) (N := some 70) (v := undef) (a' := ?_) #[T_,T_,T_,T_,T_,T_,T_,T_,T_,T_,T_,T_,T_,T_,T_,T_,F_,F_,F_,F_,F_,F_,F_,F_,F_] rfl rfl (any_of HT_.out (by kernel_rfl)) (fun _ _ _ h => h) (Or.inr ⟨by rfl, rfl⟩) ?_ ?_
                      rotate_left
                      ·
                       simp only [Act.put, q_, i64_w, i32_w]
                       rfl
                      refine pure_ (i := 16) (N := some 71) (v := undef) (a' := ?_) #[T_,T_,T_,T_,T_,T_,T_,T_,T_,T_,T_,T_,T_,T_,T_,T_,T_,F_,F_,F_,F_,F_,F_,F_,F_] rfl rfl (any_of HT_.out (by kernel_rfl)) (fun _ _ _ h => h) (Or.inr ⟨by rfl, rfl⟩) ?_ ?_
                      rotate_left
                      ·
                       simp only [Act.put, q_, i64_w, i32_w]
                       rfl
                      refine pure_ (i := 17) (N := some 72) (v := undef) (a' := ?_) #[T_,T_,T_,T_,T_,T_,T_,T_,T_,T_,T_,T_,T_,T_,T_,T_,T_,T_,F_,F_,F_,F_,F_,F_,F_] rfl rfl (any_of HT_.out (by kernel_rfl)) (fun _ _ _ h => h) (Or.inr ⟨by rfl, rfl⟩) ?_ ?_
                      rotate_left
                      ·
                       simp only [Act.put, q_, i64_w, i32_w]
                       rfl
                      refine pure_ (i := 18) (N := some 73) (v := undef) (a' := ?_) #[T_,T_,T_,T_,T_,T_,T_,T_,T_,T_,T_,T_,T_,T_,T_,T_,T_,T_,T_,F_,F_,F_,F_,F_,F_] rfl rfl (any_of HT_.out (by kernel_rfl)) (fun _ _ _ h => h) (Or.inr ⟨by rfl, rfl⟩) ?_ ?_
                      rotate_left
                      ·
                       simp only [Act.put, q_, i64_w, i32_w]
                       rfl
                      refine pure_ (i := 19) (N := some 74) (v := undef) (a' := ?_) #[T_,T_,T_,T_,T_,T_,T_,T_,T_,T_,T_,T_,T_,T_,T_,T_,T_,T_,T_,T_,F_,F_,F_,F_,F_] rfl rfl (any_of HT_.out (by kernel_rfl)) (fun _ _ _ h => h) (Or.inr ⟨by rfl, rfl⟩) ?_ ?_
                      rotate_left
                      ·
                       simp only [Act.put, q_, i64_w, i32_w]
                       rfl
                      refine pure_ (i := 20) (N := some 75) (v := undef) (a' := ?_) #[T_,T_,T_,T_,T_,T_,T_,T_,T_,T_,T_,T_,T_,T_,T_,T_,T_,T_,T_,T_,T_,F_,F_,F_,F_] rfl rfl (any_of HT_.out (by kernel_rfl)) (fun _ _ _ h => h) (Or.inr ⟨by rfl, rfl⟩) ?_ ?_
                      rotate_left
                      ·
                       simp only [Act.put, q_, i64_w, i32_w]
                       rfl
                      refine pure_ (i := 21) (N := some 76) (v := ?_) (a' := ?_) #[T_,T_,T_,T_,T_,T_,T_,T_,T_,T_,T_,T_,T_,T_,T_,T_,T_,T_,T_,T_,T_,T_,F_,F_,F_] rfl rfl (any_of HT_.out (by kernel_rfl)) (fun _ _ _ h => h) (Or.inl ⟨by rfl, ?_⟩) ?_ ?_
                      rotate_left
                      ·
                       intro w'
                       go_simp
                       with_reducible rfl
                      rotate_left
                      ·
                       simp only [Act.put, q_, i64_w, i32_w]
                       rfl
                      refine pure_ (i := 22) (N := some 77) (v := ?_) (a' := ?_) #[T_,T_,T_,T_,T_,T_,T_,T_,T_,T_,T_,T_,T_,T_,T_,T_,T_,T_,T_,T_,T_,T_,T_,F_,F_] rfl rfl (any_of HT_.out (by kernel_rfl)) (fun _ _ _ h => h) (Or.inl ⟨by rfl, ?_⟩) ?_ ?_
                      rotate_left
                      ·
                       intro w'
                       go_simp
                       with_reducible rfl
                      rotate_left
                      ·
                       simp only [Act.put, q_, i64_w, i32_w]
                       rfl
                      refine pure_ (i := 23) (N := some 78) (v := ?_) (a' := ?_) #[T_,T_,T_,T_,T_,T_,T_,T_,T_,T_,T_,T_,T_,T_,T_,T_,T_,T_,T_,T_,T_,T_,T_,T_,F_] rfl rfl (any_of HT_.out (by kernel_rfl)) (fun _ _ _ h => h) (Or.inl ⟨by rfl, ?_⟩) ?_ ?_
                      rotate_left
                      ·
                       intro w'
                       go_simp
                       with_reducible rfl
                      rotate_left
                      ·
                       simp only [Act.put, q_, i64_w, i32_w]
                       rfl
                      refine last_ (i := 24) (N := none) #[T_,T_,T_,T_,T_,T_,T_,T_,T_,T_,T_,T_,T_,T_,T_,T_,T_,T_,T_,T_,T_,T_,T_,T_,T_] rfl rfl (one_of HT_.out (by kernel_rfl)) (by decide) (fun K hK => ?_)
                      refine skip_ (w1 := ?_) (by rfl) rfl ?_ ?_
                      rotate_left
                      ·
                       go_simp
                       rfl
                      refine hK.out _ _ ?_
                      clear hK K
                      refine done_ (done_of HT_.out (by kernel_rfl)) ?_
                      try go_wp2
                      go_roundg k2
                      case measure => have := HK1.out; have := HK2.out; omega
                      case rel => exact ⟨(y115), (wrap64 (x8_2 + 1)), (by first | rfl | (simp; done) | (simp [*]; done)), H', ⟨by have := HK1.out; have := HK2.out; omega⟩, ⟨by (with_reducible repeat (first | apply Kd.R_alloc | apply Kd.R_drewN | apply Kd.R_drew)); exact Kd.R_mono (Kd.R_far (p := ⟨go57, (x8_2 : Int).toNat, none⟩) (Kd.R_mono HO_5.out (fun k_ hk => (⟨hk, fun e_ => hk (by rw [e_]; rfl)⟩ : _ ∧ k_ ≠ go57))) (fun _ hk => hk.2) (.bool true)) (fun _ hk => hk.1)⟩, ⟨by (with_reducible repeat (first | apply Kd.R_alloc | apply Kd.R_drewN | apply Kd.R_drew)); exact HQ60.out⟩, ⟨by repeat (first | (with_reducible first | exact HB.out | apply below_alloc | apply pw_below_drewN | apply below_drew1 | refine below_set ?_ GB57.out) | exact HB.out)⟩⟩
                     ·
                      rw [if_neg c56] at H
                      exact absurd H (by simp)
                    ·
                     rw [if_neg c55] at H
                     exact absurd H (by simp)
                   ·
                    rw [if_neg c54] at H; have c54b0 : ((bt a0 x6_1) == 63) = false := beq_eq_false_iff_ne.mpr c54; have c54b1 : ((bt a0 x6_1) != 63) = true := bne_iff_ne.mpr c54
                    by_cases c62 : (ji48) < (a1.size : Int)
                    ·
                     rw [if_pos c62] at H; have c62b0 : decide ((ji48) < (a1.size : Int)) = true := decide_eq_true c62; clear c62
                     by_cases c64 : 0 ≤ x8_2
                     ·
                      rw [if_pos c64] at H; have c64b0 : decide (0 ≤ x8_2) = true := decide_eq_true c64; clear c64
                      by_cases c65 : x8_2 < (x7_2.length : Int)
                      ·
                       rw [if_pos c65] at H; have c65b0 : decide (x8_2 < (x7_2.length : Int)) = true := decide_eq_true c65; clear c65; obtain ⟨y116, hy116⟩ : ∃ y_ : List Bool, y_ = (x7_2.set (x8_2 : Int).toNat ((bt a0 x6_1) == (bt a1 (ji48)))) := ⟨_, rfl⟩
                       replace H : (oculusref17_Like.l1 k2 a0 a1 x5_1 x6_1 y116 (wrap64 (x8_2 + 1))) = some r := by first | (rw [hy116]; with_reducible exact H) | (have H2_ := (Option.bind_some _ _).symm.trans H; rw [hy116]; with_reducible exact H2_) | (have H2_ := (Option.bind_some _ _).symm.trans H; with_reducible exact H2_) | with_reducible exact H | (rw [hy116]; exact H) | exact H
                       have Ny116 := Aside0.mk hy116; clear hy116
                       have H' := Aside0.mk H
                       clear H
                       have p21 : 0 ≤ (x6_1 : Int) := of_decide_eq_true (by first | (with_reducible assumption) | assumption)
                       have q21 : x6_1 < (a0.size : Int) := of_decide_eq_true (by first | (with_reducible assumption) | assumption)
                       have hx21 := bt_at a0 x6_1; replace p21 := eq_true p21; replace q21 := eq_true q21
                       try go_wp2
                       (try (rw [drewN_self wr]; generalize hq_ : World.drewN wr _ = wr; have n0_ : Aside0 (Kd.R Kd.bool 4 wr w.heap.size (fun k_ => some k_ ≠ (v107 : Value).ownBlock) u5 x5_1) := ⟨by rw [← hq_]; exact (by (with_reducible repeat (first | apply Kd.R_alloc | apply Kd.R_drewN | apply Kd.R_drew)); exact HO_5.out)⟩; have n1_ : Aside0 (Kd.R Kd.bool 4 wr w.heap.size (fun k_ => some k_ ≠ (u5 : Value).ownBlock) v107 x7_2) := ⟨by rw [← hq_]; exact (by (with_reducible repeat (first | apply Kd.R_alloc | apply Kd.R_drewN | apply Kd.R_drew)); exact HO_7.out)⟩; have n2_ : Aside0 (Below w.heap.size w wr) := ⟨by rw [← hq_]; exact (pbx HB)⟩; clear HO_5 HO_7 HB hq_; have HO_5 := n0_; have HO_7 := n1_; have HB := n2_; clear n0_ n1_ n2_))
                       have n0_ := Aside0.mk (Kd.R_drew HO_5.out); have n1_ := Aside0.mk (Kd.R_drew HO_7.out); have n2_ := Aside0.mk (below_drew1 HB.out); clear HO_5; clear HO_7; clear HB; have HO_5 := n0_; have HO_7 := n1_; have HB := n2_; clear n0_ n1_ n2_; obtain ⟨Ao68, co68, eo68⟩ := Kd.R_slice HO_5.out
                       (first | subst eo68 | (injection eo68 with f1_ f2_ f3_; have f4_ := f1_.symm; have f5_ := f3_.symm; clear f1_ f2_ f3_; subst f4_; subst f5_))
                       have p114 : 0 ≤ ((ji48) : Int) := of_decide_eq_true (by first | (with_reducible assumption) | assumption)
                       have q114 : (ji48) < (x5_1.length : Int) := of_decide_eq_true (by first | (with_reducible assumption) | assumption)
                       obtain ⟨ad114, e114, hx114_0⟩ := Kd.at_bool (Kd.R_reads' HO_5.out).2.2 (ji48) p114 q114
                       (try rw [← Nbq51.out] at hx114_0)
                       cases e114
                       replace p114 := eq_true p114; replace q114 := eq_true q114
                       have p53 : 0 ≤ (x6_1 : Int) := of_decide_eq_true (by first | (with_reducible assumption) | assumption)
                       have q53 : x6_1 < (a0.size : Int) := of_decide_eq_true (by first | (with_reducible assumption) | assumption)
                       have hx53 := bt_at a0 x6_1; replace p53 := eq_true p53; replace q53 := eq_true q53
                       have p61 : 0 ≤ (x6_1 : Int) := of_decide_eq_true (by first | (with_reducible assumption) | assumption)
                       have q61 : x6_1 < (a0.size : Int) := of_decide_eq_true (by first | (with_reducible assumption) | assumption)
                       have hx61 := bt_at a0 x6_1; replace p61 := eq_true p61; replace q61 := eq_true q61
                       have p63 : 0 ≤ ((ji48) : Int) := of_decide_eq_true (by first | (with_reducible assumption) | assumption)
                       have q63 : (ji48) < (a1.size : Int) := of_decide_eq_true (by first | (with_reducible assumption) | assumption)
                       have hx63 := bt_at a1 (ji48); replace p63 := eq_true p63; replace q63 := eq_true q63
                       have p66 : 0 ≤ (x8_2 : Int) := of_decide_eq_true (by first | (with_reducible assumption) | assumption)
                       have q66 : (x8_2 : Int) < ((x7_2.length : Int) : Int) := of_decide_eq_true (by first | (with_reducible assumption) | assumption)
                       obtain ⟨go66, co66, eo66, gb66, gl66, cl66, HG66⟩ := Kd.R_form HO_7.out (by omega)
                       (first | cases eo66 | (injection eo66 with ea_ en_ ec_; (first | subst ea_ | (injection ea_ with ea_; subst ea_)); subst ec_; clear en_))
                       have GB66 := Aside0.mk gb66; have GG66 := Aside0.mk HG66; clear gb66 gl66 HG66; obtain ⟨hx66_0, hf66_0⟩ := Kd.R_celln false HO_7.out (x8_2 : Int) p66 q66; replace p66 := eq_true p66; replace q66 := eq_true q66; have HP69 := Kd.R_putn HO_7.out (x8_2 : Int) ((bt a0 x6_1) == (bt a1 (ji48))); rw [← Ny116.out] at HP69; have HQ69 := Aside0.mk HP69; clear HP69
                       refine start_ (n := 25) (S := fun w' => w'.cell? (ad114.add ((ji48)).toNat) = some (.bool true)) (ds := [24]) #[F_,F_,F_,F_,F_,F_,F_,F_,F_,F_,F_,F_,F_,F_,F_,F_,F_,F_,F_,F_,F_,F_,F_,F_,F_] (by kernel_rfl) rfl rfl (hx114_0) (fun hHeld => ?_); refine with_tabW oculusref17_Like.tab13 oculusref17_Like.bits13 (fun HT_ HW_ => ?_)
                       generalize wr.drew = w67 at HO_5 HO_7 HB GG66 HQ69 hf66_0 hx114_0 hx66_0 hHeld ⊢
                       refine pure_ (i := 0) (N := some 55) (v := ?_) (a' := ?_) #[T_,F_,F_,F_,F_,F_,F_,F_,F_,F_,F_,F_,F_,F_,F_,F_,F_,F_,F_,F_,F_,F_,F_,F_,F_] rfl rfl (any_of HT_.out (by kernel_rfl)) (fun _ _ _ h => h) (Or.inl ⟨by rfl, ?_⟩) ?_ ?_
                       rotate_left
                       ·
                        intro w'
                        go_simp
                        with_reducible rfl
                       rotate_left
                       ·
                        simp only [Act.put, q_, i64_w, i32_w]
                        rfl
                       refine pure_ (i := 1) (N := some 56) (v := ?_) (a' := ?_) #[T_,T_,F_,F_,F_,F_,F_,F_,F_,F_,F_,F_,F_,F_,F_,F_,F_,F_,F_,F_,F_,F_,F_,F_,F_] rfl rfl (any_of HT_.out (by kernel_rfl)) (fun _ _ _ h => h) (Or.inl ⟨by rfl, ?_⟩) ?_ ?_
                       rotate_left
                       ·
                        intro w'
                        go_simp
                        with_reducible rfl
                       rotate_left
                       ·
                        simp only [Act.put, q_, i64_w, i32_w]
                        rfl
                       refine pure_ (i := 2) (N := some 57) (v := ?_) (a' := ?_) #[T_,T_,T_,F_,F_,F_,F_,F_,F_,F_,F_,F_,F_,F_,F_,F_,F_,F_,F_,F_,F_,F_,F_,F_,F_] rfl rfl (any_of HT_.out (by kernel_rfl)) (fun _ _ _ h => h) (Or.inl ⟨by rfl, ?_⟩) ?_ ?_
                       rotate_left
                       ·
                        intro w'
                        go_simp
                        with_reducible rfl
                       rotate_left
                       ·
                        simp only [Act.put, q_, i64_w, i32_w]
                        rfl
                       refine pure_ (i := 3) (N := some 58) (v := ?_) (a' := ?_) #[T_,T_,T_,T_,F_,F_,F_,F_,F_,F_,F_,F_,F_,F_,F_,F_,F_,F_,F_,F_,F_,F_,F_,F_,F_] rfl rfl (any_of HT_.out (by kernel_rfl)) (fun _ _ _ h => h) (Or.inl ⟨by rfl, ?_⟩) ?_ ?_
                       rotate_left
                       ·
                        intro w'
                        go_simp
                        with_reducible rfl
                       rotate_left
                       ·
                        simp only [Act.put, q_, i64_w, i32_w]
                        rfl
                       refine pure_ (i := 4) (N := some 59) (v := ?_) (a' := ?_) #[T_,T_,T_,T_,T_,F_,F_,F_,F_,F_,F_,F_,F_,F_,F_,F_,F_,F_,F_,F_,F_,F_,F_,F_,F_] rfl rfl (any_of HT_.out (by kernel_rfl)) (fun _ _ _ h => h) (Or.inl ⟨by rfl, ?_⟩) ?_ ?_
                       rotate_left
                       ·
                        intro w'
                        go_simp
                        with_reducible rfl
                       rotate_left
                       ·
                        simp only [Act.put, q_, i64_w, i32_w]
                        rfl
                       refine pure_ (i := 5) (N := some 60) (v := ?_) (a' := ?_) #[T_,T_,T_,T_,T_,T_,F_,F_,F_,F_,F_,F_,F_,F_,F_,F_,F_,F_,F_,F_,F_,F_,F_,F_,F_] rfl rfl (any_of HT_.out (by kernel_rfl)) (fun _ _ _ h => h) (Or.inl ⟨by rfl, ?_⟩) ?_ ?_
                       rotate_left
                       ·
                        intro w'
                        go_simp
                        with_reducible rfl
                       rotate_left
                       ·
                        simp only [Act.put, q_, i64_w, i32_w]
                        rfl
                       refine take_ (i := 6) (N := some 61) (v := ?_) (a' := ?_) #[T_,T_,T_,T_,T_,T_,T_,F_,F_,F_,F_,F_,F_,F_,F_,F_,F_,F_,F_,F_,F_,F_,F_,F_,F_] rfl rfl (take_ofW HT_.out HW_.out (by kernel_rfl)) (fun _ _ _ h => h) (Or.inl ⟨by rfl, ?_⟩) hHeld ?_ ?_
                       rotate_left
                       ·
                        intro w' s0
                        go_simp
                        with_reducible rfl
                       rotate_left
                       ·
                        simp only [Act.put, q_, i64_w, i32_w]
                        rfl
                       refine pure_ (i := 7) (N := some 62) (v := ?_) (a' := ?_) #[T_,T_,T_,T_,T_,T_,T_,T_,F_,F_,F_,F_,F_,F_,F_,F_,F_,F_,F_,F_,F_,F_,F_,F_,F_] rfl rfl (any_of HT_.out (by kernel_rfl)) (fun _ _ _ h => h) (Or.inl ⟨by rfl, ?_⟩) ?_ ?_
                       rotate_left
                       ·
                        intro w'
                        go_simp
                        with_reducible rfl
                       rotate_left
                       ·
                        simp only [Act.put, q_, i64_w, i32_w]
                        rfl
                       refine pure_ (i := 8) (N := some 63) (v := ?_) (a' := ?_) #[T_,T_,T_,T_,T_,T_,T_,T_,T_,F_,F_,F_,F_,F_,F_,F_,F_,F_,F_,F_,F_,F_,F_,F_,F_] rfl rfl (any_of HT_.out (by kernel_rfl)) (fun _ _ _ h => h) (Or.inl ⟨by rfl, ?_⟩) ?_ ?_
                       rotate_left
                       ·
                        intro w'
                        go_simp
                        with_reducible rfl
                       rotate_left
                       ·
                        simp only [Act.put, q_, i64_w, i32_w]
                        rfl
                       refine pure_ (i := 9) (N := some 64) (v := ?_) (a' := ?_) #[T_,T_,T_,T_,T_,T_,T_,T_,T_,T_,F_,F_,F_,F_,F_,F_,F_,F_,F_,F_,F_,F_,F_,F_,F_] rfl rfl (any_of HT_.out (by kernel_rfl)) (fun _ _ _ h => h) (Or.inl ⟨by rfl, ?_⟩) ?_ ?_
                       rotate_left
                       ·
                        intro w'
                        go_simp
                        with_reducible rfl
                       rotate_left
                       ·
                        simp only [Act.put, q_, i64_w, i32_w]
                        rfl
                       refine take_ (i := 10) (N := some 65) (v := ?_) (a' := ?_) #[T_,T_,T_,T_,T_,T_,T_,T_,T_,T_,T_,F_,F_,F_,F_,F_,F_,F_,F_,F_,F_,F_,F_,F_,F_] rfl rfl (take_ofW HT_.out HW_.out (by kernel_rfl)) (fun _ _ _ h => h) (Or.inl ⟨by rfl, ?_⟩) hHeld ?_ ?_
                       rotate_left
                       ·
                        intro w' s0
                        go_simp
                        with_reducible rfl
                       rotate_left
                       ·
                        simp only [Act.put, q_, i64_w, i32_w]
                        rfl
                       refine pure_ (i := 11) (N := some 66) (v := ?_) (a' := ?_) #[T_,T_,T_,T_,T_,T_,T_,T_,T_,T_,T_,T_,F_,F_,F_,F_,F_,F_,F_,F_,F_,F_,F_,F_,F_] rfl rfl (any_of HT_.out (by kernel_rfl)) (fun _ _ _ h => h) (Or.inl ⟨by rfl, ?_⟩) ?_ ?_
                       rotate_left
                       ·
                        intro w'
                        go_simp
                        with_reducible rfl
                       rotate_left
                       ·
                        simp only [Act.put, q_, i64_w, i32_w]
                        rfl
                       refine pure_ (i := 12) (N := some 67) (v := ?_) (a' := ?_) #[T_,T_,T_,T_,T_,T_,T_,T_,T_,T_,T_,T_,T_,F_,F_,F_,F_,F_,F_,F_,F_,F_,F_,F_,F_] rfl rfl (any_of HT_.out (by kernel_rfl)) (fun _ _ _ h => h) (Or.inl ⟨by rfl, ?_⟩) ?_ ?_
                       rotate_left
                       ·
                        intro w'
                        go_simp
                        with_reducible rfl
                       rotate_left
                       ·
                        simp only [Act.put, q_, i64_w, i32_w]
                        rfl
                       refine pure_ (i := 13) (N := some 68) (v := ?_) (a' := ?_) #[T_,T_,T_,T_,T_,T_,T_,T_,T_,T_,T_,T_,T_,T_,F_,F_,F_,F_,F_,F_,F_,F_,F_,F_,F_] rfl rfl (any_of HT_.out (by kernel_rfl)) (fun _ _ _ h => h) (Or.inl ⟨by rfl, ?_⟩) ?_ ?_
                       rotate_left
                       ·
                        intro w'
                        go_simp
                        with_reducible rfl
                       rotate_left
                       ·
                        simp only [Act.put, q_, i64_w, i32_w]
                        rfl
                       refine pure_ (i := 14) (N := some 69) (v := ?_) (a' := ?_) #[T_,T_,T_,T_,T_,T_,T_,T_,T_,T_,T_,T_,T_,T_,T_,F_,F_,F_,F_,F_,F_,F_,F_,F_,F_] rfl rfl (any_of HT_.out (by kernel_rfl)) (fun _ _ _ h => h) (Or.inl ⟨by rfl, ?_⟩) ?_ ?_
                       rotate_left
                       ·
                        intro w'
                        go_simp
                        with_reducible rfl
                       rotate_left
                       ·
                        simp only [Act.put, q_, i64_w, i32_w]
                        rfl
                       refine pure_ (i := 16) (N := some 71) (v := ?_) (a' := ?_) #[T_,T_,T_,T_,T_,T_,T_,T_,T_,T_,T_,T_,T_,T_,T_,F_,T_,F_,F_,F_,F_,F_,F_,F_,F_] rfl rfl (any_of HT_.out (by kernel_rfl)) (fun _ _ _ h => h) (Or.inl ⟨by rfl, ?_⟩) ?_ ?_
                       rotate_left
                       ·
                        intro w'
                        go_simp
                        with_reducible rfl
                       rotate_left
                       ·
                        simp only [Act.put, q_, i64_w, i32_w]
                        rfl
                       refine pure_ (i := 17) (N := some 72) (v := ?_) (a' := ?_) #[T_,T_,T_,T_,T_,T_,T_,T_,T_,T_,T_,T_,T_,T_,T_,F_,T_,T_,F_,F_,F_,F_,F_,F_,F_] rfl rfl (any_of HT_.out (by kernel_rfl)) (fun _ _ _ h => h) (Or.inl ⟨by rfl, ?_⟩) ?_ ?_
                       rotate_left
                       ·
                        intro w'
                        go_simp
                        with_reducible rfl
                       rotate_left
                       ·
                        simp only [Act.put, q_, i64_w, i32_w]
                        rfl
                       refine pure_ (i := 18) (N := some 73) (v := ?_) (a' := ?_) #[T_,T_,T_,T_,T_,T_,T_,T_,T_,T_,T_,T_,T_,T_,T_,F_,T_,T_,T_,F_,F_,F_,F_,F_,F_] rfl rfl (any_of HT_.out (by kernel_rfl)) (fun _ _ _ h => h) (Or.inl ⟨by rfl, ?_⟩) ?_ ?_
                       rotate_left
                       ·
                        intro w'
                        go_simp
                        with_reducible rfl
                       rotate_left
                       ·
                        simp only [Act.put, q_, i64_w, i32_w]
                        rfl
                       refine take_ (i := 15) (N := some 70) (v := ?_) (a' := ?_) #[T_,T_,T_,T_,T_,T_,T_,T_,T_,T_,T_,T_,T_,T_,T_,T_,T_,T_,T_,F_,F_,F_,F_,F_,F_] rfl rfl (take_ofW HT_.out HW_.out (by kernel_rfl)) (fun _ _ _ h => h) (Or.inl ⟨by rfl, ?_⟩) hHeld ?_ ?_
                       rotate_left
                       ·
                        intro w' s0
                        go_simp
                        with_reducible rfl
                       rotate_left
                       ·
                        simp only [Act.put, q_, i64_w, i32_w]
                        rfl
                       refine take_ (i := 19) (N := some 74) (v := ?_) (a' := ?_) #[T_,T_,T_,T_,T_,T_,T_,T_,T_,T_,T_,T_,T_,T_,T_,T_,T_,T_,T_,T_,F_,F_,F_,F_,F_] rfl rfl (take_ofW HT_.out HW_.out (by kernel_rfl)) (fun _ _ _ h => h) (Or.inl ⟨by rfl, ?_⟩) hHeld ?_ ?_
                       rotate_left
                       ·
                        intro w' s0
                        go_simp
                        with_reducible rfl
                       rotate_left
                       ·
                        simp only [Act.put, q_, i64_w, i32_w]
                        rfl
                       refine pure_ (i := 20) (N := some 75) (v := ?_) (a' := ?_) #[T_,T_,T_,T_,T_,T_,T_,T_,T_,T_,T_,T_,T_,T_,T_,T_,T_,T_,T_,T_,T_,F_,F_,F_,F_] rfl rfl (any_of HT_.out (by kernel_rfl)) (fun _ _ _ h => h) (Or.inl ⟨by rfl, ?_⟩) ?_ ?_
                       rotate_left
                       ·
                        intro w'
                        go_simp
                        with_reducible rfl
                       rotate_left
                       ·
                        simp only [Act.put, q_, i64_w, i32_w]
                        rfl
                       refine pure_ (i := 21) (N := some 76) (v := ?_) (a' := ?_) #[T_,T_,T_,T_,T_,T_,T_,T_,T_,T_,T_,T_,T_,T_,T_,T_,T_,T_,T_,T_,T_,T_,F_,F_,F_] rfl rfl (any_of HT_.out (by kernel_rfl)) (fun _ _ _ h => h) (Or.inl ⟨by rfl, ?_⟩) ?_ ?_
                       rotate_left
                       ·
                        intro w'
                        go_simp
                        with_reducible rfl
                       rotate_left
                       ·
                        simp only [Act.put, q_, i64_w, i32_w]
                        rfl
                       refine pure_ (i := 22) (N := some 77) (v := ?_) (a' := ?_) #[T_,T_,T_,T_,T_,T_,T_,T_,T_,T_,T_,T_,T_,T_,T_,T_,T_,T_,T_,T_,T_,T_,T_,F_,F_] rfl rfl (any_of HT_.out (by kernel_rfl)) (fun _ _ _ h => h) (Or.inl ⟨by rfl, ?_⟩) ?_ ?_
                       rotate_left
                       ·
                        intro w'
                        go_simp
                        with_reducible rfl
                       rotate_left
                       ·
                        simp only [Act.put, q_, i64_w, i32_w]
                        rfl
                       refine pure_ (i := 23) (N := some 78) (v := ?_) (a' := ?_) #[T_,T_,T_,T_,T_,T_,T_,T_,T_,T_,T_,T_,T_,T_,T_,T_,T_,T_,T_,T_,T_,T_,T_,T_,F_] rfl rfl (any_of HT_.out (by kernel_rfl)) (fun _ _ _ h => h) (Or.inl ⟨by rfl, ?_⟩) ?_ ?_
                       rotate_left
                       ·
                        intro w'
                        go_simp
                        with_reducible rfl
                       rotate_left
                       ·
                        simp only [Act.put, q_, i64_w, i32_w]
                        rfl
                       refine last_ (i := 24) (N := none) #[T_,T_,T_,T_,T_,T_,T_,T_,T_,T_,T_,T_,T_,T_,T_,T_,T_,T_,T_,T_,T_,T_,T_,T_,T_] rfl rfl (one_of HT_.out (by kernel_rfl)) (by decide) (fun K hK => ?_)
                       refine skip_ (w1 := ?_) (by rfl) rfl ?_ ?_
                       rotate_left
                       ·
                        go_simp
                        rfl
                       refine hK.out _ _ ?_
                       clear hK K
                       refine done_ (done_of HT_.out (by kernel_rfl)) ?_
                       try go_wp2
                       go_roundg k2
                       case measure => have := HK1.out; have := HK2.out; omega
                       case rel => exact ⟨(y116), (wrap64 (x8_2 + 1)), (by first | rfl | (simp; done) | (simp [*]; done)), H', ⟨by have := HK1.out; have := HK2.out; omega⟩, ⟨by (with_reducible repeat (first | apply Kd.R_alloc | apply Kd.R_drewN | apply Kd.R_drew)); exact Kd.R_mono (Kd.R_far (p := ⟨go66, (x8_2 : Int).toNat, none⟩) (Kd.R_mono HO_5.out (fun k_ hk => (⟨hk, fun e_ => hk (by rw [e_]; rfl)⟩ : _ ∧ k_ ≠ go66))) (fun _ hk => hk.2) (.bool ((bt a0 x6_1) == (bt a1 (ji48))))) (fun _ hk => hk.1)⟩, ⟨by (with_reducible repeat (first | apply Kd.R_alloc | apply Kd.R_drewN | apply Kd.R_drew)); exact HQ69.out⟩, ⟨by repeat (first | (with_reducible first | exact HB.out | apply below_alloc | apply pw_below_drewN | apply below_drew1 | refine below_set ?_ GB66.out) | exact HB.out)⟩⟩
                      ·
                       rw [if_neg c65] at H
                       exact absurd H (by simp)
                     ·
                      rw [if_neg c64] at H
                      exact absurd H (by simp)
                    ·
                     rw [if_neg c62] at H
                     exact absurd H (by simp)
                  ·
                   replace c52 := Bool.eq_false_iff.mpr c52; subst c52
                   have H1 : (if 0 ≤ x8_2 then (if x8_2 < (x7_2.length : Int) then (oculusref17_Like.l1 k2 a0 a1 x5_1 x6_1 (x7_2.set (x8_2 : Int).toNat false) (wrap64 (x8_2 + 1))) else (none)) else (none)) = some r := by rw [if_neg (show ¬ (false = true) by decide)] at H; exact H
                   clear H; have H := H1; clear H1
                   by_cases c70 : 0 ≤ x8_2
                   ·
                    rw [if_pos c70] at H; have c70b0 : decide (0 ≤ x8_2) = true := decide_eq_true c70; clear c70
                    by_cases c71 : x8_2 < (x7_2.length : Int)
                    ·
                     rw [if_pos c71] at H; have c71b0 : decide (x8_2 < (x7_2.length : Int)) = true := decide_eq_true c71; clear c71; obtain ⟨y117, hy117⟩ : ∃ y_ : List Bool, y_ = (x7_2.set (x8_2 : Int).toNat false) := ⟨_, rfl⟩
                     replace H : (oculusref17_Like.l1 k2 a0 a1 x5_1 x6_1 y117 (wrap64 (x8_2 + 1))) = some r := by first | (rw [hy117]; with_reducible exact H) | (have H2_ := (Option.bind_some _ _).symm.trans H; rw [hy117]; with_reducible exact H2_) | (have H2_ := (Option.bind_some _ _).symm.trans H; with_reducible exact H2_) | with_reducible exact H | (rw [hy117]; exact H) | exact H
                     have Ny117 := Aside0.mk hy117; clear hy117
                     have H' := Aside0.mk H
                     clear H
                     have p21 : 0 ≤ (x6_1 : Int) := of_decide_eq_true (by first | (with_reducible assumption) | assumption)
                     have q21 : x6_1 < (a0.size : Int) := of_decide_eq_true (by first | (with_reducible assumption) | assumption)
                     have hx21 := bt_at a0 x6_1; replace p21 := eq_true p21; replace q21 := eq_true q21
                     try go_wp2
                     (try (rw [drewN_self wr]; generalize hq_ : World.drewN wr _ = wr; have n0_ : Aside0 (Kd.R Kd.bool 4 wr w.heap.size (fun k_ => some k_ ≠ (v107 : Value).ownBlock) u5 x5_1) := ⟨by rw [← hq_]; exact (by (with_reducible repeat (first | apply Kd.R_alloc | apply Kd.R_drewN | apply Kd.R_drew)); exact HO_5.out)⟩; have n1_ : Aside0 (Kd.R Kd.bool 4 wr w.heap.size (fun k_ => some k_ ≠ (u5 : Value).ownBlock) v107 x7_2) := ⟨by rw [← hq_]; exact (by (with_reducible repeat (first | apply Kd.R_alloc | apply Kd.R_drewN | apply Kd.R_drew)); exact HO_7.out)⟩; have n2_ : Aside0 (Below w.heap.size w wr) := ⟨by rw [← hq_]; exact (pbx HB)⟩; clear HO_5 HO_7 HB hq_; have HO_5 := n0_; have HO_7 := n1_; have HB := n2_; clear n0_ n1_ n2_))
                     have n0_ := Aside0.mk (Kd.R_drew HO_5.out); have n1_ := Aside0.mk (Kd.R_drew HO_7.out); have n2_ := Aside0.mk (below_drew1 HB.out); clear HO_5; clear HO_7; clear HB; have HO_5 := n0_; have HO_7 := n1_; have HB := n2_; clear n0_ n1_ n2_; obtain ⟨Ao74, co74, eo74⟩ := Kd.R_slice HO_5.out
                     (first | subst eo74 | (injection eo74 with f1_ f2_ f3_; have f4_ := f1_.symm; have f5_ := f3_.symm; clear f1_ f2_ f3_; subst f4_; subst f5_))
                     have p114 : 0 ≤ ((ji48) : Int) := of_decide_eq_true (by first | (with_reducible assumption) | assumption)
                     have q114 : (ji48) < (x5_1.length : Int) := of_decide_eq_true (by first | (with_reducible assumption) | assumption)
                     obtain ⟨ad114, e114, hx114_0⟩ := Kd.at_bool (Kd.R_reads' HO_5.out).2.2 (ji48) p114 q114
                     (try rw [← Nbq51.out] at hx114_0)
                     cases e114
                     replace p114 := eq_true p114; replace q114 := eq_true q114
                     have p72 : 0 ≤ (x8_2 : Int) := of_decide_eq_true (by first | (with_reducible assumption) | assumption)
                     have q72 : (x8_2 : Int) < ((x7_2.length : Int) : Int) := of_decide_eq_true (by first | (with_reducible assumption) | assumption)
                     obtain ⟨go72, co72, eo72, gb72, gl72, cl72, HG72⟩ := Kd.R_form HO_7.out (by omega)
                     (first | cases eo72 | (injection eo72 with ea_ en_ ec_; (first | subst ea_ | (injection ea_ with ea_; subst ea_)); subst ec_; clear en_))
                     have GB72 := Aside0.mk gb72; have GG72 := Aside0.mk HG72; clear gb72 gl72 HG72; obtain ⟨hx72_0, hf72_0⟩ := Kd.R_celln false HO_7.out (x8_2 : Int) p72 q72; replace p72 := eq_true p72; replace q72 := eq_true q72; have HP75 := Kd.R_putn HO_7.out (x8_2 : Int) false; rw [← Ny117.out] at HP75; have HQ75 := Aside0.mk HP75; clear HP75
                     refine start_ (n := 25) (S := fun w' => w'.cell? (ad114.add ((ji48)).toNat) = some (.bool false)) (ds := [24]) #[F_,F_,F_,F_,F_,F_,F_,F_,F_,F_,F_,F_,F_,F_,F_,F_,F_,F_,F_,F_,F_,F_,F_,F_,F_] (by kernel_rfl) rfl rfl (hx114_0) (fun hHeld => ?_); refine with_tabW oculusref17_Like.tab13 oculusref17_Like.bits13 (fun HT_ HW_ => ?_)
                     generalize wr.drew = w73 at HO_5 HO_7 HB GG72 HQ75 hf72_0 hx114_0 hx72_0 hHeld ⊢
                     refine pure_ (i := 0) (N := some 55) (v := ?_) (a' := ?_) #[T_,F_,F_,F_,F_,F_,F_,F_,F_,F_,F_,F_,F_,F_,F_,F_,F_,F_,F_,F_,F_,F_,F_,F_,F_] rfl rfl (any_of HT_.out (by kernel_rfl)) (fun _ _ _ h => h) (Or.inl ⟨by rfl, ?_⟩) ?_ ?_
                     rotate_left
                     ·
                      intro w'
                      go_simp
                      with_reducible rfl
                     rotate_left
                     ·
                      simp only [Act.put, q_, i64_w, i32_w]
                      rfl
                     refine pure_ (i := 1) (N := some 56) (v := ?_) (a' := ?_) #[T_,T_,F_,F_,F_,F_,F_,F_,F_,F_,F_,F_,F_,F_,F_,F_,F_,F_,F_,F_,F_,F_,F_,F_,F_] rfl rfl (any_of HT_.out (by kernel_rfl)) (fun _ _ _ h => h) (Or.inl ⟨by rfl, ?_⟩) ?_ ?_
                     rotate_left
                     ·
                      intro w'
                      go_simp
                      with_reducible rfl
                     rotate_left
                     ·
                      simp only [Act.put, q_, i64_w, i32_w]
                      rfl
                     refine pure_ (i := 2) (N := some 57) (v := ?_) (a' := ?_) #[T_,T_,T_,F_,F_,F_,F_,F_,F_,F_,F_,F_,F_,F_,F_,F_,F_,F_,F_,F_,F_,F_,F_,F_,F_] rfl rfl (any_of HT_.out (by kernel_rfl)) (fun _ _ _ h => h) (Or.inl ⟨by rfl, ?_⟩) ?_ ?_
                     rotate_left
                     ·
                      intro w'
                      go_simp
                      with_reducible rfl
                     rotate_left
                     ·
                      simp only [Act.put, q_, i64_w, i32_w]
                      rfl
                     refine pure_ (i := 3) (N := some 58) (v := ?_) (a' := ?_) #[T_,T_,T_,T_,F_,F_,F_,F_,F_,F_,F_,F_,F_,F_,F_,F_,F_,F_,F_,F_,F_,F_,F_,F_,F_] rfl rfl (any_of HT_.out (by kernel_rfl)) (fun _ _ _ h => h) (Or.inl ⟨by rfl, ?_⟩) ?_ ?_
                     rotate_left
                     ·
                      intro w'
                      go_simp
                      with_reducible rfl
                     rotate_left
                     ·
                      simp only [Act.put, q_, i64_w, i32_w]
                      rfl
                     refine pure_ (i := 4) (N := some 59) (v := ?_) (a' := ?_) #[T_,T_,T_,T_,T_,F_,F_,F_,F_,F_,F_,F_,F_,F_,F_,F_,F_,F_,F_,F_,F_,F_,F_,F_,F_] rfl rfl (any_of HT_.out (by kernel_rfl)) (fun _ _ _ h => h) (Or.inl ⟨by rfl, ?_⟩) ?_ ?_
                     rotate_left
                     ·
                      intro w'
                      go_simp
                      with_reducible rfl
                     rotate_left
                     ·
                      simp only [Act.put, q_, i64_w, i32_w]
                      rfl
                     refine pure_ (i := 5) (N := some 60) (v := ?_) (a' := ?_) #[T_,T_,T_,T_,T_,T_,F_,F_,F_,F_,F_,F_,F_,F_,F_,F_,F_,F_,F_,F_,F_,F_,F_,F_,F_] rfl rfl (any_of HT_.out (by kernel_rfl)) (fun _ _ _ h => h) (Or.inl ⟨by rfl, ?_⟩) ?_ ?_
                     rotate_left
                     ·
                      intro w'
                      go_simp
                      with_reducible rfl
                     rotate_left
                     ·
                      simp only [Act.put, q_, i64_w, i32_w]
                      rfl
                     refine take_ (i := 6) (N := some 61) (v := ?_) (a' := ?_) #[T_,T_,T_,T_,T_,T_,T_,F_,F_,F_,F_,F_,F_,F_,F_,F_,F_,F_,F_,F_,F_,F_,F_,F_,F_] rfl rfl (take_ofW HT_.out HW_.out (by kernel_rfl)) (fun _ _ _ h => h) (Or.inl ⟨by rfl, ?_⟩) hHeld ?_ ?_
                     rotate_left
                     ·
                      intro w' s0
                      go_simp
                      with_reducible rfl
                     rotate_left
                     ·
                      simp only [Act.put, q_, i64_w, i32_w]
                      rfl
                     refine pure_ (i := 7) (N := some 62) (v := ?_) (a' := ?_) #[T_,T_,T_,T_,T_,T_,T_,T_,F_,F_,F_,F_,F_,F_,F_,F_,F_,F_,F_,F_,F_,F_,F_,F_,F_] rfl rfl (any_of HT_.out (by kernel_rfl)) (fun _ _ _ h => h) (Or.inl ⟨by rfl, ?_⟩) ?_ ?_
                     rotate_left
                     ·
                      intro w'
                      go_simp
                      with_reducible rfl
                     rotate_left
                     ·
                      simp only [Act.put, q_, i64_w, i32_w]
                      rfl
                     refine pure_ (i := 8) (N := some 63) (v := undef) (a' := ?_) #[T_,T_,T_,T_,T_,T_,T_,T_,T_,F_,F_,F_,F_,F_,F_,F_,F_,F_,F_,F_,F_,F_,F_,F_,F_] rfl rfl (any_of HT_.out (by kernel_rfl)) (fun _ _ _ h => h) (Or.inr ⟨by rfl, rfl⟩) ?_ ?_
                     rotate_left
                     ·
                      simp only [Act.put, q_, i64_w, i32_w]
                      rfl
                     refine pure_ (i := 9) (N := some 64) (v := undef) (a' := ?_) #[T_,T_,T_,T_,T_,T_,T_,T_,T_,T_,F_,F_,F_,F_,F_,F_,F_,F_,F_,F_,F_,F_,F_,F_,F_] rfl rfl (any_of HT_.out (by kernel_rfl)) (fun _ _ _ h => h) (Or.inr ⟨by rfl, rfl⟩) ?_ ?_
                     rotate_left
                     ·
                      simp only [Act.put, q_, i64_w, i32_w]
                      rfl
                     refine pure_ (i := 10) (N := some 65) (v := undef) (a' := ?_) #[T_,T_,T_,T_,T_,T_,T_,T_,T_,T_,T_,F_,F_,F_,F_,F_,F_,F_,F_,F_,F_,F_,F_,F_,F_] rfl rfl (any_of HT_.out (by kernel_rfl)) (fun _ _ _ h => h) (Or.inr ⟨by rfl, rfl⟩) ?_ ?_
                     rotate_left
                     ·
                      simp only [Act.put, q_, i64_w, i32_w]
                      rfl
                     refine pure_ (i := 11) (N := some 66) (v := undef) (a' := ?_) #[T_,T_,T_,T_,T_,T_,T_,T_,T_,T_,T_,T_,F_,F_,F_,F_,F_,F_,F_,F_,F_,F_,F_,F_,F_] rfl rfl (any_of HT_.out (by kernel_rfl)) (fun _ _ _ h => h) (Or.inr ⟨by rfl, rfl⟩) ?_ ?_
                     rotate_left
                     ·
                      simp only [Act.put, q_, i64_w, i32_w]
                      rfl
                     refine pure_ (i := 12) (N := some 67) (v := undef) (a' := ?_) #[T_,T_,T_,T_,T_,T_,T_,T_,T_,T_,T_,T_,T_,F_,F_,F_,F_,F_,F_,F_,F_,F_,F_,F_,F_] rfl rfl (any_of HT_.out (by kernel_rfl)) (fun _ _ _ h => h) (Or.inr ⟨by rfl, rfl⟩) ?_ ?_
                     rotate_left
                     ·
                      simp only [Act.put, q_, i64_w, i32_w]
                      rfl
                     refine pure_ (i := 13) (N := some 68) (v := undef) (a' := ?_) #[T_,T_,T_,T_,T_,T_,T_,T_,T_,T_,T_,T_,T_,T_,F_,F_,F_,F_,F_,F_,F_,F_,F_,F_,F_] rfl rfl (any_of HT_.out (by kernel_rfl)) (fun _ _ _ h => h) (Or.inr ⟨by rfl, rfl⟩) ?_ ?_
                     rotate_left
                     ·
                      simp only [Act.put, q_, i64_w, i32_w]
                      rfl
                     refine pure_ (i := 14) (N := some 69) (v := undef) (a' := ?_) #[T_,T_,T_,T_,T_,T_,T_,T_,T_,T_,T_,T_,T_,T_,T_,F_,F_,F_,F_,F_,F_,F_,F_,F_,F_] rfl rfl (any_of HT_.out (by kernel_rfl)) (fun _ _ _ h => h) (Or.inr ⟨by rfl, rfl⟩) ?_ ?_
                     rotate_left
                     ·
                      simp only [Act.put, q_, i64_w, i32_w]
                      rfl
                     refine pure_ (i := 15) (N := some 70) (v := undef) (a' := ?_) #[T_,T_,T_,T_,T_,T_,T_,T_,T_,T_,T_,T_,T_,T_,T_,T_,F_,F_,F_,F_,F_,F_,F_,F_,F_] rfl rfl (any_of HT_.out (by kernel_rfl)) (fun _ _ _ h => h) (Or.inr ⟨by rfl, rfl⟩) ?_ ?_
                     rotate_left
                     ·
                      simp only [Act.put, q_, i64_w, i32_w]
                      rfl
                     refine pure_ (i := 16) (N := some 71) (v := undef) (a' := ?_) #[T_,T_,T_,T_,T_,T_,T_,T_,T_,T_,T_,T_,T_,T_,T_,T_,T_,F_,F_,F_,F_,F_,F_,F_,F_] rfl rfl (any_of HT_.out (by kernel_rfl)) (fun _ _ _ h => h) (Or.inr ⟨by rfl, rfl⟩) ?_ ?_
                     rotate_left
                     ·
                      simp only [Act.put, q_, i64_w, i32_w]
                      rfl
                     refine pure_ (i := 17) (N := some 72) (v := undef) (a' := ?_) #[T_,T_,T_,T_,T_,T_,T_,T_,T_,T_,T_,T_,T_,T_,T_,T_,T_,T_,F_,F_,F_,F_,F_,F_,F_] rfl rfl (any_of HT_.out (by kernel_rfl)) (fun _ _ _ h => h) (Or.inr ⟨by rfl, rfl⟩) ?_ ?_
                     rotate_left
                     ·
                      simp only [Act.put, q_, i64_w, i32_w]
                      rfl
                     refine pure_ (i := 18) (N := some 73) (v := undef) (a' := ?_) #[T_,T_,T_,T_,T_,T_,T_,T_,T_,T_,T_,T_,T_,T_,T_,T_,T_,T_,T_,F_,F_,F_,F_,F_,F_] rfl rfl (any_of HT_.out (by kernel_rfl)) (fun _ _ _ h => h) (Or.inr ⟨by rfl, rfl⟩) ?_ ?_
                     rotate_left
                     ·
                      simp only [Act.put, q_, i64_w, i32_w]
                      rfl
                     refine pure_ (i := 19) (N := some 74) (v := undef) (a' := ?_) #[T_,T_,T_,T_,T_,T_,T_,T_,T_,T_,T_,T_,T_,T_,T_,T_,T_,T_,T_,T_,F_,F_,F_,F_,F_] rfl rfl (any_of HT_.out (by kernel_rfl)) (fun _ _ _ h => h) (Or.inr ⟨by rfl, rfl⟩) ?_ ?_
                     rotate_left
                     ·
                      simp only [Act.put, q_, i64_w, i32_w]
                      rfl
                     refine pure_ (i := 20) (N := some 75) (v := undef) (a' := ?_) #[T_,T_,T_,T_,T_,T_,T_,T_,T_,T_,T_,T_,T_,T_,T_,T_,T_,T_,T_,T_,T_,F_,F_,F_,F_] rfl rfl (any_of HT_.out (by kernel_rfl)) (fun _ _ _ h => h) (Or.inr ⟨by rfl, rfl⟩) ?_ ?_
                     rotate_left
                     ·
                      simp only [Act.put, q_, i64_w, i32_w]
                      rfl
                     refine pure_ (i := 21) (N := some 76) (v := undef) (a' := ?_) #[T_,T_,T_,T_,T_,T_,T_,T_,T_,T_,T_,T_,T_,T_,T_,T_,T_,T_,T_,T_,T_,T_,F_,F_,F_] rfl rfl (any_of HT_.out (by kernel_rfl)) (fun _ _ _ h => h) (Or.inr ⟨by rfl, rfl⟩) ?_ ?_
                     rotate_left
                     ·
                      simp only [Act.put, q_, i64_w, i32_w]
                      rfl
                     refine pure_ (i := 22) (N := some 77) (v := ?_) (a' := ?_) #[T_,T_,T_,T_,T_,T_,T_,T_,T_,T_,T_,T_,T_,T_,T_,T_,T_,T_,T_,T_,T_,T_,T_,F_,F_] rfl rfl (any_of HT_.out (by kernel_rfl)) (fun _ _ _ h => h) (Or.inl ⟨by rfl, ?_⟩) ?_ ?_
                     rotate_left
                     ·
                      intro w'
                      go_simp
                      with_reducible rfl
                     rotate_left
                     ·
                      simp only [Act.put, q_, i64_w, i32_w]
                      rfl
                     refine pure_ (i := 23) (N := some 78) (v := ?_) (a' := ?_) #[T_,T_,T_,T_,T_,T_,T_,T_,T_,T_,T_,T_,T_,T_,T_,T_,T_,T_,T_,T_,T_,T_,T_,T_,F_] rfl rfl (any_of HT_.out (by kernel_rfl)) (fun _ _ _ h => h) (Or.inl ⟨by rfl, ?_⟩) ?_ ?_
                     rotate_left
                     ·
                      intro w'
                      go_simp
                      with_reducible rfl
                     rotate_left
                     ·
                      simp only [Act.put, q_, i64_w, i32_w]
                      rfl
                     refine last_ (i := 24) (N := none) #[T_,T_,T_,T_,T_,T_,T_,T_,T_,T_,T_,T_,T_,T_,T_,T_,T_,T_,T_,T_,T_,T_,T_,T_,T_] rfl rfl (one_of HT_.out (by kernel_rfl)) (by decide) (fun K hK => ?_)
                     refine skip_ (w1 := ?_) (by rfl) rfl ?_ ?_
                     rotate_left
                     ·
                      go_simp
                      rfl
                     refine hK.out _ _ ?_
                     clear hK K
                     refine done_ (done_of HT_.out (by kernel_rfl)) ?_
                     try go_wp2
                     go_roundg k2
                     case measure => have := HK1.out; have := HK2.out; omega
                     case rel => exact ⟨(y117), (wrap64 (x8_2 + 1)), (by first | rfl | (simp; done) | (simp [*]; done)), H', ⟨by have := HK1.out; have := HK2.out; omega⟩, ⟨by (with_reducible repeat (first | apply Kd.R_alloc | apply Kd.R_drewN | apply Kd.R_drew)); exact Kd.R_mono (Kd.R_far (p := ⟨go72, (x8_2 : Int).toNat, none⟩) (Kd.R_mono HO_5.out (fun k_ hk => (⟨hk, fun e_ => hk (by rw [e_]; rfl)⟩ : _ ∧ k_ ≠ go72))) (fun _ hk => hk.2) (.bool false)) (fun _ hk => hk.1)⟩, ⟨by (with_reducible repeat (first | apply Kd.R_alloc | apply Kd.R_drewN | apply Kd.R_drew)); exact HQ75.out⟩, ⟨by repeat (first | (with_reducible first | exact HB.out | apply below_alloc | apply pw_below_drewN | apply below_drew1 | refine below_set ?_ GB72.out) | exact HB.out)⟩⟩
                    ·
                     rw [if_neg c71] at H
                     exact absurd H (by simp)
                   ·
                    rw [if_neg c70] at H
                    exact absurd H (by simp)
                 ·
                  rw [if_neg c50] at H
                  exact absurd H (by simp)
                ·
                 rw [if_neg c49] at H
                 exact absurd H (by simp)
               ·
                rw [if_neg c47] at H; have c47b0 : decide (0 < x8_2) = false := decide_eq_false c47; clear c47
                have H' := Aside0.mk H
                clear H
                have p21 : 0 ≤ (x6_1 : Int) := of_decide_eq_true (by first | (with_reducible assumption) | assumption)
                have q21 : x6_1 < (a0.size : Int) := of_decide_eq_true (by first | (with_reducible assumption) | assumption)
                have hx21 := bt_at a0 x6_1; replace p21 := eq_true p21; replace q21 := eq_true q21
                go_wp2
                go_roundg k2
                case measure => have := HK1.out; have := HK2.out; omega
                case rel => exact ⟨(x7_2), (wrap64 (x8_2 + 1)), (by first | rfl | (simp; done) | (simp [*]; done)), H', ⟨by have := HK1.out; have := HK2.out; omega⟩, ⟨by (with_reducible repeat (first | apply Kd.R_alloc | apply Kd.R_drewN | apply Kd.R_drew)); exact HO_5.out⟩, ⟨by (with_reducible repeat (first | apply Kd.R_alloc | apply Kd.R_drewN | apply Kd.R_drew)); exact HO_7.out⟩, ⟨pbx HB⟩⟩
             ·
              rw [if_neg c20] at H
              exact absurd H (by simp)
            ·
             rw [if_neg c19] at H
             exact absurd H (by simp)
           ·
            rw [if_neg c18] at H; have c18b0 : decide (x8_2 ≤ (a1.size : Int)) = false := decide_eq_false c18; clear c18
            have H' := Aside0.mk H
            clear H
            go_wp2
            go_roundg k2
            case measure => have := HK1.out; have := HK2.out; omega
            case rel => exact ⟨(x7_2), (wrap64 (x6_1 + 1)), (by first | rfl | (simp; done) | (simp [*]; done)), H', ⟨by have := HK1.out; have := HK2.out; omega⟩, ⟨by (with_reducible repeat (first | apply Kd.R_alloc | apply Kd.R_drewN | apply Kd.R_drew)); exact Kd.R_mono HO_7.out (fun _ hk => trivial)⟩, ⟨pbx HB⟩⟩
        ·
         rw [if_neg c15] at H
         exact absurd H (by simp)
       ·
        rw [if_neg c14] at H
        exact absurd H (by simp)
      ·
       rw [if_neg c12] at H; have c12b0 : decide (x6_1 < (a0.size : Int)) = false := decide_eq_false c12; clear c12
       by_cases c76 : 0 ≤ (a1.size : Int)
       ·
        rw [if_pos c76] at H; have c76b0 : decide (0 ≤ (a1.size : Int)) = true := decide_eq_true c76; have c76b1 : decide (0 ≤ a1.size) = true := decide_eq_true (by omega); clear c76
        by_cases c77 : (a1.size : Int) < (x5_1.length : Int)
        ·
         rw [if_pos c77] at H; have c77b0 : decide ((a1.size : Int) < (x5_1.length : Int)) = true := decide_eq_true c77; have c77b1 : decide (a1.size < x5_1.length) = true := decide_eq_true (Int.ofNat_lt.mp c77); clear c77; obtain rfl := Option.some.inj H; obtain ⟨Ao78, co78, eo78⟩ := Kd.R_slice HO_5.out; subst eo78
         have p105 : 0 ≤ ((a1.size : Int) : Int) := of_decide_eq_true (by first | (with_reducible assumption) | assumption)
         have q105 : (a1.size : Int) < (x5_1.length : Int) := of_decide_eq_true (by first | (with_reducible assumption) | assumption)
         obtain ⟨ad105, e105, hx105_0⟩ := Kd.at_bool (Kd.R_reads' HO_5.out).2.2 (a1.size : Int) p105 q105
         cases e105
         replace p105 := eq_true p105; replace q105 := eq_true q105; have q105z : (a1.size < x5_1.length) = True := eq_true (by have := of_eq_true q105; omega); have hx105z := hx105_0; rw [Int.toNat_natCast] at hx105z
         go_wp2
         go_ret
         exact ⟨by first | rfl | (simp [errW_none, errW_some] <;> rfl) | (simp only [← hji3]; first | rfl | (simp [errW_none, errW_some] <;> rfl)) | (simp [*, errW_none, errW_some] <;> rfl), pbx HB⟩
        ·
         rw [if_neg c77] at H
         exact absurd H (by simp)
       ·
        rw [if_neg c76] at H
        exact absurd H (by simp)
   ·
    rw [if_neg c6] at H
    exact absurd H (by simp)
  ·
   rw [if_neg c5] at H
   exact absurd H (by simp)
 ·
  rw [if_neg c4] at H
  exact absurd H (by simp)

end Go.Proofs.Ytfcpkehldmehjaa.X
namespace Go.Proofs.Ytfcpkehldmehjaa.X
open Go.RowKit Go.Proofs.YtfcpkehldmehjaaW.PrintWords Go.Proofs.YtfcpkehldmehjaaW.PrintLast Go.Proofs.YtfcpkehldmehjaaW.PrintMore
attribute [local go_sem] max2_int min2_int max_two min_two max_three min_three max_four min_four   -- for this text's walks alone
set_option linter.unusedVariables false
set_option linter.unusedSimpArgs false

/-! ### oculuslaw17_CritLike: function 4 -/
mutual
def oculuslaw17_CritLike.j0 : Nat → ByteArray → ByteArray → ByteArray → Bool → Option (Bool)
 | 0, _, _, _, _ => none
 | k + 1, x0, x1, x2, x22 => if x22 = true then ((oculuslaw17_alive.f k).bind fun t101 => (some t101)) else ((crit_Like.f k x0 x1).bind fun t102 => ((oculusref17_Like.f k x0 x1).bind fun t103 => (if (t102 != t103) = true then (oculuslaw17_CritLike.j1 k x0 x1 t102 true) else (if t102 = true then (if x0.size + 1 ≤ 9223372036854775807 then (if x1.size + x2.size ≤ 9223372036854775807 then ((crit_Like.f k (x0 ++ (⟨#[42]⟩ : ByteArray)) (x1 ++ x2)).bind fun t104 => (if t104 = true then (if 1 + x0.size ≤ 9223372036854775807 then (if x2.size + x1.size ≤ 9223372036854775807 then ((crit_Like.f k ((⟨#[42]⟩ : ByteArray) ++ x0) (x2 ++ x1)).bind fun t105 => (oculuslaw17_CritLike.j1 k x0 x1 t102 (!t105))) else (none)) else (none)) else (oculuslaw17_CritLike.j1 k x0 x1 t102 true))) else (none)) else (none)) else (oculuslaw17_CritLike.j1 k x0 x1 t102 false)))))
def oculuslaw17_CritLike.j1 : Nat → ByteArray → ByteArray → Bool → Bool → Option (Bool)
 | 0, _, _, _, _ => none
 | k + 1, x0, x1, x7, x52 => if x52 = true then (none) else (oculuslaw17_CritLike.l0 k x0 x1 x7 true (x0.size : Int) 0)
def oculuslaw17_CritLike.l0 : Nat → ByteArray → ByteArray → Bool → Bool → Int → Int → Option (Bool)
 | 0, _, _, _, _, _, _ => none
 | k + 1, x0, x1, x7, x8, x54, x55 => if x55 < x54 then (if x8 = true then (if 0 ≤ x55 then (if x55 < (x0.size : Int) then (if (bt x0 x55) = 42 then (oculuslaw17_CritLike.l0 k x0 x1 x7 false x54 (wrap64 (x55 + 1))) else (oculuslaw17_CritLike.l0 k x0 x1 x7 ((bt x0 x55) != 63) x54 (wrap64 (x55 + 1)))) else (none)) else (none)) else (oculuslaw17_CritLike.l0 k x0 x1 x7 false x54 (wrap64 (x55 + 1)))) else (if x8 = true then (if (x7 == (x0.toList == x1.toList)) = true then ((oculuslaw17_alive.f k).bind fun t106 => (some t106)) else (none)) else ((oculuslaw17_alive.f k).bind fun t107 => (some t107)))
end
def oculuslaw17_CritLike.f (k : Nat) (a0 : ByteArray) (a1 : ByteArray) (a2 : ByteArray) : Option (Bool) := if (a0.size : Int) > 60 then (oculuslaw17_CritLike.j0 k a0 a1 a2 true) else (if (a1.size : Int) > 60 then (oculuslaw17_CritLike.j0 k a0 a1 a2 true) else (oculuslaw17_CritLike.j0 k a0 a1 a2 (decide ((a2.size : Int) > 60))))
set_option maxHeartbeats 8000000 in
set_option maxRecDepth 100000 in
theorem oculuslaw17_CritLike.calls (k : Nat) (a0 : ByteArray) (a1 : ByteArray) (a2 : ByteArray) (r : Bool) (w : World) (h : oculuslaw17_CritLike.f k a0 a1 a2 = some r) :
  Calls Try.prog 4 #[.string a0, .string a1, .string a2] w fun e w' => e = .returned (.bool r) ∧ Below w.heap.size w w' := by
 have HB := Aside0.mk (Below.refl w.heap.size w)
 have H : (if (a0.size : Int) > 60 then (oculuslaw17_CritLike.j0 k a0 a1 a2 true) else (if (a1.size : Int) > 60 then (oculuslaw17_CritLike.j0 k a0 a1 a2 true) else (oculuslaw17_CritLike.j0 k a0 a1 a2 (decide ((a2.size : Int) > 60))))) = some r := h
 clear h; have HC4 := Aside0.mk H; clear H
 go_enter Try.func4, Try.ntmps4
 go_upto_region 1 with (fail)
 go_cut [22] (fun v22 wc => ∃ (kq : Nat) (x22_3 : Bool), v22 = .bool x22_3 ∧ Aside0 (oculuslaw17_CritLike.j0 kq a0 a1 a2 x22_3 = some r) ∧ Aside0 (kq ≤ k) ∧ Aside0 (Below w.heap.size w wc))
 case first =>
  have H := HC4.out; clear HC4
  by_cases c5 : (a0.size : Int) > 60
  ·
   rw [if_pos c5] at H; have c5b0 : decide (60 < (a0.size : Int)) = true := decide_eq_true c5; have c5b1 : decide (60 < a0.size) = true := decide_eq_true (by omega); clear c5
   (first | rw [c5b0] | (simp only [i64_w, i32_w]; rw [c5b0]) | skip)
   have H' := Aside0.mk H
   clear H
   go_wp2
   go_meet
   case rel => exact ⟨_, (true), (by first | rfl | (simp; done) | (simp [*]; done)), H', ⟨by first | omega | exact Nat.le_refl _⟩, ⟨pbx HB⟩⟩
  ·
   rw [if_neg c5] at H; have c5b0 : decide (60 < (a0.size : Int)) = false := decide_eq_false c5; have c5b1 : decide (60 < a0.size) = false := decide_eq_false (by omega); clear c5
   (first | rw [c5b0] | (simp only [i64_w, i32_w]; rw [c5b0]) | skip)
   by_cases c6 : (a1.size : Int) > 60
   ·
    rw [if_pos c6] at H; have c6b0 : decide (60 < (a1.size : Int)) = true := decide_eq_true c6; have c6b1 : decide (60 < a1.size) = true := decide_eq_true (by omega); clear c6
    have H' := Aside0.mk H
    clear H
    go_wp2
    go_meet
    case rel => exact ⟨_, (true), (by first | rfl | (simp; done) | (simp [*]; done)), H', ⟨by first | omega | exact Nat.le_refl _⟩, ⟨pbx HB⟩⟩
   ·
    rw [if_neg c6] at H; have c6b0 : decide (60 < (a1.size : Int)) = false := decide_eq_false c6; have c6b1 : decide (60 < a1.size) = false := decide_eq_false (by omega); clear c6
    have H' := Aside0.mk H
    clear H
    go_wp2
    go_meet
    case rel => exact ⟨_, (decide ((a2.size : Int) > 60)), (by first | rfl | (simp; done) | (simp [*]; done)), H', ⟨by first | omega | exact Nat.le_refl _⟩, ⟨pbx HB⟩⟩
 case rest =>
  clear HC4; (try clear p2); (try clear c4); (try clear c5); (try clear c5b0); (try clear c5b1); (try clear c6); (try clear c6b0); (try clear c6b1); obtain ⟨kq, x22_3, rfl, HA, HJ3, HB⟩ := hcut
  cases kq with
  | zero => exact absurd HA.out (by simp [oculuslaw17_CritLike.j0])
  | succ kj3 =>
   have H := HA.out; clear HA
   simp only [oculuslaw17_CritLike.j0] at H
   by_cases c7 : x22_3 = true
   ·
    subst c7
    have H1 : ((oculuslaw17_alive.f kj3).bind fun t101 => (some t101)) = some r := by rw [if_pos rfl] at H; exact H
    clear H; have H := H1; clear H1; replace H := Option.bind_eq_some_iff.mp H; obtain ⟨t101, A80, H⟩ := H
    replace H : (some t101) = some r := H
    have A8 := Aside0.mk A80; clear A80; obtain rfl := Option.some.inj H
    go_wp2_with (first | ((with_reducible refine gate_callee (f := 7) rfl ?_); refine goesL_ (some 23) rfl rfl Try.func7 (by kernel_rfl) rfl #[] rfl (by (try simp only [List.map_toArray, List.map_cons, List.map_nil]); first | done | rfl | (simp only [List.length_drop, List.length_take]; rfl)) ?_; (with_reducible refine (oculuslaw17_alive.calls kj3  t101 _ A8.out).mono ?_); rintro e w9 ⟨rfl, hb⟩; refine ⟨_, rfl, ?_⟩; replace HB := bs_ HB hb; (try clear hb); (try clear hb2); (try clear hk); (try clear hi)))
    go_ret
    exact ⟨by first | rfl | (simp [errW_none, errW_some] <;> rfl) | (simp [*, errW_none, errW_some] <;> rfl), pbx HB⟩
   ·
    replace c7 := Bool.eq_false_iff.mpr c7; subst c7
    have H1 : ((crit_Like.f kj3 a0 a1).bind fun t102 => ((oculusref17_Like.f kj3 a0 a1).bind fun t103 => (if (t102 != t103) = true then (oculuslaw17_CritLike.j1 kj3 a0 a1 t102 true) else (if t102 = true then (if a0.size + 1 ≤ 9223372036854775807 then (if a1.size + a2.size ≤ 9223372036854775807 then ((crit_Like.f kj3 (a0 ++ (⟨#[42]⟩ : ByteArray)) (a1 ++ a2)).bind fun t104 => (if t104 = true then (if 1 + a0.size ≤ 9223372036854775807 then (if a2.size + a1.size ≤ 9223372036854775807 then ((crit_Like.f kj3 ((⟨#[42]⟩ : ByteArray) ++ a0) (a2 ++ a1)).bind fun t105 => (oculuslaw17_CritLike.j1 kj3 a0 a1 t102 (!t105))) else (none)) else (none)) else (oculuslaw17_CritLike.j1 kj3 a0 a1 t102 true))) else (none)) else (none)) else (oculuslaw17_CritLike.j1 kj3 a0 a1 t102 false))))) = some r := by rw [if_neg (show ¬ (false = true) by decide)] at H; exact H
    clear H; have H := H1; clear H1; replace H := Option.bind_eq_some_iff.mp H; obtain ⟨t102, A100, H⟩ := H
    replace H : ((oculusref17_Like.f kj3 a0 a1).bind fun t103 => (if (t102 != t103) = true then (oculuslaw17_CritLike.j1 kj3 a0 a1 t102 true) else (if t102 = true then (if a0.size + 1 ≤ 9223372036854775807 then (if a1.size + a2.size ≤ 9223372036854775807 then ((crit_Like.f kj3 (a0 ++ (⟨#[42]⟩ : ByteArray)) (a1 ++ a2)).bind fun t104 => (if t104 = true then (if 1 + a0.size ≤ 9223372036854775807 then (if a2.size + a1.size ≤ 9223372036854775807 then ((crit_Like.f kj3 ((⟨#[42]⟩ : ByteArray) ++ a0) (a2 ++ a1)).bind fun t105 => (oculuslaw17_CritLike.j1 kj3 a0 a1 t102 (!t105))) else (none)) else (none)) else (oculuslaw17_CritLike.j1 kj3 a0 a1 t102 true))) else (none)) else (none)) else (oculuslaw17_CritLike.j1 kj3 a0 a1 t102 false)))) = some r := H
    have A10 := Aside0.mk A100; clear A100; have HC11 := Aside0.mk H; clear H
    go_upto_region 4 with (first | ((with_reducible refine gate_callee (f := 11) rfl ?_); refine goesL_ (some 26) rfl rfl Try.func11 (by kernel_rfl) rfl #[.string a0, .string a1] rfl (by (try simp only [List.map_toArray, List.map_cons, List.map_nil]); first | done | rfl | (simp only [List.length_drop, List.length_take]; rfl)) ?_; (with_reducible refine (crit_Like.calls kj3 a0 a1 t102 _ A10.out).mono ?_); rintro e w' ⟨rfl, ⟨nd, rfl⟩⟩; refine ⟨_, rfl, ?_⟩))
    (try simp only [Act.put, q_])
    go_cut [52] (fun v52 wc => ∃ (kq : Nat) (x52_10 : Bool), v52 = .bool x52_10 ∧ Aside0 (oculuslaw17_CritLike.j1 kq a0 a1 t102 x52_10 = some r) ∧ Aside0 (kq ≤ kj3) ∧ Aside0 (Below w.heap.size w wc))
    case first =>
     have H := HC11.out; clear HC11; replace H := Option.bind_eq_some_iff.mp H; obtain ⟨t103, A120, H⟩ := H
     replace H : (if (t102 != t103) = true then (oculuslaw17_CritLike.j1 kj3 a0 a1 t102 true) else (if t102 = true then (if a0.size + 1 ≤ 9223372036854775807 then (if a1.size + a2.size ≤ 9223372036854775807 then ((crit_Like.f kj3 (a0 ++ (⟨#[42]⟩ : ByteArray)) (a1 ++ a2)).bind fun t104 => (if t104 = true then (if 1 + a0.size ≤ 9223372036854775807 then (if a2.size + a1.size ≤ 9223372036854775807 then ((crit_Like.f kj3 ((⟨#[42]⟩ : ByteArray) ++ a0) (a2 ++ a1)).bind fun t105 => (oculuslaw17_CritLike.j1 kj3 a0 a1 t102 (!t105))) else (none)) else (none)) else (oculuslaw17_CritLike.j1 kj3 a0 a1 t102 true))) else (none)) else (none)) else (oculuslaw17_CritLike.j1 kj3 a0 a1 t102 false))) = some r := H
     have A12 := Aside0.mk A120; clear A120
     by_cases c13 : (t102 != t103) = true
     ·
      rw [if_pos c13] at H
      have c13b0 : (t102 != t103) = true := c13
      (try (have c13b1 : decide (t102 = t103) = false := by simpa using c13))
      (try (have c13b2 : (t102 == t103) = false := by simpa using c13))
      (try (have c13b3 : ¬ (t102 = t103) := by simpa using c13))
      clear c13
      (first | rw [c13b0] | (simp only [i64_w, i32_w]; rw [c13b0]) | skip)
      have H' := Aside0.mk H
      clear H
      go_wp2_with (first | ((with_reducible refine gate_callee (f := 12) rfl ?_); refine goesL_ (some 30) rfl rfl Try.func12 (by kernel_rfl) rfl #[.string a0, .string a1] rfl (by (try simp only [List.map_toArray, List.map_cons, List.map_nil]); first | done | rfl | (simp only [List.length_drop, List.length_take]; rfl)) ?_; (with_reducible refine (oculusref17_Like.calls kj3 a0 a1 t103 _ A12.out).mono ?_); rintro e w14 ⟨rfl, hb⟩; refine ⟨_, rfl, ?_⟩; replace HB := bs_ HB hb; (try clear hb); (try clear hb2); (try clear hk); (try clear hi)))
      go_meet
      case rel => exact ⟨_, (true), (by first | rfl | (simp; done) | (simp [*]; done)), H', ⟨by have := HJ3.out; first | omega | exact Nat.le_refl _⟩, ⟨pbx HB⟩⟩
     ·
      rw [if_neg c13] at H
      have c13b0 : (t102 != t103) = false := by simpa using c13
      (try (have c13b1 : decide (t102 = t103) = true := by simpa using c13))
      (try (have c13b2 : (t102 == t103) = true := by simpa using c13))
      clear c13
      (first | rw [c13b0] | (simp only [i64_w, i32_w]; rw [c13b0]) | skip)
      by_cases c15 : t102 = true
      ·
       subst c15
       have H1 : (if a0.size + 1 ≤ 9223372036854775807 then (if a1.size + a2.size ≤ 9223372036854775807 then ((crit_Like.f kj3 (a0 ++ (⟨#[42]⟩ : ByteArray)) (a1 ++ a2)).bind fun t104 => (if t104 = true then (if 1 + a0.size ≤ 9223372036854775807 then (if a2.size + a1.size ≤ 9223372036854775807 then ((crit_Like.f kj3 ((⟨#[42]⟩ : ByteArray) ++ a0) (a2 ++ a1)).bind fun t105 => (oculuslaw17_CritLike.j1 kj3 a0 a1 true (!t105))) else (none)) else (none)) else (oculuslaw17_CritLike.j1 kj3 a0 a1 true true))) else (none)) else (none)) = some r := by rw [if_pos rfl] at H; exact H
       clear H; have H := H1; clear H1
       by_cases c16 : a0.size + 1 ≤ 9223372036854775807
       ·
        rw [if_pos c16] at H; have c16b0 := eq_true c16; have c16b1 : decide (a0.size + 1 ≤ 9223372036854775807) = true := decide_eq_true c16
        try have c16b2 : (9223372036854775807 < a0.size + 1) = False := eq_false (Nat.not_lt.2 c16)
        by_cases c17 : a1.size + a2.size ≤ 9223372036854775807
        ·
         rw [if_pos c17] at H; have c17b0 := eq_true c17; have c17b1 : decide (a1.size + a2.size ≤ 9223372036854775807) = true := decide_eq_true c17
         try have c17b2 : (9223372036854775807 < a1.size + a2.size) = False := eq_false (Nat.not_lt.2 c17)
         replace H := Option.bind_eq_some_iff.mp H; obtain ⟨t104, A180, H⟩ := H
         replace H : (if t104 = true then (if 1 + a0.size ≤ 9223372036854775807 then (if a2.size + a1.size ≤ 9223372036854775807 then ((crit_Like.f kj3 ((⟨#[42]⟩ : ByteArray) ++ a0) (a2 ++ a1)).bind fun t105 => (oculuslaw17_CritLike.j1 kj3 a0 a1 true (!t105))) else (none)) else (none)) else (oculuslaw17_CritLike.j1 kj3 a0 a1 true true)) = some r := H
         have A18 := Aside0.mk A180; clear A180
         by_cases c19 : t104 = true
         ·
          subst c19
          have H1 : (if 1 + a0.size ≤ 9223372036854775807 then (if a2.size + a1.size ≤ 9223372036854775807 then ((crit_Like.f kj3 ((⟨#[42]⟩ : ByteArray) ++ a0) (a2 ++ a1)).bind fun t105 => (oculuslaw17_CritLike.j1 kj3 a0 a1 true (!t105))) else (none)) else (none)) = some r := by rw [if_pos rfl] at H; exact H
          clear H; have H := H1; clear H1
          by_cases c20 : 1 + a0.size ≤ 9223372036854775807
          ·
           rw [if_pos c20] at H; have c20b0 := eq_true c20; have c20b1 : decide (1 + a0.size ≤ 9223372036854775807) = true := decide_eq_true c20
           try have c20b2 : (9223372036854775807 < 1 + a0.size) = False := eq_false (Nat.not_lt.2 c20)
           by_cases c21 : a2.size + a1.size ≤ 9223372036854775807
           ·
            rw [if_pos c21] at H; have c21b0 := eq_true c21; have c21b1 : decide (a2.size + a1.size ≤ 9223372036854775807) = true := decide_eq_true c21
            try have c21b2 : (9223372036854775807 < a2.size + a1.size) = False := eq_false (Nat.not_lt.2 c21)
            replace H := Option.bind_eq_some_iff.mp H; obtain ⟨t105, A220, H⟩ := H
            replace H : (oculuslaw17_CritLike.j1 kj3 a0 a1 true (!t105)) = some r := H
            have A22 := Aside0.mk A220; clear A220
            have H' := Aside0.mk H
            clear H
            go_wp2_with (first | ((with_reducible refine gate_callee (f := 12) rfl ?_); refine goesL_ (some 30) rfl rfl Try.func12 (by kernel_rfl) rfl #[.string a0, .string a1] rfl (by (try simp only [List.map_toArray, List.map_cons, List.map_nil]); first | done | rfl | (simp only [List.length_drop, List.length_take]; rfl)) ?_; (with_reducible refine (oculusref17_Like.calls kj3 a0 a1 t103 _ A12.out).mono ?_); rintro e w23 ⟨rfl, hb⟩; refine ⟨_, rfl, ?_⟩; replace HB := bs_ HB hb; (try clear hb); (try clear hb2); (try clear hk); (try clear hi)) | (go_at_call 11; (with_reducible refine (crit_Like.calls kj3 (a0 ++ (⟨#[42]⟩ : ByteArray)) (a1 ++ a2) true _ A18.out).mono ?_); rintro e w' ⟨rfl, ⟨nd, rfl⟩⟩) | (go_at_call 11; (with_reducible refine (crit_Like.calls kj3 ((⟨#[42]⟩ : ByteArray) ++ a0) (a2 ++ a1) t105 _ A22.out).mono ?_); rintro e w' ⟨rfl, ⟨nd, rfl⟩⟩))
            go_meet
            case rel => exact ⟨_, (!t105), (by first | rfl | (simp; done) | (simp [*]; done) | (cases t105 <;> simp; done)), H', ⟨by have := HJ3.out; first | omega | exact Nat.le_refl _⟩, ⟨pbx HB⟩⟩
           ·
            rw [if_neg c21] at H
            exact absurd H (by simp)
          ·
           rw [if_neg c20] at H
           exact absurd H (by simp)
         ·
          replace c19 := Bool.eq_false_iff.mpr c19; subst c19
          have H1 : (oculuslaw17_CritLike.j1 kj3 a0 a1 true true) = some r := by rw [if_neg (show ¬ (false = true) by decide)] at H; exact H
          clear H; have H := H1; clear H1
          have H' := Aside0.mk H
          clear H
          go_wp2_with (first | ((with_reducible refine gate_callee (f := 12) rfl ?_); refine goesL_ (some 30) rfl rfl Try.func12 (by kernel_rfl) rfl #[.string a0, .string a1] rfl (by (try simp only [List.map_toArray, List.map_cons, List.map_nil]); first | done | rfl | (simp only [List.length_drop, List.length_take]; rfl)) ?_; (with_reducible refine (oculusref17_Like.calls kj3 a0 a1 t103 _ A12.out).mono ?_); rintro e w24 ⟨rfl, hb⟩; refine ⟨_, rfl, ?_⟩; replace HB := bs_ HB hb; (try clear hb); (try clear hb2); (try clear hk); (try clear hi)) | (go_at_call 11; (with_reducible refine (crit_Like.calls kj3 (a0 ++ (⟨#[42]⟩ : ByteArray)) (a1 ++ a2) false _ A18.out).mono ?_); rintro e w' ⟨rfl, ⟨nd, rfl⟩⟩))
          go_meet
          case rel => exact ⟨_, (true), (by first | rfl | (simp; done) | (simp [*]; done)), H', ⟨by have := HJ3.out; first | omega | exact Nat.le_refl _⟩, ⟨pbx HB⟩⟩
        ·
         rw [if_neg c17] at H
         exact absurd H (by simp)
       ·
        rw [if_neg c16] at H
        exact absurd H (by simp)
      ·
       replace c15 := Bool.eq_false_iff.mpr c15; subst c15
       have H1 : (oculuslaw17_CritLike.j1 kj3 a0 a1 false false) = some r := by rw [if_neg (show ¬ (false = true) by decide)] at H; exact H
       clear H; have H := H1; clear H1
       have H' := Aside0.mk H
       clear H
       go_wp2_with (first | ((with_reducible refine gate_callee (f := 12) rfl ?_); refine goesL_ (some 30) rfl rfl Try.func12 (by kernel_rfl) rfl #[.string a0, .string a1] rfl (by (try simp only [List.map_toArray, List.map_cons, List.map_nil]); first | done | rfl | (simp only [List.length_drop, List.length_take]; rfl)) ?_; (with_reducible refine (oculusref17_Like.calls kj3 a0 a1 t103 _ A12.out).mono ?_); rintro e w25 ⟨rfl, hb⟩; refine ⟨_, rfl, ?_⟩; replace HB := bs_ HB hb; (try clear hb); (try clear hb2); (try clear hk); (try clear hi)))
       go_meet
       case rel => exact ⟨_, (false), (by first | rfl | (simp; done) | (simp [*]; done)), H', ⟨by have := HJ3.out; first | omega | exact Nat.le_refl _⟩, ⟨pbx HB⟩⟩
    case rest =>
     clear HC11; (try clear c1); (try clear c2); (try clear p2); (try clear c4); (try clear c5); (try clear c5b0); (try clear c5b1); (try clear c6); (try clear c6b0); (try clear c6b1); (try clear c7); (try clear c11); (try clear c12); (try clear c13); (try clear c13b0); (try clear c13b1); (try clear c13b2); (try clear c15); (try clear c16); (try clear c16b0); (try clear c16b1); (try clear c16b2); (try clear c17); (try clear c17b0); (try clear c17b1); (try clear c17b2); (try clear c19); (try clear c20); (try clear c20b0); (try clear c20b1); (try clear c20b2); (try clear c21); (try clear c21b0); (try clear c21b1); (try clear c21b2); (try clear p2); obtain ⟨kq, x52_10, rfl, HA, HJ10, HB⟩ := hcut
     cases kq with
     | zero => exact absurd HA.out (by simp [oculuslaw17_CritLike.j1])
     | succ kj10 =>
      have H := HA.out; clear HA
      simp only [oculuslaw17_CritLike.j1] at H
      by_cases c26 : x52_10 = true
      ·
       subst c26
       have H1 : (none) = some r := by rw [if_pos rfl] at H; exact H
       clear H; have H := H1; clear H1
       exact absurd H (by simp)
      ·
       replace c26 := Bool.eq_false_iff.mpr c26; subst c26
       have H1 : (oculuslaw17_CritLike.l0 kj10 a0 a1 t102 true (a0.size : Int) 0) = some r := by rw [if_neg (show ¬ (false = true) by decide)] at H; exact H
       clear H; have H := H1; clear H1
       have H' := Aside0.mk H
       clear H
       go_wp2
       go_loopg [8, 55] kj10 (fun kq v8 v55 w' => ∃ (x8_3 : Bool) (x55_3 : Int), v8 = .bool x8_3 ∧ v55 = .int .i64 x55_3 ∧ Aside0 (oculuslaw17_CritLike.l0 kq a0 a1 t102 x8_3 (a0.size : Int) x55_3 = some r) ∧ Aside0 (kq ≤ kj10) ∧ Aside0 (Below w.heap.size w w'))
       case atStart => exact ⟨(true), (0), (by first | rfl | (simp; done) | (simp [*]; done)), (by first | rfl | (simp; done) | (simp [*]; done)), H', ⟨Nat.le_refl _⟩, ⟨pbx HB⟩⟩
       case round =>
        clear H'; (try clear c1); (try clear c2); (try clear p2); (try clear c4); (try clear c5); (try clear c5b0); (try clear c5b1); (try clear c6); (try clear c6b0); (try clear c6b1); (try clear c7); (try clear c11); (try clear c12); (try clear c13); (try clear c13b0); (try clear c13b1); (try clear c13b2); (try clear c15); (try clear c16); (try clear c16b0); (try clear c16b1); (try clear c16b2); (try clear c17); (try clear c17b0); (try clear c17b1); (try clear c17b2); (try clear c19); (try clear c20); (try clear c20b0); (try clear c20b1); (try clear c20b2); (try clear c21); (try clear c21b0); (try clear c21b1); (try clear c21b2); (try clear c26); (try clear p2); obtain ⟨x8_3, x55_3, rfl, rfl, HA, HK3, HB⟩ := hrel
        cases gk with
        | zero => exact absurd HA.out (by simp [oculuslaw17_CritLike.l0])
        | succ k3 =>
         have H := HA.out; clear HA
         simp only [oculuslaw17_CritLike.l0] at H
         by_cases c27 : x55_3 < (a0.size : Int)
         ·
          rw [if_pos c27] at H; have c27b0 : decide (x55_3 < (a0.size : Int)) = true := decide_eq_true c27; clear c27
          by_cases c28 : x8_3 = true
          ·
           subst c28
           have H1 : (if 0 ≤ x55_3 then (if x55_3 < (a0.size : Int) then (if (bt a0 x55_3) = 42 then (oculuslaw17_CritLike.l0 k3 a0 a1 t102 false (a0.size : Int) (wrap64 (x55_3 + 1))) else (oculuslaw17_CritLike.l0 k3 a0 a1 t102 ((bt a0 x55_3) != 63) (a0.size : Int) (wrap64 (x55_3 + 1)))) else (none)) else (none)) = some r := by rw [if_pos rfl] at H; exact H
           clear H; have H := H1; clear H1
           by_cases c29 : 0 ≤ x55_3
           ·
            rw [if_pos c29] at H; have c29b0 : decide (0 ≤ x55_3) = true := decide_eq_true c29; clear c29
            by_cases c30 : x55_3 < (a0.size : Int)
            ·
             rw [if_pos c30] at H; have c30b0 : decide (x55_3 < (a0.size : Int)) = true := decide_eq_true c30; clear c30
             by_cases c32 : (bt a0 x55_3) = 42
             ·
              rw [if_pos c32] at H; have c32b0 : ((bt a0 x55_3) == 42) = true := beq_iff_eq.mpr c32; have c32b1 : ((bt a0 x55_3) != 42) = false := bne_eq_false_iff_eq.mpr c32; clear c32
              have H' := Aside0.mk H
              clear H
              have p31 : 0 ≤ (x55_3 : Int) := of_decide_eq_true (by first | (with_reducible assumption) | assumption)
              have q31 : x55_3 < (a0.size : Int) := of_decide_eq_true (by first | (with_reducible assumption) | assumption)
              have hx31 := bt_at a0 x55_3; replace p31 := eq_true p31; replace q31 := eq_true q31
              go_wp2
              go_roundg k3
              case measure => have := HJ3.out; have := HJ10.out; have := HK3.out; omega
              case rel => exact ⟨(false), (wrap64 (x55_3 + 1)), (by first | rfl | (simp; done) | (simp [*]; done)), (by first | rfl | (simp; done) | (simp [*]; done)), H', ⟨by have := HJ3.out; have := HJ10.out; have := HK3.out; omega⟩, ⟨pbx HB⟩⟩
             ·
              rw [if_neg c32] at H; have c32b0 : ((bt a0 x55_3) == 42) = false := beq_eq_false_iff_ne.mpr c32; have c32b1 : ((bt a0 x55_3) != 42) = true := bne_iff_ne.mpr c32
              have H' := Aside0.mk H
              clear H
              have p31 : 0 ≤ (x55_3 : Int) := of_decide_eq_true (by first | (with_reducible assumption) | assumption)
              have q31 : x55_3 < (a0.size : Int) := of_decide_eq_true (by first | (with_reducible assumption) | assumption)
              have hx31 := bt_at a0 x55_3; replace p31 := eq_true p31; replace q31 := eq_true q31
              have p33 : 0 ≤ (x55_3 : Int) := of_decide_eq_true (by first | (with_reducible assumption) | assumption)
              have q33 : x55_3 < (a0.size : Int) := of_decide_eq_true (by first | (with_reducible assumption) | assumption)
              have hx33 := bt_at a0 x55_3; replace p33 := eq_true p33; replace q33 := eq_true q33
              go_wp2
              go_roundg k3
              case measure => have := HJ3.out; have := HJ10.out; have := HK3.out; omega
              case rel => exact ⟨(((bt a0 x55_3) != 63)), (wrap64 (x55_3 + 1)), (by first | rfl | (simp; done) | (simp [*]; done)), (by first | rfl | (simp; done) | (simp [*]; done)), H', ⟨by have := HJ3.out; have := HJ10.out; have := HK3.out; omega⟩, ⟨pbx HB⟩⟩
            ·
             rw [if_neg c30] at H
             exact absurd H (by simp)
           ·
            rw [if_neg c29] at H
            exact absurd H (by simp)
          ·
           replace c28 := Bool.eq_false_iff.mpr c28; subst c28
           have H1 : (oculuslaw17_CritLike.l0 k3 a0 a1 t102 false (a0.size : Int) (wrap64 (x55_3 + 1))) = some r := by rw [if_neg (show ¬ (false = true) by decide)] at H; exact H
           clear H; have H := H1; clear H1
           have H' := Aside0.mk H
           clear H
           go_wp2
           go_roundg k3
           case measure => have := HJ3.out; have := HJ10.out; have := HK3.out; omega
           case rel => exact ⟨(false), (wrap64 (x55_3 + 1)), (by first | rfl | (simp; done) | (simp [*]; done)), (by first | rfl | (simp; done) | (simp [*]; done)), H', ⟨by have := HJ3.out; have := HJ10.out; have := HK3.out; omega⟩, ⟨pbx HB⟩⟩
         ·
          rw [if_neg c27] at H; have c27b0 : decide (x55_3 < (a0.size : Int)) = false := decide_eq_false c27; clear c27
          by_cases c34 : x8_3 = true
          ·
           subst c34
           have H1 : (if (t102 == (a0.toList == a1.toList)) = true then ((oculuslaw17_alive.f k3).bind fun t106 => (some t106)) else (none)) = some r := by rw [if_pos rfl] at H; exact H
           clear H; have H := H1; clear H1
           by_cases c35 : (t102 == (a0.toList == a1.toList)) = true
           ·
            rw [if_pos c35] at H
            have c35b0 : (t102 == (a0.toList == a1.toList)) = true := c35
            (try (have c35b1 : decide (t102 = (a0.toList == a1.toList)) = true := by simpa using c35))
            (try (have c35b2 : (t102 == (a0.toList == a1.toList)) = true := by simpa using c35))
            clear c35; replace H := Option.bind_eq_some_iff.mp H; obtain ⟨t106, A360, H⟩ := H
            replace H : (some t106) = some r := H
            have A36 := Aside0.mk A360; clear A360; obtain rfl := Option.some.inj H
            go_wp2_with (first | (go_at_call 7; (with_reducible refine (oculuslaw17_alive.calls k3  t106 _ A36.out).mono ?_); rintro e w37 ⟨rfl, hb⟩; replace HB := bs_ HB hb; (try clear hb); (try clear hb2); (try clear hk); (try clear hi)))
            go_ret
            exact ⟨by first | rfl | (simp [errW_none, errW_some] <;> rfl) | (simp [*, errW_none, errW_some] <;> rfl), pbx HB⟩
           ·
            rw [if_neg c35] at H
            exact absurd H (by simp)
          ·
           replace c34 := Bool.eq_false_iff.mpr c34; subst c34
           have H1 : ((oculuslaw17_alive.f k3).bind fun t107 => (some t107)) = some r := by rw [if_neg (show ¬ (false = true) by decide)] at H; exact H
           clear H; have H := H1; clear H1; replace H := Option.bind_eq_some_iff.mp H; obtain ⟨t107, A380, H⟩ := H
           replace H : (some t107) = some r := H
           have A38 := Aside0.mk A380; clear A380; obtain rfl := Option.some.inj H
           go_wp2_with (first | (go_at_call 7; (with_reducible refine (oculuslaw17_alive.calls k3  t107 _ A38.out).mono ?_); rintro e w39 ⟨rfl, hb⟩; replace HB := bs_ HB hb; (try clear hb); (try clear hb2); (try clear hk); (try clear hi)))
           go_ret
           exact ⟨by first | rfl | (simp [errW_none, errW_some] <;> rfl) | (simp [*, errW_none, errW_some] <;> rfl), pbx HB⟩

end Go.Proofs.Ytfcpkehldmehjaa.X
/- A general opening of a row's arguments: what a value of a type reads as, as a term of a kind 'Kd', with the bounds that the row's reach gives. -/
set_option linter.unusedVariables false
set_option linter.unusedSimpArgs false
namespace Go.Proofs.Ytfcpkehldmehjaa.Opn
open Go.ChangeShapes Go.WideShapes Go.RowKit Go.Proofs.YtfcpkehldmehjaaW.PrintWords

/-- Whatever is read at type t is a cell row of some a of kind d that is good. -/
def Opens {α : Type} (P : Program) (t : TypeId) (d : Kd α) (good : α → Prop) : Prop :=
  ∀ {H : Type} {enc : TypeId × Value → H} {w : World} {base : Nat} {spare : Nat → Bool} {held : Bool} {fuel : Nat} {cs : List Value} {x : DataW H × List MemPlace},
    DataW.trod enc P w base spare held fuel t cs = some x → (∀ m ∈ x.1.weights P t, m ≤ reachBytes) → ∃ a, d.K w a cs ∧ good a

theorem opens_string {P : Program} {t : TypeId} (ht : P.underlying t = some .string) : Opens P t Kd.string (fun s => s.size ≤ reachBytes) := by
  intro H enc w base spare held fuel cs x hx hw
  obtain ⟨s, rfl, rfl, _⟩ := DataW.trod_string ht hx
  refine ⟨s, rfl, ?_⟩
  have := hw s.data.toList.length (by simp [DataW.weights])
  simpa using this

end Go.Proofs.Ytfcpkehldmehjaa.Opn
/- The openings of the arguments of the law CritLike, and its pure statement. -/
set_option linter.unusedVariables false
namespace Go.Proofs.Ytfcpkehldmehjaa.X
open Go.RowKit Go.Proofs.YtfcpkehldmehjaaW.PrintWords Go.Proofs.YtfcpkehldmehjaaW.PrintLast Go.Proofs.YtfcpkehldmehjaaW.PrintMore Go.Proofs.Ytfcpkehldmehjaa.Opn
/-- What is left: a statement over numbers and lists alone. -/
def oculuslaw17_CritLike.PureX : Prop := ∀ (a0 : ByteArray) (a1 : ByteArray) (a2 : ByteArray), (a0.size ≤ reachBytes) → (a1.size ≤ reachBytes) → (a2.size ≤ reachBytes) → ∃ k, oculuslaw17_CritLike.f k a0 a1 a2 = some true
end Go.Proofs.Ytfcpkehldmehjaa.X
/- Plain facts on whole numbers, bits and lists that the pure statements use. -/
set_option linter.unusedVariables false
set_option linter.unusedSimpArgs false
namespace Go.Proofs.Ytfcpkehldmehjaa.X
open Go.RowKit Go.Proofs.YtfcpkehldmehjaaW.PrintWords Go.Proofs.YtfcpkehldmehjaaW.PrintLast Go.Proofs.YtfcpkehldmehjaaW.PrintMore

theorem w64 {x : Int} (h0 : -9223372036854775808 ≤ x) (h1 : x ≤ 9223372036854775807) : wrap64 x = x := by unfold wrap64; omega
theorem w64s {i n : Nat} (h : i < n) (hn : n ≤ 9223372036854775807) : wrap64 ((i : Int) + 1) = ((i + 1 : Nat) : Int) := by unfold wrap64; omega

/-! Ev: with enough rounds. -/
theorem ev_some {α : Type} {g : Nat → Option α} {r : α} (h : ∀ k, g k = some r) : Ev g r := ⟨0, fun k _ => h k⟩
theorem ev_ite {α : Type} {c : Prop} [Decidable c] {f g : Nat → Option α} {r : α} (h1 : c → Ev f r) (h2 : ¬ c → Ev g r) : Ev (fun k => if c then f k else g k) r := by
  by_cases h : c
  · simp only [if_pos h]; exact h1 h
  · simp only [if_neg h]; exact h2 h
theorem ev_pos {α : Type} {c : Prop} [Decidable c] {f g : Nat → Option α} {r : α} (h : c) (h1 : Ev f r) : Ev (fun k => if c then f k else g k) r := by simp only [if_pos h]; exact h1
theorem ev_neg {α : Type} {c : Prop} [Decidable c] {f g : Nat → Option α} {r : α} (h : ¬ c) (h1 : Ev g r) : Ev (fun k => if c then f k else g k) r := by simp only [if_neg h]; exact h1
theorem ev_bind {α β : Type} {g : Nat → Option α} {f : Nat → α → Option β} {a : α} {r : β} (h : Ev g a) (k : Ev (fun n => f n a) r) : Ev (fun n => (g n).bind (f n)) r := Ev.bind h k
theorem ev_bsome {α β : Type} {x : α} {f : Nat → α → Option β} {r : β} (k : Ev (fun n => f n x) r) : Ev (fun n => (some x).bind (f n)) r := k

/-! Bits. -/
end Go.Proofs.Ytfcpkehldmehjaa.X
/- Plain facts on texts as lists of bytes. -/
set_option linter.unusedVariables false
set_option linter.unusedSimpArgs false
namespace Go.Proofs.Ytfcpkehldmehjaa.X
open Go.RowKit Go.Proofs.YtfcpkehldmehjaaW.PrintWords Go.Proofs.YtfcpkehldmehjaaW.PrintLast Go.Proofs.YtfcpkehldmehjaaW.PrintMore
/-- A text's bytes; the text of bytes. -/
def by_ (s : ByteArray) : List UInt8 := s.data.toList
def tx (l : List UInt8) : ByteArray := ⟨l.toArray⟩
theorem by_tx (l : List UInt8) : by_ (tx l) = l := by simp [by_, tx]
theorem tx_by (s : ByteArray) : tx (by_ s) = s := by
  obtain ⟨⟨l⟩⟩ := s
  rfl
theorem by_inj {s t : ByteArray} (h : by_ s = by_ t) : s = t := by rw [← tx_by s, ← tx_by t, h]
theorem toList_by (s : ByteArray) : s.toList = by_ s := ByteArray.toList_eq s
theorem size_by (s : ByteArray) : s.size = (by_ s).length := by
  obtain ⟨⟨l⟩⟩ := s
  rfl
theorem size_tx (l : List UInt8) : (tx l).size = l.length := by rw [size_by, by_tx]
theorem by_extract (s : ByteArray) (a b : Nat) : by_ (s.extract a b) = ((by_ s).drop a).take (b - a) := Go.Lib.extract_data s a b
theorem by_head (s : ByteArray) (b : Nat) : by_ (s.extract 0 b) = (by_ s).take b := by rw [by_extract]; simp
theorem by_tail (s : ByteArray) (a : Nat) : by_ (s.extract a s.size) = (by_ s).drop a := by
  rw [by_extract, List.take_of_length_le]
  rw [List.length_drop, size_by]
  exact Nat.le_refl _
theorem ext_head (s : ByteArray) (b : Nat) : s.extract 0 b = tx ((by_ s).take b) := by_inj (by rw [by_head, by_tx])
theorem ext_tail (s : ByteArray) (a : Nat) : s.extract a s.size = tx ((by_ s).drop a) := by_inj (by rw [by_tail, by_tx])
theorem by_append (s t : ByteArray) : by_ (s ++ t) = by_ s ++ by_ t := by
  obtain ⟨⟨l⟩⟩ := s
  obtain ⟨⟨m⟩⟩ := t
  simp [by_, ByteArray.data_append]
theorem tx_append (l m : List UInt8) : tx l ++ tx m = tx (l ++ m) := by_inj (by rw [by_append, by_tx, by_tx, by_tx])
theorem bt_by (s : ByteArray) (i : Nat) (h : i < (by_ s).length) : bt s (i : Int) = ((by_ s)[i].toNat : Int) := by
  obtain ⟨⟨l⟩⟩ := s
  have h' : (i : Int).toNat < (⟨⟨l⟩⟩ : ByteArray).size := by rw [Int.toNat_natCast]; exact h
  unfold bt
  rw [dif_pos h']
  simp only [Int.toNat_natCast]
  rfl
theorem bt_tx (l : List UInt8) (i : Nat) (h : i < l.length) : bt (tx l) (i : Int) = (l[i].toNat : Int) := by
  rw [bt_by (tx l) i (by rw [by_tx]; exact h)]
  simp only [by_tx]
theorem u8_lt (c : UInt8) : c.toNat < 256 := c.toNat_lt
theorem u8_inj {a b : UInt8} (h : a.toNat = b.toNat) : a = b := UInt8.toNat_inj.1 h
end Go.Proofs.Ytfcpkehldmehjaa.X
/- Patterns and texts: plain. -/
set_option linter.unusedVariables false
set_option linter.unusedSimpArgs false
namespace Go.Proofs.Ytfcpkehldmehjaa.X
open Go.RowKit Go.Proofs.YtfcpkehldmehjaaW.PrintWords Go.Proofs.YtfcpkehldmehjaaW.PrintLast Go.Proofs.YtfcpkehldmehjaaW.PrintMore
def okC (c b : UInt8) : Bool := c == 63 || c == b
/-- Does a pattern fit a text? -/
def gl : List UInt8 → List UInt8 → Bool
  | [], [] => true
  | [], _ :: _ => false
  | c :: p, [] => c == 42 && gl p []
  | c :: p, b :: t => if c = 42 then gl p (b :: t) || gl (c :: p) t else okC c b && gl p t
termination_by p t => p.length + t.length
theorem gl_nil (t : List UInt8) : gl [] t = true ↔ t = [] := by
  cases t with
  | nil => simp [gl]
  | cons b t => simp [gl]
theorem gl_star (p : List UInt8) : ∀ t : List UInt8, gl (42 :: p) t = true ↔ ∃ u v, t = u ++ v ∧ gl p v = true
  | [] => by
    rw [gl]
    simp only [beq_self_eq_true, Bool.true_and]
    constructor
    · intro h; exact ⟨[], [], rfl, h⟩
    · rintro ⟨u, v, h, hv⟩
      have := List.append_eq_nil_iff.1 h.symm
      rw [this.2] at hv; exact hv
  | b :: t => by
    rw [gl, if_pos rfl, Bool.or_eq_true, gl_star p t]
    constructor
    · rintro (h | ⟨u, v, h, hv⟩)
      · exact ⟨[], b :: t, rfl, h⟩
      · exact ⟨b :: u, v, by rw [h]; rfl, hv⟩
    · rintro ⟨u, v, h, hv⟩
      cases u with
      | nil => left; rw [show v = b :: t from h.symm] at hv; exact hv
      | cons x u =>
        right
        injection h with h1 h2
        exact ⟨u, v, h2, hv⟩
theorem gl_one {c : UInt8} (hc : c ≠ 42) (p : List UInt8) (t : List UInt8) : gl (c :: p) t = true ↔ ∃ b v, t = b :: v ∧ okC c b = true ∧ gl p v = true := by
  cases t with
  | nil =>
    rw [gl]
    constructor
    · intro h; rw [Bool.and_eq_true, beq_iff_eq] at h; exact absurd h.1 hc
    · rintro ⟨b, v, h, _⟩; cases h
  | cons b t =>
    rw [gl, if_neg hc, Bool.and_eq_true]
    constructor
    · rintro ⟨h1, h2⟩; exact ⟨b, t, rfl, h1, h2⟩
    · rintro ⟨b', v, h, h1, h2⟩; injection h with e1 e2; subst e1; subst e2; exact ⟨h1, h2⟩
theorem gl_app : ∀ (p q t : List UInt8), gl (p ++ q) t = true ↔ ∃ u v, t = u ++ v ∧ gl p u = true ∧ gl q v = true
  | [], q, t => by
    rw [List.nil_append]
    constructor
    · intro h; exact ⟨[], t, rfl, by rw [gl], h⟩
    · rintro ⟨u, v, h, hu, hv⟩
      rw [gl_nil] at hu
      rw [h, hu]; exact hv
  | c :: p, q, t => by
    by_cases hc : c = 42
    · subst hc
      rw [List.cons_append, gl_star]
      constructor
      · rintro ⟨u, v, h, hv⟩
        obtain ⟨x, y, h1, h2, h3⟩ := (gl_app p q v).1 hv
        exact ⟨u ++ x, y, by rw [h, h1, List.append_assoc], (gl_star p _).2 ⟨u, x, rfl, h2⟩, h3⟩
      · rintro ⟨u, v, h, hu, hv⟩
        obtain ⟨x, y, h1, h2⟩ := (gl_star p u).1 hu
        exact ⟨x, y ++ v, by rw [h, h1, List.append_assoc], (gl_app p q _).2 ⟨y, v, rfl, h2, hv⟩⟩
    · rw [List.cons_append, gl_one hc]
      constructor
      · rintro ⟨b, v, h, h0, hv⟩
        obtain ⟨x, y, h1, h2, h3⟩ := (gl_app p q v).1 hv
        exact ⟨b :: x, y, by rw [h, h1]; rfl, (gl_one hc p _).2 ⟨b, x, rfl, h0, h2⟩, h3⟩
      · rintro ⟨u, v, h, hu, hv⟩
        obtain ⟨b, y, h1, h0, h2⟩ := (gl_one hc p u).1 hu
        exact ⟨b, y ++ v, by rw [h, h1]; rfl, h0, (gl_app p q _).2 ⟨y, v, rfl, h2, hv⟩⟩
/-! Without stars. -/
def fitL : List UInt8 → List UInt8 → Bool
  | [], _ => true
  | _ :: _, [] => false
  | c :: p, b :: t => okC c b && fitL p t
theorem gl_piece : ∀ (p q t : List UInt8), (42 : UInt8) ∉ p → (gl (p ++ q) t = true ↔ fitL p t = true ∧ gl q (t.drop p.length) = true)
  | [], q, t, _ => by simp [fitL]
  | c :: p, q, t, h => by
    simp only [List.mem_cons, not_or] at h
    rw [List.cons_append, gl_one (fun e => h.1 e.symm)]
    cases t with
    | nil => simp [fitL]
    | cons b t =>
      rw [fitL, Bool.and_eq_true, List.length_cons, List.drop_succ_cons]
      constructor
      · rintro ⟨b', v, h1, h2, h3⟩
        injection h1 with e1 e2
        subst e1; subst e2
        obtain ⟨k1, k2⟩ := (gl_piece p q t h.2).1 h3
        exact ⟨⟨h2, k1⟩, k2⟩
      · rintro ⟨⟨h1, h2⟩, h3⟩
        exact ⟨b, t, rfl, h1, (gl_piece p q t h.2).2 ⟨h2, h3⟩⟩
theorem fitL_len : ∀ (p t : List UInt8), fitL p t = true → p.length ≤ t.length
  | [], _, _ => Nat.zero_le _
  | _ :: _, [], h => by simp [fitL] at h
  | c :: p, b :: t, h => by
    rw [fitL, Bool.and_eq_true] at h
    have := fitL_len p t h.2
    simp; omega
theorem gl_plain (p t : List UInt8) (h : (42 : UInt8) ∉ p) : gl p t = true ↔ fitL p t = true ∧ p.length = t.length := by
  have := gl_piece p [] t h
  rw [List.append_nil] at this
  rw [this, gl_nil]
  constructor
  · rintro ⟨h1, h2⟩
    have := fitL_len p t h1
    have h3 := congrArg List.length h2
    rw [List.length_drop] at h3
    simp at h3
    exact ⟨h1, by omega⟩
  · rintro ⟨h1, h2⟩
    exact ⟨h1, List.drop_eq_nil_of_le (by omega)⟩
/-- A star lets more stand ahead. -/
theorem star_mono (p : List UInt8) (u t : List UInt8) (h : gl (42 :: p) t = true) : gl (42 :: p) (u ++ t) = true := by
  obtain ⟨x, v, h1, h2⟩ := (gl_star p t).1 h
  exact (gl_star p _).2 ⟨u ++ x, v, by rw [h1, List.append_assoc], h2⟩
/-- Behind a star, the last piece: at the end. -/
theorem star_last (p t : List UInt8) (h : (42 : UInt8) ∉ p) : gl (42 :: p) t = true ↔ p.length ≤ t.length ∧ fitL p (t.drop (t.length - p.length)) = true := by
  rw [gl_star]
  constructor
  · rintro ⟨u, v, h1, h2⟩
    obtain ⟨h3, h4⟩ := (gl_plain p v h).1 h2
    have e : t.length = u.length + v.length := by rw [h1, List.length_append]
    refine ⟨by omega, ?_⟩
    have : t.drop (t.length - p.length) = v := by
      rw [h1, List.drop_append_of_le_length (by rw [List.length_append]; omega)]
      rw [List.drop_eq_nil_of_le (by rw [List.length_append]; omega)]; rfl
    rw [this]; exact h3
  · rintro ⟨h1, h2⟩
    refine ⟨t.take (t.length - p.length), t.drop (t.length - p.length), (List.take_append_drop _ _).symm, (gl_plain p _ h).2 ⟨h2, ?_⟩⟩
    rw [List.length_drop]; omega
/-- Behind a star, a piece and a star: where it fits first. -/
theorem star_fit (p q t : List UInt8) (h : (42 : UInt8) ∉ p) (hf : fitL p t = true) : gl (42 :: (p ++ 42 :: q)) t = true ↔ gl (42 :: q) (t.drop p.length) = true := by
  constructor
  · intro hg
    obtain ⟨u, v, h1, h2⟩ := (gl_star _ t).1 hg
    obtain ⟨h3, h4⟩ := (gl_piece p (42 :: q) v h).1 h2
    have e : v.drop p.length = (t.drop p.length).drop u.length := by rw [List.drop_drop, Nat.add_comm, ← List.drop_drop, h1, List.drop_left]
    rw [e] at h4
    rw [← List.take_append_drop u.length (t.drop p.length)]
    exact star_mono q _ _ h4
  · intro hg
    exact (gl_star _ t).2 ⟨[], t, rfl, (gl_piece p (42 :: q) t h).2 ⟨hf, hg⟩⟩
theorem star_none (p q : List UInt8) (h : (42 : UInt8) ∉ p) (hf : ¬ fitL p [] = true) : gl (42 :: (p ++ 42 :: q)) [] = false := by
  rw [Bool.eq_false_iff]
  intro hg
  obtain ⟨u, v, h1, h2⟩ := (gl_star _ []).1 hg
  have := List.append_eq_nil_iff.1 h1.symm
  rw [this.2] at h2
  exact hf ((gl_piece p (42 :: q) [] h).1 h2).1
theorem star_skip (p q t : List UInt8) (b : UInt8) (h : (42 : UInt8) ∉ p) (hf : ¬ fitL p (b :: t) = true) : gl (42 :: (p ++ 42 :: q)) (b :: t) = gl (42 :: (p ++ 42 :: q)) t := by
  rw [Bool.eq_iff_iff]
  constructor
  · intro hg
    obtain ⟨u, v, h1, h2⟩ := (gl_star _ _).1 hg
    cases u with
    | nil =>
      rw [show v = b :: t from h1.symm] at h2
      exact absurd ((gl_piece p (42 :: q) _ h).1 h2).1 hf
    | cons x u =>
      injection h1 with e1 e2
      exact (gl_star _ _).2 ⟨u, v, e2, h2⟩
  · intro hg
    exact star_mono _ [b] t hg
/-! By its end: what the reference asks, row by row. -/
theorem gl_snoc_star (p t : List UInt8) (b : UInt8) : gl (p ++ [42]) (t ++ [b]) = (gl p (t ++ [b]) || gl (p ++ [42]) t) := by
  have hs : ∀ v, gl [42] v = true := fun v => (gl_star [] v).2 ⟨v, [], by simp, by rw [gl]⟩
  rw [Bool.eq_iff_iff, Bool.or_eq_true, gl_app, gl_app]
  constructor
  · rintro ⟨u, v, h, hu, _⟩
    rcases List.eq_nil_or_concat v with hv | ⟨v', x, hv⟩
    · left; rw [hv, List.append_nil] at h; rw [h]; exact hu
    · right
      rw [hv, List.concat_eq_append, ← List.append_assoc] at h
      have := List.append_inj' h rfl
      exact ⟨u, v', this.1, hu, hs _⟩
  · rintro (h | ⟨u, v, h, hu, _⟩)
    · exact ⟨t ++ [b], [], by simp, h, hs _⟩
    · exact ⟨u, v ++ [b], by rw [h, List.append_assoc], hu, hs _⟩
theorem gl_snoc_star_nil (p : List UInt8) : gl (p ++ [42]) [] = gl p [] := by
  have hs : ∀ v, gl [42] v = true := fun v => (gl_star [] v).2 ⟨v, [], by simp, by rw [gl]⟩
  rw [Bool.eq_iff_iff, gl_app]
  constructor
  · rintro ⟨u, v, h, hu, _⟩
    have := List.append_eq_nil_iff.1 h.symm
    rw [this.1] at hu; exact hu
  · intro h; exact ⟨[], [], rfl, h, hs _⟩
theorem gl_snoc_one (p t : List UInt8) (b : UInt8) {c : UInt8} (hc : c ≠ 42) : gl (p ++ [c]) (t ++ [b]) = (gl p t && okC c b) := by
  rw [Bool.eq_iff_iff, Bool.and_eq_true, gl_app]
  constructor
  · rintro ⟨u, v, h, hu, hv⟩
    obtain ⟨b', v', h1, h2, h3⟩ := (gl_one hc [] v).1 hv
    rw [gl_nil] at h3
    subst h3
    rw [h1] at h
    have := List.append_inj' h rfl
    injection this.2 with e1
    rw [this.1, e1]; exact ⟨hu, h2⟩
  · rintro ⟨h1, h2⟩
    exact ⟨t, [b], rfl, h1, (gl_one hc [] _).2 ⟨b, [], rfl, h2, by rw [gl]⟩⟩
theorem gl_snoc_one_nil (p : List UInt8) {c : UInt8} (hc : c ≠ 42) : gl (p ++ [c]) [] = false := by
  rw [Bool.eq_false_iff]
  intro h
  obtain ⟨u, v, h1, _, hv⟩ := (gl_app p [c] []).1 h
  have := List.append_eq_nil_iff.1 h1.symm
  rw [this.2] at hv
  obtain ⟨b, v', h2, _⟩ := (gl_one hc [] []).1 hv
  cases h2
/-- Without stars and marks: itself alone. -/
theorem gl_self : ∀ (p t : List UInt8), (∀ c ∈ p, c ≠ 42 ∧ c ≠ 63) → (gl p t = true ↔ p = t)
  | [], t, _ => by rw [gl_nil]; exact ⟨fun h => h.symm, fun h => h.symm⟩
  | c :: p, t, h => by
    have hc := h c (by simp)
    rw [gl_one hc.1]
    constructor
    · rintro ⟨b, v, h1, h2, h3⟩
      unfold okC at h2
      rw [Bool.or_eq_true, beq_iff_eq, beq_iff_eq] at h2
      rcases h2 with h2 | h2
      · exact absurd h2 hc.2
      · rw [h1, h2, (gl_self p v (fun x hx => h x (List.mem_cons_of_mem _ hx))).1 h3]
    · intro e
      subst e
      exact ⟨c, p, rfl, by unfold okC; simp, (gl_self p p (fun x hx => h x (List.mem_cons_of_mem _ hx))).2 rfl⟩
end Go.Proofs.Ytfcpkehldmehjaa.X
/- What strings.Cut at one byte answers. -/
set_option linter.unusedVariables false
set_option linter.unusedSimpArgs false
namespace Go.Proofs.Ytfcpkehldmehjaa.X
open Go.RowKit Go.Proofs.YtfcpkehldmehjaaW.PrintWords Go.Proofs.YtfcpkehldmehjaaW.PrintLast Go.Proofs.YtfcpkehldmehjaaW.PrintMore
/-- Cut at the first c. -/
def cutL (c : UInt8) : List UInt8 → List UInt8 × List UInt8 × Bool
  | [] => ([], [], false)
  | b :: l => if b = c then ([], l, true) else (b :: (cutL c l).1, (cutL c l).2.1, (cutL c l).2.2)
theorem index_cut (c : UInt8) : ∀ l : List UInt8, (Lib.indexByte l c = -1 ∧ (cutL c l).1 = l ∧ (cutL c l).2.1 = [] ∧ (cutL c l).2.2 = false) ∨
    ∃ n : Nat, Lib.indexByte l c = (n : Int) ∧ n < l.length ∧ (cutL c l).1 = l.take n ∧ (cutL c l).2.1 = l.drop (n + 1) ∧ (cutL c l).2.2 = true
  | [] => Or.inl ⟨rfl, rfl, rfl, rfl⟩
  | b :: l => by
    by_cases h : b = c
    · refine Or.inr ⟨0, ?_, by simp, ?_, ?_, ?_⟩
      · simp [Lib.indexByte, h]
      · simp [cutL, h]
      · simp [cutL, h]
      · simp [cutL, h]
    · rcases index_cut c l with ⟨h1, h2, h3, h4⟩ | ⟨n, h1, h2, h3, h4, h5⟩
      · left
        refine ⟨?_, ?_, ?_, ?_⟩
        · simp [Lib.indexByte, h, h1]
        · simp [cutL, h, h2]
        · simp [cutL, h, h3]
        · simp [cutL, h, h4]
      · right
        refine ⟨n + 1, ?_, by simp; omega, ?_, ?_, ?_⟩
        · simp only [Lib.indexByte, beq_eq_false_iff_ne.2 h, h1]
          rw [if_neg (by simp), if_neg (by first | (simp; done) | (simp; omega))]
          omega
        · simp [cutL, h, h3]
        · simp [cutL, h, h4]
        · simp [cutL, h, h5]
theorem cut_eq (s : ByteArray) (c : UInt8) (hs : s.size ≤ 4611686018427387904) : strings_Cut.f s (tx [c]) = some (tx (cutL c (by_ s)).1, tx (cutL c (by_ s)).2.1, (cutL c (by_ s)).2.2) := by
  unfold strings_Cut.f stringslite_Cut.f stringslite_Index.f
  have h1 : (tx [c]).size = 1 := by rw [size_tx]; rfl
  have h2 : (tx [c])[0]'(by rw [h1]; decide) = c := rfl
  rw [dif_pos h1, h2]
  simp only [Option.bind_some]
  rcases index_cut c (by_ s) with ⟨g1, g2, g3, g4⟩ | ⟨n, g1, g2, g3, g4, g5⟩
  · rw [show Lib.indexByte s.data.toList c = -1 from g1, if_neg (by decide), g2, g3, g4, tx_by]
    rfl
  · have hl := size_by s
    rw [show Lib.indexByte s.data.toList c = (n : Int) from g1, if_pos (by omega), if_pos (by omega), if_pos (by omega), h1]
    have hw : wrap64 ((n : Int) + ((1 : Nat) : Int)) = ((n + 1 : Nat) : Int) := by unfold wrap64; omega
    rw [hw, if_pos (by omega), if_pos (by omega), g3, g4, g5]
    simp only [Option.bind_some, Int.toNat_natCast, ext_head, ext_tail]
theorem cutL_length (c : UInt8) (l : List UInt8) : (cutL c l).1.length ≤ l.length ∧ (cutL c l).2.1.length ≤ l.length := by
  rcases index_cut c l with ⟨g1, g2, g3, g4⟩ | ⟨n, g1, g2, g3, g4, g5⟩
  · rw [g2, g3]; simp
  · rw [g3, g4]; simp; omega
end Go.Proofs.Ytfcpkehldmehjaa.X
/- What the program's and the reference's pattern matching answer. -/
set_option linter.unusedVariables false
set_option linter.unusedSimpArgs false
namespace Go.Proofs.Ytfcpkehldmehjaa.X
open Go.RowKit Go.Proofs.YtfcpkehldmehjaaW.PrintWords Go.Proofs.YtfcpkehldmehjaaW.PrintLast Go.Proofs.YtfcpkehldmehjaaW.PrintMore
theorem okC_nat (c b : UInt8) : okC c b = (decide (c.toNat = 63) || decide (c.toNat = b.toNat)) := by
  unfold okC
  congr 1
  · rw [Bool.eq_iff_iff, beq_iff_eq, decide_eq_true_eq]
    exact ⟨fun h => by rw [h]; rfl, fun h => u8_inj h⟩
  · rw [Bool.eq_iff_iff, beq_iff_eq, decide_eq_true_eq]
    exact ⟨fun h => by rw [h], fun h => u8_inj h⟩
theorem fits_l0 (p t : List UInt8) (hp : p.length ≤ 1000) (hpt : p.length ≤ t.length) : ∀ (n i : Nat), i + n = p.length → Ev (fun k => crit_fits.l0 k (tx p) (tx t) (p.length : Int) (i : Int)) (fitL (p.drop i) (t.drop i))
  | 0, i, hi => by
    rw [List.drop_eq_nil_of_le (show p.length ≤ i by omega), fitL]
    refine Ev.step (fun k => crit_fits.l0.eq_2 ..) ?_
    exact ev_neg (by omega) (Ev.now _)
  | n + 1, i, hi => by
    have h : i < p.length := by omega
    have ht : i < t.length := by omega
    have ih := fits_l0 p t hp hpt n (i + 1) (by omega)
    rw [List.drop_eq_getElem_cons h, List.drop_eq_getElem_cons ht, fitL, okC_nat]
    refine Ev.step (fun k => crit_fits.l0.eq_2 ..) ?_
    rw [size_tx, size_tx, bt_tx p i h, bt_tx t i ht, w64s (n := 10000) (by omega) (by omega)]
    refine ev_pos (by omega) (ev_pos (by omega) (ev_pos (by omega) ?_))
    refine ev_ite (fun g => ?_) (fun g => ?_)
    · rw [decide_eq_true (by omega)]; simpa using ih
    · rw [decide_eq_false (by omega)]
      refine ev_pos (by omega) (ev_ite (fun g2 => ?_) (fun g2 => ?_))
      · rw [decide_eq_true (by omega)]; simpa using ih
      · rw [decide_eq_false (by omega)]; exact Ev.now _
theorem fitL_short : ∀ p t : List UInt8, t.length < p.length → fitL p t = false
  | [], _, h => by simp at h
  | _ :: _, [], _ => rfl
  | c :: p, b :: t, h => by rw [fitL, fitL_short p t (by simpa using h), Bool.and_false]
theorem fits_ev (p t : List UInt8) (hp : p.length ≤ 1000) (ht : t.length ≤ 1000) : Ev (fun k => crit_fits.f k (tx p) (tx t)) (fitL p t) := by
  unfold crit_fits.f
  rw [size_tx, size_tx]
  refine ev_ite (fun g => ?_) (fun g => ?_)
  · rw [fitL_short p t (by omega)]; exact Ev.now _
  · have := fits_l0 p t hp (by omega) p.length 0 (by omega)
    simpa using this
theorem cutC_app (c : UInt8) : ∀ l : List UInt8, (cutL c l).2.2 = true → l = (cutL c l).1 ++ c :: (cutL c l).2.1
  | [], h => by simp [cutL] at h
  | b :: l, h => by
    by_cases e : b = c
    · subst e; rw [cutL, if_pos rfl]; rfl
    · rw [cutL, if_neg e] at h ⊢
      have := cutC_app c l h
      show b :: l = b :: ((cutL c l).1 ++ c :: (cutL c l).2.1)
      rw [← this]
theorem cutC_no (c : UInt8) : ∀ l : List UInt8, c ∉ (cutL c l).1 ∧ ((cutL c l).2.2 = false → (cutL c l).1 = l ∧ (cutL c l).2.1 = [])
  | [] => by simp [cutL]
  | b :: l => by
    by_cases e : b = c
    · subst e; rw [cutL, if_pos rfl]; simp
    · rw [cutL, if_neg e]
      obtain ⟨h1, h2⟩ := cutC_no c l
      refine ⟨by simp only [List.mem_cons, not_or]; exact ⟨fun k => e k.symm, h1⟩, fun h => ?_⟩
      obtain ⟨k1, k2⟩ := h2 h
      exact ⟨by show b :: (cutL c l).1 = b :: l; rw [k1], k2⟩
theorem cut_tx (c : UInt8) (l : List UInt8) (hl : l.length ≤ 1000) : strings_Cut.f (tx l) (tx [c]) = some (tx (cutL c l).1, tx (cutL c l).2.1, (cutL c l).2.2) := by
  have e := cut_eq (tx l) c (by rw [size_tx]; omega)
  rw [by_tx] at e
  exact e
theorem ext_drop (l : List UInt8) (n : Nat) : (tx l).extract n l.length = tx (l.drop n) := by
  have := ext_tail (tx l) n
  rw [size_tx, by_tx] at this
  exact this
/-- Behind a star. -/
theorem like_l1 (p q : List UInt8) (h : (42 : UInt8) ∉ p) (hp : p.length ≤ 1000)
    (hq : ∀ t : List UInt8, t.length ≤ 1000 → Ev (fun k => crit_Like.l0 k (tx t) (tx q) true) (gl (42 :: q) t)) :
    ∀ t : List UInt8, t.length ≤ 1000 → Ev (fun k => crit_Like.l1 k (tx t) (tx p) (tx q) true) (gl (42 :: (p ++ 42 :: q)) t)
  | t, ht => by
    refine Ev.step (fun k => crit_Like.l1.eq_2 ..) ?_
    refine ev_bind (fits_ev p t hp ht) (ev_ite (fun g => ?_) (fun g => ?_))
    · have hl := fitL_len p t g
      have e : gl (42 :: (p ++ 42 :: q)) t = gl (42 :: q) (t.drop p.length) := by rw [Bool.eq_iff_iff]; exact star_fit p q t h g
      rw [e, size_tx, size_tx]
      refine ev_pos (by omega) (ev_pos (by omega) ?_)
      rw [ext_drop]
      exact hq _ (by rw [List.length_drop]; omega)
    · cases t with
      | nil =>
        rw [star_none p q h g]
        exact ev_pos (by rw [toList_by, by_tx]) (Ev.now _)
      | cons b t =>
        rw [star_skip p q t b h g]
        refine ev_neg (by rw [toList_by, by_tx]; simp) ?_
        rw [size_tx]
        refine ev_pos (by simp; omega) ?_
        rw [ext_drop]
        exact like_l1 p q h hp hq t (by simp at ht; omega)
theorem like_l0 : ∀ (n : Nat) (rest : List UInt8), rest.length < n → rest.length ≤ 1000 → ∀ t : List UInt8, t.length ≤ 1000 → Ev (fun k => crit_Like.l0 k (tx t) (tx rest) true) (gl (42 :: rest) t) := by
  intro n
  induction n with
  | zero => intro rest hr; omega
  | succ n ih =>
    intro rest hr hr2 t ht
    obtain ⟨h1, h2⟩ := cutC_no 42 rest
    have hc := cutL_length 42 rest
    refine Ev.step (fun k => crit_Like.l0.eq_2 ..) (ev_pos rfl ?_)
    refine ev_bind (ev_some fun _ => cut_tx 42 rest hr2) ?_
    cases hs : (cutL 42 rest).2.2 with
    | true =>
      refine ev_pos rfl ?_
      have e := cutC_app 42 rest hs
      have hlen : (cutL 42 rest).2.1.length < rest.length := by
        have := congrArg List.length e
        rw [List.length_append, List.length_cons] at this
        omega
      have := like_l1 (cutL 42 rest).1 (cutL 42 rest).2.1 h1 (by omega) (fun t' ht' => ih _ (by omega) (by omega) t' ht') t ht
      rw [← e] at this
      exact this
    | false =>
      obtain ⟨k1, k2⟩ := h2 hs
      refine ev_neg (by simp) ?_
      show Ev (fun k => if ((tx t).size : Int) ≥ ((tx (cutL 42 rest).1).size : Int) then _ else _) _
      rw [k1] at h1 ⊢
      rw [size_tx, size_tx]
      refine ev_ite (fun g => ?_) (fun g => ?_)
      · have ew : wrap64 ((t.length : Int) - (rest.length : Int)) = ((t.length - rest.length : Nat) : Int) := by rw [w64 (by omega) (by omega)]; omega
        rw [ew]
        refine ev_pos (by omega) (ev_pos (by omega) ?_)
        rw [Int.toNat_natCast, ext_drop]
        have e : gl (42 :: rest) t = fitL rest (t.drop (t.length - rest.length)) := by
          rw [Bool.eq_iff_iff, star_last rest t h1]
          exact ⟨fun h => h.2, fun h => ⟨by omega, h⟩⟩
        rw [e]
        refine ev_bind (fits_ev rest _ hr2 (by rw [List.length_drop]; omega)) (Ev.now _)
      · have e : gl (42 :: rest) t = false := by
          rw [Bool.eq_false_iff]
          intro h
          have := ((star_last rest t h1).1 h).1
          omega
        rw [e]
        exact Ev.now _
theorem like_ev (p t : List UInt8) (hp : p.length ≤ 1000) (ht : t.length ≤ 1000) : Ev (fun k => crit_Like.f k (tx p) (tx t)) (gl p t) := by
  unfold crit_Like.f
  obtain ⟨h1, h2⟩ := cutC_no 42 p
  have hc := cutL_length 42 p
  refine ev_bind (ev_some fun _ => cut_tx 42 p hp) (ev_bind (fits_ev _ t (by omega) ht) ?_)
  have j0t : ∀ (a b c : ByteArray) (d : Bool), Ev (fun k => crit_Like.j0 k a b c d true) false := fun a b c d => Ev.step (fun k => crit_Like.j0.eq_2 ..) (ev_pos rfl (Ev.now _))
  have j0f : ∀ (d : Bool) (r : Bool), (cutL 42 p).1.length ≤ t.length → Ev (fun k => crit_Like.l0 k (tx (t.drop (cutL 42 p).1.length)) (tx (cutL 42 p).2.1) d) r → Ev (fun k => crit_Like.j0 k (tx t) (tx (cutL 42 p).1) (tx (cutL 42 p).2.1) d false) r := by
    intro d r hl h
    refine Ev.step (fun k => crit_Like.j0.eq_2 ..) (ev_neg (by simp) ?_)
    rw [size_tx, size_tx]
    refine ev_pos (by omega) (ev_pos (by omega) ?_)
    rw [ext_drop]
    exact h
  cases hs : (cutL 42 p).2.2 with
  | true =>
    have e := cutC_app 42 p hs
    have eg : gl p t = (fitL (cutL 42 p).1 t && gl (42 :: (cutL 42 p).2.1) (t.drop (cutL 42 p).1.length)) := by
      conv => lhs; rw [e]
      rw [Bool.eq_iff_iff, gl_piece _ _ _ h1, Bool.and_eq_true]
    rw [eg]
    cases hf : fitL (cutL 42 p).1 t with
    | false => exact ev_neg (by simp) (j0t _ _ _ _)
    | true =>
      refine ev_pos rfl (ev_pos rfl ?_)
      rw [Bool.true_and]
      exact j0f _ _ (fitL_len _ _ hf) (like_l0 _ _ (Nat.lt_succ_self _) (by omega) _ (by rw [List.length_drop]; omega))
  | false =>
    obtain ⟨k1, k2⟩ := h2 hs
    have hp1 : (42 : UInt8) ∉ p := by rw [← k1]; exact h1
    cases hf : fitL (cutL 42 p).1 t with
    | false =>
      have eg : gl p t = false := by
        rw [Bool.eq_false_iff]
        intro h
        have := ((gl_plain p t hp1).1 h).1
        rw [k1] at hf
        rw [hf] at this
        cases this
      rw [eg]
      exact ev_neg (by simp) (j0t _ _ _ _)
    | true =>
      refine ev_pos rfl (ev_neg (by simp) ?_)
      rw [size_tx, size_tx]
      by_cases hl : (cutL 42 p).1.length = t.length
      · have eg : gl p t = true := (gl_plain p t hp1).2 ⟨by rw [k1] at hf; exact hf, by rw [k1] at hl; exact hl⟩
        have eb : (((cutL 42 p).1.length : Int) != (t.length : Int)) = false := by rw [hl]; simp
        rw [eg, eb]
        refine j0f _ _ (by omega) ?_
        refine Ev.step (fun k => crit_Like.l0.eq_2 ..) (ev_neg (by simp) (Ev.now _))
      · have eg : gl p t = false := by
          rw [Bool.eq_false_iff]
          intro h
          have := ((gl_plain p t hp1).1 h).2
          rw [k1] at hl
          exact hl this
        have eb : (((cutL 42 p).1.length : Int) != (t.length : Int)) = true := by rw [bne_iff_ne]; omega
        rw [eg, eb]
        exact j0t _ _ _ _
/-! The reference: row by row. -/
def rowF (p t : List UInt8) (i k : Nat) : Bool := gl (p.take i) (t.take k)
def rowW (p t : List UInt8) (i : Nat) : List Bool := (List.range (t.length + 1)).map (rowF p t i)
/-- A row of which the first k are laid. -/
def partW (p t : List UInt8) (i k : Nat) : List Bool := (List.range k).map (rowF p t i) ++ List.replicate (t.length + 1 - k) false
theorem partW_len (p t : List UInt8) (i k : Nat) (h : k ≤ t.length + 1) : (partW p t i k).length = t.length + 1 := by
  unfold partW; simp; omega
theorem partW_set (p t : List UInt8) (i k : Nat) (h : k ≤ t.length) (v : Bool) (hv : v = rowF p t i k) : (partW p t i k).set k v = partW p t i (k + 1) := by
  unfold partW
  have e : t.length + 1 - k = (t.length + 1 - (k + 1)) + 1 := by omega
  rw [List.set_append_right _ _ (by simp), e, List.replicate_succ]
  simp only [List.length_map, List.length_range, Nat.sub_self, List.set_cons_zero]
  rw [List.range_succ, List.map_append, List.append_assoc, hv]
  rfl
theorem partW_skip (p t : List UInt8) (i k : Nat) (h : k ≤ t.length) (hv : rowF p t i k = false) : partW p t i k = partW p t i (k + 1) := by
  rw [← partW_set p t i k h false hv.symm]
  symm
  unfold partW
  have e : t.length + 1 - k = (t.length + 1 - (k + 1)) + 1 := by omega
  rw [List.set_append_right _ _ (by simp), e, List.replicate_succ]
  simp only [List.length_map, List.length_range, Nat.sub_self, List.set_cons_zero]
theorem partW_get (p t : List UInt8) (i k j : Nat) (h : j < k) (hk : k ≤ t.length + 1) : rdOf false (partW p t i k) (j : Int) = rowF p t i j := by
  unfold rdOf partW
  rw [Int.toNat_natCast, List.getD_eq_getElem?_getD, List.getElem?_append_left (by simp; omega), List.getElem?_map, List.getElem?_range h]; rfl
theorem rowW_get (p t : List UInt8) (i j : Nat) (h : j ≤ t.length) : rdOf false (rowW p t i) (j : Int) = rowF p t i j := by
  unfold rdOf rowW
  rw [Int.toNat_natCast, List.getD_eq_getElem?_getD, List.getElem?_map, List.getElem?_range (by omega)]; rfl
theorem partW_all (p t : List UInt8) (i : Nat) : partW p t i (t.length + 1) = rowW p t i := by
  unfold partW rowW
  rw [Nat.sub_self, List.replicate_zero, List.append_nil]
section
variable (p t : List UInt8) (hp : p.length ≤ 1000) (ht : t.length ≤ 1000) (i : Nat) (hi : i < p.length)
include hi in
theorem take_snoc : p.take (i + 1) = p.take i ++ [p[i]] := by rw [List.take_add_one, List.getElem?_eq_getElem hi]; rfl
include hi in
theorem row_star_zero (hc : p[i] = 42) : rowF p t (i + 1) 0 = rowF p t i 0 := by
  unfold rowF; rw [take_snoc p i hi, hc, List.take_zero, gl_snoc_star_nil]
include hi in
theorem row_star_succ (hc : p[i] = 42) (k : Nat) (hk : k < t.length) : rowF p t (i + 1) (k + 1) = (rowF p t i (k + 1) || rowF p t (i + 1) k) := by
  unfold rowF; rw [take_snoc p i hi, hc, take_snoc t k hk, gl_snoc_star]
include hi in
theorem row_one_zero (hc : p[i] ≠ 42) : rowF p t (i + 1) 0 = false := by
  unfold rowF; rw [take_snoc p i hi, List.take_zero, gl_snoc_one_nil _ hc]
include hi in
theorem row_one_succ (hc : p[i] ≠ 42) (k : Nat) (hk : k < t.length) : rowF p t (i + 1) (k + 1) = (rowF p t i k && okC p[i] t[k]) := by
  unfold rowF; rw [take_snoc p i hi, take_snoc t k hk, gl_snoc_one _ _ _ hc]
include hp ht hi in
theorem rlike_l1 (r : Bool) (hn : Ev (fun k => oculusref17_Like.l0 k (tx p) (tx t) (rowW p t (i + 1)) ((i + 1 : Nat) : Int)) r) : ∀ (m k : Nat), k + m = t.length + 1 → Ev (fun n => oculusref17_Like.l1 n (tx p) (tx t) (rowW p t i) (i : Int) (partW p t (i + 1) k) (k : Int)) r
  | 0, k, hk => by
    obtain rfl : k = t.length + 1 := by omega
    refine Ev.step (fun n => oculusref17_Like.l1.eq_2 ..) ?_
    rw [size_tx, partW_all, w64s (i := i) (n := 10000) (by omega) (by omega)]
    exact ev_neg (by omega) hn
  | m + 1, k, hk => by
    have hk2 : k ≤ t.length := by omega
    have ih := rlike_l1 r hn m (k + 1) (by omega)
    have hlen : (rowW p t i).length = t.length + 1 := by unfold rowW; simp
    have hplen := partW_len p t (i + 1) k (by omega)
    have hset : ∀ v, v = rowF p t (i + 1) k → Ev (fun n => oculusref17_Like.l1 n (tx p) (tx t) (rowW p t i) (i : Int) ((partW p t (i + 1) k).set ((k : Int)).toNat v) (wrap64 ((k : Int) + 1))) r := by
      intro v hv
      rw [Int.toNat_natCast, partW_set p t (i + 1) k hk2 v hv, w64s (n := 10000) (by omega) (by omega)]
      exact ih
    have hb := u8_lt p[i]
    refine Ev.step (fun n => oculusref17_Like.l1.eq_2 ..) ?_
    rw [size_tx, size_tx, bt_tx p i hi, hlen, hplen, rowW_get p t i k hk2]
    refine ev_pos (by omega) (ev_pos (by omega) (ev_pos (by omega) ?_))
    refine ev_ite (fun hc => ?_) (fun hc => ?_)
    · have hc' : p[i] = 42 := u8_inj (by have : (42 : UInt8).toNat = 42 := rfl; omega)
      refine ev_pos (by omega) (ev_pos (by omega) (ev_ite (fun g => ?_) (fun g => ?_)))
      · refine ev_pos (by omega) (hset true ?_)
        cases k with
        | zero => rw [row_star_zero p t i hi hc', g]
        | succ k => rw [row_star_succ p t i hi hc' k (by omega), g]; rfl
      · have g' : rowF p t i k = false := by simpa using g
        refine ev_ite (fun g0 => ?_) (fun g0 => ?_)
        · obtain ⟨j, rfl⟩ : ∃ j, k = j + 1 := ⟨k - 1, by omega⟩
          have ew : wrap64 (((j + 1 : Nat) : Int) - 1) = (j : Int) := by rw [w64 (by omega) (by omega)]; omega
          rw [ew]
          refine ev_pos (by omega) (ev_pos (by omega) (ev_pos (by omega) (hset _ ?_)))
          rw [partW_get p t (i + 1) (j + 1) j (by omega) (by omega), row_star_succ p t i hi hc' j (by omega), g']; rfl
        · obtain rfl : k = 0 := by omega
          refine ev_pos (by omega) (hset false ?_)
          rw [row_star_zero p t i hi hc', g']
    · have hc' : p[i] ≠ 42 := fun e => hc (by rw [e]; rfl)
      refine ev_ite (fun g0 => ?_) (fun g0 => ?_)
      · obtain ⟨j, rfl⟩ : ∃ j, k = j + 1 := ⟨k - 1, by omega⟩
        have hj : j < t.length := by omega
        have ew : wrap64 (((j + 1 : Nat) : Int) - 1) = (j : Int) := by rw [w64 (by omega) (by omega)]; omega
        have hrow := row_one_succ p t i hi hc' j hj
        rw [okC_nat] at hrow
        rw [ew, rowW_get p t i j (by omega), bt_tx t j hj]
        refine ev_pos (by omega) (ev_pos (by omega) (ev_ite (fun g => ?_) (fun g => ?_)))
        · refine ev_ite (fun g2 => ?_) (fun g2 => ?_)
          · refine ev_pos (by omega) (ev_pos (by omega) (hset true ?_))
            rw [hrow, g, decide_eq_true (by omega)]; rfl
          · refine ev_pos (by omega) (ev_pos (by omega) (ev_pos (by omega) (hset _ ?_)))
            rw [hrow, g, decide_eq_false (show ¬ p[i].toNat = 63 by omega), Bool.true_and, Bool.false_or, Bool.eq_iff_iff, beq_iff_eq, decide_eq_true_eq]
            omega
        · have g' : rowF p t i j = false := by simpa using g
          refine ev_pos (by omega) (ev_pos (by omega) (hset false ?_))
          rw [hrow, g']; rfl
      · obtain rfl : k = 0 := by omega
        rw [w64s (n := 10000) (by omega) (by omega)]
        rw [partW_skip p t (i + 1) 0 (by omega) (row_one_zero p t i hi hc')]
        exact ih
end
theorem rlike_l0 (p t : List UInt8) (hp : p.length ≤ 1000) (ht : t.length ≤ 1000) : ∀ (m i : Nat), i + m = p.length → Ev (fun k => oculusref17_Like.l0 k (tx p) (tx t) (rowW p t i) (i : Int)) (gl p t)
  | 0, i, hi => by
    obtain rfl : i = p.length := by omega
    have hlen : (rowW p t p.length).length = t.length + 1 := by unfold rowW; simp
    refine Ev.step (fun k => oculusref17_Like.l0.eq_2 ..) ?_
    rw [size_tx, size_tx, hlen, rowW_get p t _ _ (Nat.le_refl _)]
    refine ev_neg (by omega) (ev_pos (by omega) (ev_pos (by omega) ?_))
    unfold rowF
    rw [List.take_length, List.take_length]
    exact Ev.now _
  | m + 1, i, hi => by
    have ih := rlike_l0 p t hp ht m (i + 1) (by omega)
    have ew : wrap64 ((t.length : Int) + 1) = ((t.length + 1 : Nat) : Int) := by rw [w64 (by omega) (by omega)]; omega
    refine Ev.step (fun k => oculusref17_Like.l0.eq_2 ..) ?_
    rw [size_tx, size_tx, ew, Int.toNat_natCast]
    refine ev_pos (by omega) (ev_pos (by omega) (ev_pos (by omega) ?_))
    have := rlike_l1 p t hp ht i (by omega) _ ih (t.length + 1) 0 (by omega)
    exact this
theorem rlike_ev (p t : List UInt8) (hp : p.length ≤ 1000) (ht : t.length ≤ 1000) : Ev (fun k => oculusref17_Like.f k (tx p) (tx t)) (gl p t) := by
  unfold oculusref17_Like.f
  have ew : wrap64 ((t.length : Int) + 1) = ((t.length + 1 : Nat) : Int) := by rw [w64 (by omega) (by omega)]; omega
  rw [size_tx, ew, Int.toNat_natCast]
  refine ev_pos (by omega) (ev_pos (by omega) (ev_bsome ?_))
  refine ev_pos (by rw [List.length_replicate]; omega) ?_
  have e : (List.replicate (t.length + 1) false).set ((0 : Int)).toNat true = rowW p t 0 := by
    unfold rowW
    rw [List.range_succ_eq_map, List.map_cons, List.map_map, List.replicate_succ]
    show true :: List.replicate t.length false = _
    congr 1
    · show true = gl (p.take 0) (t.take 0)
      rw [List.take_zero, List.take_zero, gl]
    · apply List.ext_getElem
      · simp
      · intro j h1 h2
        simp only [List.getElem_replicate, List.getElem_map, List.getElem_range, Function.comp]
        symm
        rw [Bool.eq_false_iff]
        intro h
        have h3 : gl (p.take 0) (t.take (j + 1)) = true := h
        rw [List.take_zero, gl_nil] at h3
        have := congrArg List.length h3
        rw [List.length_take, List.length_nil] at this
        rw [List.length_replicate] at h1
        omega
  rw [e]
  exact rlike_l0 p t hp ht p.length 0 (by omega)
end Go.Proofs.Ytfcpkehldmehjaa.X
/- What the program's reading of decimals answers. -/
set_option linter.unusedVariables false
set_option linter.unusedSimpArgs false
namespace Go.Proofs.Ytfcpkehldmehjaa.X
open Go.RowKit Go.Proofs.YtfcpkehldmehjaaW.PrintWords Go.Proofs.YtfcpkehldmehjaaW.PrintLast Go.Proofs.YtfcpkehldmehjaaW.PrintMore
def resR (x : Option Int) : Int × Bool := match x with
  | some v => (v, true)
  | none => (0, false)
def resN (x : Option Nat) : Int × Bool := match x with
  | some v => ((v : Int), true)
  | none => (0, false)
theorem may_nat (n : Nat) : dec_May.f (n : Int) = some true := by
  unfold dec_May.f
  rw [Option.some.injEq, bne_iff_ne]
  omega
theorem size_nat (n : Nat) (h : n ≤ 9223372036854775807) : dec_size.f (n : Int) = some (n : Int) := by
  unfold dec_size.f
  rw [if_neg (by omega), IntKind.wrap_u64]
  congr 1
  omega
theorem sign_nn (n : Nat) : ∃ s : Int, dec_Sign.f (n : Int) = some s ∧ 0 ≤ s ∧ s ≤ 1 := by
  unfold dec_Sign.f
  rw [if_neg (by omega)]
  by_cases h : (n : Int) > 0
  · rw [if_pos h]; exact ⟨1, rfl, by omega, by omega⟩
  · rw [if_neg h]; exact ⟨0, rfl, by omega, by omega⟩
theorem div_one (k : Nat) (p : Nat) (hp : p < 18446744073709551616) : bits_Div64.f k 0 (p : Int) 1 = some ((p : Int), 0) := by
  unfold bits_Div64.f
  rw [if_neg (by omega), if_neg (by omega), if_pos rfl, Int.tdiv_one, Int.tmod_one, IntKind.wrap_u64, Int.emod_eq_of_lt (by omega) (by omega)]
theorem scaled_ev (a b : Nat) (ha : a ≤ 9223372036854775807) (hb : b ≤ 10000) : Ev (fun k => dec_Scaled.f k (a : Int) (b : Int) 1) (resN (if a * b ≤ 9223372036854775807 then some (a * b) else none)) := by
  unfold dec_Scaled.f
  have m1 : dec_May.f (1 : Int) = some true := may_nat 1
  have s1 : dec_size.f (1 : Int) = some (1 : Int) := size_nat 1 (by omega)
  refine ev_bind (ev_some fun _ => may_nat a) (ev_pos rfl (ev_bind (ev_some fun _ => may_nat b) (ev_pos rfl (ev_bind (ev_some fun _ => m1) (ev_pos rfl ?_)))))
  refine Ev.step (fun k => dec_Scaled.j0.eq_2 ..) (ev_neg (by simp) ?_)
  refine ev_bind (ev_some fun _ => s1) (ev_bind (ev_some fun _ => size_nat a ha) (ev_bind (ev_some fun _ => size_nat b (by omega)) ?_))
  have em : bits_Mul64.f (a : Int) (b : Int) = some (((a * b / 18446744073709551616 : Nat) : Int), ((a * b % 18446744073709551616 : Nat) : Int)) := by
    unfold bits_Mul64.f
    rw [if_pos (by omega)]
    rfl
  refine ev_bind (ev_some fun _ => em) ?_
  generalize a * b = p at *
  refine ev_ite (fun g => ?_) (fun g => ?_)
  · rw [if_neg (by have g' : ((p / 18446744073709551616 : Nat) : Int) ≥ 1 := g; omega)]
    exact Ev.now _
  · have g' : ¬ ((p / 18446744073709551616 : Nat) : Int) ≥ 1 := g
    have e0 : p / 18446744073709551616 = 0 := by omega
    have e1 : p % 18446744073709551616 = p := by omega
    show Ev (fun k => (bits_Div64.f k ((p / 18446744073709551616 : Nat) : Int) ((p % 18446744073709551616 : Nat) : Int) 1).bind fun bt109 => (if bt109.2 ≥ (IntKind.u64.wrap (1 - bt109.2)) then (dec_Scaled.j1 k (a : Int) (b : Int) 1 (IntKind.u64.wrap (bt109.1 + 1))) else (dec_Scaled.j1 k (a : Int) (b : Int) 1 bt109.1))) _
    rw [e0, e1]
    refine ev_bind (ev_some fun k => div_one k p (by omega)) ?_
    refine ev_neg (by show ¬ (0 : Int) ≥ IntKind.u64.wrap (1 - 0); decide) ?_
    refine Ev.step (fun k => dec_Scaled.j1.eq_2 ..) ?_
    refine ev_ite (fun g2 => ?_) (fun g2 => ?_)
    · have g2' : (p : Int) > 9223372036854775807 := g2
      rw [if_neg (by omega)]
      exact Ev.now _
    · have g2' : ¬ (p : Int) > 9223372036854775807 := g2
      obtain ⟨x, hx, x0, x1⟩ := sign_nn a
      obtain ⟨y, hy, y0, y1⟩ := sign_nn b
      obtain ⟨z, hz, z0, z1⟩ := sign_nn 1
      rw [if_pos (by omega)]
      refine ev_bind (ev_some fun _ => hx) (ev_bind (ev_some fun _ => hy) (ev_bind (ev_some fun _ => hz) ?_))
      have hxy : x * y = 0 ∨ x * y = 1 := by
        have hx' : x = 0 ∨ x = 1 := by omega
        have hy' : y = 0 ∨ y = 1 := by omega
        rcases hx' with rfl | rfl <;> rcases hy' with rfl | rfl <;> simp
      have hs : ¬ wrap64 (wrap64 (x * y) * z) < 0 := by
        have hz' : z = 0 ∨ z = 1 := by omega
        rcases hxy with e | e <;> rcases hz' with rfl | rfl <;> rw [e] <;> decide +kernel
      refine ev_neg hs ?_
      show Ev (fun _ => some (wrap64 (p : Int), true)) _
      rw [w64 (x := (p : Int)) (by omega) (by omega)]
      exact Ev.now _
theorem add_ev (a b : Nat) (ha : a ≤ 9223372036854775807) (hb : b ≤ 9223372036854775807) : Ev (fun k => dec_Add.f k (a : Int) (b : Int)) (resN (if a + b ≤ 9223372036854775807 then some (a + b) else none)) := by
  unfold dec_Add.f
  have j0 : ∀ (s : Int) (r : Bool), Ev (fun k => dec_Add.j0 k s r) (if r = true then (0, false) else (s, true)) := by
    intro s r
    refine Ev.step (fun k => dec_Add.j0.eq_2 ..) ?_
    cases r with
    | true => exact ev_pos rfl (Ev.now _)
    | false => exact ev_neg (by simp) (Ev.now _)
  refine ev_bind (ev_some fun _ => may_nat a) (ev_pos rfl (ev_bind (ev_some fun _ => may_nat b) (ev_pos rfl (ev_bind (ev_some fun _ => rfl) ?_))))
  by_cases h : a + b ≤ 9223372036854775807
  · rw [if_pos h]
    have ew : wrap64 ((a : Int) + (b : Int)) = ((a + b : Nat) : Int) := by rw [w64 (by omega) (by omega)]; omega
    rw [ew]
    refine ev_pos (by rw [bne_iff_ne]; omega) ?_
    have jf := j0 ((a + b : Nat) : Int) false
    refine ev_ite (fun g1 => ?_) (fun g1 => ?_)
    · refine ev_ite (fun g2 => ?_) (fun g2 => ?_)
      · exact ev_neg (by omega) (ev_neg (by omega) jf)
      · exact ev_neg (by omega) jf
    · exact ev_neg (by omega) jf
  · rw [if_neg h]
    have ew : wrap64 ((a : Int) + (b : Int)) = ((a + b : Nat) : Int) - 18446744073709551616 := by unfold wrap64; omega
    rw [ew]
    have jt := j0 (((a + b : Nat) : Int) - 18446744073709551616) true
    refine ev_ite (fun _ => ?_) (fun _ => jt)
    exact ev_pos (by omega) (ev_pos (by omega) (ev_pos (by omega) jt))
/-! Whole numbers. -/
def numD : Nat → List UInt8 → Option Nat
  | a, [] => some a
  | a, c :: l => if 48 ≤ c.toNat ∧ c.toNat ≤ 57 then (if a * 10 + (c.toNat - 48) ≤ 9223372036854775807 then numD (a * 10 + (c.toNat - 48)) l else none) else none
def resW (x : Option Nat) (b : Bool) : Int × Bool := match x with
  | some v => ((v : Int), b)
  | none => (0, false)
theorem number_l0 (l : List UInt8) (hl : l.length ≤ 1000) : ∀ (n i : Nat), i + n = l.length → ∀ a : Nat, a ≤ 9223372036854775807 → Ev (fun k => digits_number.l0 k (tx l) (a : Int) (l.length : Int) (i : Int)) (resW (numD a (l.drop i)) (decide (l ≠ [])))
  | 0, i, hi, a, ha => by
    rw [List.drop_eq_nil_of_le (by omega), numD]
    refine Ev.step (fun k => digits_number.l0.eq_2 ..) (ev_neg (by omega) ?_)
    have e : ((tx l).toList != ([] : List UInt8)) = decide (l ≠ []) := by
      rw [toList_by, by_tx, Bool.eq_iff_iff, bne_iff_ne, decide_eq_true_eq]
    rw [e]
    exact Ev.now _
  | n + 1, i, hi, a, ha => by
    have h : i < l.length := by omega
    have hb := u8_lt l[i]
    rw [List.drop_eq_getElem_cons h, numD]
    refine Ev.step (fun k => digits_number.l0.eq_2 ..) ?_
    rw [size_tx, bt_tx l i h]
    refine ev_pos (by omega) (ev_pos (by omega) (ev_pos (by omega) ?_))
    have j1t : Ev (fun k => digits_number.j1 k (tx l) (a : Int) (i : Int) (l.length : Int) (i : Int) true) (0, false) := Ev.step (fun k => digits_number.j1.eq_2 ..) (ev_pos rfl (Ev.now _))
    refine ev_ite (fun g => ?_) (fun g => ?_)
    · rw [if_neg (by omega)]; exact j1t
    · by_cases g2 : (l[i].toNat : Int) > 57
      · rw [if_neg (by omega), decide_eq_true g2]; exact j1t
      · rw [if_pos (by omega), decide_eq_false g2]
        refine Ev.step (fun k => digits_number.j1.eq_2 ..) (ev_neg (by simp) ?_)
        refine ev_bind (scaled_ev a 10 ha (by omega)) ?_
        rw [size_tx, bt_tx l i h]
        refine ev_pos (by omega) (ev_pos (by omega) ?_)
        have ed : ((l[i].toNat : Int) - 48) % 256 = ((l[i].toNat - 48 : Nat) : Int) := by omega
        rw [ed]
        by_cases g3 : a * 10 ≤ 9223372036854775807
        · rw [if_pos g3]
          refine ev_bind (add_ev (a * 10) (l[i].toNat - 48) g3 (by omega)) (ev_pos rfl ?_)
          by_cases g4 : a * 10 + (l[i].toNat - 48) ≤ 9223372036854775807
          · rw [if_pos g4, if_pos g4]
            refine ev_pos rfl ?_
            rw [w64s (n := 10000) (by omega) (by omega)]
            exact number_l0 l hl n (i + 1) (by omega) _ g4
          · rw [if_neg g4, if_neg g4]
            exact ev_neg (by simp [resN]) (Ev.now _)
        · rw [if_neg g3, if_neg (by omega)]
          refine ev_bind (add_ev 0 (l[i].toNat - 48) (by omega) (by omega)) (ev_neg (by simp [resN]) (Ev.now _))
theorem number_ev (l : List UInt8) (hl : l.length ≤ 1000) : Ev (fun k => digits_number.f k (tx l)) (resW (numD 0 l) (decide (l ≠ []))) := by
  unfold digits_number.f
  rw [size_tx]
  have := number_l0 l hl l.length 0 (by omega) 0 (by omega)
  simpa using this
theorem numD_lt : ∀ (l : List UInt8) (a v : Nat), numD a l = some v → v < (a + 1) * 10 ^ l.length
  | [], a, v, h => by
    rw [numD] at h
    obtain rfl := Option.some.inj h
    simp
  | c :: l, a, v, h => by
    rw [numD] at h
    split at h
    · split at h
      · have := numD_lt l _ v h
        have hb : a * 10 + (c.toNat - 48) + 1 ≤ (a + 1) * 10 := by omega
        have h2 := Nat.mul_le_mul_right (10 ^ l.length) hb
        rw [List.length_cons, Nat.pow_succ, Nat.mul_comm (10 ^ l.length) 10, ← Nat.mul_assoc]
        omega
      · cases h
    · cases h
/-! Decimals. -/
def signed (minus : Bool) (v : Nat) : Int := if minus = true then -(v : Int) else (v : Int)
def putD (minus : Bool) (x y : Nat) : Option Int := if x * 10000 + y ≤ 9223372036854775807 then some (signed minus (x * 10000 + y)) else none
theorem put_ev (minus : Bool) (x y : Nat) (hx : x ≤ 9223372036854775807) (hy : y ≤ 99999999) : Ev (fun k => digits_put.f k (x : Int) (y : Int) minus) (resR (putD minus x y)) := by
  unfold digits_put.f putD
  have j0t : ∀ (b : Bool) (s : Int), Ev (fun k => digits_put.j0 k b s true) (0, false) := fun b s => Ev.step (fun k => digits_put.j0.eq_2 ..) (ev_pos rfl (Ev.now _))
  have hof : Ev (fun k => dec_Of.f k (x : Int)) (resN (if x * 10000 ≤ 9223372036854775807 then some (x * 10000) else none)) := by
    unfold dec_Of.f
    exact ev_bind (scaled_ev x 10000 hx (by omega)) (Ev.now _)
  refine ev_bind hof ?_
  by_cases g : x * 10000 ≤ 9223372036854775807
  · rw [if_pos g]
    refine ev_bind (add_ev (x * 10000) y g (by omega)) (ev_pos rfl ?_)
    by_cases g2 : x * 10000 + y ≤ 9223372036854775807
    · rw [if_pos g2, if_pos g2]
      generalize x * 10000 + y = s at *
      refine Ev.step (fun k => digits_put.j0.eq_2 ..) (ev_neg (by simp [resN]) ?_)
      show Ev (fun _ => if minus = true then ((dec_Neg.f ((s : Nat) : Int)).bind fun bt105 => (some (bt105.1, bt105.2))) else (some (((s : Nat) : Int), true))) (resR (some (signed minus s)))
      unfold signed
      cases minus with
      | false => exact ev_neg (by simp) (Ev.now _)
      | true =>
        refine ev_pos rfl (ev_some fun _ => ?_)
        unfold dec_Neg.f
        rw [may_nat, Option.bind_some, if_pos rfl, w64 (by omega) (by omega)]; rfl
    · rw [if_neg g2, if_neg g2]
      exact j0t _ _
  · rw [if_neg g, if_neg (Nat.not_le.2 (Nat.lt_of_lt_of_le (Nat.not_le.1 g) (Nat.le_add_right _ _)))]
    have h0 := add_ev 0 y (by omega) (by omega)
    refine ev_bind h0 (ev_neg (by simp [resN]) (j0t _ _))
/-- The decimal of a text without its sign. -/
def unsD (minus : Bool) (l : List UInt8) : Option Int :=
  match numD 0 (cutL 46 l).1 with
  | none => none
  | some x => if (cutL 46 l).1 = [] then none else
    if (cutL 46 l).2.2 = true then
      match numD 0 (cutL 46 l).2.1 with
      | none => none
      | some y => if (cutL 46 l).2.1 = [] ∨ (cutL 46 l).2.1.length > 4 then none else putD minus x (y * 10 ^ (4 - (cutL 46 l).2.1.length))
    else putD minus x 0
def isMinus : List UInt8 → Bool
  | [] => false
  | c :: _ => c == 45
def dRead (l : List UInt8) : Option Int := if l.length > 40 then none else unsD (isMinus l) (if isMinus l = true then l.drop 1 else l)
theorem cutPre (l : List UInt8) : strings_CutPrefix.f (tx l) (⟨#[45]⟩ : ByteArray) = some (tx (if isMinus l = true then l.drop 1 else l), isMinus l) := by
  unfold strings_CutPrefix.f stringslite_CutPrefix.f stringslite_HasPrefix.f
  have e1 : (⟨#[45]⟩ : ByteArray) = tx [45] := rfl
  rw [e1, size_tx, size_tx]
  have e45 : (([45] : List UInt8).length : Int) = 1 := rfl
  have e45n : ([45] : List UInt8).length = 1 := rfl
  rw [e45, e45n]
  cases l with
  | nil => rfl
  | cons c l =>
    rw [if_pos (by simp; omega), if_pos (by omega), if_pos (by simp; omega)]
    have e2 : ((tx (c :: l)).extract 0 1).toList = [c] := by rw [ext_head, by_tx, toList_by, by_tx]; rfl
    have e3 : (tx [45]).toList = [45] := by rw [toList_by, by_tx]
    rw [e2, e3, Option.bind_some]
    have e4 : (([c] : List UInt8) == [45]) = (c == 45) := by simp
    rw [e4]
    show (Option.bind (if (c == 45) = true then _ else _) _) = some (tx (if (c == 45) = true then _ else _), (c == 45))
    cases hc : (c == 45) with
    | true =>
      rw [if_pos rfl, if_pos (by omega), if_pos (by simp; omega), if_pos rfl]
      have := ext_tail (tx (c :: l)) 1
      rw [size_tx, by_tx] at this
      rw [this]; rfl
    | false => rw [if_neg (by simp), if_neg (by simp)]; rfl
theorem read_l0 (minus : Bool) (x : Nat) (hx : x ≤ 9223372036854775807) (r : Nat) (hr : r ≤ 4) (y : Nat) (hy : y * 10 ^ r ≤ 99999999) : ∀ (n i : Nat), i + n = r → Ev (fun k => digits_Read.l0 k minus (x : Int) ((y * 10 ^ i : Nat) : Int) (r : Int) (i : Int)) (resR (putD minus x (y * 10 ^ r)))
  | 0, i, hi => by
    obtain rfl : i = r := by omega
    refine Ev.step (fun k => digits_Read.l0.eq_2 ..) (ev_neg (by omega) ?_)
    exact ev_bind (put_ev minus x _ hx hy) (Ev.now _)
  | n + 1, i, hi => by
    have hle : y * 10 ^ (i + 1) ≤ y * 10 ^ r := Nat.mul_le_mul_left y (Nat.pow_le_pow_right (by omega) (by omega))
    have e : y * 10 ^ (i + 1) = y * 10 ^ i * 10 := by rw [Nat.pow_succ, Nat.mul_assoc]
    refine Ev.step (fun k => digits_Read.l0.eq_2 ..) (ev_pos (by omega) ?_)
    have ew : wrap64 (((y * 10 ^ i : Nat) : Int) * 10) = ((y * 10 ^ (i + 1) : Nat) : Int) := by
      rw [e] at hle ⊢
      generalize y * 10 ^ i = q at *
      rw [w64 (by omega) (by omega)]; omega
    rw [ew, w64s (n := 10000) (by omega) (by omega)]
    exact read_l0 minus x hx r hr y hy n (i + 1) (by omega)
theorem numD_le : ∀ (l : List UInt8) (a v : Nat), a ≤ 9223372036854775807 → numD a l = some v → v ≤ 9223372036854775807
  | [], a, v, ha, h => by rw [numD] at h; obtain rfl := Option.some.inj h; exact ha
  | c :: l, a, v, ha, h => by
    rw [numD] at h
    split at h
    · split at h
      · rename_i h2
        exact numD_le l _ v h2 h
      · cases h
    · cases h
theorem dread_ev (l : List UInt8) (hl : l.length ≤ 1000) : Ev (fun k => digits_Read.f k (tx l)) (resR (dRead l)) := by
  unfold digits_Read.f dRead
  refine ev_bind (ev_some fun _ => cutPre l) ?_
  rw [size_tx]
  refine ev_ite (fun g => ?_) (fun g => ?_)
  · rw [if_pos (show l.length > 40 by omega)]; exact Ev.now _
  · rw [if_neg (show ¬ l.length > 40 by omega)]
    have hlen : (if isMinus l = true then l.drop 1 else l).length ≤ 40 := by
      split
      · rw [List.length_drop]; omega
      · omega
    generalize (if isMinus l = true then l.drop 1 else l) = m at *
    generalize isMinus l = minus at *
    have hc := cutL_length 46 m
    have e := cut_eq (tx m) 46 (by rw [size_tx]; omega)
    rw [by_tx] at e
    refine ev_bind (ev_some fun _ => e) ?_
    have n1 := number_ev (cutL 46 m).1 (by omega)
    have n2 := number_ev (cutL 46 m).2.1 (by omega)
    refine ev_bind n1 (ev_bind n2 ?_)
    have j0t : ∀ (a : Bool) (b : ByteArray) (c d : Int), Ev (fun k => digits_Read.j0 k a b c d true) (0, false) := fun a b c d => Ev.step (fun k => digits_Read.j0.eq_2 ..) (ev_pos rfl (Ev.now _))
    unfold unsD
    cases h1 : numD 0 (cutL 46 m).1 with
    | none => exact ev_neg (by simp [resW]) (j0t _ _ _ _)
    | some x =>
      have hx := numD_le _ 0 x (by omega) h1
      by_cases h2 : (cutL 46 m).1 = []
      · refine ev_neg (by simp [resW, h2]) ?_
        show Ev _ (resR (if (cutL 46 m).1 = [] then none else _))
        rw [if_pos h2]
        exact j0t _ _ _ _
      · refine ev_pos (by simp [resW, h2]) ?_
        show Ev _ (resR (if (cutL 46 m).1 = [] then none else _))
        rw [if_neg h2]
        cases h3 : (cutL 46 m).2.2 with
        | false =>
          refine ev_neg (by simp) ?_
          rw [if_neg (by simp)]
          have ht : (cutL 46 m).2.1 = [] := by
            rcases index_cut 46 m with ⟨_, _, k, _⟩ | ⟨_, _, _, _, _, k⟩
            · exact k
            · rw [h3] at k; cases k
          rw [ht]
          refine Ev.step (fun k => digits_Read.j0.eq_2 ..) (ev_neg (by simp) ?_)
          rw [size_tx]
          have ew : wrap64 (4 - (([] : List UInt8).length : Int)) = ((4 : Nat) : Int) := by rw [List.length_nil]; exact w64 (x := 4 - ((0 : Nat) : Int)) (by omega) (by omega)
          have := read_l0 minus x hx 4 (by omega) 0 (by simp) 4 0 (by omega)
          simp only [Nat.zero_mul] at this
          rw [ew]
          simp only [numD, resW]
          exact this
        | true =>
          refine ev_pos rfl ?_
          rw [if_pos rfl]
          cases h4 : numD 0 (cutL 46 m).2.1 with
          | none => exact ev_neg (by simp [resW]) (j0t _ _ _ _)
          | some y =>
            by_cases h5 : (cutL 46 m).2.1 = []
            · refine ev_neg (by simp [resW, h5]) ?_
              show Ev _ (resR (if (cutL 46 m).2.1 = [] ∨ (cutL 46 m).2.1.length > 4 then none else _))
              rw [if_pos (Or.inl h5)]
              exact j0t _ _ _ _
            · refine ev_pos (by simp [resW, h5]) ?_
              show Ev (fun k => digits_Read.j0 k minus (tx (cutL 46 m).2.1) (x : Int) (y : Int) (decide (((tx (cutL 46 m).2.1).size : Int) > 4))) (resR (if (cutL 46 m).2.1 = [] ∨ (cutL 46 m).2.1.length > 4 then none else putD minus x (y * 10 ^ (4 - (cutL 46 m).2.1.length))))
              rw [size_tx]
              by_cases h6 : (cutL 46 m).2.1.length > 4
              · rw [if_pos (Or.inr h6), decide_eq_true (by omega)]
                exact j0t _ _ _ _
              · rw [if_neg (by rintro (k | k); exact h5 k; exact h6 k), decide_eq_false (by omega)]
                refine Ev.step (fun k => digits_Read.j0.eq_2 ..) (ev_neg (by simp) ?_)
                rw [size_tx]
                have hb := numD_lt _ 0 y h4
                generalize (cutL 46 m).2.1.length = q at *
                have ew : wrap64 (4 - (q : Int)) = ((4 - q : Nat) : Int) := by rw [w64 (by omega) (by omega)]; omega
                rw [ew]
                have hy : y * 10 ^ (4 - q) ≤ 99999999 := by
                  have h7 : y * 10 ^ (4 - q) ≤ 10 ^ q * 10 ^ (4 - q) := Nat.mul_le_mul_right _ (by rw [Nat.zero_add, Nat.one_mul] at hb; omega)
                  rw [← Nat.pow_add, show q + (4 - q) = 4 by omega] at h7
                  omega
                have := read_l0 minus x hx (4 - q) (by omega) y hy (4 - q) 0 (by omega)
                simpa using this
end Go.Proofs.Ytfcpkehldmehjaa.X
/- Values, what is looked for; that the statements of crit live. -/
set_option linter.unusedVariables false
set_option linter.unusedSimpArgs false
namespace Go.Proofs.Ytfcpkehldmehjaa.X
open Go.RowKit Go.Proofs.YtfcpkehldmehjaaW.PrintWords Go.Proofs.YtfcpkehldmehjaaW.PrintLast Go.Proofs.YtfcpkehldmehjaaW.PrintMore
theorem nil_toList : ((⟨#[]⟩ : ByteArray).toList == ([] : List UInt8)) = true := by rw [toList_by]; rfl
theorem str_eq (l : List UInt8) : value_Str.f (tx l) = some (if l.length ≤ 256 then (2, 0, tx l) else (4, 2, (⟨#[]⟩ : ByteArray))) := by
  unfold value_Str.f value_made.f value_May.f
  rw [if_neg (by omega), if_neg (by omega), if_pos rfl, if_pos rfl, Option.bind_some, size_tx]
  by_cases h : l.length ≤ 256
  · rw [if_pos h, decide_eq_true (by omega), if_pos rfl]; rfl
  · rw [if_neg h, decide_eq_false (by omega), if_neg (by simp)]; rfl
theorem num_eq (x : Int) (h : x ≠ -9223372036854775808) : value_Num.f x = some (1, x, (⟨#[]⟩ : ByteArray)) := by
  unfold value_Num.f value_made.f value_May.f dec_May.f
  rw [if_neg (by omega), if_pos rfl, Option.bind_some, if_pos (bne_iff_ne.2 h), Option.bind_some, nil_toList, if_pos rfl]; rfl
theorem bad_eq (c : Int) (h : 1 ≤ c ∧ c ≤ 7) : value_Bad.f c = some (4, c, (⟨#[]⟩ : ByteArray)) := by
  unfold value_Bad.f value_made.f value_May.f
  rw [if_neg (by omega), if_neg (by omega), if_neg (by omega), if_neg (by omega), if_pos rfl, if_pos h.1, if_pos h.2, Option.bind_some, nil_toList, if_pos rfl]; rfl
theorem alive17_ev : Ev (fun k => oculuslaw17_alive.f k) true := by
  unfold oculuslaw17_alive.f
  refine ev_bind (ev_some fun _ => str_eq [62, 50]) ?_
  rw [if_pos (by decide)]
  have hd := dread_ev [50] (by decide)
  rw [show dRead [50] = some 20000 by decide +kernel] at hd
  have hsign : crit_sign.f (tx [62, 50]) = some (11, 1) := by kernel_rfl
  have hof : Ev (fun k => crit_Of.f k 2 0 (tx [62, 50])) (11, 1, 20000, (⟨#[]⟩ : ByteArray), true) := by
    unfold crit_Of.f
    refine ev_neg (by omega) (ev_neg (by omega) (ev_pos rfl (ev_bind (ev_some fun _ => hsign) (ev_pos (by decide) (ev_pos (by decide) ?_)))))
    have e : (tx [62, 50]).extract ((1 : Int)).toNat (tx [62, 50]).size = tx [50] := by
      have := ext_tail (tx [62, 50]) 1
      rw [by_tx] at this
      exact this
    show Ev (fun k => (crit_read.f k ((tx [62, 50]).extract ((1 : Int)).toNat (tx [62, 50]).size)).bind fun bt108 => some (11, bt108.1, bt108.2.1, bt108.2.2, true)) _
    rw [e]
    refine ev_bind (a := (1, 20000, (⟨#[]⟩ : ByteArray))) ?_ (Ev.now _)
    unfold crit_read.f
    exact ev_bind hd (ev_pos rfl (ev_bind (ev_some fun _ => num_eq 20000 (by omega)) (Ev.now _)))
  refine ev_bind hof ?_
  refine ev_bind (ev_some fun _ => bad_eq 1 (by omega)) ?_
  have hof2 : Ev (fun k => crit_Of.f k 4 1 (⟨#[]⟩ : ByteArray)) (0, 0, 0, (⟨#[]⟩ : ByteArray), false) := by
    unfold crit_Of.f
    exact ev_pos rfl (Ev.now _)
  refine ev_bind hof2 (ev_pos rfl (ev_neg (by simp) (ev_pos rfl ?_)))
  refine ev_bind (ev_some fun _ => num_eq 20000 (by omega)) (ev_pos (by simp) ?_)
  refine ev_bind (ev_some fun _ => num_eq 20001 (by omega)) ?_
  have hh1 : Ev (fun k => crit_Hits.f k 11 1 20000 (⟨#[]⟩ : ByteArray) 1 20001 (⟨#[]⟩ : ByteArray)) true := by
    unfold crit_Hits.f
    refine ev_neg (by omega) (ev_neg (by omega) ?_)
    refine Ev.step (fun k => crit_Hits.j0.eq_2 ..) (ev_pos rfl (ev_neg (by omega) ?_))
    refine Ev.step (fun k => crit_Hits.j1.eq_2 ..) (ev_neg (by simp) ?_)
    refine ev_bind (a := (1 : Int)) ?_ ?_
    · unfold value_Compare.f
      refine ev_neg (by omega) ?_
      refine Ev.step (fun k => value_Compare.j0.eq_2 ..) (ev_neg (by decide) ?_)
      refine ev_bind (a := (1, 20001, (⟨#[]⟩ : ByteArray))) (ev_some fun _ => rfl) (ev_bind (a := (1, 20000, (⟨#[]⟩ : ByteArray))) (ev_some fun _ => rfl) ?_)
      refine Ev.step (fun k => value_Compare.j1.eq_2 ..) ?_
      exact ev_pos rfl (ev_neg (by decide) (ev_neg (by decide) (ev_pos (by decide) (Ev.now _))))
    · refine Ev.step (fun k => crit_Hits.j2.eq_2 ..) ?_
      simp only [Int.reduceEq, if_false, if_true]
      exact Ev.now _
  refine ev_bind hh1 (ev_pos rfl ?_)
  refine ev_bind (ev_some fun _ => str_eq [57]) ?_
  rw [if_pos (by decide)]
  have hh2 : Ev (fun k => crit_Hits.f k 11 1 20000 (⟨#[]⟩ : ByteArray) 2 0 (tx [57])) false := by
    unfold crit_Hits.f
    refine ev_neg (by omega) (ev_neg (by omega) ?_)
    refine Ev.step (fun k => crit_Hits.j0.eq_2 ..) (ev_neg (by omega) (Ev.now _))
  refine ev_bind hh2 (ev_neg (by simp) ?_)
  have l1 := like_ev [97, 42, 99, 63] [97, 98, 99, 98, 99, 100] (by decide) (by decide)
  rw [show gl [97, 42, 99, 63] [97, 98, 99, 98, 99, 100] = true by simp [gl, okC]] at l1
  have l2 := like_ev [97, 63] [97] (by decide) (by decide)
  rw [show gl [97, 63] [97] = false by simp [gl, okC]] at l2
  exact ev_bind l1 (ev_pos rfl (ev_bind l2 (Ev.now _)))
end Go.Proofs.Ytfcpkehldmehjaa.X
/- The pure statement of the law CritLike: over texts alone. -/
set_option linter.unusedVariables false
set_option linter.unusedSimpArgs false
namespace Go.Proofs.Ytfcpkehldmehjaa.Pure
open Go.RowKit Go.Proofs.Ytfcpkehldmehjaa.X Go.Proofs.YtfcpkehldmehjaaW.PrintWords Go.Proofs.YtfcpkehldmehjaaW.PrintLast Go.Proofs.YtfcpkehldmehjaaW.PrintMore
theorem plain_l0 (p t : List UInt8) (hp : p.length ≤ 1000) (is : Bool) (his : is = gl p t) : ∀ (n i : Nat), i + n = p.length → ∀ pl : Bool, (pl = true → ∀ j (h : j < p.length), j < i → p[j] ≠ 42 ∧ p[j] ≠ 63) → Ev (fun k => oculuslaw17_CritLike.l0 k (tx p) (tx t) is pl (p.length : Int) (i : Int)) true
  | 0, i, hi, pl, hpl => by
    refine Ev.step (fun k => oculuslaw17_CritLike.l0.eq_2 ..) (ev_neg (by omega) (ev_ite (fun g => ?_) (fun _ => ev_bind alive17_ev (Ev.now _))))
    refine ev_pos ?_ (ev_bind alive17_ev (Ev.now _))
    have hall : ∀ c ∈ p, c ≠ 42 ∧ c ≠ 63 := by
      intro c hc
      obtain ⟨j, hj, rfl⟩ := List.getElem_of_mem hc
      exact hpl g j hj (by omega)
    rw [beq_iff_eq, his, Bool.eq_iff_iff, gl_self p t hall, toList_by, toList_by, by_tx, by_tx, beq_iff_eq]
  | n + 1, i, hi, pl, hpl => by
    have h : i < p.length := by omega
    have hb := u8_lt p[i]
    refine Ev.step (fun k => oculuslaw17_CritLike.l0.eq_2 ..) (ev_pos (by omega) ?_)
    rw [size_tx, bt_tx p i h, w64s (n := 10000) (by omega) (by omega)]
    refine ev_ite (fun g => ?_) (fun g => ?_)
    · refine ev_pos (by omega) (ev_pos (by omega) (ev_ite (fun g2 => ?_) (fun g2 => ?_)))
      · exact plain_l0 p t hp is his n (i + 1) (by omega) false (fun k => by cases k)
      · refine plain_l0 p t hp is his n (i + 1) (by omega) _ (fun k j hj hji => ?_)
        rw [bne_iff_ne] at k
        by_cases e : j = i
        · subst e
          refine ⟨fun q => ?_, fun q => ?_⟩
          · rw [q] at g2; exact g2 rfl
          · rw [q] at k; exact k rfl
        · exact hpl g j hj (by omega)
    · exact plain_l0 p t hp is his n (i + 1) (by omega) false (fun k => by cases k)
theorem CritLike : oculuslaw17_CritLike.PureX := by
  intro p t m _ _ _
  apply Ev.rounds
  obtain ⟨p, rfl⟩ : ∃ l, p = tx l := ⟨by_ p, (tx_by p).symm⟩
  obtain ⟨t, rfl⟩ : ∃ l, t = tx l := ⟨by_ t, (tx_by t).symm⟩
  obtain ⟨m, rfl⟩ : ∃ l, m = tx l := ⟨by_ m, (tx_by m).symm⟩
  unfold oculuslaw17_CritLike.f
  rw [size_tx, size_tx, size_tx]
  have j0t : Ev (fun k => oculuslaw17_CritLike.j0 k (tx p) (tx t) (tx m) true) true := Ev.step (fun k => oculuslaw17_CritLike.j0.eq_2 ..) (ev_pos rfl (ev_bind alive17_ev (Ev.now _)))
  refine ev_ite (fun _ => j0t) (fun hp => ev_ite (fun _ => j0t) (fun ht => ?_))
  by_cases hm : ((m.length : Nat) : Int) > 60
  · rw [decide_eq_true hm]; exact j0t
  · rw [decide_eq_false hm]
    refine Ev.step (fun k => oculuslaw17_CritLike.j0.eq_2 ..) (ev_neg (by simp) ?_)
    refine ev_bind (like_ev p t (by omega) (by omega)) (ev_bind (rlike_ev p t (by omega) (by omega)) (ev_neg (by simp) ?_))
    have j1f : Ev (fun k => oculuslaw17_CritLike.j1 k (tx p) (tx t) (gl p t) false) true := by
      refine Ev.step (fun k => oculuslaw17_CritLike.j1.eq_2 ..) (ev_neg (by simp) ?_)
      rw [size_tx]
      exact plain_l0 p t (by omega) _ rfl p.length 0 (by omega) true (fun _ j _ hj => by omega)
    have e42 : (⟨#[42]⟩ : ByteArray) = tx [42] := rfl
    refine ev_ite (fun g => ?_) (fun _ => j1f)
    rw [size_tx, size_tx, size_tx, e42, tx_append, tx_append, tx_append, tx_append]
    have hs : ∀ v, gl [42] v = true := fun v => (gl_star [] v).2 ⟨v, [], by simp, by rw [gl]⟩
    have g1 : gl (p ++ [42]) (t ++ m) = true := (gl_app p [42] _).2 ⟨t, m, rfl, g, hs m⟩
    have g2 : gl ([42] ++ p) (m ++ t) = true := (gl_app [42] p _).2 ⟨m, t, rfl, hs m, g⟩
    have e1 := like_ev (p ++ [42]) (t ++ m) (by rw [List.length_append]; simp; omega) (by rw [List.length_append]; omega)
    have e2 := like_ev ([42] ++ p) (m ++ t) (by rw [List.length_append]; simp; omega) (by rw [List.length_append]; omega)
    rw [g1] at e1
    rw [g2] at e2
    refine ev_pos (by omega) (ev_pos (by omega) (ev_bind e1 (ev_pos rfl (ev_pos (by omega) (ev_pos (by omega) (ev_bind e2 ?_))))))
    exact j1f
end Go.Proofs.Ytfcpkehldmehjaa.Pure
