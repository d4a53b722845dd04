/- The law FnameTells: for every input the call returns true, and each argument reads afterwards as it read before: the statement Rows.FnameTellsSaid, whole, with no condition of ours. -/
import Derived.Test.YtjbdljolpkkhcaaWWords
import Derived.Deep.Slices
import Derived.ChangeArms
import Derived.SizedLaws
import Derived.OpenShut
import Derived.Laws.BitsAllLaws
import Derived.Lib.Strings
import Derived.Lib.IndexBytes
import Derived.Test.YtjbdljolpkkhcaaRows
import Derived.WalkKit
import Derived.ProofKit
import Derived.ShutString
import Derived.ChangeOld
import Derived.Below
import Derived.Carry
import Derived.Test.YtjbdljolpkkhcaaBFnameTells0
namespace Go.Proofs.Ytjbdljolpkkhcaa.X
open Go.RowKit Go.Proofs.YtjbdljolpkkhcaaW.PrintWords Go.Proofs.YtjbdljolpkkhcaaW.PrintLast Go.Proofs.YtjbdljolpkkhcaaW.PrintMore
attribute [local go_sem] max2_int min2_int max_two min_two max_three min_three max_four min_four   -- for this text's walks alone
set_option linter.unusedVariables false
set_option linter.unusedSimpArgs false

/-! ### oculusref19_Fits: function 23 -/
def oculusref19_Fits.f (a0 : Int) (a1 : Int) : Option (Bool) := if a0 < 1 then (some false) else (if a0 > 78 then (some false) else ((oculusref19_Rows.f).bind fun t101 => (if 0 ≤ (wrap64 (a0 - 1)) then (if (wrap64 (a0 - 1)) < (t101.length : Int) then (if 0 < ((rdOf ByteArray.empty t101 (wrap64 (a0 - 1))).size : Int) then (if a1 ≥ (wrap64 ((wrap64 (bt (rdOf ByteArray.empty t101 (wrap64 (a0 - 1))) 0)) - 48)) then (if 1 < ((rdOf ByteArray.empty t101 (wrap64 (a0 - 1))).size : Int) then (some (decide (a1 ≤ (wrap64 ((wrap64 (bt (rdOf ByteArray.empty t101 (wrap64 (a0 - 1))) 1)) - 48))))) else (none)) else (some false)) else (none)) else (none)) else (none))))
set_option maxHeartbeats 8000000 in
set_option maxRecDepth 100000 in
theorem oculusref19_Fits.calls (a0 : Int) (a1 : Int) (r : Bool) (w : World) (h : oculusref19_Fits.f a0 a1 = some r) :
    Calls Try.prog 23 #[.int .i64 a0, .int .i64 a1] w fun e w' => e = .returned (.bool r) ∧ Below w.heap.size w w' := by
  have HB := Aside0.mk (Below.refl w.heap.size w)
  have H : (if a0 < 1 then (some false) else (if a0 > 78 then (some false) else ((oculusref19_Rows.f).bind fun t101 => (if 0 ≤ (wrap64 (a0 - 1)) then (if (wrap64 (a0 - 1)) < (t101.length : Int) then (if 0 < ((rdOf ByteArray.empty t101 (wrap64 (a0 - 1))).size : Int) then (if a1 ≥ (wrap64 ((wrap64 (bt (rdOf ByteArray.empty t101 (wrap64 (a0 - 1))) 0)) - 48)) then (if 1 < ((rdOf ByteArray.empty t101 (wrap64 (a0 - 1))).size : Int) then (some (decide (a1 ≤ (wrap64 ((wrap64 (bt (rdOf ByteArray.empty t101 (wrap64 (a0 - 1))) 1)) - 48))))) else (none)) else (some false)) else (none)) else (none)) else (none))))) = some r := h
  clear h
  by_cases c3 : a0 < 1
  · rw [if_pos c3] at H
    have c3b0 : decide (a0 < 1) = true := decide_eq_true c3
    clear c3
    obtain rfl := Option.some.inj H
    go_enter Try.func23, Try.ntmps23
    go_wp2
    go_ret
    exact ⟨by first | rfl | (simp [errW_none, errW_some] <;> rfl) | (simp [*, errW_none, errW_some] <;> rfl), pbx HB⟩
  · rw [if_neg c3] at H
    have c3b0 : decide (a0 < 1) = false := decide_eq_false c3
    clear c3
    by_cases c4 : a0 > 78
    · rw [if_pos c4] at H
      have c4b0 : decide (78 < a0) = true := decide_eq_true c4
      clear c4
      obtain rfl := Option.some.inj H
      go_enter Try.func23, Try.ntmps23
      go_wp2
      go_ret
      exact ⟨by first | rfl | (simp [errW_none, errW_some] <;> rfl) | (simp [*, errW_none, errW_some] <;> rfl), pbx HB⟩
    · rw [if_neg c4] at H
      have c4b0 : decide (78 < a0) = false := decide_eq_false c4
      clear c4
      replace H := Option.bind_eq_some_iff.mp H
      obtain ⟨t101, A50, H⟩ := H
      replace H : (if 0 ≤ (wrap64 (a0 - 1)) then (if (wrap64 (a0 - 1)) < (t101.length : Int) then (if 0 < ((rdOf ByteArray.empty t101 (wrap64 (a0 - 1))).size : Int) then (if a1 ≥ (wrap64 ((wrap64 (bt (rdOf ByteArray.empty t101 (wrap64 (a0 - 1))) 0)) - 48)) then (if 1 < ((rdOf ByteArray.empty t101 (wrap64 (a0 - 1))).size : Int) then (some (decide (a1 ≤ (wrap64 ((wrap64 (bt (rdOf ByteArray.empty t101 (wrap64 (a0 - 1))) 1)) - 48))))) else (none)) else (some false)) else (none)) else (none)) else (none)) = some r := H
      have A5 := Aside0.mk A50
      clear A50
      obtain ⟨ji6, hji6⟩ : ∃ j_ : Int, (wrap64 (a0 - 1)) = j_ := ⟨_, rfl⟩
      replace H : (if 0 ≤ (ji6) then (if (ji6) < (t101.length : Int) then (if 0 < ((rdOf ByteArray.empty t101 (ji6)).size : Int) then (if a1 ≥ (wrap64 ((wrap64 (bt (rdOf ByteArray.empty t101 (ji6)) 0)) - 48)) then (if 1 < ((rdOf ByteArray.empty t101 (ji6)).size : Int) then (some (decide (a1 ≤ (wrap64 ((wrap64 (bt (rdOf ByteArray.empty t101 (ji6)) 1)) - 48))))) else (none)) else (some false)) else (none)) else (none)) else (none)) = some r := by first | (rw [hji6] at H; exact H) | (simp only [hji6] at H ⊢; exact H)
      (try rw [hji6] at A5)
      have hji6w : (IntKind.i64.wrap (a0 - 1)) = ji6 := (i64_w _).trans hji6
      by_cases c7 : 0 ≤ (ji6)
      · rw [if_pos c7] at H
        have c7b0 : decide (0 ≤ (ji6)) = true := decide_eq_true c7
        clear c7
        by_cases c8 : (ji6) < (t101.length : Int)
        · rw [if_pos c8] at H
          have c8b0 : decide ((ji6) < (t101.length : Int)) = true := decide_eq_true c8
          clear c8
          by_cases c9 : 0 < ((rdOf ByteArray.empty t101 (ji6)).size : Int)
          · rw [if_pos c9] at H
            have c9b0 : decide (0 < ((rdOf ByteArray.empty t101 (ji6)).size : Int)) = true := decide_eq_true c9
            have c9b1 : decide (0 < (rdOf ByteArray.empty t101 (ji6)).size) = true := decide_eq_true (by omega)
            clear c9
            by_cases c11 : a1 ≥ (wrap64 ((wrap64 (bt (rdOf ByteArray.empty t101 (ji6)) 0)) - 48))
            · rw [if_pos c11] at H
              have c11b0 : decide ((wrap64 ((wrap64 (bt (rdOf ByteArray.empty t101 (ji6)) 0)) - 48)) ≤ a1) = true := decide_eq_true c11
              clear c11
              by_cases c12 : 1 < ((rdOf ByteArray.empty t101 (ji6)).size : Int)
              · rw [if_pos c12] at H
                have c12b0 : decide (1 < ((rdOf ByteArray.empty t101 (ji6)).size : Int)) = true := decide_eq_true c12
                have c12b1 : decide (1 < (rdOf ByteArray.empty t101 (ji6)).size) = true := decide_eq_true (by omega)
                clear c12
                obtain rfl := Option.some.inj H
                go_enter Try.func23, Try.ntmps23
                go_wp2_with (first | ((with_reducible refine gate_callee (f := 44) rfl ?_); refine goesL_ (some 12) rfl rfl Try.func44 (by kernel_rfl) rfl #[] rfl (by (try simp only [List.map_toArray, List.map_cons, List.map_nil]); first | done | rfl | (simp only [List.length_drop, List.length_take]; rfl)) ?_; (with_reducible refine (oculusref19_Rows.calls  t101 _ A5.out).mono ?_); rintro e w14 ⟨v102, rfl, ho0, hb⟩; refine ⟨_, rfl, ?_⟩; have n0_ := Aside0.mk (Kd.R_lower ho0 (below_size (pbx HB))); have n1_ := Aside0.mk (below_step (pbx HB) hb); clear HB; have HO103 := n0_; have HB := n1_; clear n0_ n1_; (try clear hb); (try clear hb2); (try clear hk); (try clear hi); (try clear ho0); obtain ⟨Ao15, co15, eo15⟩ := Kd.R_slice HO103.out; subst eo15; have p104 : 0 ≤ ((ji6) : Int) := of_decide_eq_true (by first | (with_reducible assumption) | assumption); have q104 : (ji6) < (t101.length : Int) := of_decide_eq_true (by first | (with_reducible assumption) | assumption); obtain ⟨ad104, e104, hx104_0⟩ := Kd.at_string (Kd.R_reads' HO103.out).2.2 (ji6) p104 q104; cases e104; replace p104 := eq_true p104; replace q104 := eq_true q104; have p10 : 0 ≤ (0 : Int) := (by omega); have q10 : 0 < (rdOf ByteArray.empty t101 (ji6)).size := (by have : (0 : Int) < ((rdOf ByteArray.empty t101 (ji6)).size : Int) := of_decide_eq_true (by first | (with_reducible assumption) | assumption); omega); have hx10 : ∀ h : 0 < (rdOf ByteArray.empty t101 (ji6)).size, (((rdOf ByteArray.empty t101 (ji6))[0]'h).toNat : Int) = bt (rdOf ByteArray.empty t101 (ji6)) 0 := bt_at (rdOf ByteArray.empty t101 (ji6)) 0; clear p10; have qi10 : (0 < ((rdOf ByteArray.empty t101 (ji6)).size : Int)) = True := eq_true (of_decide_eq_true (by first | (with_reducible assumption) | assumption)); replace q10 := eq_true q10; have p13 : 0 ≤ (1 : Int) := (by omega); have q13 : 1 < (rdOf ByteArray.empty t101 (ji6)).size := (by have : (1 : Int) < ((rdOf ByteArray.empty t101 (ji6)).size : Int) := of_decide_eq_true (by first | (with_reducible assumption) | assumption); omega); have hx13 : ∀ h : 1 < (rdOf ByteArray.empty t101 (ji6)).size, (((rdOf ByteArray.empty t101 (ji6))[1]'h).toNat : Int) = bt (rdOf ByteArray.empty t101 (ji6)) 1 := bt_at (rdOf ByteArray.empty t101 (ji6)) 1; clear p13; have qi13 : (1 < ((rdOf ByteArray.empty t101 (ji6)).size : Int)) = True := eq_true (of_decide_eq_true (by first | (with_reducible assumption) | assumption)); replace q13 := eq_true q13))
                go_ret
                exact ⟨by first | rfl | (simp [errW_none, errW_some] <;> rfl) | (simp only [← hji6]; first | rfl | (simp [errW_none, errW_some] <;> rfl)) | (simp [*, errW_none, errW_some] <;> rfl), pbx HB⟩
              · rw [if_neg c12] at H
                exact absurd H (by simp)
            · rw [if_neg c11] at H
              have c11b0 : decide ((wrap64 ((wrap64 (bt (rdOf ByteArray.empty t101 (ji6)) 0)) - 48)) ≤ a1) = false := decide_eq_false c11
              clear c11
              obtain rfl := Option.some.inj H
              go_enter Try.func23, Try.ntmps23
              go_wp2_with (first | ((with_reducible refine gate_callee (f := 44) rfl ?_); refine goesL_ (some 12) rfl rfl Try.func44 (by kernel_rfl) rfl #[] rfl (by (try simp only [List.map_toArray, List.map_cons, List.map_nil]); first | done | rfl | (simp only [List.length_drop, List.length_take]; rfl)) ?_; (with_reducible refine (oculusref19_Rows.calls  t101 _ A5.out).mono ?_); rintro e w16 ⟨v102, rfl, ho0, hb⟩; refine ⟨_, rfl, ?_⟩; have n0_ := Aside0.mk (Kd.R_lower ho0 (below_size (pbx HB))); have n1_ := Aside0.mk (below_step (pbx HB) hb); clear HB; have HO103 := n0_; have HB := n1_; clear n0_ n1_; (try clear hb); (try clear hb2); (try clear hk); (try clear hi); (try clear ho0); obtain ⟨Ao17, co17, eo17⟩ := Kd.R_slice HO103.out; subst eo17; have p104 : 0 ≤ ((ji6) : Int) := of_decide_eq_true (by first | (with_reducible assumption) | assumption); have q104 : (ji6) < (t101.length : Int) := of_decide_eq_true (by first | (with_reducible assumption) | assumption); obtain ⟨ad104, e104, hx104_0⟩ := Kd.at_string (Kd.R_reads' HO103.out).2.2 (ji6) p104 q104; cases e104; replace p104 := eq_true p104; replace q104 := eq_true q104; have p10 : 0 ≤ (0 : Int) := (by omega); have q10 : 0 < (rdOf ByteArray.empty t101 (ji6)).size := (by have : (0 : Int) < ((rdOf ByteArray.empty t101 (ji6)).size : Int) := of_decide_eq_true (by first | (with_reducible assumption) | assumption); omega); have hx10 : ∀ h : 0 < (rdOf ByteArray.empty t101 (ji6)).size, (((rdOf ByteArray.empty t101 (ji6))[0]'h).toNat : Int) = bt (rdOf ByteArray.empty t101 (ji6)) 0 := bt_at (rdOf ByteArray.empty t101 (ji6)) 0; clear p10; have qi10 : (0 < ((rdOf ByteArray.empty t101 (ji6)).size : Int)) = True := eq_true (of_decide_eq_true (by first | (with_reducible assumption) | assumption)); replace q10 := eq_true q10))
              go_ret
              exact ⟨by first | rfl | (simp [errW_none, errW_some] <;> rfl) | (simp only [← hji6]; first | rfl | (simp [errW_none, errW_some] <;> rfl)) | (simp [*, errW_none, errW_some] <;> rfl), pbx HB⟩
          · rw [if_neg c9] at H
            exact absurd H (by simp)
        · rw [if_neg c8] at H
          exact absurd H (by simp)
      · rw [if_neg c7] at H
        exact absurd H (by simp)

end Go.Proofs.Ytjbdljolpkkhcaa.X
namespace Go.Proofs.Ytjbdljolpkkhcaa.X
open Go.RowKit Go.Proofs.YtjbdljolpkkhcaaW.PrintWords Go.Proofs.YtjbdljolpkkhcaaW.PrintLast Go.Proofs.YtjbdljolpkkhcaaW.PrintMore
attribute [local go_sem] max2_int min2_int max_two min_two max_three min_three max_four min_four   -- for this text's walks alone
set_option linter.unusedVariables false
set_option linter.unusedSimpArgs false

/-! ### fname_Kind: function 24 -/
def fname_Kind.j0 : Nat → Int → ByteArray → Option (Int)
  | 0, _, _ => none
  | k + 1, x1, x6 => if x6.toList = ([] : List UInt8) then (some 0) else (if x1 < 0 then (some 0) else (if 1 < (x6.size : Int) then (if x1 ≥ (((bt x6 1) - 48) % 256) then (some 0) else (if 0 ≤ (mn (wrap64 (2 + x1)) (wrap64 ((x6.size : Int) - 1))) then (if (mn (wrap64 (2 + x1)) (wrap64 ((x6.size : Int) - 1))) < (x6.size : Int) then (some (bt x6 (mn (wrap64 (2 + x1)) (wrap64 ((x6.size : Int) - 1))))) else (none)) else (none))) else (none)))
def fname_Kind.f (k : Nat) (a0 : Int) (a1 : Int) : Option (Int) := (fname_row.f k a0).bind fun bt101 => (fname_Kind.j0 k a1 bt101.2)
theorem fname_Kind.mono_l : ∀ k, (∀ y0 y1, LeO (fname_Kind.j0 k y0 y1) (fname_Kind.j0 (k + 1) y0 y1))
  | 0 => fun _ _ r h => by simp [fname_Kind.j0] at h
  | k + 1 => by
    have ih0 := fname_Kind.mono_l k
    · intro y0 y1
      unfold fname_Kind.j0
      repeat' first
      | (with_reducible exact ih0 _ _)
      | (with_reducible exact fname_row.mono _ _)
      | (with_reducible exact LeO.refl _)
      | (with_reducible exact LeO.none _)
      | (with_reducible refine LeO.ite ?_ ?_)
      | (with_reducible refine LeO.bind ?_ (fun _ => ?_))
      | exact ih0 _ _
      | exact fname_row.mono _ _
      | exact LeO.none _
      | refine LeO.ite ?_ ?_
      | refine LeO.bind ?_ (fun _ => ?_)
theorem fname_Kind.mono : ∀ a0 a1 k, LeO (fname_Kind.f k a0 a1) (fname_Kind.f (k + 1) a0 a1) := by
  intro a0 a1 k
  have ih0 := fname_Kind.mono_l k
  unfold fname_Kind.f
  repeat' first
      | (with_reducible exact ih0 _ _)
      | (with_reducible exact fname_row.mono _ _)
      | (with_reducible exact LeO.refl _)
      | (with_reducible exact LeO.none _)
      | (with_reducible refine LeO.ite ?_ ?_)
      | (with_reducible refine LeO.bind ?_ (fun _ => ?_))
      | exact ih0 _ _
      | exact fname_row.mono _ _
      | exact LeO.none _
      | refine LeO.ite ?_ ?_
      | refine LeO.bind ?_ (fun _ => ?_)
set_option maxHeartbeats 8000000 in
set_option maxRecDepth 100000 in
theorem fname_Kind.calls (k : Nat) (a0 : Int) (a1 : Int) (r : Int) (w : World) (h : fname_Kind.f k a0 a1 = some r) :
    Calls Try.prog 24 #[.int .i64 a0, .int .i64 a1] w fun e w' => e = .returned (.int .u8 r) ∧ Below w.heap.size w w' := by
  have HB := Aside0.mk (Below.refl w.heap.size w)
  have H : ((fname_row.f k a0).bind fun bt101 => (fname_Kind.j0 k a1 bt101.2)) = some r := h
  clear h
  have HC3 := Aside0.mk H
  clear H
  go_enter Try.func24, Try.ntmps24
  go_upto_region 1 with (fail)
  go_cut [6] (fun v6 wc => ∃ (kq : Nat) (x6_2 : ByteArray), v6 = .string x6_2 ∧ Aside0 (fname_Kind.j0 kq a1 x6_2 = some r) ∧ Aside0 (kq ≤ k) ∧ Aside0 (Below w.heap.size w wc))
  case first =>
    have H := HC3.out
    clear HC3
    replace H := Option.bind_eq_some_iff.mp H
    obtain ⟨⟨t101, t102⟩, A40, H⟩ := H
    replace H : (fname_Kind.j0 k a1 t102) = some r := H
    have A4 := Aside0.mk A40
    clear A40
    have H' := Aside0.mk H
    clear H
    go_wp2_with (first | ((with_reducible refine gate_callee (f := 42) rfl ?_); refine goesL_ (some 9) rfl rfl Try.func42 (by kernel_rfl) rfl #[.int .i64 a0] rfl (by (try simp only [List.map_toArray, List.map_cons, List.map_nil]); first | done | rfl | (simp only [List.length_drop, List.length_take]; rfl)) ?_; (with_reducible refine (fname_row.calls k a0 t101 t102 _ A4.out).mono ?_); rintro e w' ⟨rfl, ⟨nd, rfl⟩⟩; refine ⟨_, rfl, ?_⟩))
    go_meet
    case rel => exact ⟨_, (t102), (by first | rfl | (simp; done) | (simp [*]; done) | (cases t102 <;> simp; done)), H', ⟨by first | omega | exact Nat.le_refl _⟩, ⟨pbx HB⟩⟩
  case rest =>
    clear HC3
    try clear c2
    try clear p2
    try clear c4
    obtain ⟨kq, x6_2, rfl, HA, HJ2, HB⟩ := hcut
    cases kq with
    | zero => exact absurd HA.out (by simp [fname_Kind.j0])
    | succ kj2 =>
      have H := HA.out
      clear HA
      simp only [fname_Kind.j0] at H
      by_cases c5 : x6_2.toList = ([] : List UInt8)
      · rw [if_pos c5] at H
        have c5b0 : (x6_2.toList == ([] : List UInt8)) = true := beq_iff_eq.mpr c5
        have c5b1 : (x6_2.toList != ([] : List UInt8)) = false := bne_eq_false_iff_eq.mpr c5
        clear c5
        obtain rfl := Option.some.inj H
        go_wp2
        go_ret
        exact ⟨by first | rfl | (simp [errW_none, errW_some] <;> rfl) | (simp [*, errW_none, errW_some] <;> rfl), pbx HB⟩
      · rw [if_neg c5] at H
        have c5b0 : (x6_2.toList == ([] : List UInt8)) = false := beq_eq_false_iff_ne.mpr c5
        have c5b1 : (x6_2.toList != ([] : List UInt8)) = true := bne_iff_ne.mpr c5
        by_cases c6 : a1 < 0
        · rw [if_pos c6] at H
          have c6b0 : decide (a1 < 0) = true := decide_eq_true c6
          clear c6
          obtain rfl := Option.some.inj H
          go_wp2
          go_ret
          exact ⟨by first | rfl | (simp [errW_none, errW_some] <;> rfl) | (simp [*, errW_none, errW_some] <;> rfl), pbx HB⟩
        · rw [if_neg c6] at H
          have c6b0 : decide (a1 < 0) = false := decide_eq_false c6
          clear c6
          by_cases c7 : 1 < (x6_2.size : Int)
          · rw [if_pos c7] at H
            have c7b0 : decide (1 < (x6_2.size : Int)) = true := decide_eq_true c7
            have c7b1 : decide (1 < x6_2.size) = true := decide_eq_true (by omega)
            clear c7
            by_cases c9 : a1 ≥ (((bt x6_2 1) - 48) % 256)
            · rw [if_pos c9] at H
              have c9b0 : decide ((((bt x6_2 1) - 48) % 256) ≤ a1) = true := decide_eq_true c9
              clear c9
              obtain rfl := Option.some.inj H
              have p8 : 0 ≤ (1 : Int) := (by omega)
              have q8 : 1 < x6_2.size := (by have : (1 : Int) < (x6_2.size : Int) := of_decide_eq_true (by first | (with_reducible assumption) | assumption); omega)
              have hx8 : ∀ h : 1 < x6_2.size, ((x6_2[1]'h).toNat : Int) = bt x6_2 1 := bt_at x6_2 1
              clear p8
              have qi8 : (1 < (x6_2.size : Int)) = True := eq_true (of_decide_eq_true (by first | (with_reducible assumption) | assumption))
              replace q8 := eq_true q8
              go_wp2
              go_ret
              exact ⟨by first | rfl | (simp [errW_none, errW_some] <;> rfl) | (simp [*, errW_none, errW_some] <;> rfl), pbx HB⟩
            · rw [if_neg c9] at H
              have c9b0 : decide ((((bt x6_2 1) - 48) % 256) ≤ a1) = false := decide_eq_false c9
              clear c9
              obtain ⟨ji10, hji10⟩ : ∃ j_ : Int, (mn (wrap64 (2 + a1)) (wrap64 ((x6_2.size : Int) - 1))) = j_ := ⟨_, rfl⟩
              replace H : (if 0 ≤ (ji10) then (if (ji10) < (x6_2.size : Int) then (some (bt x6_2 (ji10))) else (none)) else (none)) = some r := by first | (rw [hji10] at H; exact H) | (simp only [hji10] at H ⊢; exact H)
              have hji10_ : (if (wrap64 ((x6_2.size : Int) - 1)) < (wrap64 (2 + a1)) then (wrap64 ((x6_2.size : Int) - 1)) else (wrap64 (2 + a1))) = ji10 := hji10
              by_cases c11 : 0 ≤ (ji10)
              · rw [if_pos c11] at H
                have c11b0 : decide (0 ≤ (ji10)) = true := decide_eq_true c11
                clear c11
                by_cases c12 : (ji10) < (x6_2.size : Int)
                · rw [if_pos c12] at H
                  have c12b0 : decide ((ji10) < (x6_2.size : Int)) = true := decide_eq_true c12
                  clear c12
                  obtain rfl := Option.some.inj H
                  have p8 : 0 ≤ (1 : Int) := (by omega)
                  have q8 : 1 < x6_2.size := (by have : (1 : Int) < (x6_2.size : Int) := of_decide_eq_true (by first | (with_reducible assumption) | assumption); omega)
                  have hx8 : ∀ h : 1 < x6_2.size, ((x6_2[1]'h).toNat : Int) = bt x6_2 1 := bt_at x6_2 1
                  clear p8
                  have qi8 : (1 < (x6_2.size : Int)) = True := eq_true (of_decide_eq_true (by first | (with_reducible assumption) | assumption))
                  replace q8 := eq_true q8
                  have p13 : 0 ≤ ((ji10) : Int) := of_decide_eq_true (by first | (with_reducible assumption) | assumption)
                  have q13 : (ji10) < (x6_2.size : Int) := of_decide_eq_true (by first | (with_reducible assumption) | assumption)
                  have hx13 := bt_at x6_2 (ji10)
                  replace p13 := eq_true p13
                  replace q13 := eq_true q13
                  go_wp2
                  go_ret
                  exact ⟨by first | rfl | (simp [errW_none, errW_some] <;> rfl) | (simp only [← hji10]; first | rfl | (simp [errW_none, errW_some] <;> rfl)) | (simp [*, errW_none, errW_some] <;> rfl), pbx HB⟩
                · rw [if_neg c12] at H
                  exact absurd H (by simp)
              · rw [if_neg c11] at H
                exact absurd H (by simp)
          · rw [if_neg c7] at H
            exact absurd H (by simp)

end Go.Proofs.Ytjbdljolpkkhcaa.X
namespace Go.Proofs.Ytjbdljolpkkhcaa.X
open Go.RowKit Go.Proofs.YtjbdljolpkkhcaaW.PrintWords Go.Proofs.YtjbdljolpkkhcaaW.PrintLast Go.Proofs.YtjbdljolpkkhcaaW.PrintMore
attribute [local go_sem] max2_int min2_int max_two min_two max_three min_three max_four min_four   -- for this text's walks alone
set_option linter.unusedVariables false
set_option linter.unusedSimpArgs false

/-! ### oculusref19_Kind: function 25 -/
mutual
def oculusref19_Kind.j0 : Nat → Int → Int → Bool → Option (Int)
  | 0, _, _, _ => none
  | k + 1, x0, x1, x15 => if x15 = true then (some 0) else ((oculusref19_Rows.f).bind fun t101 => (if 0 ≤ (wrap64 (x0 - 1)) then (if (wrap64 (x0 - 1)) < (t101.length : Int) then (oculusref19_Kind.j1 k x1 (rdOf ByteArray.empty t101 (wrap64 (x0 - 1)))) else (none)) else (none)))
def oculusref19_Kind.j1 : Nat → Int → ByteArray → Option (Int)
  | 0, _, _ => none
  | k + 1, x1, x5 => if 1 < (x5.size : Int) then (if x1 ≥ (wrap64 ((wrap64 (bt x5 1)) - 48)) then (some 0) else (if (wrap64 (2 + x1)) < (x5.size : Int) then (if 0 ≤ (wrap64 (2 + x1)) then (some (bt x5 (wrap64 (2 + x1)))) else (none)) else (if 0 ≤ (wrap64 ((x5.size : Int) - 1)) then (if (wrap64 ((x5.size : Int) - 1)) < (x5.size : Int) then (some (bt x5 (wrap64 ((x5.size : Int) - 1)))) else (none)) else (none)))) else (none)
end
def oculusref19_Kind.f (k : Nat) (a0 : Int) (a1 : Int) : Option (Int) := if a0 < 1 then (oculusref19_Kind.j0 k a0 a1 true) else (if a0 > 78 then (oculusref19_Kind.j0 k a0 a1 true) else (oculusref19_Kind.j0 k a0 a1 (decide (a1 < 0))))
theorem oculusref19_Kind.mono_l : ∀ k, (∀ y0 y1 y2, LeO (oculusref19_Kind.j0 k y0 y1 y2) (oculusref19_Kind.j0 (k + 1) y0 y1 y2)) ∧ (∀ y0 y1, LeO (oculusref19_Kind.j1 k y0 y1) (oculusref19_Kind.j1 (k + 1) y0 y1))
  | 0 => ⟨fun _ _ _ r h => by simp [oculusref19_Kind.j0] at h, fun _ _ r h => by simp [oculusref19_Kind.j1] at h⟩
  | k + 1 => by
    obtain ⟨ih0, ih1⟩ := oculusref19_Kind.mono_l k
    refine ⟨?_, ?_⟩
    · intro y0 y1 y2
      unfold oculusref19_Kind.j0
      repeat' first
      | (with_reducible exact ih0 _ _ _)
      | (with_reducible exact ih1 _ _)
      | (with_reducible exact LeO.refl _)
      | (with_reducible exact LeO.none _)
      | (with_reducible refine LeO.ite ?_ ?_)
      | (with_reducible refine LeO.bind ?_ (fun _ => ?_))
      | exact ih0 _ _ _
      | exact ih1 _ _
      | exact LeO.none _
      | refine LeO.ite ?_ ?_
      | refine LeO.bind ?_ (fun _ => ?_)
    · intro y0 y1
      unfold oculusref19_Kind.j1
      repeat' first
      | (with_reducible exact ih0 _ _ _)
      | (with_reducible exact ih1 _ _)
      | (with_reducible exact LeO.refl _)
      | (with_reducible exact LeO.none _)
      | (with_reducible refine LeO.ite ?_ ?_)
      | (with_reducible refine LeO.bind ?_ (fun _ => ?_))
      | exact ih0 _ _ _
      | exact ih1 _ _
      | exact LeO.none _
      | refine LeO.ite ?_ ?_
      | refine LeO.bind ?_ (fun _ => ?_)
theorem oculusref19_Kind.mono : ∀ a0 a1 k, LeO (oculusref19_Kind.f k a0 a1) (oculusref19_Kind.f (k + 1) a0 a1) := by
  intro a0 a1 k
  obtain ⟨ih0, ih1⟩ := oculusref19_Kind.mono_l k
  unfold oculusref19_Kind.f
  repeat' first
      | (with_reducible exact ih0 _ _ _)
      | (with_reducible exact ih1 _ _)
      | (with_reducible exact LeO.refl _)
      | (with_reducible exact LeO.none _)
      | (with_reducible refine LeO.ite ?_ ?_)
      | (with_reducible refine LeO.bind ?_ (fun _ => ?_))
      | exact ih0 _ _ _
      | exact ih1 _ _
      | exact LeO.none _
      | refine LeO.ite ?_ ?_
      | refine LeO.bind ?_ (fun _ => ?_)
set_option maxHeartbeats 8000000 in
set_option maxRecDepth 100000 in
theorem oculusref19_Kind.calls (k : Nat) (a0 : Int) (a1 : Int) (r : Int) (w : World) (h : oculusref19_Kind.f k a0 a1 = some r) :
    Calls Try.prog 25 #[.int .i64 a0, .int .i64 a1] w fun e w' => e = .returned (.int .u8 r) ∧ Below w.heap.size w w' := by
  have HB := Aside0.mk (Below.refl w.heap.size w)
  have H : (if a0 < 1 then (oculusref19_Kind.j0 k a0 a1 true) else (if a0 > 78 then (oculusref19_Kind.j0 k a0 a1 true) else (oculusref19_Kind.j0 k a0 a1 (decide (a1 < 0))))) = some r := h
  clear h
  have HC3 := Aside0.mk H
  clear H
  go_enter Try.func25, Try.ntmps25
  go_upto_region 1 with (fail)
  go_cut [15] (fun v15 wc => ∃ (kq : Nat) (x15_2 : Bool), v15 = .bool x15_2 ∧ Aside0 (oculusref19_Kind.j0 kq a0 a1 x15_2 = some r) ∧ Aside0 (kq ≤ k) ∧ Aside0 (Below w.heap.size w wc))
  case first =>
    have H := HC3.out
    clear HC3
    by_cases c4 : a0 < 1
    · rw [if_pos c4] at H
      have c4b0 : decide (a0 < 1) = true := decide_eq_true c4
      clear c4
      (first | rw [c4b0] | (simp only [i64_w, i32_w]; rw [c4b0]) | skip)
      have H' := Aside0.mk H
      clear H
      go_wp2
      go_meet
      case rel => exact ⟨_, (true), (by first | rfl | (simp; done) | (simp [*]; done)), H', ⟨by first | omega | exact Nat.le_refl _⟩, ⟨pbx HB⟩⟩
    · rw [if_neg c4] at H
      have c4b0 : decide (a0 < 1) = false := decide_eq_false c4
      clear c4
      (first | rw [c4b0] | (simp only [i64_w, i32_w]; rw [c4b0]) | skip)
      by_cases c5 : a0 > 78
      · rw [if_pos c5] at H
        have c5b0 : decide (78 < a0) = true := decide_eq_true c5
        clear c5
        have H' := Aside0.mk H
        clear H
        go_wp2
        go_meet
        case rel => exact ⟨_, (true), (by first | rfl | (simp; done) | (simp [*]; done)), H', ⟨by first | omega | exact Nat.le_refl _⟩, ⟨pbx HB⟩⟩
      · rw [if_neg c5] at H
        have c5b0 : decide (78 < a0) = false := decide_eq_false c5
        clear c5
        have H' := Aside0.mk H
        clear H
        go_wp2
        go_meet
        case rel => exact ⟨_, (decide (a1 < 0)), (by first | rfl | (simp; done) | (simp [*]; done)), H', ⟨by first | omega | exact Nat.le_refl _⟩, ⟨pbx HB⟩⟩
  case rest =>
    clear HC3
    try clear c2
    try clear p2
    try clear c4
    try clear c4b0
    try clear c5
    try clear c5b0
    obtain ⟨kq, x15_2, rfl, HA, HJ2, HB⟩ := hcut
    cases kq with
    | zero => exact absurd HA.out (by simp [oculusref19_Kind.j0])
    | succ kj2 =>
      have H := HA.out
      clear HA
      simp only [oculusref19_Kind.j0] at H
      by_cases c6 : x15_2 = true
      · subst c6
        have H1 : (some 0) = some r := by rw [if_pos rfl] at H; exact H
        clear H
        have H := H1
        clear H1
        obtain rfl := Option.some.inj H
        go_wp2
        go_ret
        exact ⟨by first | rfl | (simp [errW_none, errW_some] <;> rfl) | (simp [*, errW_none, errW_some] <;> rfl), pbx HB⟩
      · replace c6 := Bool.eq_false_iff.mpr c6
        subst c6
        have H1 : ((oculusref19_Rows.f).bind fun t101 => (if 0 ≤ (wrap64 (a0 - 1)) then (if (wrap64 (a0 - 1)) < (t101.length : Int) then (oculusref19_Kind.j1 kj2 a1 (rdOf ByteArray.empty t101 (wrap64 (a0 - 1)))) else (none)) else (none))) = some r := by rw [if_neg (show ¬ (false = true) by decide)] at H; exact H
        clear H
        have H := H1
        clear H1
        have HC7 := Aside0.mk H
        clear H
        go_upto_region 3 with (fail)
        go_cut [5] (fun v5 wc => ∃ (kq : Nat) (x5_6 : ByteArray), v5 = .string x5_6 ∧ Aside0 (oculusref19_Kind.j1 kq a1 x5_6 = some r) ∧ Aside0 (kq ≤ kj2) ∧ Aside0 (Below w.heap.size w wc))
        case first =>
          have H := HC7.out
          clear HC7
          replace H := Option.bind_eq_some_iff.mp H
          obtain ⟨t101, A80, H⟩ := H
          replace H : (if 0 ≤ (wrap64 (a0 - 1)) then (if (wrap64 (a0 - 1)) < (t101.length : Int) then (oculusref19_Kind.j1 kj2 a1 (rdOf ByteArray.empty t101 (wrap64 (a0 - 1)))) else (none)) else (none)) = some r := H
          have A8 := Aside0.mk A80
          clear A80
          obtain ⟨ji9, hji9⟩ : ∃ j_ : Int, (wrap64 (a0 - 1)) = j_ := ⟨_, rfl⟩
          replace H : (if 0 ≤ (ji9) then (if (ji9) < (t101.length : Int) then (oculusref19_Kind.j1 kj2 a1 (rdOf ByteArray.empty t101 (ji9))) else (none)) else (none)) = some r := by first | (rw [hji9] at H; exact H) | (simp only [hji9] at H ⊢; exact H)
          (try rw [hji9] at A8)
          have hji9w : (IntKind.i64.wrap (a0 - 1)) = ji9 := (i64_w _).trans hji9
          by_cases c10 : 0 ≤ (ji9)
          · rw [if_pos c10] at H
            have c10b0 : decide (0 ≤ (ji9)) = true := decide_eq_true c10
            clear c10
            (first | rw [c10b0] | (simp only [i64_w, i32_w]; rw [c10b0]) | skip)
            by_cases c11 : (ji9) < (t101.length : Int)
            · rw [if_pos c11] at H
              have c11b0 : decide ((ji9) < (t101.length : Int)) = true := decide_eq_true c11
              clear c11
              have H' := Aside0.mk H
              clear H
              go_wp2_with (first | ((with_reducible refine gate_callee (f := 44) rfl ?_); refine goesL_ (some 16) rfl rfl Try.func44 (by kernel_rfl) rfl #[] rfl (by (try simp only [List.map_toArray, List.map_cons, List.map_nil]); first | done | rfl | (simp only [List.length_drop, List.length_take]; rfl)) ?_; (with_reducible refine (oculusref19_Rows.calls  t101 _ A8.out).mono ?_); rintro e w12 ⟨v102, rfl, ho0, hb⟩; refine ⟨_, rfl, ?_⟩; have n0_ := Aside0.mk (Kd.R_lower ho0 (below_size (pbx HB))); have n1_ := Aside0.mk (below_step (pbx HB) hb); clear HB; have HO103 := n0_; have HB := n1_; clear n0_ n1_; (try clear hb); (try clear hb2); (try clear hk); (try clear hi); (try clear ho0); obtain ⟨Ao13, co13, eo13⟩ := Kd.R_slice HO103.out; subst eo13; have p104 : 0 ≤ ((ji9) : Int) := of_decide_eq_true (by first | (with_reducible assumption) | assumption); have q104 : (ji9) < (t101.length : Int) := of_decide_eq_true (by first | (with_reducible assumption) | assumption); obtain ⟨ad104, e104, hx104_0⟩ := Kd.at_string (Kd.R_reads' HO103.out).2.2 (ji9) p104 q104; cases e104; replace p104 := eq_true p104; replace q104 := eq_true q104))
              go_meet
              case rel => exact ⟨_, (rdOf ByteArray.empty t101 (ji9)), (by first | rfl | (simp; done) | (simp only [← hji9] <;> (first | rfl | simp)) | (simp [*]; done)), H', ⟨by have := HJ2.out; first | omega | exact Nat.le_refl _⟩, ⟨pbx HB⟩⟩
            · rw [if_neg c11] at H
              exact absurd H (by simp)
          · rw [if_neg c10] at H
            exact absurd H (by simp)
        case rest =>
          clear HC7
          try clear c1
          try clear p1
          try clear q1
          try clear hx1
          try clear c2
          try clear p2
          try clear c4
          try clear c4b0
          try clear c5
          try clear c5b0
          try clear c6
          try clear p6
          try clear c10
          try clear c10b0
          try clear p10
          try clear q10
          try clear hx10
          try clear c11
          try clear c11b0
          try clear hx104_0
          try clear p104
          try clear p2
          try clear q104
          obtain ⟨kq, x5_6, rfl, HA, HJ6, HB⟩ := hcut
          cases kq with
          | zero => exact absurd HA.out (by simp [oculusref19_Kind.j1])
          | succ kj6 =>
            have H := HA.out
            clear HA
            simp only [oculusref19_Kind.j1] at H
            by_cases c14 : 1 < (x5_6.size : Int)
            · rw [if_pos c14] at H
              have c14b0 : decide (1 < (x5_6.size : Int)) = true := decide_eq_true c14
              have c14b1 : decide (1 < x5_6.size) = true := decide_eq_true (by omega)
              clear c14
              by_cases c16 : a1 ≥ (wrap64 ((wrap64 (bt x5_6 1)) - 48))
              · rw [if_pos c16] at H
                have c16b0 : decide ((wrap64 ((wrap64 (bt x5_6 1)) - 48)) ≤ a1) = true := decide_eq_true c16
                clear c16
                obtain rfl := Option.some.inj H
                have p15 : 0 ≤ (1 : Int) := (by omega)
                have q15 : 1 < x5_6.size := (by have : (1 : Int) < (x5_6.size : Int) := of_decide_eq_true (by first | (with_reducible assumption) | assumption); omega)
                have hx15 : ∀ h : 1 < x5_6.size, ((x5_6[1]'h).toNat : Int) = bt x5_6 1 := bt_at x5_6 1
                clear p15
                have qi15 : (1 < (x5_6.size : Int)) = True := eq_true (of_decide_eq_true (by first | (with_reducible assumption) | assumption))
                replace q15 := eq_true q15
                go_wp2
                go_ret
                exact ⟨by first | rfl | (simp [errW_none, errW_some] <;> rfl) | (simp [*, errW_none, errW_some] <;> rfl), pbx HB⟩
              · rw [if_neg c16] at H
                have c16b0 : decide ((wrap64 ((wrap64 (bt x5_6 1)) - 48)) ≤ a1) = false := decide_eq_false c16
                clear c16
                by_cases c17 : (wrap64 (2 + a1)) < (x5_6.size : Int)
                · rw [if_pos c17] at H
                  have c17b0 : decide ((wrap64 (2 + a1)) < (x5_6.size : Int)) = true := decide_eq_true c17
                  clear c17
                  obtain ⟨ji18, hji18⟩ : ∃ j_ : Int, (wrap64 (2 + a1)) = j_ := ⟨_, rfl⟩
                  replace H : (if 0 ≤ (ji18) then (some (bt x5_6 (ji18))) else (none)) = some r := by first | (rw [hji18] at H; exact H) | (simp only [hji18] at H ⊢; exact H)
                  (try rw [hji18] at c17b0)
                  have hji18w : (IntKind.i64.wrap (2 + a1)) = ji18 := (i64_w _).trans hji18
                  by_cases c19 : 0 ≤ (ji18)
                  · rw [if_pos c19] at H
                    have c19b0 : decide (0 ≤ (ji18)) = true := decide_eq_true c19
                    clear c19
                    obtain rfl := Option.some.inj H
                    have p15 : 0 ≤ (1 : Int) := (by omega)
                    have q15 : 1 < x5_6.size := (by have : (1 : Int) < (x5_6.size : Int) := of_decide_eq_true (by first | (with_reducible assumption) | assumption); omega)
                    have hx15 : ∀ h : 1 < x5_6.size, ((x5_6[1]'h).toNat : Int) = bt x5_6 1 := bt_at x5_6 1
                    clear p15
                    have qi15 : (1 < (x5_6.size : Int)) = True := eq_true (of_decide_eq_true (by first | (with_reducible assumption) | assumption))
                    replace q15 := eq_true q15
                    have p20 : 0 ≤ ((ji18) : Int) := of_decide_eq_true (by first | (with_reducible assumption) | assumption)
                    have q20 : (ji18) < (x5_6.size : Int) := of_decide_eq_true (by first | (with_reducible assumption) | assumption)
                    have hx20 := bt_at x5_6 (ji18)
                    replace p20 := eq_true p20
                    replace q20 := eq_true q20
                    go_wp2
                    go_ret
                    exact ⟨by first | rfl | (simp [errW_none, errW_some] <;> rfl) | (simp only [← hji18]; first | rfl | (simp [errW_none, errW_some] <;> rfl)) | (simp [*, errW_none, errW_some] <;> rfl), pbx HB⟩
                  · rw [if_neg c19] at H
                    exact absurd H (by simp)
                · rw [if_neg c17] at H
                  have c17b0 : decide ((wrap64 (2 + a1)) < (x5_6.size : Int)) = false := decide_eq_false c17
                  clear c17
                  obtain ⟨ji21, hji21⟩ : ∃ j_ : Int, (wrap64 ((x5_6.size : Int) - 1)) = j_ := ⟨_, rfl⟩
                  replace H : (if 0 ≤ (ji21) then (if (ji21) < (x5_6.size : Int) then (some (bt x5_6 (ji21))) else (none)) else (none)) = some r := by first | (rw [hji21] at H; exact H) | (simp only [hji21] at H ⊢; exact H)
                  have hji21w : (IntKind.i64.wrap ((x5_6.size : Int) - 1)) = ji21 := (i64_w _).trans hji21
                  by_cases c22 : 0 ≤ (ji21)
                  · rw [if_pos c22] at H
                    have c22b0 : decide (0 ≤ (ji21)) = true := decide_eq_true c22
                    clear c22
                    by_cases c23 : (ji21) < (x5_6.size : Int)
                    · rw [if_pos c23] at H
                      have c23b0 : decide ((ji21) < (x5_6.size : Int)) = true := decide_eq_true c23
                      clear c23
                      obtain rfl := Option.some.inj H
                      have p15 : 0 ≤ (1 : Int) := (by omega)
                      have q15 : 1 < x5_6.size := (by have : (1 : Int) < (x5_6.size : Int) := of_decide_eq_true (by first | (with_reducible assumption) | assumption); omega)
                      have hx15 : ∀ h : 1 < x5_6.size, ((x5_6[1]'h).toNat : Int) = bt x5_6 1 := bt_at x5_6 1
                      clear p15
                      have qi15 : (1 < (x5_6.size : Int)) = True := eq_true (of_decide_eq_true (by first | (with_reducible assumption) | assumption))
                      replace q15 := eq_true q15
                      have p24 : 0 ≤ ((ji21) : Int) := of_decide_eq_true (by first | (with_reducible assumption) | assumption)
                      have q24 : (ji21) < (x5_6.size : Int) := of_decide_eq_true (by first | (with_reducible assumption) | assumption)
                      have hx24 := bt_at x5_6 (ji21)
                      replace p24 := eq_true p24
                      replace q24 := eq_true q24
                      go_wp2
                      go_ret
                      exact ⟨by first | rfl | (simp [errW_none, errW_some] <;> rfl) | (simp only [← hji21]; first | rfl | (simp [errW_none, errW_some] <;> rfl)) | (simp [*, errW_none, errW_some] <;> rfl), pbx HB⟩
                    · rw [if_neg c23] at H
                      exact absurd H (by simp)
                  · rw [if_neg c22] at H
                    exact absurd H (by simp)
            · rw [if_neg c14] at H
              exact absurd H (by simp)

end Go.Proofs.Ytjbdljolpkkhcaa.X
namespace Go.Proofs.Ytjbdljolpkkhcaa.X
open Go.RowKit Go.Proofs.YtjbdljolpkkhcaaW.PrintWords Go.Proofs.YtjbdljolpkkhcaaW.PrintLast Go.Proofs.YtjbdljolpkkhcaaW.PrintMore
attribute [local go_sem] max2_int min2_int max_two min_two max_three min_three max_four min_four   -- for this text's walks alone
set_option linter.unusedVariables false
set_option linter.unusedSimpArgs false

/-! ### fname_Lazy: function 26 -/
def fname_Lazy.f (k : Nat) (a0 : Int) : Option (Bool) := (fname_Kind.f k a0 0).bind fun t101 => (some (t101 == 101))
theorem fname_Lazy.mono : ∀ a0 k, LeO (fname_Lazy.f k a0) (fname_Lazy.f (k + 1) a0) := by
  intro a0 k
  unfold fname_Lazy.f
  repeat' first
      | (with_reducible exact fname_Kind.mono _ _ _)
      | (with_reducible exact LeO.refl _)
      | (with_reducible exact LeO.none _)
      | (with_reducible refine LeO.ite ?_ ?_)
      | (with_reducible refine LeO.bind ?_ (fun _ => ?_))
      | exact fname_Kind.mono _ _ _
      | exact LeO.none _
      | refine LeO.ite ?_ ?_
      | refine LeO.bind ?_ (fun _ => ?_)
set_option maxHeartbeats 8000000 in
set_option maxRecDepth 100000 in
theorem fname_Lazy.calls (k : Nat) (a0 : Int) (r : Bool) (w : World) (h : fname_Lazy.f k a0 = some r) :
    Calls Try.prog 26 #[.int .i64 a0] w fun e w' => e = .returned (.bool r) ∧ Below w.heap.size w w' := by
  have HB := Aside0.mk (Below.refl w.heap.size w)
  have H : ((fname_Kind.f k a0 0).bind fun t101 => (some (t101 == 101))) = some r := h
  clear h
  replace H := Option.bind_eq_some_iff.mp H
  obtain ⟨t101, A20, H⟩ := H
  replace H : (some (t101 == 101)) = some r := H
  have A2 := Aside0.mk A20
  clear A20
  obtain rfl := Option.some.inj H
  go_enter Try.func26, Try.ntmps26
  go_wp2_with (first | ((with_reducible refine gate_callee (f := 24) rfl ?_); refine goesL_ (some 4) rfl rfl Try.func24 (by kernel_rfl) rfl #[.int .i64 a0, .int .i64 0] rfl (by (try simp only [List.map_toArray, List.map_cons, List.map_nil]); first | done | rfl | (simp only [List.length_drop, List.length_take]; rfl)) ?_; (with_reducible refine (fname_Kind.calls k a0 0 t101 _ A2.out).mono ?_); rintro e w3 ⟨rfl, hb⟩; refine ⟨_, rfl, ?_⟩; replace HB := Aside0.mk (below_step (pbx HB) hb); (try clear hb); (try clear hb2); (try clear hk); (try clear hi)))
  go_ret
  exact ⟨by first | rfl | (simp [errW_none, errW_some] <;> rfl) | (simp [*, errW_none, errW_some] <;> rfl), pbx HB⟩

end Go.Proofs.Ytjbdljolpkkhcaa.X
namespace Go.Proofs.Ytjbdljolpkkhcaa.X
open Go.RowKit Go.Proofs.YtjbdljolpkkhcaaW.PrintWords Go.Proofs.YtjbdljolpkkhcaaW.PrintLast Go.Proofs.YtjbdljolpkkhcaaW.PrintMore
attribute [local go_sem] max2_int min2_int max_two min_two max_three min_three max_four min_four   -- for this text's walks alone
set_option linter.unusedVariables false
set_option linter.unusedSimpArgs false

/-! ### oculuslaw19_alive: function 27 -/
def oculuslaw19_alive.f (k : Nat)  : Option (Bool) := (fname_Number.f k (⟨#[86, 76, 79, 79, 75, 85, 80]⟩ : ByteArray)).bind fun t101 => (if t101 = 77 then ((fname_Kind.f k 77 1).bind fun t102 => (if t102 = 114 then ((fname_Kind.f k 67 7).bind fun t103 => (if t103 = 108 then ((fname_Kind.f k 67 8).bind fun t104 => (if t104 = 0 then ((fname_Lazy.f k 25).bind fun t105 => (if t105 = true then ((fname_Lazy.f k 67).bind fun t106 => (if t106 = true then (none) else ((fname_Name.f k 78).bind fun t107 => (if t107.toList = ([88, 79, 82] : List UInt8) then ((fname_Number.f k (⟨#[115, 117, 109]⟩ : ByteArray)).bind fun t108 => (some (t108 == 0))) else (none))))) else (none))) else (none))) else (none))) else (none))) else (none))
theorem oculuslaw19_alive.mono : ∀ k, LeO (oculuslaw19_alive.f k ) (oculuslaw19_alive.f (k + 1) ) := by
  intro  k
  unfold oculuslaw19_alive.f
  repeat' first
      | (with_reducible exact fname_Kind.mono _ _ _)
      | (with_reducible exact fname_Lazy.mono _ _)
      | (with_reducible exact fname_Name.mono _ _)
      | (with_reducible exact fname_Number.mono _ _)
      | (with_reducible exact LeO.refl _)
      | (with_reducible exact LeO.none _)
      | (with_reducible refine LeO.ite ?_ ?_)
      | (with_reducible refine LeO.bind ?_ (fun _ => ?_))
      | exact fname_Kind.mono _ _ _
      | exact fname_Lazy.mono _ _
      | exact fname_Name.mono _ _
      | exact fname_Number.mono _ _
      | exact LeO.none _
      | refine LeO.ite ?_ ?_
      | refine LeO.bind ?_ (fun _ => ?_)
set_option maxHeartbeats 8000000 in
set_option maxRecDepth 100000 in
theorem oculuslaw19_alive.calls (k : Nat)  (r : Bool) (w : World) (h : oculuslaw19_alive.f k  = some r) :
    Calls Try.prog 27 #[] w fun e w' => e = .returned (.bool r) ∧ Below w.heap.size w w' := by
  have HB := Aside0.mk (Below.refl w.heap.size w)
  have H : ((fname_Number.f k (⟨#[86, 76, 79, 79, 75, 85, 80]⟩ : ByteArray)).bind fun t101 => (if t101 = 77 then ((fname_Kind.f k 77 1).bind fun t102 => (if t102 = 114 then ((fname_Kind.f k 67 7).bind fun t103 => (if t103 = 108 then ((fname_Kind.f k 67 8).bind fun t104 => (if t104 = 0 then ((fname_Lazy.f k 25).bind fun t105 => (if t105 = true then ((fname_Lazy.f k 67).bind fun t106 => (if t106 = true then (none) else ((fname_Name.f k 78).bind fun t107 => (if t107.toList = ([88, 79, 82] : List UInt8) then ((fname_Number.f k (⟨#[115, 117, 109]⟩ : ByteArray)).bind fun t108 => (some (t108 == 0))) else (none))))) else (none))) else (none))) else (none))) else (none))) else (none))) = some r := h
  clear h
  replace H := Option.bind_eq_some_iff.mp H
  obtain ⟨t101, A10, H⟩ := H
  replace H : (if t101 = 77 then ((fname_Kind.f k 77 1).bind fun t102 => (if t102 = 114 then ((fname_Kind.f k 67 7).bind fun t103 => (if t103 = 108 then ((fname_Kind.f k 67 8).bind fun t104 => (if t104 = 0 then ((fname_Lazy.f k 25).bind fun t105 => (if t105 = true then ((fname_Lazy.f k 67).bind fun t106 => (if t106 = true then (none) else ((fname_Name.f k 78).bind fun t107 => (if t107.toList = ([88, 79, 82] : List UInt8) then ((fname_Number.f k (⟨#[115, 117, 109]⟩ : ByteArray)).bind fun t108 => (some (t108 == 0))) else (none))))) else (none))) else (none))) else (none))) else (none))) else (none)) = some r := H
  have A1 := Aside0.mk A10
  clear A10
  by_cases c2 : t101 = 77
  · rw [if_pos c2] at H
    have c2b0 : (t101 == 77) = true := beq_iff_eq.mpr c2
    have c2b1 : (t101 != 77) = false := bne_eq_false_iff_eq.mpr c2
    clear c2
    replace H := Option.bind_eq_some_iff.mp H
    obtain ⟨t102, A30, H⟩ := H
    replace H : (if t102 = 114 then ((fname_Kind.f k 67 7).bind fun t103 => (if t103 = 108 then ((fname_Kind.f k 67 8).bind fun t104 => (if t104 = 0 then ((fname_Lazy.f k 25).bind fun t105 => (if t105 = true then ((fname_Lazy.f k 67).bind fun t106 => (if t106 = true then (none) else ((fname_Name.f k 78).bind fun t107 => (if t107.toList = ([88, 79, 82] : List UInt8) then ((fname_Number.f k (⟨#[115, 117, 109]⟩ : ByteArray)).bind fun t108 => (some (t108 == 0))) else (none))))) else (none))) else (none))) else (none))) else (none)) = some r := H
    have A3 := Aside0.mk A30
    clear A30
    by_cases c4 : t102 = 114
    · rw [if_pos c4] at H
      have c4b0 : (t102 == 114) = true := beq_iff_eq.mpr c4
      have c4b1 : (t102 != 114) = false := bne_eq_false_iff_eq.mpr c4
      clear c4
      replace H := Option.bind_eq_some_iff.mp H
      obtain ⟨t103, A50, H⟩ := H
      replace H : (if t103 = 108 then ((fname_Kind.f k 67 8).bind fun t104 => (if t104 = 0 then ((fname_Lazy.f k 25).bind fun t105 => (if t105 = true then ((fname_Lazy.f k 67).bind fun t106 => (if t106 = true then (none) else ((fname_Name.f k 78).bind fun t107 => (if t107.toList = ([88, 79, 82] : List UInt8) then ((fname_Number.f k (⟨#[115, 117, 109]⟩ : ByteArray)).bind fun t108 => (some (t108 == 0))) else (none))))) else (none))) else (none))) else (none)) = some r := H
      have A5 := Aside0.mk A50
      clear A50
      by_cases c6 : t103 = 108
      · rw [if_pos c6] at H
        have c6b0 : (t103 == 108) = true := beq_iff_eq.mpr c6
        have c6b1 : (t103 != 108) = false := bne_eq_false_iff_eq.mpr c6
        clear c6
        replace H := Option.bind_eq_some_iff.mp H
        obtain ⟨t104, A70, H⟩ := H
        replace H : (if t104 = 0 then ((fname_Lazy.f k 25).bind fun t105 => (if t105 = true then ((fname_Lazy.f k 67).bind fun t106 => (if t106 = true then (none) else ((fname_Name.f k 78).bind fun t107 => (if t107.toList = ([88, 79, 82] : List UInt8) then ((fname_Number.f k (⟨#[115, 117, 109]⟩ : ByteArray)).bind fun t108 => (some (t108 == 0))) else (none))))) else (none))) else (none)) = some r := H
        have A7 := Aside0.mk A70
        clear A70
        by_cases c8 : t104 = 0
        · rw [if_pos c8] at H
          have c8b0 : (t104 == 0) = true := beq_iff_eq.mpr c8
          have c8b1 : (t104 != 0) = false := bne_eq_false_iff_eq.mpr c8
          clear c8
          replace H := Option.bind_eq_some_iff.mp H
          obtain ⟨t105, A90, H⟩ := H
          replace H : (if t105 = true then ((fname_Lazy.f k 67).bind fun t106 => (if t106 = true then (none) else ((fname_Name.f k 78).bind fun t107 => (if t107.toList = ([88, 79, 82] : List UInt8) then ((fname_Number.f k (⟨#[115, 117, 109]⟩ : ByteArray)).bind fun t108 => (some (t108 == 0))) else (none))))) else (none)) = some r := H
          have A9 := Aside0.mk A90
          clear A90
          by_cases c10 : t105 = true
          · subst c10
            have H1 : ((fname_Lazy.f k 67).bind fun t106 => (if t106 = true then (none) else ((fname_Name.f k 78).bind fun t107 => (if t107.toList = ([88, 79, 82] : List UInt8) then ((fname_Number.f k (⟨#[115, 117, 109]⟩ : ByteArray)).bind fun t108 => (some (t108 == 0))) else (none))))) = some r := by rw [if_pos rfl] at H; exact H
            clear H
            have H := H1
            clear H1
            replace H := Option.bind_eq_some_iff.mp H
            obtain ⟨t106, A110, H⟩ := H
            replace H : (if t106 = true then (none) else ((fname_Name.f k 78).bind fun t107 => (if t107.toList = ([88, 79, 82] : List UInt8) then ((fname_Number.f k (⟨#[115, 117, 109]⟩ : ByteArray)).bind fun t108 => (some (t108 == 0))) else (none)))) = some r := H
            have A11 := Aside0.mk A110
            clear A110
            by_cases c12 : t106 = true
            · subst c12
              have H1 : (none) = some r := by rw [if_pos rfl] at H; exact H
              clear H
              have H := H1
              clear H1
              exact absurd H (by simp)
            · replace c12 := Bool.eq_false_iff.mpr c12
              subst c12
              have H1 : ((fname_Name.f k 78).bind fun t107 => (if t107.toList = ([88, 79, 82] : List UInt8) then ((fname_Number.f k (⟨#[115, 117, 109]⟩ : ByteArray)).bind fun t108 => (some (t108 == 0))) else (none))) = some r := by rw [if_neg (show ¬ (false = true) by decide)] at H; exact H
              clear H
              have H := H1
              clear H1
              replace H := Option.bind_eq_some_iff.mp H
              obtain ⟨t107, A130, H⟩ := H
              replace H : (if t107.toList = ([88, 79, 82] : List UInt8) then ((fname_Number.f k (⟨#[115, 117, 109]⟩ : ByteArray)).bind fun t108 => (some (t108 == 0))) else (none)) = some r := H
              have A13 := Aside0.mk A130
              clear A130
              by_cases c14 : t107.toList = ([88, 79, 82] : List UInt8)
              · rw [if_pos c14] at H
                have c14b0 : (t107.toList == ([88, 79, 82] : List UInt8)) = true := beq_iff_eq.mpr c14
                have c14b1 : (t107.toList != ([88, 79, 82] : List UInt8)) = false := bne_eq_false_iff_eq.mpr c14
                clear c14
                replace H := Option.bind_eq_some_iff.mp H
                obtain ⟨t108, A150, H⟩ := H
                replace H : (some (t108 == 0)) = some r := H
                have A15 := Aside0.mk A150
                clear A150
                obtain rfl := Option.some.inj H
                go_enter Try.func27, Try.ntmps27
                go_wp2_with (first | ((with_reducible refine gate_callee (f := 18) rfl ?_); refine goesL_ (some 1) rfl rfl Try.func18 (by kernel_rfl) rfl #[.string (⟨#[86, 76, 79, 79, 75, 85, 80]⟩ : ByteArray)] rfl (by (try simp only [List.map_toArray, List.map_cons, List.map_nil]); first | done | rfl | (simp only [List.length_drop, List.length_take]; rfl)) ?_; (with_reducible refine (fname_Number.calls k (⟨#[86, 76, 79, 79, 75, 85, 80]⟩ : ByteArray) t101 _ A1.out).mono ?_); rintro e w' ⟨rfl, ⟨nd, rfl⟩⟩; refine ⟨_, rfl, ?_⟩) | (go_at_call 24; (with_reducible refine (fname_Kind.calls k 77 1 t102 _ A3.out).mono ?_); rintro e w16 ⟨rfl, hb⟩; replace HB := Aside0.mk (below_step (pbx HB) hb); (try clear hb); (try clear hb2); (try clear hk); (try clear hi)) | (go_at_call 24; (with_reducible refine (fname_Kind.calls k 67 7 t103 _ A5.out).mono ?_); rintro e w17 ⟨rfl, hb⟩; replace HB := Aside0.mk (below_step (pbx HB) hb); (try clear hb); (try clear hb2); (try clear hk); (try clear hi)) | (go_at_call 24; (with_reducible refine (fname_Kind.calls k 67 8 t104 _ A7.out).mono ?_); rintro e w18 ⟨rfl, hb⟩; replace HB := Aside0.mk (below_step (pbx HB) hb); (try clear hb); (try clear hb2); (try clear hk); (try clear hi)) | (go_at_call 26; (with_reducible refine (fname_Lazy.calls k 25 true _ A9.out).mono ?_); rintro e w19 ⟨rfl, hb⟩; replace HB := Aside0.mk (below_step (pbx HB) hb); (try clear hb); (try clear hb2); (try clear hk); (try clear hi)) | (go_at_call 26; (with_reducible refine (fname_Lazy.calls k 67 false _ A11.out).mono ?_); rintro e w20 ⟨rfl, hb⟩; replace HB := Aside0.mk (below_step (pbx HB) hb); (try clear hb); (try clear hb2); (try clear hk); (try clear hi)) | (go_at_call 20; (with_reducible refine (fname_Name.calls k 78 t107 _ A13.out).mono ?_); rintro e w' ⟨rfl, ⟨nd, rfl⟩⟩) | (go_at_call 18; (with_reducible refine (fname_Number.calls k (⟨#[115, 117, 109]⟩ : ByteArray) t108 _ A15.out).mono ?_); rintro e w' ⟨rfl, ⟨nd, rfl⟩⟩))
                go_ret
                exact ⟨by first | rfl | (simp [errW_none, errW_some] <;> rfl) | (simp [*, errW_none, errW_some] <;> rfl), pbx HB⟩
              · rw [if_neg c14] at H
                exact absurd H (by simp)
          · replace c10 := Bool.eq_false_iff.mpr c10
            subst c10
            have H1 : (none) = some r := by rw [if_neg (show ¬ (false = true) by decide)] at H; exact H
            clear H
            have H := H1
            clear H1
            exact absurd H (by simp)
        · rw [if_neg c8] at H
          exact absurd H (by simp)
      · rw [if_neg c6] at H
        exact absurd H (by simp)
    · rw [if_neg c4] at H
      exact absurd H (by simp)
  · rw [if_neg c2] at H
    exact absurd H (by simp)

end Go.Proofs.Ytjbdljolpkkhcaa.X
namespace Go.Proofs.Ytjbdljolpkkhcaa.X
open Go.RowKit Go.Proofs.YtjbdljolpkkhcaaW.PrintWords Go.Proofs.YtjbdljolpkkhcaaW.PrintLast Go.Proofs.YtjbdljolpkkhcaaW.PrintMore
attribute [local go_sem] max2_int min2_int max_two min_two max_three min_three max_four min_four   -- for this text's walks alone
set_option linter.unusedVariables false
set_option linter.unusedSimpArgs false

/-! ### oculuslaw19_FnameTells: function 6 -/
def oculuslaw19_FnameTells.f (k : Nat) (a0 : ByteArray) (a1 : Int) (a2 : Int) : Option (Bool) := (fname_Number.f k a0).bind fun t101 => ((oculusref19_Find.f k a0).bind fun t102 => (if t101 = t102 then ((fname_Name.f k a1).bind fun t103 => ((oculusref19_Name.f a1).bind fun t104 => (if t103.toList = t104.toList then ((fname_Fits.f k a1 a2).bind fun t105 => ((oculusref19_Fits.f a1 a2).bind fun t106 => (if (t105 == t106) = true then ((fname_Kind.f k a1 a2).bind fun t107 => ((oculusref19_Kind.f k a1 a2).bind fun t108 => (if t107 = t108 then ((fname_Lazy.f k a1).bind fun t109 => ((oculusref19_Kind.f k a1 0).bind fun t110 => (if (t109 == (t110 == 101)) = true then ((oculuslaw19_alive.f k).bind fun t111 => (some t111)) else (none)))) else (none)))) else (none)))) else (none)))) else (none)))
theorem oculuslaw19_FnameTells.mono : ∀ a0 a1 a2 k, LeO (oculuslaw19_FnameTells.f k a0 a1 a2) (oculuslaw19_FnameTells.f (k + 1) a0 a1 a2) := by
  intro a0 a1 a2 k
  unfold oculuslaw19_FnameTells.f
  repeat' first
      | (with_reducible exact fname_Fits.mono _ _ _)
      | (with_reducible exact fname_Kind.mono _ _ _)
      | (with_reducible exact fname_Lazy.mono _ _)
      | (with_reducible exact fname_Name.mono _ _)
      | (with_reducible exact fname_Number.mono _ _)
      | (with_reducible exact oculuslaw19_alive.mono _)
      | (with_reducible exact oculusref19_Find.mono _ _)
      | (with_reducible exact oculusref19_Kind.mono _ _ _)
      | (with_reducible exact LeO.refl _)
      | (with_reducible exact LeO.none _)
      | (with_reducible refine LeO.ite ?_ ?_)
      | (with_reducible refine LeO.bind ?_ (fun _ => ?_))
      | exact fname_Fits.mono _ _ _
      | exact fname_Kind.mono _ _ _
      | exact fname_Lazy.mono _ _
      | exact fname_Name.mono _ _
      | exact fname_Number.mono _ _
      | exact oculuslaw19_alive.mono _
      | exact oculusref19_Find.mono _ _
      | exact oculusref19_Kind.mono _ _ _
      | exact LeO.none _
      | refine LeO.ite ?_ ?_
      | refine LeO.bind ?_ (fun _ => ?_)
set_option maxHeartbeats 8000000 in
set_option maxRecDepth 100000 in
theorem oculuslaw19_FnameTells.calls (k : Nat) (a0 : ByteArray) (a1 : Int) (a2 : Int) (r : Bool) (w : World) (h : oculuslaw19_FnameTells.f k a0 a1 a2 = some r) :
    Calls Try.prog 6 #[.string a0, .int .i64 a1, .int .i64 a2] w fun e w' => e = .returned (.bool r) ∧ Below w.heap.size w w' := by
  have HB := Aside0.mk (Below.refl w.heap.size w)
  have H : ((fname_Number.f k a0).bind fun t101 => ((oculusref19_Find.f k a0).bind fun t102 => (if t101 = t102 then ((fname_Name.f k a1).bind fun t103 => ((oculusref19_Name.f a1).bind fun t104 => (if t103.toList = t104.toList then ((fname_Fits.f k a1 a2).bind fun t105 => ((oculusref19_Fits.f a1 a2).bind fun t106 => (if (t105 == t106) = true then ((fname_Kind.f k a1 a2).bind fun t107 => ((oculusref19_Kind.f k a1 a2).bind fun t108 => (if t107 = t108 then ((fname_Lazy.f k a1).bind fun t109 => ((oculusref19_Kind.f k a1 0).bind fun t110 => (if (t109 == (t110 == 101)) = true then ((oculuslaw19_alive.f k).bind fun t111 => (some t111)) else (none)))) else (none)))) else (none)))) else (none)))) else (none)))) = some r := h
  clear h
  replace H := Option.bind_eq_some_iff.mp H
  obtain ⟨t101, A40, H⟩ := H
  replace H : ((oculusref19_Find.f k a0).bind fun t102 => (if t101 = t102 then ((fname_Name.f k a1).bind fun t103 => ((oculusref19_Name.f a1).bind fun t104 => (if t103.toList = t104.toList then ((fname_Fits.f k a1 a2).bind fun t105 => ((oculusref19_Fits.f a1 a2).bind fun t106 => (if (t105 == t106) = true then ((fname_Kind.f k a1 a2).bind fun t107 => ((oculusref19_Kind.f k a1 a2).bind fun t108 => (if t107 = t108 then ((fname_Lazy.f k a1).bind fun t109 => ((oculusref19_Kind.f k a1 0).bind fun t110 => (if (t109 == (t110 == 101)) = true then ((oculuslaw19_alive.f k).bind fun t111 => (some t111)) else (none)))) else (none)))) else (none)))) else (none)))) else (none))) = some r := H
  have A4 := Aside0.mk A40
  clear A40
  replace H := Option.bind_eq_some_iff.mp H
  obtain ⟨t102, A50, H⟩ := H
  replace H : (if t101 = t102 then ((fname_Name.f k a1).bind fun t103 => ((oculusref19_Name.f a1).bind fun t104 => (if t103.toList = t104.toList then ((fname_Fits.f k a1 a2).bind fun t105 => ((oculusref19_Fits.f a1 a2).bind fun t106 => (if (t105 == t106) = true then ((fname_Kind.f k a1 a2).bind fun t107 => ((oculusref19_Kind.f k a1 a2).bind fun t108 => (if t107 = t108 then ((fname_Lazy.f k a1).bind fun t109 => ((oculusref19_Kind.f k a1 0).bind fun t110 => (if (t109 == (t110 == 101)) = true then ((oculuslaw19_alive.f k).bind fun t111 => (some t111)) else (none)))) else (none)))) else (none)))) else (none)))) else (none)) = some r := H
  have A5 := Aside0.mk A50
  clear A50
  by_cases c6 : t101 = t102
  · rw [if_pos c6] at H
    have c6b0 : (t101 == t102) = true := beq_iff_eq.mpr c6
    have c6b1 : (t101 != t102) = false := bne_eq_false_iff_eq.mpr c6
    clear c6
    replace H := Option.bind_eq_some_iff.mp H
    obtain ⟨t103, A70, H⟩ := H
    replace H : ((oculusref19_Name.f a1).bind fun t104 => (if t103.toList = t104.toList then ((fname_Fits.f k a1 a2).bind fun t105 => ((oculusref19_Fits.f a1 a2).bind fun t106 => (if (t105 == t106) = true then ((fname_Kind.f k a1 a2).bind fun t107 => ((oculusref19_Kind.f k a1 a2).bind fun t108 => (if t107 = t108 then ((fname_Lazy.f k a1).bind fun t109 => ((oculusref19_Kind.f k a1 0).bind fun t110 => (if (t109 == (t110 == 101)) = true then ((oculuslaw19_alive.f k).bind fun t111 => (some t111)) else (none)))) else (none)))) else (none)))) else (none))) = some r := H
    have A7 := Aside0.mk A70
    clear A70
    replace H := Option.bind_eq_some_iff.mp H
    obtain ⟨t104, A80, H⟩ := H
    replace H : (if t103.toList = t104.toList then ((fname_Fits.f k a1 a2).bind fun t105 => ((oculusref19_Fits.f a1 a2).bind fun t106 => (if (t105 == t106) = true then ((fname_Kind.f k a1 a2).bind fun t107 => ((oculusref19_Kind.f k a1 a2).bind fun t108 => (if t107 = t108 then ((fname_Lazy.f k a1).bind fun t109 => ((oculusref19_Kind.f k a1 0).bind fun t110 => (if (t109 == (t110 == 101)) = true then ((oculuslaw19_alive.f k).bind fun t111 => (some t111)) else (none)))) else (none)))) else (none)))) else (none)) = some r := H
    have A8 := Aside0.mk A80
    clear A80
    by_cases c9 : t103.toList = t104.toList
    · rw [if_pos c9] at H
      have c9b0 : (t103.toList == t104.toList) = true := beq_iff_eq.mpr c9
      have c9b1 : (t103.toList != t104.toList) = false := bne_eq_false_iff_eq.mpr c9
      clear c9
      replace H := Option.bind_eq_some_iff.mp H
      obtain ⟨t105, A100, H⟩ := H
      replace H : ((oculusref19_Fits.f a1 a2).bind fun t106 => (if (t105 == t106) = true then ((fname_Kind.f k a1 a2).bind fun t107 => ((oculusref19_Kind.f k a1 a2).bind fun t108 => (if t107 = t108 then ((fname_Lazy.f k a1).bind fun t109 => ((oculusref19_Kind.f k a1 0).bind fun t110 => (if (t109 == (t110 == 101)) = true then ((oculuslaw19_alive.f k).bind fun t111 => (some t111)) else (none)))) else (none)))) else (none))) = some r := H
      have A10 := Aside0.mk A100
      clear A100
      replace H := Option.bind_eq_some_iff.mp H
      obtain ⟨t106, A110, H⟩ := H
      replace H : (if (t105 == t106) = true then ((fname_Kind.f k a1 a2).bind fun t107 => ((oculusref19_Kind.f k a1 a2).bind fun t108 => (if t107 = t108 then ((fname_Lazy.f k a1).bind fun t109 => ((oculusref19_Kind.f k a1 0).bind fun t110 => (if (t109 == (t110 == 101)) = true then ((oculuslaw19_alive.f k).bind fun t111 => (some t111)) else (none)))) else (none)))) else (none)) = some r := H
      have A11 := Aside0.mk A110
      clear A110
      by_cases c12 : (t105 == t106) = true
      · rw [if_pos c12] at H
        have c12b0 : (t105 == t106) = true := c12
        (try (have c12b1 : decide (t105 = t106) = true := by simpa using c12))
        (try (have c12b2 : (t105 == t106) = true := by simpa using c12))
        clear c12
        replace H := Option.bind_eq_some_iff.mp H
        obtain ⟨t107, A130, H⟩ := H
        replace H : ((oculusref19_Kind.f k a1 a2).bind fun t108 => (if t107 = t108 then ((fname_Lazy.f k a1).bind fun t109 => ((oculusref19_Kind.f k a1 0).bind fun t110 => (if (t109 == (t110 == 101)) = true then ((oculuslaw19_alive.f k).bind fun t111 => (some t111)) else (none)))) else (none))) = some r := H
        have A13 := Aside0.mk A130
        clear A130
        replace H := Option.bind_eq_some_iff.mp H
        obtain ⟨t108, A140, H⟩ := H
        replace H : (if t107 = t108 then ((fname_Lazy.f k a1).bind fun t109 => ((oculusref19_Kind.f k a1 0).bind fun t110 => (if (t109 == (t110 == 101)) = true then ((oculuslaw19_alive.f k).bind fun t111 => (some t111)) else (none)))) else (none)) = some r := H
        have A14 := Aside0.mk A140
        clear A140
        by_cases c15 : t107 = t108
        · rw [if_pos c15] at H
          have c15b0 : (t107 == t108) = true := beq_iff_eq.mpr c15
          have c15b1 : (t107 != t108) = false := bne_eq_false_iff_eq.mpr c15
          clear c15
          replace H := Option.bind_eq_some_iff.mp H
          obtain ⟨t109, A160, H⟩ := H
          replace H : ((oculusref19_Kind.f k a1 0).bind fun t110 => (if (t109 == (t110 == 101)) = true then ((oculuslaw19_alive.f k).bind fun t111 => (some t111)) else (none))) = some r := H
          have A16 := Aside0.mk A160
          clear A160
          replace H := Option.bind_eq_some_iff.mp H
          obtain ⟨t110, A170, H⟩ := H
          replace H : (if (t109 == (t110 == 101)) = true then ((oculuslaw19_alive.f k).bind fun t111 => (some t111)) else (none)) = some r := H
          have A17 := Aside0.mk A170
          clear A170
          by_cases c18 : (t109 == (t110 == 101)) = true
          · rw [if_pos c18] at H
            have c18b0 : (t109 == (t110 == 101)) = true := c18
            (try (have c18b1 : decide (t109 = (t110 == 101)) = true := by simpa using c18))
            (try (have c18b2 : (t109 == (t110 == 101)) = true := by simpa using c18))
            clear c18
            replace H := Option.bind_eq_some_iff.mp H
            obtain ⟨t111, A190, H⟩ := H
            replace H : (some t111) = some r := H
            have A19 := Aside0.mk A190
            clear A190
            obtain rfl := Option.some.inj H
            go_enter Try.func6, Try.ntmps6
            go_wp2_with (first | ((with_reducible refine gate_callee (f := 18) rfl ?_); refine goesL_ (some 8) rfl rfl Try.func18 (by kernel_rfl) rfl #[.string a0] rfl (by (try simp only [List.map_toArray, List.map_cons, List.map_nil]); first | done | rfl | (simp only [List.length_drop, List.length_take]; rfl)) ?_; (with_reducible refine (fname_Number.calls k a0 t101 _ A4.out).mono ?_); rintro e w' ⟨rfl, ⟨nd, rfl⟩⟩; refine ⟨_, rfl, ?_⟩) | ((with_reducible refine gate_callee (f := 19) rfl ?_); refine goesL_ (some 10) rfl rfl Try.func19 (by kernel_rfl) rfl #[.string a0] rfl (by (try simp only [List.map_toArray, List.map_cons, List.map_nil]); first | done | rfl | (simp only [List.length_drop, List.length_take]; rfl)) ?_; (with_reducible refine (oculusref19_Find.calls k a0 t102 _ A5.out).mono ?_); rintro e w20 ⟨rfl, hb⟩; refine ⟨_, rfl, ?_⟩; replace HB := Aside0.mk (below_step (pbx HB) hb); (try clear hb); (try clear hb2); (try clear hk); (try clear hi)) | (go_at_call 20; (with_reducible refine (fname_Name.calls k a1 t103 _ A7.out).mono ?_); rintro e w' ⟨rfl, ⟨nd, rfl⟩⟩) | (go_at_call 21; (with_reducible refine (oculusref19_Name.calls a1 t104 _ A8.out).mono ?_); rintro e w21 ⟨rfl, hb⟩; replace HB := Aside0.mk (below_step (pbx HB) hb); (try clear hb); (try clear hb2); (try clear hk); (try clear hi)) | (go_at_call 22; (with_reducible refine (fname_Fits.calls k a1 a2 t105 _ A10.out).mono ?_); rintro e w' ⟨rfl, ⟨nd, rfl⟩⟩) | (go_at_call 23; (with_reducible refine (oculusref19_Fits.calls a1 a2 t106 _ A11.out).mono ?_); rintro e w22 ⟨rfl, hb⟩; replace HB := Aside0.mk (below_step (pbx HB) hb); (try clear hb); (try clear hb2); (try clear hk); (try clear hi)) | (go_at_call 24; (with_reducible refine (fname_Kind.calls k a1 a2 t107 _ A13.out).mono ?_); rintro e w23 ⟨rfl, hb⟩; replace HB := Aside0.mk (below_step (pbx HB) hb); (try clear hb); (try clear hb2); (try clear hk); (try clear hi)) | (go_at_call 25; (with_reducible refine (oculusref19_Kind.calls k a1 a2 t108 _ A14.out).mono ?_); rintro e w24 ⟨rfl, hb⟩; replace HB := Aside0.mk (below_step (pbx HB) hb); (try clear hb); (try clear hb2); (try clear hk); (try clear hi)) | (go_at_call 26; (with_reducible refine (fname_Lazy.calls k a1 t109 _ A16.out).mono ?_); rintro e w25 ⟨rfl, hb⟩; replace HB := Aside0.mk (below_step (pbx HB) hb); (try clear hb); (try clear hb2); (try clear hk); (try clear hi)) | (go_at_call 25; (with_reducible refine (oculusref19_Kind.calls k a1 0 t110 _ A17.out).mono ?_); rintro e w26 ⟨rfl, hb⟩; replace HB := Aside0.mk (below_step (pbx HB) hb); (try clear hb); (try clear hb2); (try clear hk); (try clear hi)) | (go_at_call 27; (with_reducible refine (oculuslaw19_alive.calls k  t111 _ A19.out).mono ?_); rintro e w27 ⟨rfl, hb⟩; replace HB := Aside0.mk (below_step (pbx HB) hb); (try clear hb); (try clear hb2); (try clear hk); (try clear hi)))
            go_ret
            exact ⟨by first | rfl | (simp [errW_none, errW_some] <;> rfl) | (simp [*, errW_none, errW_some] <;> rfl), pbx HB⟩
          · rw [if_neg c18] at H
            exact absurd H (by simp)
        · rw [if_neg c15] at H
          exact absurd H (by simp)
      · rw [if_neg c12] at H
        exact absurd H (by simp)
    · rw [if_neg c9] at H
      exact absurd H (by simp)
  · rw [if_neg c6] at H
    exact absurd H (by simp)

/-- THE ONE PURE STATEMENT of oculuslaw19_FnameTells: yours. -/
def oculuslaw19_FnameTells.Pure : Prop := ∀ (a0 : ByteArray) (a1 : Int) (a2 : Int), a0.size ≤ 140737488351232 → (Lit.int .i64 a1).wf = true → (Lit.int .i64 a2).wf = true → ∃ k, oculuslaw19_FnameTells.f k a0 a1 a2 = some true
theorem oculuslaw19_FnameTells.walk (P : oculuslaw19_FnameTells.Pure) (a0 : ByteArray) (a1 : Int) (a2 : Int) (w : World) (w0 : a0.size ≤ 140737488351232) (w1 : (Lit.int .i64 a1).wf = true) (w2 : (Lit.int .i64 a2).wf = true) :
    Calls Try.prog 6 #[.string a0, .int .i64 a1, .int .i64 a2] w fun e w' => e = .returned (.bool true) ∧ Below w.heap.size w w' := by
  obtain ⟨k, h⟩ := P a0 a1 a2 w0 w1 w2
  refine (oculuslaw19_FnameTells.calls k a0 a1 a2 true w h).mono ?_
  rintro e w' ⟨rfl, hd⟩
  exact ⟨rfl, hd⟩

end Go.Proofs.Ytjbdljolpkkhcaa.X
/- A general opening of a row's arguments: what a value of a type reads as, as a term of a kind 'Kd', with the bounds that the row's reach gives. -/
set_option linter.unusedVariables false
set_option linter.unusedSimpArgs false
namespace Go.Proofs.Ytjbdljolpkkhcaa.Opn
open Go.ChangeShapes Go.WideShapes Go.RowKit Go.Proofs.YtjbdljolpkkhcaaW.PrintWords

/-- Whatever is read at type t is a cell row of some a of kind d that is good. -/
def Opens {α : Type} (P : Program) (t : TypeId) (d : Kd α) (good : α → Prop) : Prop :=
  ∀ {H : Type} {enc : TypeId × Value → H} {w : World} {base : Nat} {spare : Nat → Bool} {held : Bool} {fuel : Nat} {cs : List Value} {x : DataW H × List MemPlace},
    DataW.trod enc P w base spare held fuel t cs = some x → (∀ m ∈ x.1.weights P t, m ≤ reachBytes) → ∃ a, d.K w a cs ∧ good a

theorem Opens.imp {α : Type} {P : Program} {t : TypeId} {d : Kd α} {good good' : α → Prop} (h : Opens P t d good) (hg : ∀ a, good a → good' a) : Opens P t d good' := by
  intro H enc w base spare held fuel cs x hx hw
  obtain ⟨a, ha, hga⟩ := h hx hw
  exact ⟨a, ha, hg a hga⟩

theorem opens_int {P : Program} {t : TypeId} {k : IntKind} (ht : P.underlying t = some (.int k)) : Opens P t (Kd.int k) (fun n => (Lit.int k n).wf = true) := by
  intro H enc w base spare held fuel cs x hx _
  obtain ⟨n, rfl, rfl, hn⟩ := DataW.trod_int ht hx
  exact ⟨n, rfl, hn⟩
theorem opens_bool {P : Program} {t : TypeId} (ht : P.underlying t = some .bool) : Opens P t Kd.bool (fun _ => True) := by
  intro H enc w base spare held fuel cs x hx _
  obtain ⟨n, rfl, rfl⟩ := DataW.trod_bool ht hx
  exact ⟨n, rfl, trivial⟩
theorem opens_string {P : Program} {t : TypeId} (ht : P.underlying t = some .string) : Opens P t Kd.string (fun s => s.size ≤ reachBytes) := by
  intro H enc w base spare held fuel cs x hx hw
  obtain ⟨s, rfl, rfl, _⟩ := DataW.trod_string ht hx
  refine ⟨s, rfl, ?_⟩
  have := hw s.data.toList.length (by simp [DataW.weights])
  simpa using this

theorem weightsAll_mem {H : Type} {P : Program} {e : TypeId} : ∀ {l : List (DataW H)} {d : DataW H}, d ∈ l → ∀ m ∈ d.weights P e, m ∈ DataW.weightsAll P e l
  | d0 :: l, d, hd, m, hm => by
    simp only [DataW.weightsAll, List.mem_append]
    rcases List.mem_cons.1 hd with rfl | hd
    · exact Or.inl hm
    · exact Or.inr (weightsAll_mem hd m hm)
  | [], _, hd, _, _ => by simp at hd

/-- A slice of whatever elements. -/
theorem opens_slice {α : Type} {P : Program} {t e : TypeId} {d : Kd α} {good : α → Prop} (ht : P.underlying t = some (.slice e)) (hc : P.cellsOf e = d.sz) {B : Nat} (hB : P.bytesOf e = B) (z : α) (h : Opens P e d good) :
    Opens P t (Kd.slice e d) (fun xs => (∀ x ∈ xs, good x) ∧ xs.length * B ≤ reachBytes) := by
  intro H enc w base spare held fuel cs x hx hw
  rcases Go.Deep.open_slice ht hx with ⟨rfl, rfl⟩ | ⟨a, len, cap, m, n, D, Pl, rfl, hb, hl, hm, hmm, rfl, hel⟩
  · exact ⟨[], ⟨none, 0, rfl, Nat.le_refl _, rfl, by simp, fun h0 => absurd h0 (by simp)⟩, by simp, by simp⟩
  · have hlm : len ≤ m := by rw [hmm]; split <;> omega
    have hmx : len ≤ 9223372036854775807 := by unfold maxLen at hm; omega
    have hw' : ∀ i, i < len → ∀ q ∈ (D i).weights P e, q ≤ reachBytes := by
      intro i hi q hq
      refine hw q ?_
      simp only [DataW.weights, ht]
      refine List.mem_cons_of_mem _ (List.mem_append.2 (Or.inl ?_))
      exact weightsAll_mem (d := D i) (List.mem_map.2 ⟨i, List.mem_range.2 hi, rfl⟩) q hq
    have hB' : len * B ≤ reachBytes := by
      have h0 := hw ((((List.range len).map D).length + ((List.range (m - len)).map fun j => D (len + j)).length) * P.bytesOf e) (by simp only [DataW.weights, ht]; exact List.mem_cons_self ..)
      rw [hB] at h0
      simp only [List.length_map, List.length_range] at h0
      exact Nat.le_trans (Nat.mul_le_mul_right B (by omega)) h0
    have key : ∀ i, i < len → ∃ y : α × List Value, d.K w y.1 y.2 ∧ good y.1 ∧ w.cells? base (a.add (i * P.cellsOf e)) (P.cellsOf e) = some y.2 := by
      intro i hi
      obtain ⟨cs', h1, h2⟩ := hel i (by omega)
      obtain ⟨y, h3, h4⟩ := h h2 (hw' i hi)
      exact ⟨(y, cs'), h3, h4, h1⟩
    haveI : Inhabited (α × List Value) := ⟨(z, [])⟩
    obtain ⟨F, hF⟩ := Go.Deep.choose_lt key
    refine ⟨(List.range len).map fun i => (F i).1, ⟨some a, cap, by simp, by simpa using hl, by simp, by simpa using hmx, fun h0 => ⟨a, rfl, ?_⟩⟩, ?_, by simpa using hB'⟩
    · intro j p hj
      have hjl : j < len := by
        have := (List.getElem?_eq_some_iff.1 hj).1
        simpa using this
      have hp : p = (F j).1 := by
        rw [List.getElem?_map, List.getElem?_range hjl] at hj
        simpa using hj.symm
      subst hp
      obtain ⟨h1, h2, h3⟩ := hF j hjl
      obtain ⟨_, hlen, hcell⟩ := World.cells?_some h3
      refine ⟨(F j).2, by rw [hlen, hc], h1, fun i u hu => ?_⟩
      have hi : i < P.cellsOf e := by
        have := (List.getElem?_eq_some_iff.1 hu).1
        omega
      have := hcell i hi
      rw [Go.Deep.add_add] at this
      rw [← hc, this, hu]
    · intro x hx
      obtain ⟨i, hi, rfl⟩ := List.mem_map.1 hx
      exact (hF i (List.mem_range.1 hi)).2.1

/-- The fields from one place on. -/
def OpensTail {α : Type} (P : Program) (fs : List Field) (o len : Nat) (d : Kd α) (good : α → Prop) : Prop :=
  ∀ {H : Type} {enc : TypeId × Value → H} {w : World} {base : Nat} {spare : Nat → Bool} {held : Bool} {n : Nat} {cs : List Value} {xs : List (DataW H × List MemPlace)},
    cs.length = len → xs.length = fs.length →
    (∀ (i : Nat) (f : Field), fs[i]? = some f → DataW.trod enc P w base spare held n f.type ((cs.drop f.offset).take (P.cellsOf f.type)) = xs[i]?) →
    (∀ m ∈ DataW.weightsEach P (fs.map (·.type)) (xs.map (·.1)), m ≤ reachBytes) → ∃ a, d.K w a (cs.drop o) ∧ good a

theorem tail_one {α : Type} {P : Program} {f : Field} {o len : Nat} {d : Kd α} {good : α → Prop} (ho : f.offset = o) (hl : len ≤ o + P.cellsOf f.type) (h : Opens P f.type d good) : OpensTail P [f] o len d good := by
  intro H enc w base spare held n cs xs hcs hxs hall hw
  obtain ⟨x, rfl⟩ : ∃ x, xs = [x] := by
    match xs, hxs with
    | [x], _ => exact ⟨x, rfl⟩
  have h0 := hall 0 f rfl
  rw [ho, List.take_of_length_le (by rw [List.length_drop]; omega)] at h0
  exact h h0 (fun m hm => hw m (by simp only [List.map_cons, List.map_nil, DataW.weightsEach, List.mem_append]; exact Or.inl hm))
theorem tail_cons {α β : Type} {P : Program} {f : Field} {fs : List Field} {o o' len : Nat} {a : Kd α} {b : Kd β} {ga : α → Prop} {gb : β → Prop} (ho : f.offset = o) (ho' : o' = o + P.cellsOf f.type)
    (h : Opens P f.type a ga) (ht : OpensTail P fs o' len b gb) : OpensTail P (f :: fs) o len (Kd.pair a b) (fun x => ga x.1 ∧ gb x.2) := by
  intro H enc w base spare held n cs xs hcs hxs hall hw
  obtain ⟨x, xs, rfl⟩ : ∃ x r, xs = x :: r := by
    match xs, hxs with
    | x :: r, _ => exact ⟨x, r, rfl⟩
  have h0 := hall 0 f rfl
  rw [ho] at h0
  obtain ⟨y, hy, hgy⟩ := h h0 (fun m hm => hw m (by simp only [List.map_cons, DataW.weightsEach, List.mem_append]; exact Or.inl hm))
  obtain ⟨z, hz, hgz⟩ := ht (xs := xs) hcs (by simpa using hxs) (fun i g hg => by simpa using hall (i + 1) g (by simpa using hg))
    (fun m hm => hw m (by simp only [List.map_cons, DataW.weightsEach, List.mem_append]; exact Or.inr hm))
  refine ⟨(y, z), ⟨(cs.drop o).take (P.cellsOf f.type), cs.drop o', ?_, hy, hz⟩, hgy, hgz⟩
  rw [ho', ← List.drop_drop, List.take_append_drop]
/-- A struct: its fields one behind the other. -/
theorem opens_struct {α β : Type} {P : Program} {t : TypeId} {fs : Array Field} {len : Nat} {d : Kd α} {good : α → Prop} (ht : P.underlying t = some (.struct fs)) (hl : P.cellsOf t = len) (h : OpensTail P fs.toList 0 len d good) (f : β → α) (g : α → β) (hfg : ∀ a, f (g a) = a) :
    Opens P t (Kd.iso d f) (fun x => good (f x)) := by
  intro H enc w base spare held fuel cs x hx hw
  obtain ⟨xs, n, rfl, rfl, hcs, hxs, hall⟩ := DataW.trod_struct ht hx
  obtain ⟨a, ha, hga⟩ := h (xs := xs) (hcs.trans hl) (by simpa using hxs) (fun i f hf => hall i f (by simpa using hf)) (fun m hm => hw m (by simp only [DataW.weights, ht]; exact hm))
  refine ⟨g a, ?_, by show good (f (g a)); rw [hfg]; exact hga⟩
  show d.K w (f (g a)) cs
  rw [hfg]
  simpa using ha
/-- A struct of one field. -/
theorem Opens.iso {α β : Type} {P : Program} {t : TypeId} {d : Kd α} {good : α → Prop} (h : Opens P t d good) (f : β → α) (g : α → β) (hfg : ∀ a, f (g a) = a) : Opens P t (Kd.iso d f) (fun x => good (f x)) := by
  intro H enc w base spare held fuel cs x hx hw
  obtain ⟨a, ha, hga⟩ := h hx hw
  refine ⟨g a, ?_, by show good (f (g a)); rw [hfg]; exact hga⟩
  show d.K w (f (g a)) cs
  rw [hfg]
  exact ha
/-- Arrays of two, and of three, as structs of so many fields. -/
theorem opens_array2 {α β : Type} {P : Program} {t e : TypeId} {d : Kd α} {good : α → Prop} (ht : P.underlying t = some (.array 2 e)) {len c : Nat} (hl : P.cellsOf t = len) (hc : P.cellsOf e = c) (hlen : len = 2 * c) (h : Opens P e d good) (f : β → α × α) (g : α × α → β) (hfg : ∀ a, f (g a) = a) :
    Opens P t (Kd.iso (Kd.pair d d) f) (fun x => good (f x).1 ∧ good (f x).2) := by
  intro H enc w base spare held fuel cs x hx hw
  obtain ⟨xs, n, rfl, rfl, hcs, hxs, hall⟩ := DataW.trod_array ht hx
  obtain ⟨x0, x1, rfl⟩ : ∃ a b, xs = [a, b] := by
    match xs, hxs with
    | [a, b], _ => exact ⟨a, b, rfl⟩
  have hw' : ∀ m ∈ DataW.weightsAll P e [x0.1, x1.1], m ≤ reachBytes := fun m hm => hw m (by simp only [DataW.weights, ht]; exact hm)
  have h0 := hall 0 (by omega)
  have h1 := hall 1 (by omega)
  rw [hc] at h0 h1
  obtain ⟨a0, k0, g0⟩ := h h0 (fun m hm => hw' m (weightsAll_mem (by simp) m hm))
  obtain ⟨a1, k1, g1⟩ := h h1 (fun m hm => hw' m (weightsAll_mem (by simp) m hm))
  refine ⟨g (a0, a1), ?_, by show good (f (g (a0, a1))).1 ∧ good (f (g (a0, a1))).2; rw [hfg]; exact ⟨g0, g1⟩⟩
  show (Kd.pair d d).K w (f (g (a0, a1))) cs
  rw [hfg]
  refine ⟨_, _, ?_, k0, k1⟩
  rw [Nat.zero_mul, List.drop_zero, Nat.one_mul, List.take_of_length_le (l := cs.drop c) (by rw [List.length_drop]; omega), List.take_append_drop]
theorem opens_array3 {α β : Type} {P : Program} {t e : TypeId} {d : Kd α} {good : α → Prop} (ht : P.underlying t = some (.array 3 e)) {len c : Nat} (hl : P.cellsOf t = len) (hc : P.cellsOf e = c) (hlen : len = 3 * c) (h : Opens P e d good) (f : β → α × α × α) (g : α × α × α → β) (hfg : ∀ a, f (g a) = a) :
    Opens P t (Kd.iso (Kd.pair d (Kd.pair d d)) f) (fun x => good (f x).1 ∧ good (f x).2.1 ∧ good (f x).2.2) := by
  intro H enc w base spare held fuel cs x hx hw
  obtain ⟨xs, n, rfl, rfl, hcs, hxs, hall⟩ := DataW.trod_array ht hx
  obtain ⟨x0, x1, x2, rfl⟩ : ∃ a b c, xs = [a, b, c] := by
    match xs, hxs with
    | [a, b, c], _ => exact ⟨a, b, c, rfl⟩
  have hw' : ∀ m ∈ DataW.weightsAll P e [x0.1, x1.1, x2.1], m ≤ reachBytes := fun m hm => hw m (by simp only [DataW.weights, ht]; exact hm)
  have h0 := hall 0 (by omega)
  have h1 := hall 1 (by omega)
  have h2 := hall 2 (by omega)
  rw [hc] at h0 h1 h2
  obtain ⟨a0, k0, g0⟩ := h h0 (fun m hm => hw' m (weightsAll_mem (by simp) m hm))
  obtain ⟨a1, k1, g1⟩ := h h1 (fun m hm => hw' m (weightsAll_mem (by simp) m hm))
  obtain ⟨a2, k2, g2⟩ := h h2 (fun m hm => hw' m (weightsAll_mem (by simp) m hm))
  refine ⟨g (a0, a1, a2), ?_, by show good (f (g (a0, a1, a2))).1 ∧ good (f (g (a0, a1, a2))).2.1 ∧ good (f (g (a0, a1, a2))).2.2; rw [hfg]; exact ⟨g0, g1, g2⟩⟩
  show (Kd.pair d (Kd.pair d d)).K w (f (g (a0, a1, a2))) cs
  rw [hfg]
  refine ⟨_, _, ?_, k0, _, _, rfl, k1, k2⟩
  rw [Nat.zero_mul, List.drop_zero, Nat.one_mul, List.take_of_length_le (l := cs.drop (2 * c)) (by rw [List.length_drop]; omega)]
  rw [show 2 * c = c + c by omega, ← List.drop_drop, List.take_append_drop, List.take_append_drop]
theorem okWide_array {P : Program} {w : World} {r : Reach} {b0 : Nat} {t e : TypeId} {n : Nat} {v : Value} (hs : P.underlying t = some (.array n e)) (hv : Value.okWide P w r b0 t v) : ∃ cs, v = .agg cs ∧ cs.size = P.cellsOf t := by
  unfold Value.okWide at hv
  rw [hs] at hv
  obtain ⟨cs, h1, h2, _⟩ := hv
  exact ⟨cs, h1, h2⟩
end Go.Proofs.Ytjbdljolpkkhcaa.Opn
/- The openings of the arguments of the law FnameTells, and its pure statement. -/
set_option linter.unusedVariables false
namespace Go.Proofs.Ytjbdljolpkkhcaa.X
open Go.RowKit Go.Proofs.YtjbdljolpkkhcaaW.PrintWords Go.Proofs.YtjbdljolpkkhcaaW.PrintLast Go.Proofs.YtjbdljolpkkhcaaW.PrintMore Go.Proofs.Ytjbdljolpkkhcaa.Opn
/-- What is left: a statement over numbers and lists alone. -/
def oculuslaw19_FnameTells.PureX : Prop := ∀ (a0 : ByteArray) (a1 : Int) (a2 : Int), (a0.size ≤ reachBytes) → ((Lit.int .i64 a1).wf = true) → ((Lit.int .i64 a2).wf = true) → ∃ k, oculuslaw19_FnameTells.f k a0 a1 a2 = some true
end Go.Proofs.Ytjbdljolpkkhcaa.X
/- Plain facts on whole numbers, bits and lists that the pure statements use. -/
set_option linter.unusedVariables false
set_option linter.unusedSimpArgs false
namespace Go.Proofs.Ytjbdljolpkkhcaa.X
open Go.RowKit Go.Proofs.YtjbdljolpkkhcaaW.PrintWords Go.Proofs.YtjbdljolpkkhcaaW.PrintLast Go.Proofs.YtjbdljolpkkhcaaW.PrintMore

theorem wf_i64 {x : Int} (h : (Lit.int .i64 x).wf = true) : -9223372036854775808 ≤ x ∧ x ≤ 9223372036854775807 := by
  simp only [Lit.wf, IntKind.min, IntKind.max, IntKind.signed, IntKind.bits, Bool.and_eq_true, decide_eq_true_eq, if_true] at h
  omega
theorem wf_u64 {x : Int} (h : (Lit.int .u64 x).wf = true) : 0 ≤ x ∧ x < 18446744073709551616 := by
  simp [Lit.wf, IntKind.min, IntKind.max, IntKind.signed, IntKind.bits] at h
  omega
theorem wf_nat {x : Int} (h : (Lit.int .u64 x).wf = true) : ∃ n : Nat, x = (n : Int) ∧ n < 18446744073709551616 := by
  obtain ⟨h1, h2⟩ := wf_u64 h
  exact ⟨x.toNat, by omega, by omega⟩
theorem w64 {x : Int} (h0 : -9223372036854775808 ≤ x) (h1 : x ≤ 9223372036854775807) : wrap64 x = x := by unfold wrap64; omega
theorem w64s {i n : Nat} (h : i < n) (hn : n ≤ 9223372036854775807) : wrap64 ((i : Int) + 1) = ((i + 1 : Nat) : Int) := by unfold wrap64; omega

/-! Ev: with enough rounds. -/
theorem ev_now {α : Type} (r : α) : Ev (fun _ : Nat => some r) r := Ev.now r
theorem ev_some {α : Type} {g : Nat → Option α} {r : α} (h : ∀ k, g k = some r) : Ev g r := ⟨0, fun k _ => h k⟩
theorem ev_ite {α : Type} {c : Prop} [Decidable c] {f g : Nat → Option α} {r : α} (h1 : c → Ev f r) (h2 : ¬ c → Ev g r) : Ev (fun k => if c then f k else g k) r := by
  by_cases h : c
  · simp only [if_pos h]; exact h1 h
  · simp only [if_neg h]; exact h2 h
theorem ev_pos {α : Type} {c : Prop} [Decidable c] {f g : Nat → Option α} {r : α} (h : c) (h1 : Ev f r) : Ev (fun k => if c then f k else g k) r := by simp only [if_pos h]; exact h1
theorem ev_neg {α : Type} {c : Prop} [Decidable c] {f g : Nat → Option α} {r : α} (h : ¬ c) (h1 : Ev g r) : Ev (fun k => if c then f k else g k) r := by simp only [if_neg h]; exact h1
theorem ev_bind {α β : Type} {g : Nat → Option α} {f : Nat → α → Option β} {a : α} {r : β} (h : Ev g a) (k : Ev (fun n => f n a) r) : Ev (fun n => (g n).bind (f n)) r := Ev.bind h k
theorem ev_bsome {α β : Type} {x : α} {f : Nat → α → Option β} {r : β} (k : Ev (fun n => f n x) r) : Ev (fun n => (some x).bind (f n)) r := k

/-! Bits. -/
theorem mod_pow_succ (x i : Nat) : x % 2 ^ (i + 1) = x % 2 ^ i + 2 ^ i * (x.testBit i).toNat := by
  rw [Nat.pow_succ, Nat.mod_mul, Nat.testBit_eq_decide_div_mod_eq]
  have := Nat.mod_two_eq_zero_or_one (x / 2 ^ i)
  rcases this with h | h <;> simp [h]
theorem and_compl (a b : Nat) (ha : a < 2 ^ 64) (hb : b < 2 ^ 64) : (a &&& (18446744073709551615 - b) = 0) ↔ (a &&& b = a) := by
  have e : 18446744073709551615 - b = 2 ^ 64 - (b + 1) := by omega
  rw [e]
  constructor
  · intro h
    apply Nat.eq_of_testBit_eq
    intro i
    have := congrArg (fun n => Nat.testBit n i) h
    simp only [Nat.testBit_and, Nat.testBit_two_pow_sub_succ hb, Nat.zero_testBit] at this
    rw [Nat.testBit_and]
    by_cases hi : i < 64
    · simp [hi] at this
      cases h1 : a.testBit i <;> simp_all
    · have : a.testBit i = false := Nat.testBit_lt_two_pow (Nat.lt_of_lt_of_le ha (Nat.pow_le_pow_right (by omega) (by omega)))
      simp [this]
  · intro h
    apply Nat.eq_of_testBit_eq
    intro i
    have := congrArg (fun n => Nat.testBit n i) h
    simp only [Nat.testBit_and] at this
    rw [Nat.testBit_and, Nat.testBit_two_pow_sub_succ hb, Nat.zero_testBit]
    cases h1 : a.testBit i <;> simp_all
theorem within_iff (a b : Nat) (ha : a < 18446744073709551616) (hb : b < 18446744073709551616) : (Go.bits .andNot .u64 (a : Int) (b : Int) == 0) = decide (a &&& b = a) := by
  rw [u64_andNot _ _ (by omega) (by omega) (by omega) (by omega)]
  rw [Bool.eq_iff_iff]
  simp only [Int.toNat_natCast, beq_iff_eq, decide_eq_true_eq]
  rw [← and_compl a b ha hb]
  omega
end Go.Proofs.Ytjbdljolpkkhcaa.X
/- Plain facts on texts as lists of bytes. -/
set_option linter.unusedVariables false
set_option linter.unusedSimpArgs false
namespace Go.Proofs.Ytjbdljolpkkhcaa.X
open Go.RowKit Go.Proofs.YtjbdljolpkkhcaaW.PrintWords Go.Proofs.YtjbdljolpkkhcaaW.PrintLast Go.Proofs.YtjbdljolpkkhcaaW.PrintMore
/-- A text's bytes; the text of bytes. -/
def by_ (s : ByteArray) : List UInt8 := s.data.toList
def tx (l : List UInt8) : ByteArray := ⟨l.toArray⟩
theorem by_tx (l : List UInt8) : by_ (tx l) = l := by simp [by_, tx]
theorem tx_by (s : ByteArray) : tx (by_ s) = s := by
  obtain ⟨⟨l⟩⟩ := s
  rfl
theorem by_inj {s t : ByteArray} (h : by_ s = by_ t) : s = t := by rw [← tx_by s, ← tx_by t, h]
theorem toList_by (s : ByteArray) : s.toList = by_ s := ByteArray.toList_eq s
theorem size_by (s : ByteArray) : s.size = (by_ s).length := by
  obtain ⟨⟨l⟩⟩ := s
  rfl
theorem size_tx (l : List UInt8) : (tx l).size = l.length := by rw [size_by, by_tx]
theorem toList_inj {s t : ByteArray} : s.toList = t.toList ↔ s = t := by
  rw [toList_by, toList_by]
  exact ⟨by_inj, fun h => by rw [h]⟩
theorem by_extract (s : ByteArray) (a b : Nat) : by_ (s.extract a b) = ((by_ s).drop a).take (b - a) := Go.Lib.extract_data s a b
theorem by_head (s : ByteArray) (b : Nat) : by_ (s.extract 0 b) = (by_ s).take b := by rw [by_extract]; simp
theorem by_tail (s : ByteArray) (a : Nat) : by_ (s.extract a s.size) = (by_ s).drop a := by
  rw [by_extract, List.take_of_length_le]
  rw [List.length_drop, size_by]
  exact Nat.le_refl _
theorem ext_head (s : ByteArray) (b : Nat) : s.extract 0 b = tx ((by_ s).take b) := by_inj (by rw [by_head, by_tx])
theorem ext_tail (s : ByteArray) (a : Nat) : s.extract a s.size = tx ((by_ s).drop a) := by_inj (by rw [by_tail, by_tx])
theorem ext_mid (s : ByteArray) (a b : Nat) : s.extract a b = tx (((by_ s).drop a).take (b - a)) := by_inj (by rw [by_extract, by_tx])
theorem by_append (s t : ByteArray) : by_ (s ++ t) = by_ s ++ by_ t := by
  obtain ⟨⟨l⟩⟩ := s
  obtain ⟨⟨m⟩⟩ := t
  simp [by_, ByteArray.data_append]
theorem tx_append (l m : List UInt8) : tx l ++ tx m = tx (l ++ m) := by_inj (by rw [by_append, by_tx, by_tx, by_tx])
theorem bt_by (s : ByteArray) (i : Nat) (h : i < (by_ s).length) : bt s (i : Int) = ((by_ s)[i].toNat : Int) := by
  obtain ⟨⟨l⟩⟩ := s
  have h' : (i : Int).toNat < (⟨⟨l⟩⟩ : ByteArray).size := by rw [Int.toNat_natCast]; exact h
  unfold bt
  rw [dif_pos h']
  simp only [Int.toNat_natCast]
  rfl
theorem bt_tx (l : List UInt8) (i : Nat) (h : i < l.length) : bt (tx l) (i : Int) = (l[i].toNat : Int) := by
  rw [bt_by (tx l) i (by rw [by_tx]; exact h)]
  simp only [by_tx]
theorem bt_tx0 (c : UInt8) (l : List UInt8) : bt (tx (c :: l)) 0 = (c.toNat : Int) := bt_tx (c :: l) 0 (by simp)
theorem u8_lt (c : UInt8) : c.toNat < 256 := c.toNat_lt
theorem u8_inj {a b : UInt8} (h : a.toNat = b.toNat) : a = b := UInt8.toNat_inj.1 h
end Go.Proofs.Ytjbdljolpkkhcaa.X
/- What strings.Cut at one byte answers. -/
set_option linter.unusedVariables false
set_option linter.unusedSimpArgs false
namespace Go.Proofs.Ytjbdljolpkkhcaa.X
open Go.RowKit Go.Proofs.YtjbdljolpkkhcaaW.PrintWords Go.Proofs.YtjbdljolpkkhcaaW.PrintLast Go.Proofs.YtjbdljolpkkhcaaW.PrintMore
/-- Cut at the first c. -/
def cutL (c : UInt8) : List UInt8 → List UInt8 × List UInt8 × Bool
  | [] => ([], [], false)
  | b :: l => if b = c then ([], l, true) else (b :: (cutL c l).1, (cutL c l).2.1, (cutL c l).2.2)
theorem index_cut (c : UInt8) : ∀ l : List UInt8, (Lib.indexByte l c = -1 ∧ (cutL c l).1 = l ∧ (cutL c l).2.1 = [] ∧ (cutL c l).2.2 = false) ∨
    ∃ n : Nat, Lib.indexByte l c = (n : Int) ∧ n < l.length ∧ (cutL c l).1 = l.take n ∧ (cutL c l).2.1 = l.drop (n + 1) ∧ (cutL c l).2.2 = true
  | [] => Or.inl ⟨rfl, rfl, rfl, rfl⟩
  | b :: l => by
    by_cases h : b = c
    · refine Or.inr ⟨0, ?_, by simp, ?_, ?_, ?_⟩
      · simp [Lib.indexByte, h]
      · simp [cutL, h]
      · simp [cutL, h]
      · simp [cutL, h]
    · rcases index_cut c l with ⟨h1, h2, h3, h4⟩ | ⟨n, h1, h2, h3, h4, h5⟩
      · left
        refine ⟨?_, ?_, ?_, ?_⟩
        · simp [Lib.indexByte, h, h1]
        · simp [cutL, h, h2]
        · simp [cutL, h, h3]
        · simp [cutL, h, h4]
      · right
        refine ⟨n + 1, ?_, by simp; omega, ?_, ?_, ?_⟩
        · simp only [Lib.indexByte, beq_eq_false_iff_ne.2 h, h1]
          rw [if_neg (by simp), if_neg (by first | (simp; done) | (simp; omega))]
          omega
        · simp [cutL, h, h3]
        · simp [cutL, h, h4]
        · simp [cutL, h, h5]
theorem cut_eq (s : ByteArray) (c : UInt8) (hs : s.size ≤ 4611686018427387904) : strings_Cut.f s (tx [c]) = some (tx (cutL c (by_ s)).1, tx (cutL c (by_ s)).2.1, (cutL c (by_ s)).2.2) := by
  unfold strings_Cut.f stringslite_Cut.f stringslite_Index.f
  have h1 : (tx [c]).size = 1 := by rw [size_tx]; rfl
  have h2 : (tx [c])[0]'(by rw [h1]; decide) = c := rfl
  rw [dif_pos h1, h2]
  simp only [Option.bind_some]
  rcases index_cut c (by_ s) with ⟨g1, g2, g3, g4⟩ | ⟨n, g1, g2, g3, g4, g5⟩
  · rw [show Lib.indexByte s.data.toList c = -1 from g1, if_neg (by decide), g2, g3, g4, tx_by]
    rfl
  · have hl := size_by s
    rw [show Lib.indexByte s.data.toList c = (n : Int) from g1, if_pos (by omega), if_pos (by omega), if_pos (by omega), h1]
    have hw : wrap64 ((n : Int) + ((1 : Nat) : Int)) = ((n + 1 : Nat) : Int) := by unfold wrap64; omega
    rw [hw, if_pos (by omega), if_pos (by omega), g3, g4, g5]
    simp only [Option.bind_some, Int.toNat_natCast, ext_head, ext_tail]
theorem cutL_length (c : UInt8) (l : List UInt8) : (cutL c l).1.length ≤ l.length ∧ (cutL c l).2.1.length ≤ l.length := by
  rcases index_cut c l with ⟨g1, g2, g3, g4⟩ | ⟨n, g1, g2, g3, g4, g5⟩
  · rw [g2, g3]; simp
  · rw [g3, g4]; simp; omega
end Go.Proofs.Ytjbdljolpkkhcaa.X
/- What fname and its reference answer. -/
set_option linter.unusedVariables false
set_option linter.unusedSimpArgs false
namespace Go.Proofs.Ytjbdljolpkkhcaa.X
open Go.RowKit Go.Proofs.YtjbdljolpkkhcaaW.PrintWords Go.Proofs.YtjbdljolpkkhcaaW.PrintLast Go.Proofs.YtjbdljolpkkhcaaW.PrintMore
/-! The two tables as lists of bytes. -/
def NB : List ByteArray := oculusref19_Names.f.getD []
def RB : List ByteArray := oculusref19_Rows.f.getD []
theorem names_eq : oculusref19_Names.f = some NB := rfl
theorem rows_eq : oculusref19_Rows.f = some RB := rfl
def NS : List (List UInt8) := NB.map by_
def RS : List (List UInt8) := RB.map by_
def nm (n : Nat) : List UInt8 := NS.getD n []
def rs (n : Nat) : List UInt8 := RS.getD n []
def rowsL : List UInt8 := List.intercalate [59] ((NS.zip RS).map fun p => p.1 ++ p.2)
/-- The rest of a row: it begins with two digits. -/
def okR : List UInt8 → Bool
  | c0 :: c1 :: tl => decide (48 ≤ c0.toNat) && decide (c0.toNat < 65) && decide (48 ≤ c1.toNat) && decide (c1.toNat < 65) && decide (tl.length ≤ 10)
  | _ => false
def cutN : Nat → List UInt8 × List UInt8 → List UInt8 × List UInt8
  | 0, p => p
  | n + 1, p => cutN n ((cutL 59 p.2).1, (cutL 59 p.2).2.1)
def row0 : List UInt8 × List UInt8 := ((cutL 59 rowsL).1, (cutL 59 rowsL).2.1)
theorem rows_check : ∀ n : Fin 78, (cutN n.val row0).1 = nm n.val ++ rs n.val ∧ ((nm n.val).all fun x => decide (65 ≤ x.toNat)) = true ∧ okR (rs n.val) = true ∧ (nm n.val).length < 100 := by decide +kernel
theorem rs_shape {n : Nat} (h : n < 78) : ∃ c0 c1 tl, rs n = c0 :: c1 :: tl ∧ 48 ≤ c0.toNat ∧ c0.toNat < 65 ∧ 48 ≤ c1.toNat ∧ c1.toNat < 65 ∧ tl.length ≤ 10 := by
  have := (rows_check ⟨n, h⟩).2.2.1
  simp only at this
  revert this
  match rs n with
  | [] => intro h; simp [okR] at h
  | [_] => intro h; simp [okR] at h
  | c0 :: c1 :: tl =>
    intro h
    simp only [okR, Bool.and_eq_true, decide_eq_true_eq] at h
    exact ⟨c0, c1, tl, rfl, h.1.1.1.1, h.1.1.1.2, h.1.1.2, h.1.2, h.2⟩
theorem nsize : NB.length = 78 := by decide +kernel
theorem rsize : RB.length = 78 := by decide +kernel
theorem rdN {n : Nat} (h : n < 78) : rdOf ByteArray.empty NB (n : Int) = tx (nm n) := by
  unfold rdOf nm NS
  rw [Int.toNat_natCast, List.getD_eq_getElem?_getD, List.getD_eq_getElem?_getD, List.getElem?_map, List.getElem?_eq_getElem (by rw [nsize]; exact h)]
  exact (tx_by _).symm
theorem rdR {n : Nat} (h : n < 78) : rdOf ByteArray.empty RB (n : Int) = tx (rs n) := by
  unfold rdOf rs RS
  rw [Int.toNat_natCast, List.getD_eq_getElem?_getD, List.getD_eq_getElem?_getD, List.getElem?_map, List.getElem?_eq_getElem (by rw [rsize]; exact h)]
  exact (tx_by _).symm
/-! A row. -/
theorem row_l1 (a : List UInt8) (c : UInt8) (b : List UInt8) (ha : ∀ x ∈ a, 65 ≤ x.toNat) (hc : c.toNat < 65) (hl : a.length + b.length < 1000) :
    ∀ d i, i + d = a.length → Ev (fun k => fname_row.l1 k (tx (a ++ c :: b)) (i : Int)) (tx a, tx (c :: b))
  | 0, i, h => by
    have hz : (tx (a ++ c :: b)).size = a.length + (b.length + 1) := by rw [size_tx]; simp
    have hb : bt (tx (a ++ c :: b)) (i : Int) = (c.toNat : Int) := by
      rw [bt_tx _ i (by simp; omega)]
      have : i = a.length := by omega
      subst this
      simp
    refine Ev.step (f := fun k => some (tx a, tx (c :: b))) (fun k => ?_) (Ev.now _)
    simp only [fname_row.l1]
    rw [if_pos (by omega), if_pos (by omega), hb, if_neg (by omega), if_pos (by omega), Int.toNat_natCast, ext_head, ext_tail, by_tx]
    have : i = a.length := by omega
    subst this
    simp
  | d + 1, i, h => by
    have hz : (tx (a ++ c :: b)).size = a.length + (b.length + 1) := by rw [size_tx]; simp
    have hi : i < a.length := by omega
    have hb : bt (tx (a ++ c :: b)) (i : Int) = ((a[i]).toNat : Int) := by
      rw [bt_tx _ i (by simp; omega)]
      rw [List.getElem_append_left hi]
    have := ha _ (List.getElem_mem hi)
    refine Ev.step (f := fun k => fname_row.l1 k (tx (a ++ c :: b)) ((i + 1 : Nat) : Int)) (fun k => ?_) (row_l1 a c b ha hc hl d (i + 1) (by omega))
    simp only [fname_row.l1]
    rw [if_pos (by omega), if_pos (by omega), hb, if_pos (by omega), w64s (n := 2000) (by omega) (by omega)]
theorem cutN_succ (n : Nat) : ∀ p, cutN (n + 1) p = cutN n ((cutL 59 p.2).1, (cutL 59 p.2).2.1) := fun _ => rfl
theorem row_l0 (fn : Nat) (hf : fn ≤ 78) : ∀ d n s r, n + d = fn → r.length ≤ 4611686018427387904 → ∀ q, Ev (fun k => fname_row.l1 k (tx (cutN d (s, r)).1) 0) q → Ev (fun k => fname_row.l0 k (fn : Int) (tx s) (tx r) (n : Int)) q
  | 0, n, s, r, h, hr, q, hq => by
    refine Ev.step (f := fun k => fname_row.l1 k (tx s) 0) (fun k => ?_) hq
    simp only [fname_row.l0]
    rw [if_neg (by omega)]
  | d + 1, n, s, r, h, hr, q, hq => by
    have hl := (cutL_length 59 r).2
    refine Ev.step (f := fun k => fname_row.l0 k (fn : Int) (tx (cutL 59 r).1) (tx (cutL 59 r).2.1) ((n + 1 : Nat) : Int)) (fun k => ?_) (row_l0 fn hf d (n + 1) _ _ (by omega) (by omega) q hq)
    simp only [fname_row.l0]
    rw [if_pos (by omega)]
    have e : strings_Cut.f (tx r) (⟨#[59]⟩ : ByteArray) = some (tx (cutL 59 r).1, tx (cutL 59 r).2.1, (cutL 59 r).2.2) := by
      have := cut_eq (tx r) 59 (by rw [size_tx]; exact hr)
      rw [by_tx] at this
      exact this
    rw [e, Option.bind_some, w64s (n := 2000) (by omega) (by omega)]
theorem row_ev (n : Nat) (h : n < 78) : Ev (fun k => fname_row.f k ((n + 1 : Nat) : Int)) (tx (nm n), tx (rs n)) := by
  unfold fname_row.f
  refine ev_neg (by omega) ?_
  rw [decide_eq_false (by omega : ¬ ((n + 1 : Nat) : Int) > 78)]
  refine Ev.step (fun k => fname_row.j0.eq_2 _ _ _) ?_
  refine ev_neg (by simp) ?_
  refine ev_bind (a := (tx row0.1, tx row0.2, (cutL 59 rowsL).2.2)) (ev_some fun _ => ?_) ?_
  · refine (cut_eq _ 59 (by decide +kernel)).trans ?_
    exact congrArg (fun l => some (tx (cutL 59 l).1, tx (cutL 59 l).2.1, (cutL 59 l).2.2)) (by decide +kernel : by_ _ = rowsL)
  refine row_l0 (n + 1) (by omega) n 1 _ _ (by omega) (by decide +kernel) _ ?_
  obtain ⟨h1, h2, h3, h4⟩ := rows_check ⟨n, h⟩
  simp only at h1 h2 h3 h4
  rw [show (cutN n (row0.1, row0.2)).1 = nm n ++ rs n from h1]
  obtain ⟨c0, c1, tl, e, g1, g2, g3, g4, g5⟩ := rs_shape h
  rw [e]
  refine row_l1 (nm n) c0 (c1 :: tl) ?_ g2 (by simp; omega) (nm n).length 0 (by omega)
  intro x hx
  have := List.all_eq_true.1 h2 x hx
  simpa using this
theorem row_out (fn : Int) (h : fn < 1 ∨ fn > 78) : Ev (fun k => fname_row.f k fn) (tx [], tx []) := by
  unfold fname_row.f
  have hj : Ev (fun k => fname_row.j0 k fn true) (tx [], tx []) := by
    refine Ev.step (fun k => fname_row.j0.eq_2 _ _ _) ?_
    exact ev_pos rfl (Ev.now _)
  refine ev_ite (fun _ => hj) (fun h1 => ?_)
  rw [decide_eq_true (by omega : fn > 78)]
  exact hj
/-- A row's two halves, of any number. -/
def nmI (fn : Int) : List UInt8 := if fn < 1 ∨ fn > 78 then [] else nm (fn - 1).toNat
def rsI (fn : Int) : List UInt8 := if fn < 1 ∨ fn > 78 then [] else rs (fn - 1).toNat
theorem rowI_ev (fn : Int) : Ev (fun k => fname_row.f k fn) (tx (nmI fn), tx (rsI fn)) := by
  unfold nmI rsI
  by_cases h : fn < 1 ∨ fn > 78
  · rw [if_pos h, if_pos h]; exact row_out fn h
  · rw [if_neg h, if_neg h]
    have e : fn = (((fn - 1).toNat + 1 : Nat) : Int) := by omega
    have := row_ev (fn - 1).toNat (by omega)
    rw [← e] at this
    exact this
/-! Number, Name. -/
def findN (x : List UInt8) : Nat → List (List UInt8) → Int
  | _, [] => 0
  | n, y :: l => if y = x then (n : Int) else findN x (n + 1) l
theorem txl (l : List UInt8) (s : ByteArray) : ((tx l).toList = s.toList) ↔ l = by_ s := by rw [toList_by, toList_by, by_tx]
theorem ns_len : NS.length = 78 := by unfold NS; rw [List.length_map, nsize]
theorem ns_drop {n : Nat} (h : n < 78) : NS.drop n = nm n :: NS.drop (n + 1) := by
  rw [List.drop_eq_getElem_cons (by rw [ns_len]; exact h)]
  congr 1
  unfold nm
  rw [List.getD_eq_getElem?_getD, List.getElem?_eq_getElem (by rw [ns_len]; exact h)]
  rfl
theorem number_l0 (x : ByteArray) : ∀ d n : Nat, n + d = 78 → Ev (fun k => fname_Number.l0 k x ((n + 1 : Nat) : Int)) (findN (by_ x) (n + 1) (NS.drop n))
  | 0, n, h => by
    rw [List.drop_eq_nil_of_le (by rw [ns_len]; omega)]
    refine Ev.step (f := fun k => some 0) (fun k => ?_) (Ev.now _)
    simp only [fname_Number.l0]
    rw [if_neg (by omega)]
  | d + 1, n, h => by
    rw [ns_drop (by omega)]
    refine Ev.step (f := fun k => (fname_row.f k ((n + 1 : Nat) : Int)).bind fun bt101 => if bt101.1.toList = x.toList then some ((n + 1 : Nat) : Int) else fname_Number.l0 k x ((n + 1 + 1 : Nat) : Int)) (fun k => ?_) ?_
    · simp only [fname_Number.l0]
      rw [if_pos (by omega), w64s (i := n + 1) (n := 2000) (by omega) (by omega)]
    · refine ev_bind (row_ev n (by omega)) ?_
      simp only [findN]
      by_cases hx : nm n = by_ x
      · rw [if_pos hx]; exact ev_pos ((txl _ _).2 hx) (Ev.now _)
      · rw [if_neg hx]; exact ev_neg (fun h => hx ((txl _ _).1 h)) (number_l0 x d (n + 1) (by omega))
theorem number_ev (x : ByteArray) : Ev (fun k => fname_Number.f k x) (findN (by_ x) 1 NS) := number_l0 x 78 0 (by omega)
theorem find19_l0 (x : ByteArray) : ∀ d n : Nat, n + d = 78 → Ev (fun k => oculusref19_Find.l0 k x NB (n : Int)) (findN (by_ x) (n + 1) (NS.drop n))
  | 0, n, h => by
    rw [List.drop_eq_nil_of_le (by rw [ns_len]; omega)]
    refine Ev.step (f := fun k => some 0) (fun k => ?_) (Ev.now _)
    simp only [oculusref19_Find.l0]
    rw [if_neg (by rw [nsize]; omega)]
  | d + 1, n, h => by
    rw [ns_drop (by omega)]
    refine Ev.step (f := fun k => if (tx (nm n)).toList = x.toList then some ((n + 1 : Nat) : Int) else oculusref19_Find.l0 k x NB ((n + 1 : Nat) : Int)) (fun k => ?_) ?_
    · simp only [oculusref19_Find.l0]
      rw [if_pos (by rw [nsize]; omega), if_pos (by omega), rdN (by omega), w64s (n := 2000) (by omega) (by omega)]
    · simp only [findN]
      by_cases hx : nm n = by_ x
      · rw [if_pos hx]; exact ev_pos ((txl _ _).2 hx) (Ev.now _)
      · rw [if_neg hx]; exact ev_neg (fun h => hx ((txl _ _).1 h)) (find19_l0 x d (n + 1) (by omega))
theorem find19_ev (x : ByteArray) : Ev (fun k => oculusref19_Find.f k x) (findN (by_ x) 1 NS) := by
  unfold oculusref19_Find.f
  rw [names_eq]
  exact ev_bsome (find19_l0 x 78 0 (by omega))
theorem fname_ev (fn : Int) : Ev (fun k => fname_Name.f k fn) (tx (nmI fn)) := by
  unfold fname_Name.f
  exact ev_bind (rowI_ev fn) (Ev.now _)
theorem rname19 (fn : Int) : oculusref19_Name.f fn = some (tx (nmI fn)) := by
  unfold oculusref19_Name.f nmI
  by_cases h1 : fn < 1
  · rw [if_pos h1, if_pos (Or.inl h1)]; rfl
  · by_cases h2 : fn > 78
    · rw [if_neg h1, if_pos h2, if_pos (Or.inr h2)]; rfl
    · have e : wrap64 (fn - 1) = ((fn - 1).toNat : Int) := by unfold wrap64; omega
      rw [if_neg h1, if_neg h2, if_neg (by omega), names_eq, Option.bind_some, e, if_pos (by omega), if_pos (by rw [nsize]; omega), rdN (by omega)]
/-! Fits, Kind, Lazy. -/
theorem u8_sub48 (c : UInt8) : wrap64 (wrap64 (c.toNat : Int) - 48) = (c.toNat : Int) - 48 := by
  have := u8_lt c
  rw [w64 (x := (c.toNat : Int)) (by omega) (by omega), w64 (by omega) (by omega)]
def fitsL : List UInt8 → Int → Bool
  | c0 :: c1 :: _, n => if n ≥ (c0.toNat : Int) - 48 then decide (n ≤ (c1.toNat : Int) - 48) else false
  | _, _ => false
def kindL : List UInt8 → Int → Int
  | c0 :: c1 :: tl, i => if i < 0 then 0 else if i ≥ (c1.toNat : Int) - 48 then 0 else (((c0 :: c1 :: tl).getD (min (2 + i.toNat) (tl.length + 1)) 0).toNat : Int)
  | _, _ => 0
theorem rsI_shape (fn : Int) : (rsI fn = [] ∧ (fn < 1 ∨ fn > 78)) ∨ (¬ (fn < 1 ∨ fn > 78) ∧ ∃ c0 c1 tl, rs (fn - 1).toNat = c0 :: c1 :: tl ∧ rsI fn = c0 :: c1 :: tl ∧ 48 ≤ c0.toNat ∧ c0.toNat < 65 ∧ 48 ≤ c1.toNat ∧ c1.toNat < 65 ∧ tl.length ≤ 10) := by
  unfold rsI
  by_cases h : fn < 1 ∨ fn > 78
  · exact Or.inl ⟨if_pos h, h⟩
  · refine Or.inr ⟨h, ?_⟩
    obtain ⟨c0, c1, tl, e, g⟩ := rs_shape (n := (fn - 1).toNat) (by omega)
    exact ⟨c0, c1, tl, e, by rw [if_neg h, e], g⟩
theorem fits_ev (fn n : Int) : Ev (fun k => fname_Fits.f k fn n) (fitsL (rsI fn) n) := by
  unfold fname_Fits.f
  refine ev_bind (rowI_ev fn) (ev_some fun k => ?_)
  rcases rsI_shape fn with ⟨e, _⟩ | ⟨_, c0, c1, tl, _, e, g1, g2, g3, g4, g5⟩
  · rw [e, if_pos (by rw [toList_by, by_tx])]; rfl
  · rw [e]
    have hz : (tx (c0 :: c1 :: tl)).size = tl.length + 2 := by rw [size_tx]; rfl
    have b0 : bt (tx (c0 :: c1 :: tl)) 0 = (c0.toNat : Int) := bt_tx _ 0 (by simp)
    have b1 : bt (tx (c0 :: c1 :: tl)) 1 = (c1.toNat : Int) := bt_tx _ 1 (by simp)
    simp only [fitsL, b0, b1]
    rw [if_neg (by rw [toList_by, by_tx]; simp), if_pos (by omega)]
    have e0 : ((c0.toNat : Int) - 48) % 256 = (c0.toNat : Int) - 48 := by omega
    have e1 : ((c1.toNat : Int) - 48) % 256 = (c1.toNat : Int) - 48 := by omega
    rw [e0, e1]
    by_cases hn : n ≥ (c0.toNat : Int) - 48
    · rw [if_pos hn, if_pos hn, if_pos (by omega)]
    · rw [if_neg hn, if_neg hn]
theorem rfits_eq (fn n : Int) : oculusref19_Fits.f fn n = some (fitsL (rsI fn) n) := by
  unfold oculusref19_Fits.f
  rcases rsI_shape fn with ⟨e, h⟩ | ⟨h, c0, c1, tl, e', e, g1, g2, g3, g4, g5⟩
  · rw [e]
    by_cases h1 : fn < 1
    · rw [if_pos h1]; rfl
    · rw [if_neg h1, if_pos (by omega)]; rfl
  · have e2 : wrap64 (fn - 1) = ((fn - 1).toNat : Int) := by unfold wrap64; omega
    rw [e, if_neg (by omega), if_neg (by omega), rows_eq, Option.bind_some, e2, rdR (by omega), e', if_pos (by omega), if_pos (by rw [rsize]; omega)]
    have hz : (tx (c0 :: c1 :: tl)).size = tl.length + 2 := by rw [size_tx]; rfl
    have b0 : bt (tx (c0 :: c1 :: tl)) 0 = (c0.toNat : Int) := bt_tx _ 0 (by simp)
    have b1 : bt (tx (c0 :: c1 :: tl)) 1 = (c1.toNat : Int) := bt_tx _ 1 (by simp)
    simp only [fitsL, b0, b1]
    have e0 := u8_sub48 c0
    have e1 := u8_sub48 c1
    rw [e0, e1, if_pos (by omega)]
    by_cases hn : n ≥ (c0.toNat : Int) - 48
    · rw [if_pos hn, if_pos hn, if_pos (by omega)]
    · rw [if_neg hn, if_neg hn]
theorem bt_getD (l : List UInt8) (i : Nat) (h : i < l.length) : bt (tx l) (i : Int) = ((l.getD i 0).toNat : Int) := by
  rw [bt_tx l i h, List.getD_eq_getElem?_getD, List.getElem?_eq_getElem h]; rfl
theorem kind_ev (fn i : Int) : Ev (fun k => fname_Kind.f k fn i) (kindL (rsI fn) i) := by
  unfold fname_Kind.f
  refine ev_bind (rowI_ev fn) ?_
  simp only
  rcases rsI_shape fn with ⟨e, _⟩ | ⟨_, c0, c1, tl, _, e, g1, g2, g3, g4, g5⟩
  · rw [e]
    exact Ev.step (f := fun k => some 0) (fun k => by simp only [fname_Kind.j0]; rw [if_pos (by rw [toList_by, by_tx])]) (Ev.now _)
  · rw [e]
    have hz : (tx (c0 :: c1 :: tl)).size = tl.length + 2 := by rw [size_tx]; rfl
    have b1 : bt (tx (c0 :: c1 :: tl)) 1 = (c1.toNat : Int) := bt_tx _ 1 (by simp)
    refine Ev.step (f := fun k => some (kindL (c0 :: c1 :: tl) i)) (fun k => ?_) (Ev.now _)
    simp only [fname_Kind.j0, kindL, b1, hz]
    have e1 : ((c1.toNat : Int) - 48) % 256 = (c1.toNat : Int) - 48 := by omega
    rw [if_neg (by rw [toList_by, by_tx]; simp), e1]
    by_cases h1 : i < 0
    · rw [if_pos h1, if_pos h1]
    · rw [if_neg h1, if_neg h1, if_pos (by omega)]
      by_cases h2 : i ≥ (c1.toNat : Int) - 48
      · rw [if_pos h2, if_pos h2]
      · rw [if_neg h2, if_neg h2]
        have em : mn (wrap64 (2 + i)) (wrap64 (((tl.length + 2 : Nat) : Int) - 1)) = ((min (2 + i.toNat) (tl.length + 1) : Nat) : Int) := by
          rw [w64 (by omega) (by omega), w64 (by omega) (by omega)]
          unfold mn
          split <;> omega
        rw [em, if_pos (by omega), if_pos (by omega), bt_getD _ _ (by simp only [List.length_cons]; omega)]
theorem rkind_ev (fn i : Int) (hi : i ≤ 9223372036854775807) : Ev (fun k => oculusref19_Kind.f k fn i) (kindL (rsI fn) i) := by
  unfold oculusref19_Kind.f
  have hj : ∀ b : Bool, b = true → (fn < 1 ∨ fn > 78 ∨ i < 0) → Ev (fun k => oculusref19_Kind.j0 k fn i b) (kindL (rsI fn) i) := by
    intro b hb h
    subst hb
    have : kindL (rsI fn) i = 0 := by
      rcases rsI_shape fn with ⟨e, _⟩ | ⟨hh, c0, c1, tl, _, e, _⟩
      · rw [e]; rfl
      · rw [e]; simp only [kindL]; rw [if_pos (by omega)]
    rw [this]
    exact Ev.step (f := fun k => some 0) (fun k => by simp only [oculusref19_Kind.j0]; rfl) (Ev.now _)
  refine ev_ite (fun h => hj _ rfl (Or.inl h)) (fun h1 => ?_)
  refine ev_ite (fun h => hj _ rfl (Or.inr (Or.inl h))) (fun h2 => ?_)
  by_cases h3 : i < 0
  · exact hj _ (decide_eq_true h3) (Or.inr (Or.inr h3))
  · rw [decide_eq_false h3]
    rcases rsI_shape fn with ⟨_, h⟩ | ⟨h, c0, c1, tl, e', e, g1, g2, g3, g4, g5⟩
    · omega
    · have e2 : wrap64 (fn - 1) = ((fn - 1).toNat : Int) := by unfold wrap64; omega
      rw [e]
      refine Ev.step (f := fun k => oculusref19_Kind.j1 k i (tx (c0 :: c1 :: tl))) (fun k => ?_) ?_
      · simp only [oculusref19_Kind.j0]
        rw [if_neg (by simp), rows_eq, Option.bind_some, e2, rdR (by omega), e', if_pos (by omega), if_pos (by rw [rsize]; omega)]
      · have hz : (tx (c0 :: c1 :: tl)).size = tl.length + 2 := by rw [size_tx]; rfl
        have b1 : bt (tx (c0 :: c1 :: tl)) 1 = (c1.toNat : Int) := bt_tx _ 1 (by simp)
        refine Ev.step (f := fun k => some (kindL (c0 :: c1 :: tl) i)) (fun k => ?_) (Ev.now _)
        simp only [oculusref19_Kind.j1, kindL, b1, hz]
        have e1 := u8_sub48 c1
        rw [if_pos (by omega), e1, if_neg h3]
        by_cases h4 : i ≥ (c1.toNat : Int) - 48
        · rw [if_pos h4, if_pos h4]
        · rw [if_neg h4, if_neg h4]
          have w1 : wrap64 (2 + i) = ((2 + i.toNat : Nat) : Int) := by rw [w64 (by omega) (by omega)]; omega
          have w2 : wrap64 (((tl.length + 2 : Nat) : Int) - 1) = ((tl.length + 1 : Nat) : Int) := by rw [w64 (by omega) (by omega)]; omega
          rw [w1, w2]
          by_cases h5 : ((2 + i.toNat : Nat) : Int) < ((tl.length + 2 : Nat) : Int)
          · rw [if_pos h5, if_pos (by omega), bt_getD _ _ (by simp only [List.length_cons]; omega), Nat.min_eq_left (by omega)]
          · rw [if_neg h5, if_pos (by omega), if_pos (by omega), bt_getD _ _ (by simp only [List.length_cons]; omega), Nat.min_eq_right (by omega)]
theorem lazy_ev (fn : Int) : Ev (fun k => fname_Lazy.f k fn) (kindL (rsI fn) 0 == 101) := by
  unfold fname_Lazy.f
  exact ev_bind (kind_ev fn 0) (Ev.now _)
theorem alive19_ev : Ev (fun k => oculuslaw19_alive.f k) true := by
  unfold oculuslaw19_alive.f
  refine ev_bind (number_ev _) ?_
  refine ev_pos (by decide +kernel) ?_
  refine ev_bind (kind_ev _ _) ?_
  refine ev_pos (by decide +kernel) ?_
  refine ev_bind (kind_ev _ _) ?_
  refine ev_pos (by decide +kernel) ?_
  refine ev_bind (kind_ev _ _) ?_
  refine ev_pos (by decide +kernel) ?_
  refine ev_bind (lazy_ev _) ?_
  refine ev_pos (by decide +kernel) ?_
  refine ev_bind (lazy_ev _) ?_
  refine ev_neg (by decide +kernel) ?_
  refine ev_bind (fname_ev _) ?_
  refine ev_pos (by rw [toList_by, by_tx]; decide +kernel) ?_
  refine ev_bind (number_ev _) ?_
  exact ev_some (fun k => by decide +kernel)
end Go.Proofs.Ytjbdljolpkkhcaa.X
/- The pure statement of the law FnameTells: over numbers and texts alone. -/
set_option linter.unusedVariables false
set_option linter.unusedSimpArgs false
namespace Go.Proofs.Ytjbdljolpkkhcaa.Pure
open Go.RowKit Go.Proofs.Ytjbdljolpkkhcaa.X Go.Proofs.YtjbdljolpkkhcaaW.PrintWords Go.Proofs.YtjbdljolpkkhcaaW.PrintLast Go.Proofs.YtjbdljolpkkhcaaW.PrintMore
theorem FnameTells : oculuslaw19_FnameTells.PureX := by
  intro x fn n hx hf hn
  have hn := wf_i64 hn
  apply Ev.rounds
  unfold oculuslaw19_FnameTells.f
  refine ev_bind (number_ev x) ?_
  refine ev_bind (find19_ev x) ?_
  refine ev_pos rfl ?_
  refine ev_bind (fname_ev fn) ?_
  refine ev_bind (ev_some fun _ => rname19 fn) ?_
  refine ev_pos rfl ?_
  refine ev_bind (fits_ev fn n) ?_
  refine ev_bind (ev_some fun _ => rfits_eq fn n) ?_
  refine ev_pos (beq_self_eq_true _) ?_
  refine ev_bind (kind_ev fn n) ?_
  refine ev_bind (rkind_ev fn n hn.2) ?_
  refine ev_pos rfl ?_
  refine ev_bind (lazy_ev fn) ?_
  refine ev_bind (rkind_ev fn 0 (by omega)) ?_
  refine ev_pos (beq_self_eq_true _) ?_
  exact ev_bind alive19_ev (Ev.now _)
end Go.Proofs.Ytjbdljolpkkhcaa.Pure
/- The row of the law FnameTells: for every input the call returns true and each argument reads afterwards as before, out of its pure statement and the contract of its function. Conditions: none beyond the given statement. -/
namespace Go.Proofs.Ytjbdljolpkkhcaa.fnameTells
open Go.ChangeShapes Go.WideShapes Go.ChangeAt Go.RowKit
open Go.ChangeMaps (open_string shut_string)
open Go.Proofs.Ytjbdljolpkkhcaa.Opn Go.Proofs.Ytjbdljolpkkhcaa.X
open Go.Proofs.YtjbdljolpkkhcaaW.PrintWords (Kd Drawn0)
set_option linter.unusedVariables false
theorem own : ownKnob Try.prog.godebug = none := by kernel_rfl
theorem laidOut : laidOutB Try.prog = true := by kernel_rfl
set_option maxRecDepth 100000 in
set_option maxHeartbeats 1000000 in
theorem lifted (os : Os) (started : os.Started) (H : Type) (enc : TypeId × Value → H) :
    ReturnsInHanded {} Try.checked os 6 .any (Rows.fnameTellsSpec.pre6 enc Try.prog Try.f6 Rows.fnameTellsRow.domain false) (Rows.fnameTellsSpec.post enc Try.prog Try.f6 false true false false) := by
  refine returnsInHanded_of_change_sized (C := Try.checked) own started (by kernel_rfl) Try.func6
    (ChangeSpec.witness6 (enc := enc) (C := Try.checked) false ⟨#[], #[.string ByteArray.empty, .int .i64 0, .int .i64 0], []⟩ 8 (by kernel_rfl) (by kernel_rfl) (by kernel_rfl) (by kernel_rfl)) ?_
  intro W base args ds gs before hval0 hW hcnd hsz0 _
  have hsz : (DataW.weightsEach Try.prog (Try.f6.params.toList ++ Rows.fnameTellsSpec.plain.varTypes Try.prog) (ds ++ gs)).all (· ≤ reachBytes) = true := hsz0
  have hval : ∀ (j : Nat) t v, Try.f6.params[j]? = some t → args[j]? = some v → Value.okWide Try.prog W .any base t v := hval0
  have hW' := hW
  obtain ⟨p, q, hA0, hV, rfl, hfz, hnd⟩ := hW
  have hA : DataW.TrodAll enc Try.prog W 0 (fun _ => true) true Try.f6.params.toList args.toList ds p := hA0
  rw [Try.params6] at hA hval hsz
  obtain ⟨v0, vs0, d0, ds0, p0, q0, hargs, rfl, rfl, h0, r0⟩ := trodAll_cons hA
  obtain ⟨v1, vs1, d1, ds1, p1, q1, rfl, rfl, rfl, h1, r1⟩ := trodAll_cons r0
  obtain ⟨v2, vs2, d2, ds2, p2, q2, rfl, rfl, rfl, h2, r2⟩ := trodAll_cons r1
  obtain ⟨rfl, rfl, rfl⟩ := trodAll_nil r2
  obtain rfl : args = #[v0, v1, v2] := by cases args; simp_all
  obtain ⟨rfl, rfl⟩ := trodVars_none hV
  have lt0 : ∀ x ∈ p0, x.block < W.heap.size := by obtain ⟨m, hm⟩ := h0; exact DataW.trod_lt m _ _ _ hm
  have hw0 : ∀ m ∈ d0.weights Try.prog 9, m ≤ reachBytes := fun m hm => of_decide_eq_true (List.all_eq_true.1 hsz m (DataW.weights_mem_each (j := 0) (t := 9) rfl rfl m hm))
  obtain ⟨a0, K0, g0⟩ : ∃ a, (Kd.string : Kd ByteArray).K W a v0.cells.toList ∧ (a.size ≤ reachBytes) := by
    obtain ⟨fuel, hf⟩ := h0
    exact (opens_string Try.underlying9) hf hw0
  obtain rfl : v0 = .string a0 := by
    obtain ⟨x, rfl, _⟩ := open_string Try.underlying9 (hval 0 9 v0 rfl rfl) h0
    have := K0
    simpa [Kd.string, Kd.scalar, Value.cells] using this
  have lt1 : ∀ x ∈ p1, x.block < W.heap.size := by obtain ⟨m, hm⟩ := h1; exact DataW.trod_lt m _ _ _ hm
  have hw1 : ∀ m ∈ d1.weights Try.prog 3, m ≤ reachBytes := fun m hm => of_decide_eq_true (List.all_eq_true.1 hsz m (DataW.weights_mem_each (j := 1) (t := 3) rfl rfl m hm))
  obtain ⟨a1, K1, g1⟩ : ∃ a, ((Kd.int .i64) : Kd Int).K W a v1.cells.toList ∧ ((Lit.int .i64 a).wf = true) := by
    obtain ⟨fuel, hf⟩ := h1
    exact (opens_int Try.underlying3) hf hw1
  obtain rfl : v1 = .int .i64 a1 := by
    obtain ⟨x, rfl, _⟩ := open_int Try.underlying3 (hval 1 3 v1 rfl rfl) h1
    have := K1
    simpa [Kd.int, Kd.scalar, Value.cells] using this
  have lt2 : ∀ x ∈ p2, x.block < W.heap.size := by obtain ⟨m, hm⟩ := h2; exact DataW.trod_lt m _ _ _ hm
  have hw2 : ∀ m ∈ d2.weights Try.prog 3, m ≤ reachBytes := fun m hm => of_decide_eq_true (List.all_eq_true.1 hsz m (DataW.weights_mem_each (j := 2) (t := 3) rfl rfl m hm))
  obtain ⟨a2, K2, g2⟩ : ∃ a, ((Kd.int .i64) : Kd Int).K W a v2.cells.toList ∧ ((Lit.int .i64 a).wf = true) := by
    obtain ⟨fuel, hf⟩ := h2
    exact (opens_int Try.underlying3) hf hw2
  obtain rfl : v2 = .int .i64 a2 := by
    obtain ⟨x, rfl, _⟩ := open_int Try.underlying3 (hval 2 3 v2 rfl rfl) h2
    have := K2
    simpa [Kd.int, Kd.scalar, Value.cells] using this
  obtain ⟨k, hk⟩ := Pure.FnameTells a0 a1 a2 g0 g1 g2
  clear hA0 hval0 hsz0 hsz
  refine (oculuslaw19_FnameTells.calls k a0 a1 a2 true W hk).mono fun e W' ⟨he, bel0⟩ => ?_
  have bel : Below W.heap.size W W' := bel0
  subst he
  exact ⟨_, rfl, _, _, _, [], _, [], hW', trodAll_mk1 (shut_bool Try.underlying4 _), (trodAll_cons_mk (Below.trod laidOut (by kernel_rfl) (of_decide_eq_true (by kernel_rfl)) h0 bel lt0) (trodAll_cons_mk (Below.trod laidOut (by kernel_rfl) (of_decide_eq_true (by kernel_rfl)) h1 bel lt1) (trodAll_cons_mk (Below.trod laidOut (by kernel_rfl) (of_decide_eq_true (by kernel_rfl)) h2 bel lt2) trodAll_mk0))), rfl, bel.frame _, fun h => by cases h⟩
theorem over : Rows.fnameTellsRow.holds Try.pinned (OpenSpec.ofChange Rows.fnameTellsSpec) :=
  OpenClaim.holds_of_wide 6 Try.f6 rfl rfl rfl rfl rfl rfl rfl ⟨rfl, rfl, rfl, rfl, rfl⟩ rfl rfl rfl rfl rfl (by kernel_rfl) Try.func6 (by kernel_rfl)
    (of_decide_eq_true (by kernel_rfl)) (by unfold Func.isWrapper; first | (rw [if_pos (by decide +kernel)]; kernel_rfl) | (rw [if_neg (by decide +kernel)]; exact ⟨rfl, rfl⟩))
    (fun os started H enc _ => lifted os started H enc)
theorem proved : Rows.FnameTellsSaid := over
end Go.Proofs.Ytjbdljolpkkhcaa.fnameTells
namespace Go.Proofs.Ytjbdljolpkkhcaa
/-- The row, under a short name, for the claim. -/
theorem fnameTells_holds : Rows.FnameTellsSaid := fnameTells.proved
#print axioms fnameTells_holds
end Go.Proofs.Ytjbdljolpkkhcaa
