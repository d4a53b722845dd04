/- The law ZoneWrong: for every input the call returns true, and each argument reads afterwards as it read before: the statement Rows.ZoneWrongSaid, whole, with no condition of ours. -/
import Derived.Test.YtjbdljolpkkhcaaRows
import Derived.WalkKit
import Derived.ProofKit
import Derived.OpenShut
import Derived.ShutString
import Derived.ChangeOld
import Derived.Below
import Derived.SizedLaws
import Derived.Carry
import Derived.Test.YtjbdljolpkkhcaaBZoneWrong1
/- The openings of the arguments of the law ZoneWrong, and its pure statement. -/
set_option linter.unusedVariables false
namespace Go.Proofs.Ytjbdljolpkkhcaa.X
open Go.RowKit Go.Proofs.YtjbdljolpkkhcaaW.PrintWords Go.Proofs.YtjbdljolpkkhcaaW.PrintLast Go.Proofs.YtjbdljolpkkhcaaW.PrintMore Go.Proofs.Ytjbdljolpkkhcaa.Opn
def good24 (x : S24) : Prop := ((Lit.int .i64 x.f0).wf = true) ∧ ((Lit.int .i64 x.f1).wf = true)
theorem opens24 : Opens Try.prog 24 k24 good24 := opens_struct Try.underlying24 (len := 2) (by kernel_rfl) (tail_cons rfl (by kernel_rfl) (opens_int Try.underlying3) (tail_one rfl (Nat.le_of_eq (by kernel_rfl)) (opens_int Try.underlying3))) (fun x : S24 => (x.f0, x.f1)) (fun a => ⟨a.1, a.2⟩) (fun _ => rfl)
def good26 (x : S26) : Prop := (good24 x.f0) ∧ (good24 x.f1)
theorem opens26 : Opens Try.prog 26 k26 good26 := opens_struct Try.underlying26 (len := 4) (by kernel_rfl) (tail_cons rfl (by kernel_rfl) opens24 (tail_one rfl (Nat.le_of_eq (by kernel_rfl)) opens24)) (fun x : S26 => (x.f0, x.f1)) (fun a => ⟨a.1, a.2⟩) (fun _ => rfl)
def good29 (x : S29) : Prop := ((Lit.int .i64 x.f0).wf = true) ∧ ((Lit.int .u64 x.f1).wf = true)
theorem opens29 : Opens Try.prog 29 k29 good29 := opens_struct Try.underlying29 (len := 2) (by kernel_rfl) (tail_cons rfl (by kernel_rfl) (opens_int Try.underlying3) (tail_one rfl (Nat.le_of_eq (by kernel_rfl)) (opens_int Try.underlying27))) (fun x : S29 => (x.f0, x.f1)) (fun a => ⟨a.1, a.2⟩) (fun _ => rfl)
def good31 (x : S31) : Prop := (good26 x.f0) ∧ (good29 x.f1)
theorem opens31 : Opens Try.prog 31 k31 good31 := opens_struct Try.underlying31 (len := 6) (by kernel_rfl) (tail_cons rfl (by kernel_rfl) opens26 (tail_one rfl (Nat.le_of_eq (by kernel_rfl)) opens29)) (fun x : S31 => (x.f0, x.f1)) (fun a => ⟨a.1, a.2⟩) (fun _ => rfl)
/-- What is left: a statement over numbers and lists alone. -/
def oculuslaw05_ZoneWrong.PureX : Prop := ∀ (a0 : (List S31)) (a1 : Int) (a2 : Int), ((∀ y ∈ a0, good31 y) ∧ a0.length * 48 ≤ reachBytes) → ((Lit.int .i64 a1).wf = true) → ((Lit.int .i64 a2).wf = true) → ∃ k, oculuslaw05_ZoneWrong.f k a0 a1 a2 = some true
end Go.Proofs.Ytjbdljolpkkhcaa.X
namespace Go.Proofs.Ytjbdljolpkkhcaa.X
open Go.RowKit Go.Proofs.YtjbdljolpkkhcaaW.PrintWords Go.Proofs.YtjbdljolpkkhcaaW.PrintLast Go.Proofs.YtjbdljolpkkhcaaW.PrintMore
attribute [local go_sem] max2_int min2_int max_two min_two max_three min_three max_four min_four   -- for this text's walks alone
set_option linter.unusedVariables false
set_option linter.unusedSimpArgs false

/-! ### oculusref04_between: function 30 -/
def oculusref04_between.f (a0 : Int) (a1 : Int) (a2 : Int) : Option (Bool) := if a0 ≥ a1 then (if a0 ≤ a2 then (some true) else (if a0 ≥ a2 then (some (decide (a0 ≤ a1))) else (some false))) else (if a0 ≥ a2 then (some (decide (a0 ≤ a1))) else (some false))
set_option maxHeartbeats 8000000 in
set_option maxRecDepth 100000 in
theorem oculusref04_between.calls (a0 : Int) (a1 : Int) (a2 : Int) (r : Bool) (w : World) (h : oculusref04_between.f a0 a1 a2 = some r) :
  Calls Try.prog 30 #[.int .i64 a0, .int .i64 a1, .int .i64 a2] w fun e w' => e = .returned (.bool r) ∧ Drawn0 w w' := by
 have H : (if a0 ≥ a1 then (if a0 ≤ a2 then (some true) else (if a0 ≥ a2 then (some (decide (a0 ≤ a1))) else (some false))) else (if a0 ≥ a2 then (some (decide (a0 ≤ a1))) else (some false))) = some r := h
 clear h
 by_cases c4 : a0 ≥ a1
 ·
  rw [if_pos c4] at H
  have c4b0 : decide (a1 ≤ a0) = true := decide_eq_true c4
  clear c4
  by_cases c5 : a0 ≤ a2
  ·
   rw [if_pos c5] at H
   have c5b0 : decide (a0 ≤ a2) = true := decide_eq_true c5
   clear c5
   obtain rfl := Option.some.inj H
   go_enter Try.func30, Try.ntmps30
   go_wp2
   go_ret
   exact ⟨by first | rfl | (simp; done) | (simp [*]; done), by repeat (first | exact Drawn0.refl _ | apply Drawn0.step)⟩
  ·
   rw [if_neg c5] at H
   have c5b0 : decide (a0 ≤ a2) = false := decide_eq_false c5
   clear c5
   by_cases c6 : a0 ≥ a2
   ·
    rw [if_pos c6] at H
    have c6b0 : decide (a2 ≤ a0) = true := decide_eq_true c6
    clear c6
    obtain rfl := Option.some.inj H
    go_enter Try.func30, Try.ntmps30
    go_wp2
    go_ret
    exact ⟨by first | rfl | (simp; done) | (simp [*]; done), by repeat (first | exact Drawn0.refl _ | apply Drawn0.step)⟩
   ·
    rw [if_neg c6] at H
    have c6b0 : decide (a2 ≤ a0) = false := decide_eq_false c6
    clear c6
    obtain rfl := Option.some.inj H
    go_enter Try.func30, Try.ntmps30
    go_wp2
    go_ret
    exact ⟨by first | rfl | (simp; done) | (simp [*]; done), by repeat (first | exact Drawn0.refl _ | apply Drawn0.step)⟩
 ·
  rw [if_neg c4] at H
  have c4b0 : decide (a1 ≤ a0) = false := decide_eq_false c4
  clear c4
  by_cases c7 : a0 ≥ a2
  ·
   rw [if_pos c7] at H
   have c7b0 : decide (a2 ≤ a0) = true := decide_eq_true c7
   clear c7
   obtain rfl := Option.some.inj H
   go_enter Try.func30, Try.ntmps30
   go_wp2
   go_ret
   exact ⟨by first | rfl | (simp; done) | (simp [*]; done), by repeat (first | exact Drawn0.refl _ | apply Drawn0.step)⟩
  ·
   rw [if_neg c7] at H
   have c7b0 : decide (a2 ≤ a0) = false := decide_eq_false c7
   clear c7
   obtain rfl := Option.some.inj H
   go_enter Try.func30, Try.ntmps30
   go_wp2
   go_ret
   exact ⟨by first | rfl | (simp; done) | (simp [*]; done), by repeat (first | exact Drawn0.refl _ | apply Drawn0.step)⟩

end Go.Proofs.Ytjbdljolpkkhcaa.X
namespace Go.Proofs.Ytjbdljolpkkhcaa.X
open Go.RowKit Go.Proofs.YtjbdljolpkkhcaaW.PrintWords Go.Proofs.YtjbdljolpkkhcaaW.PrintLast Go.Proofs.YtjbdljolpkkhcaaW.PrintMore
attribute [local go_sem] max2_int min2_int max_two min_two max_three min_three max_four min_four   -- for this text's walks alone
set_option linter.unusedVariables false
set_option linter.unusedSimpArgs false

/-! ### oculusref04_Has: function 9 -/
def oculusref04_Has.f (a0_0 : Int) (a0_1 : Int) (a0_2 : Int) (a0_3 : Int) (a1_0 : Int) (a1_1 : Int) : Option (Bool) := (oculusref04_May.f a0_0 a0_1 a0_2 a0_3).bind fun t103 => (if t103 = true then ((oculusref04_between.f a1_0 a0_0 a0_2).bind fun t104 => (if t104 = true then ((oculusref04_between.f a1_1 a0_1 a0_3).bind fun t105 => (some t105)) else (some false))) else (some false))
set_option maxHeartbeats 8000000 in
set_option maxRecDepth 100000 in
theorem oculusref04_Has.calls (a0_0 : Int) (a0_1 : Int) (a0_2 : Int) (a0_3 : Int) (a1_0 : Int) (a1_1 : Int) (r : Bool) (w : World) (h : oculusref04_Has.f a0_0 a0_1 a0_2 a0_3 a1_0 a1_1 = some r) :
  Calls Try.prog 9 #[.agg #[.int .i64 a0_0, .int .i64 a0_1, .int .i64 a0_2, .int .i64 a0_3], .agg #[.int .i64 a1_0, .int .i64 a1_1]] w fun e w' => e = .returned (.bool r) ∧ Below w.heap.size w w' := by
 have hu26 := Try.underlying26
 have hu24 := Try.underlying24
 have HB := Aside0.mk (Below.refl w.heap.size w)
 have H : ((oculusref04_May.f a0_0 a0_1 a0_2 a0_3).bind fun t103 => (if t103 = true then ((oculusref04_between.f a1_0 a0_0 a0_2).bind fun t104 => (if t104 = true then ((oculusref04_between.f a1_1 a0_1 a0_3).bind fun t105 => (some t105)) else (some false))) else (some false))) = some r := h
 clear h
 replace H := Option.bind_eq_some_iff.mp H
 obtain ⟨t103, A30, H⟩ := H
 replace H : (if t103 = true then ((oculusref04_between.f a1_0 a0_0 a0_2).bind fun t104 => (if t104 = true then ((oculusref04_between.f a1_1 a0_1 a0_3).bind fun t105 => (some t105)) else (some false))) else (some false)) = some r := H
 have A3 := Aside0.mk A30
 clear A30
 by_cases c4 : t103 = true
 ·
  subst c4
  have H1 : ((oculusref04_between.f a1_0 a0_0 a0_2).bind fun t104 => (if t104 = true then ((oculusref04_between.f a1_1 a0_1 a0_3).bind fun t105 => (some t105)) else (some false))) = some r := by rw [if_pos rfl] at H; exact H
  clear H
  have H := H1
  clear H1
  replace H := Option.bind_eq_some_iff.mp H
  obtain ⟨t104, A50, H⟩ := H
  replace H : (if t104 = true then ((oculusref04_between.f a1_1 a0_1 a0_3).bind fun t105 => (some t105)) else (some false)) = some r := H
  have A5 := Aside0.mk A50
  clear A50
  by_cases c6 : t104 = true
  ·
   subst c6
   have H1 : ((oculusref04_between.f a1_1 a0_1 a0_3).bind fun t105 => (some t105)) = some r := by rw [if_pos rfl] at H; exact H
   clear H
   have H := H1
   clear H1
   replace H := Option.bind_eq_some_iff.mp H
   obtain ⟨t105, A70, H⟩ := H
   replace H : (some t105) = some r := H
   have A7 := Aside0.mk A70
   clear A70
   obtain rfl := Option.some.inj H
   go_enter Try.func9, Try.ntmps9
   go_wp2_with (first | ((with_reducible refine gate_dst (N := 2) rfl ?_); refine box_event ?hg (N := 2) ?hd (cs := #[.int .i64 a0_0, .int .i64 a0_1, .int .i64 a0_2, .int .i64 a0_3]) (t := 26) ?hr ?_; (case hd => rfl); (case hg => rfl); (case hr => first | (go_simp; done) | (go_simp; rfl)); intro gb101 hg w8 hbox hb; have BK101 := Aside0.mk (hbox); replace HB := Aside0.mk (below_step (pbx HB) hb); clear hb hbox hg) | ((with_reducible refine gate_dst (N := 3) rfl ?_); refine box_event ?hg (N := 3) ?hd (cs := #[.int .i64 a1_0, .int .i64 a1_1]) (t := 24) ?hr ?_; (case hd => rfl); (case hg => rfl); (case hr => first | (go_simp; done) | (go_simp; rfl)); intro gb102 hg w9 hbox hb; have BK102 := Aside0.mk (hbox); replace BK101 := Aside0.mk (blk_below (pkx BK101) hb); replace HB := Aside0.mk (below_step (pbx HB) hb); clear hb hbox hg; have hcz10_0 : w9.cell? ⟨gb101, 0, none⟩ = some (.int .i64 a0_0) := (blk_cell BK101.out 0).trans rfl; have hcz10_1 : w9.cell? ⟨gb101, 1, none⟩ = some (.int .i64 a0_1) := (blk_cell BK101.out 1).trans rfl; have hcz10_2 : w9.cell? ⟨gb101, 2, none⟩ = some (.int .i64 a0_2) := (blk_cell BK101.out 2).trans rfl; have hcz10_3 : w9.cell? ⟨gb101, 3, none⟩ = some (.int .i64 a0_3) := (blk_cell BK101.out 3).trans rfl) | ((with_reducible refine gate_callee (f := 29) rfl ?_); refine goesL_ (some 6) rfl rfl Try.func29 (by kernel_rfl) rfl #[.agg #[.int .i64 a0_0, .int .i64 a0_1, .int .i64 a0_2, .int .i64 a0_3]] rfl (by (try simp only [List.map_toArray, List.map_cons, List.map_nil]); first | done | rfl | (simp only [List.length_drop, List.length_take]; rfl)) ?_; (with_reducible refine (oculusref04_May.calls a0_0 a0_1 a0_2 a0_3 true _ A3.out).mono ?_); rintro e w11 ⟨rfl, hb⟩; refine ⟨_, rfl, ?_⟩; replace BK101 := Aside0.mk (blk_below (pkx BK101) hb); replace BK102 := Aside0.mk (blk_below (pkx BK102) hb); replace HB := Aside0.mk (below_step (pbx HB) hb); (try clear hb); (try clear hb2); (try clear hk); (try clear hi); have hcz12_0 : w11.cell? ⟨gb102, 0, none⟩ = some (.int .i64 a1_0) := (blk_cell BK102.out 0).trans rfl; have hcz12_1 : w11.cell? ⟨gb102, 1, none⟩ = some (.int .i64 a1_1) := (blk_cell BK102.out 1).trans rfl; have hcz13_0 : w11.cell? ⟨gb101, 0, none⟩ = some (.int .i64 a0_0) := (blk_cell BK101.out 0).trans rfl; have hcz13_1 : w11.cell? ⟨gb101, 1, none⟩ = some (.int .i64 a0_1) := (blk_cell BK101.out 1).trans rfl; have hcz13_2 : w11.cell? ⟨gb101, 2, none⟩ = some (.int .i64 a0_2) := (blk_cell BK101.out 2).trans rfl; have hcz13_3 : w11.cell? ⟨gb101, 3, none⟩ = some (.int .i64 a0_3) := (blk_cell BK101.out 3).trans rfl) | (go_at_call 30; (with_reducible refine (oculusref04_between.calls a1_0 a0_0 a0_2 true _ A5.out).mono ?_); rintro e w' ⟨rfl, ⟨nd, rfl⟩⟩) | (go_at_call 30; (with_reducible refine (oculusref04_between.calls a1_1 a0_1 a0_3 t105 _ A7.out).mono ?_); rintro e w' ⟨rfl, ⟨nd, rfl⟩⟩))
   go_ret
   exact ⟨by first | rfl | (simp [errW_none, errW_some] <;> rfl) | (simp [*, errW_none, errW_some] <;> rfl), pbx HB⟩
  ·
   replace c6 := Bool.eq_false_iff.mpr c6
   subst c6
   have H1 : (some false) = some r := by rw [if_neg (show ¬ (false = true) by decide)] at H; exact H
   clear H
   have H := H1
   clear H1
   obtain rfl := Option.some.inj H
   go_enter Try.func9, Try.ntmps9
   go_wp2_with (first | ((with_reducible refine gate_dst (N := 2) rfl ?_); refine box_event ?hg (N := 2) ?hd (cs := #[.int .i64 a0_0, .int .i64 a0_1, .int .i64 a0_2, .int .i64 a0_3]) (t := 26) ?hr ?_; (case hd => rfl); (case hg => rfl); (case hr => first | (go_simp; done) | (go_simp; rfl)); intro gb101 hg w14 hbox hb; have BK101 := Aside0.mk (hbox); replace HB := Aside0.mk (below_step (pbx HB) hb); clear hb hbox hg) | ((with_reducible refine gate_dst (N := 3) rfl ?_); refine box_event ?hg (N := 3) ?hd (cs := #[.int .i64 a1_0, .int .i64 a1_1]) (t := 24) ?hr ?_; (case hd => rfl); (case hg => rfl); (case hr => first | (go_simp; done) | (go_simp; rfl)); intro gb102 hg w15 hbox hb; have BK102 := Aside0.mk (hbox); replace BK101 := Aside0.mk (blk_below (pkx BK101) hb); replace HB := Aside0.mk (below_step (pbx HB) hb); clear hb hbox hg; have hcz16_0 : w15.cell? ⟨gb101, 0, none⟩ = some (.int .i64 a0_0) := (blk_cell BK101.out 0).trans rfl; have hcz16_1 : w15.cell? ⟨gb101, 1, none⟩ = some (.int .i64 a0_1) := (blk_cell BK101.out 1).trans rfl; have hcz16_2 : w15.cell? ⟨gb101, 2, none⟩ = some (.int .i64 a0_2) := (blk_cell BK101.out 2).trans rfl; have hcz16_3 : w15.cell? ⟨gb101, 3, none⟩ = some (.int .i64 a0_3) := (blk_cell BK101.out 3).trans rfl) | ((with_reducible refine gate_callee (f := 29) rfl ?_); refine goesL_ (some 6) rfl rfl Try.func29 (by kernel_rfl) rfl #[.agg #[.int .i64 a0_0, .int .i64 a0_1, .int .i64 a0_2, .int .i64 a0_3]] rfl (by (try simp only [List.map_toArray, List.map_cons, List.map_nil]); first | done | rfl | (simp only [List.length_drop, List.length_take]; rfl)) ?_; (with_reducible refine (oculusref04_May.calls a0_0 a0_1 a0_2 a0_3 true _ A3.out).mono ?_); rintro e w17 ⟨rfl, hb⟩; refine ⟨_, rfl, ?_⟩; replace BK101 := Aside0.mk (blk_below (pkx BK101) hb); replace BK102 := Aside0.mk (blk_below (pkx BK102) hb); replace HB := Aside0.mk (below_step (pbx HB) hb); (try clear hb); (try clear hb2); (try clear hk); (try clear hi); have hcz18_0 : w17.cell? ⟨gb102, 0, none⟩ = some (.int .i64 a1_0) := (blk_cell BK102.out 0).trans rfl; have hcz18_1 : w17.cell? ⟨gb102, 1, none⟩ = some (.int .i64 a1_1) := (blk_cell BK102.out 1).trans rfl; have hcz19_0 : w17.cell? ⟨gb101, 0, none⟩ = some (.int .i64 a0_0) := (blk_cell BK101.out 0).trans rfl; have hcz19_1 : w17.cell? ⟨gb101, 1, none⟩ = some (.int .i64 a0_1) := (blk_cell BK101.out 1).trans rfl; have hcz19_2 : w17.cell? ⟨gb101, 2, none⟩ = some (.int .i64 a0_2) := (blk_cell BK101.out 2).trans rfl; have hcz19_3 : w17.cell? ⟨gb101, 3, none⟩ = some (.int .i64 a0_3) := (blk_cell BK101.out 3).trans rfl) | (go_at_call 30; (with_reducible refine (oculusref04_between.calls a1_0 a0_0 a0_2 false _ A5.out).mono ?_); rintro e w' ⟨rfl, ⟨nd, rfl⟩⟩))
   go_ret
   exact ⟨by first | rfl | (simp [errW_none, errW_some] <;> rfl) | (simp [*, errW_none, errW_some] <;> rfl), pbx HB⟩
 ·
  replace c4 := Bool.eq_false_iff.mpr c4
  subst c4
  have H1 : (some false) = some r := by rw [if_neg (show ¬ (false = true) by decide)] at H; exact H
  clear H
  have H := H1
  clear H1
  obtain rfl := Option.some.inj H
  go_enter Try.func9, Try.ntmps9
  go_wp2_with (first | ((with_reducible refine gate_dst (N := 2) rfl ?_); refine box_event ?hg (N := 2) ?hd (cs := #[.int .i64 a0_0, .int .i64 a0_1, .int .i64 a0_2, .int .i64 a0_3]) (t := 26) ?hr ?_; (case hd => rfl); (case hg => rfl); (case hr => first | (go_simp; done) | (go_simp; rfl)); intro gb101 hg w20 hbox hb; have BK101 := Aside0.mk (hbox); replace HB := Aside0.mk (below_step (pbx HB) hb); clear hb hbox hg) | ((with_reducible refine gate_dst (N := 3) rfl ?_); refine box_event ?hg (N := 3) ?hd (cs := #[.int .i64 a1_0, .int .i64 a1_1]) (t := 24) ?hr ?_; (case hd => rfl); (case hg => rfl); (case hr => first | (go_simp; done) | (go_simp; rfl)); intro gb102 hg w21 hbox hb; have BK102 := Aside0.mk (hbox); replace BK101 := Aside0.mk (blk_below (pkx BK101) hb); replace HB := Aside0.mk (below_step (pbx HB) hb); clear hb hbox hg; have hcz22_0 : w21.cell? ⟨gb101, 0, none⟩ = some (.int .i64 a0_0) := (blk_cell BK101.out 0).trans rfl; have hcz22_1 : w21.cell? ⟨gb101, 1, none⟩ = some (.int .i64 a0_1) := (blk_cell BK101.out 1).trans rfl; have hcz22_2 : w21.cell? ⟨gb101, 2, none⟩ = some (.int .i64 a0_2) := (blk_cell BK101.out 2).trans rfl; have hcz22_3 : w21.cell? ⟨gb101, 3, none⟩ = some (.int .i64 a0_3) := (blk_cell BK101.out 3).trans rfl) | ((with_reducible refine gate_callee (f := 29) rfl ?_); refine goesL_ (some 6) rfl rfl Try.func29 (by kernel_rfl) rfl #[.agg #[.int .i64 a0_0, .int .i64 a0_1, .int .i64 a0_2, .int .i64 a0_3]] rfl (by (try simp only [List.map_toArray, List.map_cons, List.map_nil]); first | done | rfl | (simp only [List.length_drop, List.length_take]; rfl)) ?_; (with_reducible refine (oculusref04_May.calls a0_0 a0_1 a0_2 a0_3 false _ A3.out).mono ?_); rintro e w23 ⟨rfl, hb⟩; refine ⟨_, rfl, ?_⟩; replace BK101 := Aside0.mk (blk_below (pkx BK101) hb); replace BK102 := Aside0.mk (blk_below (pkx BK102) hb); replace HB := Aside0.mk (below_step (pbx HB) hb); (try clear hb); (try clear hb2); (try clear hk); (try clear hi)))
  go_ret
  exact ⟨by first | rfl | (simp [errW_none, errW_some] <;> rfl) | (simp [*, errW_none, errW_some] <;> rfl), pbx HB⟩

end Go.Proofs.Ytjbdljolpkkhcaa.X
/- What zone, span and their references answer. -/
set_option linter.unusedVariables false
set_option linter.unusedSimpArgs false
namespace Go.Proofs.Ytjbdljolpkkhcaa.X
open Go.RowKit Go.Proofs.YtjbdljolpkkhcaaW.PrintWords Go.Proofs.YtjbdljolpkkhcaaW.PrintLast Go.Proofs.YtjbdljolpkkhcaaW.PrintMore
abbrev Zn := S31
abbrev Cl := S24
theorem rdZ (xs : List Zn) (i : Nat) (h : i < xs.length) : rd_T31 xs (i : Int) = xs[i] := by
  show xs.getD (Int.toNat (i : Int)) _ = _
  rw [Int.toNat_natCast, List.getD_eq_getElem?_getD, List.getElem?_eq_getElem h]; rfl
theorem rdC (xs : List Cl) (i : Nat) (h : i < xs.length) : rd_T24 xs (i : Int) = xs[i] := by
  show xs.getD (Int.toNat (i : Int)) _ = _
  rw [Int.toNat_natCast, List.getD_eq_getElem?_getD, List.getElem?_eq_getElem h]; rfl
def mayZ (a b c d : Int) : Bool := decide ((0 ≤ a ∧ a < 999 ∧ 0 ≤ b ∧ b < 702) ∧ (0 ≤ c ∧ c < 999 ∧ 0 ≤ d ∧ d < 702))
theorem addr_may_eq (a b : Int) : addr_May.f a b = some (decide (0 ≤ a ∧ a < 999 ∧ 0 ≤ b ∧ b < 702)) := by
  unfold addr_May.f
  by_cases h1 : a ≥ 0
  · rw [if_pos h1]
    by_cases h2 : a < 999
    · rw [if_pos h2]
      by_cases h3 : b ≥ 0
      · rw [if_pos h3, Option.some.injEq, decide_eq_decide]; omega
      · rw [if_neg h3, decide_eq_false (by omega)]
    · rw [if_neg h2, decide_eq_false (by omega)]
  · rw [if_neg h1, decide_eq_false (by omega)]
theorem span_may_eq (a b c d : Int) : span_May.f a b c d = some (mayZ a b c d) := by
  unfold span_May.f mayZ
  rw [addr_may_eq, Option.bind_some]
  by_cases h : 0 ≤ a ∧ a < 999 ∧ 0 ≤ b ∧ b < 702
  · rw [decide_eq_true h, if_pos rfl, addr_may_eq, Option.bind_some, Option.some.injEq, decide_eq_decide]
    exact ⟨fun g => ⟨h, g⟩, fun g => g.2⟩
  · rw [decide_eq_false h, if_neg (by simp), decide_eq_false (fun g => h g.1)]
theorem rmay_eq (a b : Int) : oculusref03_May.f a b = some (decide (0 ≤ a ∧ a < 999 ∧ 0 ≤ b ∧ b < 702)) := by
  unfold oculusref03_May.f
  by_cases h1 : a ≥ 0
  · rw [if_pos h1]
    by_cases h2 : a ≤ 998
    · rw [if_pos h2]
      by_cases h3 : b ≥ 0
      · rw [if_pos h3, Option.some.injEq, decide_eq_decide]; omega
      · rw [if_neg h3, decide_eq_false (by omega)]
    · rw [if_neg h2, decide_eq_false (by omega)]
  · rw [if_neg h1, decide_eq_false (by omega)]
theorem rspan_may_eq (a b c d : Int) : oculusref04_May.f a b c d = some (mayZ a b c d) := by
  unfold oculusref04_May.f mayZ
  rw [rmay_eq, Option.bind_some]
  by_cases h : 0 ≤ a ∧ a < 999 ∧ 0 ≤ b ∧ b < 702
  · rw [decide_eq_true h, if_pos rfl, rmay_eq, Option.bind_some, Option.some.injEq, decide_eq_decide]
    exact ⟨fun g => ⟨h, g⟩, fun g => g.2⟩
  · rw [decide_eq_false h, if_neg (by simp), decide_eq_false (fun g => h g.1)]
def hasZ (a b c d r q : Int) : Bool := mayZ a b c d && decide ((mn a c ≤ r ∧ r ≤ mx a c) ∧ (mn b d ≤ q ∧ q ≤ mx b d))
theorem span_str (a b c d : Int) (h : mayZ a b c d = true) : span_Straight.f a b c d = some (mn a c, mn b d, mx a c, mx b d) := straight_eq (by rw [span_may_eq, h])
theorem has_ev (a b c d r q : Int) : Ev (fun k => span_Has.f k a b c d r q) (hasZ a b c d r q) := by
  unfold span_Has.f hasZ
  rw [span_may_eq]
  refine ev_bsome ?_
  refine Ev.step (fun k => span_Has.j0.eq_2 _ _ _ _ _ _ _ _) ?_
  cases h : mayZ a b c d with
  | false => exact ev_pos rfl (Ev.now _)
  | true =>
    refine ev_neg (by simp) ?_
    rw [span_str a b c d h]
    refine ev_bsome ?_
    simp only [Bool.true_and]
    by_cases g : (mn a c ≤ r ∧ r ≤ mx a c) ∧ (mn b d ≤ q ∧ q ≤ mx b d)
    · rw [decide_eq_true g]
      exact ev_pos g.1.1 (ev_pos g.1.2 (ev_pos g.2.1 (ev_some fun _ => by rw [decide_eq_true g.2.2])))
    · rw [decide_eq_false g]
      exact ev_ite (fun h1 => ev_ite (fun h2 => ev_ite (fun h3 => ev_some fun _ => by rw [decide_eq_false (fun h4 => g ⟨⟨h1, h2⟩, h3, h4⟩)]) (fun _ => Ev.now _)) (fun _ => Ev.now _)) (fun _ => Ev.now _)
theorem between_eq (x a c : Int) : oculusref04_between.f x a c = some (decide (mn a c ≤ x ∧ x ≤ mx a c)) := by
  unfold oculusref04_between.f
  have e : (mn a c ≤ x ∧ x ≤ mx a c) ↔ ((a ≤ x ∧ x ≤ c) ∨ (c ≤ x ∧ x ≤ a)) := by
    unfold mn mx
    repeat' split
    all_goals omega
  by_cases h1 : x ≥ a
  · rw [if_pos h1]
    by_cases h2 : x ≤ c
    · rw [if_pos h2, decide_eq_true (by rw [e]; omega)]
    · rw [if_neg h2]
      by_cases h3 : x ≥ c
      · rw [if_pos h3, Option.some.injEq, decide_eq_decide, e]; omega
      · rw [if_neg h3, decide_eq_false (by rw [e]; omega)]
  · rw [if_neg h1]
    by_cases h3 : x ≥ c
    · rw [if_pos h3, Option.some.injEq, decide_eq_decide, e]; omega
    · rw [if_neg h3, decide_eq_false (by rw [e]; omega)]
theorem rhas_eq (a b c d r q : Int) : oculusref04_Has.f a b c d r q = some (hasZ a b c d r q) := by
  unfold oculusref04_Has.f hasZ
  rw [rspan_may_eq, Option.bind_some]
  cases h : mayZ a b c d with
  | false => rw [if_neg (by simp)]; rfl
  | true =>
    rw [if_pos rfl, between_eq, Option.bind_some]
    by_cases g : mn a c ≤ r ∧ r ≤ mx a c
    · rw [decide_eq_true g, if_pos rfl, between_eq, Option.bind_some, Bool.true_and, Option.some.injEq, decide_eq_decide]
      exact ⟨fun k => ⟨g, k⟩, fun k => k.2⟩
    · rw [decide_eq_false g, if_neg (by simp), decide_eq_false (fun k => g k.1)]; rfl
def hasN (z : Zn) (r q : Int) : Bool := hasZ z.f0.f0.f0 z.f0.f0.f1 z.f0.f1.f0 z.f0.f1.f1 r q
def ofZ : List Zn → Int → Int → Int × Int
  | [], _, _ => (0, 0)
  | z :: l, r, q => if hasN z r q = true then (z.f1.f0, z.f1.f1) else ofZ l r q
theorem of_l0 (r q : Int) (xs : List Zn) (hx : xs.length ≤ 9223372036854775807) : ∀ d i, i + d = xs.length → Ev (fun k => zone_Of.l0 k xs (xs.length : Int) (i : Int) r q) (ofZ (xs.drop i) r q)
  | 0, i, h => by
    rw [List.drop_eq_nil_of_le (by omega)]
    refine Ev.step (fun k => zone_Of.l0.eq_2 _ _ _ _ _ _) ?_
    exact ev_neg (by omega) (Ev.now _)
  | d + 1, i, h => by
    have hlt : i < xs.length := by omega
    rw [List.drop_eq_getElem_cons hlt]
    refine Ev.step (fun k => zone_Of.l0.eq_2 _ _ _ _ _ _) ?_
    refine ev_pos (by omega) (ev_pos (by omega) (ev_pos (by omega) ?_))
    simp only [rdZ xs i hlt, w64s hlt hx]
    refine ev_bind (has_ev _ _ _ _ _ _) ?_
    refine Ev.step (fun k => zone_Of.j1.eq_2 _ _ _ _ _ _ _ _ _ _ _ _ _) ?_
    simp only [ofZ]
    refine ev_ite (fun g => ?_) (fun g => ?_)
    · rw [if_pos (show hasN xs[i] r q = true from g)]; exact Ev.now _
    · rw [if_neg (show ¬ hasN xs[i] r q = true from g)]
      simp only [w64s hlt hx]
      exact of_l0 r q xs hx d (i + 1) (by omega)
theorem of_ev (xs : List Zn) (hx : xs.length ≤ 9223372036854775807) (r q : Int) : Ev (fun k => zone_Of.f k xs r q) (ofZ xs r q) := of_l0 r q xs hx xs.length 0 (by omega)
def wrongZ (rows cols : Int) : Nat → List Zn → Int × Int
  | _, [] => (0, 0)
  | i, z :: l => if 32 ≤ i then ((i : Int), 10) else if ¬ (mayZ z.f0.f0.f0 z.f0.f0.f1 z.f0.f1.f0 z.f0.f1.f1 = true ∧ z.f0.f0.f0 ≤ z.f0.f1.f0 ∧ z.f0.f0.f1 ≤ z.f0.f1.f1) then ((i : Int), 1)
    else if z.f0.f1.f0 ≥ rows ∨ z.f0.f1.f1 ≥ cols then ((i : Int), 2) else if ¬ (0 ≤ z.f1.f0 ∧ z.f1.f0 ≤ 15) then ((i : Int), 7) else wrongZ rows cols (i + 1) l
theorem straight_ne (a b c d : Int) : ((!(mn a c == a) || (!(mn b d == b))) || ((!(mx a c == c) || (!(mx b d == d))))) = !(decide (a ≤ c ∧ b ≤ d)) := by
  rw [Bool.eq_iff_iff]
  simp only [Bool.or_eq_true, Bool.not_eq_true', beq_eq_false_iff_ne, decide_eq_false_iff_not, ne_eq]
  unfold mn mx
  repeat' split
  all_goals omega
theorem label_may_eq (a b : Int) : label_May.f a b = some (decide (0 ≤ a ∧ a ≤ 15)) := by
  unfold label_May.f
  by_cases h : a ≥ 0
  · rw [if_pos h, Option.some.injEq, decide_eq_decide]; omega
  · rw [if_neg h, decide_eq_false (by omega)]
theorem wrong_l0 (rows cols : Int) (xs : List Zn) (hx : xs.length ≤ 9223372036854775807) : ∀ d i, i + d = xs.length → Ev (fun k => zone_Wrong.l0 k rows cols xs (xs.length : Int) (i : Int)) (wrongZ rows cols i (xs.drop i))
  | 0, i, h => by
    rw [List.drop_eq_nil_of_le (by omega)]
    refine Ev.step (fun k => zone_Wrong.l0.eq_2 _ _ _ _ _ _) ?_
    exact ev_neg (by omega) (Ev.now _)
  | d + 1, i, h => by
    have hlt : i < xs.length := by omega
    rw [List.drop_eq_getElem_cons hlt]
    refine Ev.step (fun k => zone_Wrong.l0.eq_2 _ _ _ _ _ _) ?_
    refine ev_pos (by omega) (ev_pos (by omega) (ev_pos (by omega) ?_))
    simp only [wrongZ]
    refine ev_ite (fun g => ?_) (fun g => ?_)
    · rw [if_pos (by omega)]; exact Ev.now _
    · rw [if_neg (by omega)]
      simp only [rdZ xs i hlt]
      refine ev_bind (ev_some fun _ => span_may_eq _ _ _ _) ?_
      have j2 : ∀ b1 : Bool, b1 = decide (xs[i].f0.f1.f0 ≥ rows ∨ xs[i].f0.f1.f1 ≥ cols) → Ev (fun k => zone_Wrong.j2 k rows cols (i : Int) xs (xs.length : Int) (i : Int) b1 xs[i].f0.f0.f0 xs[i].f0.f0.f1 xs[i].f0.f1.f0 xs[i].f0.f1.f1 xs[i].f1.f0 xs[i].f1.f1)
          (if xs[i].f0.f1.f0 ≥ rows ∨ xs[i].f0.f1.f1 ≥ cols then ((i : Int), 2) else if ¬ (0 ≤ xs[i].f1.f0 ∧ xs[i].f1.f0 ≤ 15) then ((i : Int), 7) else wrongZ rows cols (i + 1) (xs.drop (i + 1))) := by
        intro b1 hb
        subst hb
        refine Ev.step (fun k => zone_Wrong.j2.eq_2 _ _ _ _ _ _ _ _ _ _ _ _ _ _) ?_
        by_cases g2 : xs[i].f0.f1.f0 ≥ rows ∨ xs[i].f0.f1.f1 ≥ cols
        · rw [if_pos g2]; exact ev_pos (decide_eq_true g2) (Ev.now _)
        · rw [if_neg g2]
          refine ev_neg (by rw [decide_eq_false g2]; simp) ?_
          refine ev_bind (ev_some fun _ => label_may_eq _ _) ?_
          by_cases g3 : 0 ≤ xs[i].f1.f0 ∧ xs[i].f1.f0 ≤ 15
          · rw [if_neg (fun n => n g3)]
            refine ev_pos (decide_eq_true g3) ?_
            simp only [w64s hlt hx]
            exact wrong_l0 rows cols xs hx d (i + 1) (by omega)
          · rw [if_pos g3]
            exact ev_neg (by rw [decide_eq_false g3]; simp) (Ev.now _)
      have j1 : ∀ b : Bool, b = !(decide (mayZ xs[i].f0.f0.f0 xs[i].f0.f0.f1 xs[i].f0.f1.f0 xs[i].f0.f1.f1 = true ∧ xs[i].f0.f0.f0 ≤ xs[i].f0.f1.f0 ∧ xs[i].f0.f0.f1 ≤ xs[i].f0.f1.f1)) → Ev (fun k => zone_Wrong.j1 k rows cols (i : Int) xs (xs.length : Int) (i : Int) b xs[i].f0.f0.f0 xs[i].f0.f0.f1 xs[i].f0.f1.f0 xs[i].f0.f1.f1 xs[i].f1.f0 xs[i].f1.f1)
          (if ¬ (mayZ xs[i].f0.f0.f0 xs[i].f0.f0.f1 xs[i].f0.f1.f0 xs[i].f0.f1.f1 = true ∧ xs[i].f0.f0.f0 ≤ xs[i].f0.f1.f0 ∧ xs[i].f0.f0.f1 ≤ xs[i].f0.f1.f1) then ((i : Int), 1) else if xs[i].f0.f1.f0 ≥ rows ∨ xs[i].f0.f1.f1 ≥ cols then ((i : Int), 2) else if ¬ (0 ≤ xs[i].f1.f0 ∧ xs[i].f1.f0 ≤ 15) then ((i : Int), 7) else wrongZ rows cols (i + 1) (xs.drop (i + 1))) := by
        intro b hb
        subst hb
        refine Ev.step (fun k => zone_Wrong.j1.eq_2 _ _ _ _ _ _ _ _ _ _ _ _ _ _) ?_
        by_cases g1 : mayZ xs[i].f0.f0.f0 xs[i].f0.f0.f1 xs[i].f0.f1.f0 xs[i].f0.f1.f1 = true ∧ xs[i].f0.f0.f0 ≤ xs[i].f0.f1.f0 ∧ xs[i].f0.f0.f1 ≤ xs[i].f0.f1.f1
        · rw [if_neg (fun n => n g1)]
          refine ev_neg (by rw [decide_eq_true g1]; simp) ?_
          by_cases g2 : xs[i].f0.f1.f0 ≥ rows
          · exact ev_pos g2 (j2 true (by rw [decide_eq_true (Or.inl g2)]))
          · exact ev_neg g2 (j2 _ (by rw [decide_eq_decide]; exact ⟨Or.inr, fun h => h.resolve_left g2⟩))
        · rw [if_pos g1]
          exact ev_pos (by rw [decide_eq_false g1]; rfl) (Ev.now _)
      cases hm : mayZ xs[i].f0.f0.f0 xs[i].f0.f0.f1 xs[i].f0.f1.f0 xs[i].f0.f1.f1 with
      | false =>
        refine ev_neg (by simp) ?_
        have := j1 true (by rw [hm]; simp)
        rw [hm] at this
        exact this
      | true =>
        refine ev_pos rfl ?_
        refine ev_bind (ev_some fun _ => span_str _ _ _ _ hm) ?_
        simp only [straight_ne]
        have := j1 _ rfl
        rw [hm] at this
        simpa using this
theorem wrong_ev (xs : List Zn) (hx : xs.length ≤ 9223372036854775807) (rows cols : Int) : Ev (fun k => zone_Wrong.f k xs rows cols) (wrongZ rows cols 0 xs) := wrong_l0 rows cols xs hx xs.length 0 (by omega)
def overZ (zs : List Zn) : List Cl → Int × Int → Int × Int
  | [], p => p
  | c :: l, p => overZ zs l (mx p.1 (ofZ zs c.f0 c.f1).1, Go.bits .or .u64 p.2 (ofZ zs c.f0 c.f1).2)
theorem over_l0 (zs : List Zn) (hz : zs.length ≤ 9223372036854775807) (xs : List Cl) (hx : xs.length ≤ 9223372036854775807) : ∀ d i a b, i + d = xs.length → Ev (fun k => zone_Over.l0 k zs xs (xs.length : Int) (i : Int) a b) (overZ zs (xs.drop i) (a, b))
  | 0, i, a, b, h => by
    rw [List.drop_eq_nil_of_le (by omega)]
    refine Ev.step (fun k => zone_Over.l0.eq_2 _ _ _ _ _ _ _) ?_
    exact ev_neg (by omega) (Ev.now _)
  | d + 1, i, a, b, h => by
    have hlt : i < xs.length := by omega
    rw [List.drop_eq_getElem_cons hlt]
    refine Ev.step (fun k => zone_Over.l0.eq_2 _ _ _ _ _ _ _) ?_
    refine ev_pos (by omega) (ev_pos (by omega) (ev_pos (by omega) ?_))
    simp only [rdC xs i hlt, w64s hlt hx]
    refine ev_bind (of_ev zs hz _ _) ?_
    refine ev_bind (ev_some fun _ => rfl) ?_
    simp only [overZ]
    exact over_l0 zs hz xs hx d (i + 1) _ _ (by omega)
theorem over_ev (zs : List Zn) (hz : zs.length ≤ 9223372036854775807) (a b c d : Int) (L : List Cl) (hL : span_Cells.f a b c d = some L) (hl : L.length ≤ 9223372036854775807) : Ev (fun k => zone_Over.f k zs a b c d) (overZ zs L (0, 0)) := by
  unfold zone_Over.f
  refine ev_bind (ev_some fun _ => rfl) ?_
  refine ev_bind (ev_some fun _ => hL) ?_
  exact over_l0 zs hz L hl L.length 0 0 0 (by omega)
theorem alive05_ev : Ev (fun k => oculuslaw05_alive.f k) true := by
  unfold oculuslaw05_alive.f
  refine ev_bsome ?_
  refine ev_bind (wrong_ev _ (by decide) _ _) ?_
  refine ev_bind (of_ev _ (by decide) _ _) ?_
  refine ev_pos (by decide +kernel) ?_
  refine ev_bind (of_ev _ (by decide) _ _) ?_
  refine ev_pos (by decide +kernel) ?_
  refine ev_bind (of_ev _ (by decide) _ _) ?_
  refine ev_pos (by decide +kernel) ?_
  refine ev_bind (over_ev _ (by decide) _ _ _ _ [⟨0, 0⟩, ⟨0, 1⟩] (by kernel_rfl) (by decide)) ?_
  refine ev_pos (by decide +kernel) ?_
  refine ev_pos (by decide +kernel) ?_
  exact ev_some (fun k => by decide +kernel)
/-! The reference. -/
theorem rwrong_l0 (rows cols : Int) (xs : List Zn) (hx : xs.length ≤ 9223372036854775807) : ∀ d i, i + d = xs.length → Ev (fun k => oculusref05_Wrong.l0 k xs rows cols (i : Int)) (wrongZ rows cols i (xs.drop i))
  | 0, i, h => by
    rw [List.drop_eq_nil_of_le (by omega)]
    refine Ev.step (fun k => oculusref05_Wrong.l0.eq_2 _ _ _ _ _) ?_
    exact ev_neg (by omega) (Ev.now _)
  | d + 1, i, h => by
    have hlt : i < xs.length := by omega
    rw [List.drop_eq_getElem_cons hlt]
    refine Ev.step (fun k => oculusref05_Wrong.l0.eq_2 _ _ _ _ _) ?_
    refine ev_pos (by omega) (ev_pos (by omega) ?_)
    simp only [wrongZ]
    refine ev_ite (fun g => ?_) (fun g => ?_)
    · rw [if_pos (by omega)]; exact Ev.now _
    · rw [if_neg (by omega)]
      simp only [rdZ xs i hlt]
      refine ev_bind (ev_some fun _ => rspan_may_eq _ _ _ _) ?_
      have j2 : ∀ b1 : Bool, b1 = decide (xs[i].f0.f1.f0 ≥ rows ∨ xs[i].f0.f1.f1 ≥ cols) → Ev (fun k => oculusref05_Wrong.j2 k xs rows cols (i : Int) b1 xs[i].f0.f0.f0 xs[i].f0.f0.f1 xs[i].f0.f1.f0 xs[i].f0.f1.f1 xs[i].f1.f0 xs[i].f1.f1)
          (if xs[i].f0.f1.f0 ≥ rows ∨ xs[i].f0.f1.f1 ≥ cols then ((i : Int), 2) else if ¬ (0 ≤ xs[i].f1.f0 ∧ xs[i].f1.f0 ≤ 15) then ((i : Int), 7) else wrongZ rows cols (i + 1) (xs.drop (i + 1))) := by
        intro b1 hb
        subst hb
        refine Ev.step (fun k => oculusref05_Wrong.j2.eq_2 _ _ _ _ _ _ _ _ _ _ _ _) ?_
        by_cases g2 : xs[i].f0.f1.f0 ≥ rows ∨ xs[i].f0.f1.f1 ≥ cols
        · rw [if_pos g2]; exact ev_pos (decide_eq_true g2) (Ev.now _)
        · rw [if_neg g2]
          refine ev_neg (by rw [decide_eq_false g2]; simp) ?_
          by_cases g3 : 0 ≤ xs[i].f1.f0 ∧ xs[i].f1.f0 ≤ 15
          · rw [if_neg (fun n => n g3)]
            refine ev_neg (by omega) (ev_neg (by omega) ?_)
            simp only [w64s hlt hx]
            exact rwrong_l0 rows cols xs hx d (i + 1) (by omega)
          · rw [if_pos g3]
            refine ev_ite (fun _ => Ev.now _) (fun g4 => ?_)
            exact ev_pos (by omega) (Ev.now _)
      have j1 : ∀ b : Bool, b = !(decide (mayZ xs[i].f0.f0.f0 xs[i].f0.f0.f1 xs[i].f0.f1.f0 xs[i].f0.f1.f1 = true ∧ xs[i].f0.f0.f0 ≤ xs[i].f0.f1.f0 ∧ xs[i].f0.f0.f1 ≤ xs[i].f0.f1.f1)) → Ev (fun k => oculusref05_Wrong.j1 k xs rows cols (i : Int) b xs[i].f0.f0.f0 xs[i].f0.f0.f1 xs[i].f0.f1.f0 xs[i].f0.f1.f1 xs[i].f1.f0 xs[i].f1.f1)
          (if ¬ (mayZ xs[i].f0.f0.f0 xs[i].f0.f0.f1 xs[i].f0.f1.f0 xs[i].f0.f1.f1 = true ∧ xs[i].f0.f0.f0 ≤ xs[i].f0.f1.f0 ∧ xs[i].f0.f0.f1 ≤ xs[i].f0.f1.f1) then ((i : Int), 1) else if xs[i].f0.f1.f0 ≥ rows ∨ xs[i].f0.f1.f1 ≥ cols then ((i : Int), 2) else if ¬ (0 ≤ xs[i].f1.f0 ∧ xs[i].f1.f0 ≤ 15) then ((i : Int), 7) else wrongZ rows cols (i + 1) (xs.drop (i + 1))) := by
        intro b hb
        subst hb
        refine Ev.step (fun k => oculusref05_Wrong.j1.eq_2 _ _ _ _ _ _ _ _ _ _ _ _) ?_
        by_cases g1 : mayZ xs[i].f0.f0.f0 xs[i].f0.f0.f1 xs[i].f0.f1.f0 xs[i].f0.f1.f1 = true ∧ xs[i].f0.f0.f0 ≤ xs[i].f0.f1.f0 ∧ xs[i].f0.f0.f1 ≤ xs[i].f0.f1.f1
        · rw [if_neg (fun n => n g1)]
          refine ev_neg (by rw [decide_eq_true g1]; simp) ?_
          by_cases g2 : xs[i].f0.f1.f0 ≥ rows
          · exact ev_pos g2 (j2 true (by rw [decide_eq_true (Or.inl g2)]))
          · exact ev_neg g2 (j2 _ (by rw [decide_eq_decide]; exact ⟨Or.inr, fun h => h.resolve_left g2⟩))
        · rw [if_pos g1]
          exact ev_pos (by rw [decide_eq_false g1]; rfl) (Ev.now _)
      cases hm : mayZ xs[i].f0.f0.f0 xs[i].f0.f0.f1 xs[i].f0.f1.f0 xs[i].f0.f1.f1 with
      | false =>
        refine ev_neg (by simp) ?_
        have := j1 true (by rw [hm]; simp)
        rw [hm] at this
        exact this
      | true =>
        refine ev_pos rfl ?_
        rw [hm] at j1
        by_cases g1 : xs[i].f0.f0.f0 > xs[i].f0.f1.f0
        · exact ev_pos g1 (j1 true (by rw [decide_eq_false (by omega)]; rfl))
        · refine ev_neg g1 (j1 _ ?_)
          rw [Bool.eq_iff_iff]
          simp only [decide_eq_true_eq, Bool.not_eq_true', decide_eq_false_iff_not, true_and]
          omega
theorem rwrong_ev (xs : List Zn) (hx : xs.length ≤ 9223372036854775807) (rows cols : Int) : Ev (fun k => oculusref05_Wrong.f k xs rows cols) (wrongZ rows cols 0 xs) := rwrong_l0 rows cols xs hx xs.length 0 (by omega)
end Go.Proofs.Ytjbdljolpkkhcaa.X
/- The pure statement of the law ZoneWrong: over numbers and lists alone. -/
set_option linter.unusedVariables false
set_option linter.unusedSimpArgs false
namespace Go.Proofs.Ytjbdljolpkkhcaa.Pure
open Go.RowKit Go.Proofs.Ytjbdljolpkkhcaa.X Go.Proofs.YtjbdljolpkkhcaaW.PrintWords Go.Proofs.YtjbdljolpkkhcaaW.PrintLast Go.Proofs.YtjbdljolpkkhcaaW.PrintMore
theorem ZoneWrong : oculuslaw05_ZoneWrong.PureX := by
  intro xs rows cols ⟨_, hxl⟩ hr hc
  have e : reachBytes = 140737488351232 := by decide
  rw [e] at hxl
  have hl : xs.length ≤ 9223372036854775807 := by omega
  apply Ev.rounds
  unfold oculuslaw05_ZoneWrong.f
  refine ev_ite (fun _ => ev_bind alive05_ev (Ev.now _)) (fun _ => ?_)
  refine ev_bind (wrong_ev xs hl rows cols) ?_
  refine ev_bind (rwrong_ev xs hl rows cols) ?_
  exact ev_pos rfl (ev_pos rfl (ev_bind alive05_ev (Ev.now _)))
end Go.Proofs.Ytjbdljolpkkhcaa.Pure
/- The row of the law ZoneWrong: for every input the call returns true and each argument reads afterwards as before, out of its pure statement and the contract of its function. Conditions: none beyond the given statement. -/
namespace Go.Proofs.Ytjbdljolpkkhcaa.zoneWrong
open Go.ChangeShapes Go.WideShapes Go.ChangeAt Go.RowKit
open Go.ChangeMaps (open_string shut_string)
open Go.Proofs.Ytjbdljolpkkhcaa.Opn Go.Proofs.Ytjbdljolpkkhcaa.X
open Go.Proofs.YtjbdljolpkkhcaaW.PrintWords (Kd Drawn0)
set_option linter.unusedVariables false
theorem own : ownKnob Try.prog.godebug = none := by kernel_rfl
theorem laidOut : laidOutB Try.prog = true := by kernel_rfl
set_option maxRecDepth 100000 in
set_option maxHeartbeats 1000000 in
theorem lifted (os : Os) (started : os.Started) (H : Type) (enc : TypeId × Value → H) :
    ReturnsInHanded {} Try.checked os 4 .any (Rows.zoneWrongSpec.pre6 enc Try.prog Try.f4 Rows.zoneWrongRow.domain false) (Rows.zoneWrongSpec.post enc Try.prog Try.f4 false true false false) := by
  refine returnsInHanded_of_change_sized (C := Try.checked) own started (by kernel_rfl) Try.func4
    (ChangeSpec.witness6 (enc := enc) (C := Try.checked) false ⟨#[], #[.slice none 0 0, .int .i64 0, .int .i64 0], []⟩ 8 (by kernel_rfl) (by kernel_rfl) (by kernel_rfl) (by kernel_rfl)) ?_
  intro W base args ds gs before hval0 hW hcnd hsz0 _
  have hsz : (DataW.weightsEach Try.prog (Try.f4.params.toList ++ Rows.zoneWrongSpec.plain.varTypes Try.prog) (ds ++ gs)).all (· ≤ reachBytes) = true := hsz0
  have hval : ∀ (j : Nat) t v, Try.f4.params[j]? = some t → args[j]? = some v → Value.okWide Try.prog W .any base t v := hval0
  have hW' := hW
  obtain ⟨p, q, hA0, hV, rfl, hfz, hnd⟩ := hW
  have hA : DataW.TrodAll enc Try.prog W 0 (fun _ => true) true Try.f4.params.toList args.toList ds p := hA0
  rw [Try.params4] at hA hval hsz
  obtain ⟨v0, vs0, d0, ds0, p0, q0, hargs, rfl, rfl, h0, r0⟩ := trodAll_cons hA
  obtain ⟨v1, vs1, d1, ds1, p1, q1, rfl, rfl, rfl, h1, r1⟩ := trodAll_cons r0
  obtain ⟨v2, vs2, d2, ds2, p2, q2, rfl, rfl, rfl, h2, r2⟩ := trodAll_cons r1
  obtain ⟨rfl, rfl, rfl⟩ := trodAll_nil r2
  obtain rfl : args = #[v0, v1, v2] := by cases args; simp_all
  obtain ⟨rfl, rfl⟩ := trodVars_none hV
  have lt0 : ∀ x ∈ p0, x.block < W.heap.size := by obtain ⟨m, hm⟩ := h0; exact DataW.trod_lt m _ _ _ hm
  have hw0 : ∀ m ∈ d0.weights Try.prog 22, m ≤ reachBytes := fun m hm => of_decide_eq_true (List.all_eq_true.1 hsz m (DataW.weights_mem_each (j := 0) (t := 22) rfl rfl m hm))
  obtain ⟨a0, K0, g0⟩ : ∃ a, ((Kd.slice 31 k31) : Kd (List S31)).K W a v0.cells.toList ∧ ((∀ y ∈ a, good31 y) ∧ a.length * 48 ≤ reachBytes) := by
    obtain ⟨fuel, hf⟩ := h0
    exact (opens_slice Try.underlying22 (by kernel_rfl) (B := 48) (by kernel_rfl) z31 opens31) hf hw0
  obtain ⟨A0, n0, c0, rfl⟩ := okWide_slice Try.underlying22 (hval 0 22 v0 rfl rfl)
  obtain ⟨A0', c0', e0, hc0, C0⟩ := K0
  simp [Value.cells] at e0
  obtain ⟨rfl, rfl, rfl⟩ := e0
  have lt1 : ∀ x ∈ p1, x.block < W.heap.size := by obtain ⟨m, hm⟩ := h1; exact DataW.trod_lt m _ _ _ hm
  have hw1 : ∀ m ∈ d1.weights Try.prog 3, m ≤ reachBytes := fun m hm => of_decide_eq_true (List.all_eq_true.1 hsz m (DataW.weights_mem_each (j := 1) (t := 3) rfl rfl m hm))
  obtain ⟨a1, K1, g1⟩ : ∃ a, ((Kd.int .i64) : Kd Int).K W a v1.cells.toList ∧ ((Lit.int .i64 a).wf = true) := by
    obtain ⟨fuel, hf⟩ := h1
    exact (opens_int Try.underlying3) hf hw1
  obtain rfl : v1 = .int .i64 a1 := by
    obtain ⟨x, rfl, _⟩ := open_int Try.underlying3 (hval 1 3 v1 rfl rfl) h1
    have := K1
    simpa [Kd.int, Kd.scalar, Value.cells] using this
  have lt2 : ∀ x ∈ p2, x.block < W.heap.size := by obtain ⟨m, hm⟩ := h2; exact DataW.trod_lt m _ _ _ hm
  have hw2 : ∀ m ∈ d2.weights Try.prog 3, m ≤ reachBytes := fun m hm => of_decide_eq_true (List.all_eq_true.1 hsz m (DataW.weights_mem_each (j := 2) (t := 3) rfl rfl m hm))
  obtain ⟨a2, K2, g2⟩ : ∃ a, ((Kd.int .i64) : Kd Int).K W a v2.cells.toList ∧ ((Lit.int .i64 a).wf = true) := by
    obtain ⟨fuel, hf⟩ := h2
    exact (opens_int Try.underlying3) hf hw2
  obtain rfl : v2 = .int .i64 a2 := by
    obtain ⟨x, rfl, _⟩ := open_int Try.underlying3 (hval 2 3 v2 rfl rfl) h2
    have := K2
    simpa [Kd.int, Kd.scalar, Value.cells] using this
  obtain ⟨k, hk⟩ := Pure.ZoneWrong a0 a1 a2 g0 g1 g2
  clear hA0 hval0 hsz0 hsz
  refine (oculuslaw05_ZoneWrong.calls k A0 c0 a0 a1 a2 true W C0 hc0 hk).mono fun e W' ⟨he, bel0⟩ => ?_
  have bel : Below W.heap.size W W' := bel0
  subst he
  exact ⟨_, rfl, _, _, _, [], _, [], hW', trodAll_mk1 (shut_bool Try.underlying4 _), (trodAll_cons_mk (Below.trod laidOut (by kernel_rfl) (of_decide_eq_true (by kernel_rfl)) h0 bel lt0) (trodAll_cons_mk (Below.trod laidOut (by kernel_rfl) (of_decide_eq_true (by kernel_rfl)) h1 bel lt1) (trodAll_cons_mk (Below.trod laidOut (by kernel_rfl) (of_decide_eq_true (by kernel_rfl)) h2 bel lt2) trodAll_mk0))), rfl, bel.frame _, fun h => by cases h⟩
theorem over : Rows.zoneWrongRow.holds Try.pinned (OpenSpec.ofChange Rows.zoneWrongSpec) :=
  OpenClaim.holds_of_wide 4 Try.f4 rfl rfl rfl rfl rfl rfl rfl ⟨rfl, rfl, rfl, rfl, rfl⟩ rfl rfl rfl rfl rfl (by kernel_rfl) Try.func4 (by kernel_rfl)
    (of_decide_eq_true (by kernel_rfl)) (by unfold Func.isWrapper; first | (rw [if_pos (by decide +kernel)]; kernel_rfl) | (rw [if_neg (by decide +kernel)]; exact ⟨rfl, rfl⟩))
    (fun os started H enc _ => lifted os started H enc)
theorem proved : Rows.ZoneWrongSaid := over
end Go.Proofs.Ytjbdljolpkkhcaa.zoneWrong
namespace Go.Proofs.Ytjbdljolpkkhcaa
/-- The row, under a short name, for the claim. -/
theorem zoneWrong_holds : Rows.ZoneWrongSaid := zoneWrong.proved
#print axioms zoneWrong_holds
end Go.Proofs.Ytjbdljolpkkhcaa
