/- Contracts of the functions that the law AddrTells reaches, and what they answer (a session's own texts, joined; part 1). -/
import Derived.Test.YtjbdljolpkkhcaaDoorBAddrTells0
namespace Go.Proofs.YtjbdljolpkkhcaaDoor.X
open Go.RowKit Go.Proofs.YtjbdljolpkkhcaaDoorW.PrintWords Go.Proofs.YtjbdljolpkkhcaaDoorW.PrintLast Go.Proofs.YtjbdljolpkkhcaaDoorW.PrintMore
attribute [local go_sem] max2_int min2_int max_two min_two max_three min_three max_four min_four   -- for this text's walks alone
set_option linter.unusedVariables false
set_option linter.unusedSimpArgs false

attribute [local go_sem high] eqA23
/-! ### oculuslaw03_alive: function 18 -/
def oculuslaw03_alive.f (k : Nat)  : Option (Bool) := (addr_Parse.f k (⟨#[65, 66, 49, 50]⟩ : ByteArray)).bind fun bt101 => (if bt101.2.2 = true then (if (bt101.1 == 11 && (bt101.2.1 == 27)) = true then ((addr_Name.f k bt101.1 bt101.2.1).bind fun t105 => (if t105.toList = ([65, 66, 49, 50] : List UInt8) then ((addr_Letters.f k 701).bind fun t106 => (if t106.toList = ([90, 90] : List UInt8) then ((addr_May.f bt101.1 bt101.2.1).bind fun t107 => (if t107 = true then ((addr_May.f 999 0).bind fun t108 => (if t108 = true then (none) else ((addr_Less.f bt101.1 bt101.2.1 12 0).bind fun t109 => (some t109)))) else (none))) else (none))) else (none))) else (none)) else (none))
theorem oculuslaw03_alive.mono : ∀ k, LeO (oculuslaw03_alive.f k ) (oculuslaw03_alive.f (k + 1) ) := by
 intro  k
 unfold oculuslaw03_alive.f
 repeat' first
   | (with_reducible exact addr_Letters.mono _ _)
   | (with_reducible exact addr_Name.mono _ _ _)
   | (with_reducible exact addr_Parse.mono _ _)
   | (with_reducible exact LeO.refl _)
   | (with_reducible exact LeO.none _)
   | (with_reducible refine LeO.ite ?_ ?_)
   | (with_reducible refine LeO.bind ?_ (fun _ => ?_))
   | exact addr_Letters.mono _ _
   | exact addr_Name.mono _ _ _
   | exact addr_Parse.mono _ _
   | exact LeO.none _
   | refine LeO.ite ?_ ?_
   | refine LeO.bind ?_ (fun _ => ?_)
set_option maxHeartbeats 8000000 in
set_option maxRecDepth 100000 in
theorem oculuslaw03_alive.calls (k : Nat)  (r : Bool) (w : World) (hT : Aside0 (Tab w)) (h : oculuslaw03_alive.f k  = some r) :
  Calls Tryd.prog 18 #[] w fun e w' => e = .returned (.bool r) ∧ Below w.heap.size w w' := by
 have hu23 := Tryd.underlying23
 have HB := Aside0.mk (Below.refl w.heap.size w)
 have H : ((addr_Parse.f k (⟨#[65, 66, 49, 50]⟩ : ByteArray)).bind fun bt101 => (if bt101.2.2 = true then (if (bt101.1 == 11 && (bt101.2.1 == 27)) = true then ((addr_Name.f k bt101.1 bt101.2.1).bind fun t105 => (if t105.toList = ([65, 66, 49, 50] : List UInt8) then ((addr_Letters.f k 701).bind fun t106 => (if t106.toList = ([90, 90] : List UInt8) then ((addr_May.f bt101.1 bt101.2.1).bind fun t107 => (if t107 = true then ((addr_May.f 999 0).bind fun t108 => (if t108 = true then (none) else ((addr_Less.f bt101.1 bt101.2.1 12 0).bind fun t109 => (some t109)))) else (none))) else (none))) else (none))) else (none)) else (none))) = some r := h
 clear h
 replace H := Option.bind_eq_some_iff.mp H
 obtain ⟨⟨t101, t102, t103⟩, A10, H⟩ := H
 replace H : (if t103 = true then (if (t101 == 11 && (t102 == 27)) = true then ((addr_Name.f k t101 t102).bind fun t105 => (if t105.toList = ([65, 66, 49, 50] : List UInt8) then ((addr_Letters.f k 701).bind fun t106 => (if t106.toList = ([90, 90] : List UInt8) then ((addr_May.f t101 t102).bind fun t107 => (if t107 = true then ((addr_May.f 999 0).bind fun t108 => (if t108 = true then (none) else ((addr_Less.f t101 t102 12 0).bind fun t109 => (some t109)))) else (none))) else (none))) else (none))) else (none)) else (none)) = some r := H
 have A1 := Aside0.mk A10
 clear A10
 by_cases c2 : t103 = true
 ·
  subst c2
  have H1 : (if (t101 == 11 && (t102 == 27)) = true then ((addr_Name.f k t101 t102).bind fun t105 => (if t105.toList = ([65, 66, 49, 50] : List UInt8) then ((addr_Letters.f k 701).bind fun t106 => (if t106.toList = ([90, 90] : List UInt8) then ((addr_May.f t101 t102).bind fun t107 => (if t107 = true then ((addr_May.f 999 0).bind fun t108 => (if t108 = true then (none) else ((addr_Less.f t101 t102 12 0).bind fun t109 => (some t109)))) else (none))) else (none))) else (none))) else (none)) = some r := by rw [if_pos rfl] at H; exact H
  clear H
  have H := H1
  clear H1
  by_cases c3 : (t101 == 11 && (t102 == 27)) = true
  ·
   rw [if_pos c3] at H
   have c3b0 : (t101 == 11 && (t102 == 27)) = true := c3
   (try (have c3b1 : decide (t101 = 11 && (t102 == 27)) = true := by simpa using c3))
   (try (have c3b2 : (t101 == 11 && (t102 == 27)) = true := by simpa using c3))
   clear c3
   replace H := Option.bind_eq_some_iff.mp H
   obtain ⟨t105, A40, H⟩ := H
   replace H : (if t105.toList = ([65, 66, 49, 50] : List UInt8) then ((addr_Letters.f k 701).bind fun t106 => (if t106.toList = ([90, 90] : List UInt8) then ((addr_May.f t101 t102).bind fun t107 => (if t107 = true then ((addr_May.f 999 0).bind fun t108 => (if t108 = true then (none) else ((addr_Less.f t101 t102 12 0).bind fun t109 => (some t109)))) else (none))) else (none))) else (none)) = some r := H
   have A4 := Aside0.mk A40
   clear A40
   by_cases c5 : t105.toList = ([65, 66, 49, 50] : List UInt8)
   ·
    rw [if_pos c5] at H
    have c5b0 : (t105.toList == ([65, 66, 49, 50] : List UInt8)) = true := beq_iff_eq.mpr c5
    have c5b1 : (t105.toList != ([65, 66, 49, 50] : List UInt8)) = false := bne_eq_false_iff_eq.mpr c5
    clear c5
    replace H := Option.bind_eq_some_iff.mp H
    obtain ⟨t106, A60, H⟩ := H
    replace H : (if t106.toList = ([90, 90] : List UInt8) then ((addr_May.f t101 t102).bind fun t107 => (if t107 = true then ((addr_May.f 999 0).bind fun t108 => (if t108 = true then (none) else ((addr_Less.f t101 t102 12 0).bind fun t109 => (some t109)))) else (none))) else (none)) = some r := H
    have A6 := Aside0.mk A60
    clear A60
    by_cases c7 : t106.toList = ([90, 90] : List UInt8)
    ·
     rw [if_pos c7] at H
     have c7b0 : (t106.toList == ([90, 90] : List UInt8)) = true := beq_iff_eq.mpr c7
     have c7b1 : (t106.toList != ([90, 90] : List UInt8)) = false := bne_eq_false_iff_eq.mpr c7
     clear c7
     replace H := Option.bind_eq_some_iff.mp H
     obtain ⟨t107, A80, H⟩ := H
     replace H : (if t107 = true then ((addr_May.f 999 0).bind fun t108 => (if t108 = true then (none) else ((addr_Less.f t101 t102 12 0).bind fun t109 => (some t109)))) else (none)) = some r := H
     have A8 := Aside0.mk A80
     clear A80
     by_cases c9 : t107 = true
     ·
      subst c9
      have H1 : ((addr_May.f 999 0).bind fun t108 => (if t108 = true then (none) else ((addr_Less.f t101 t102 12 0).bind fun t109 => (some t109)))) = some r := by rw [if_pos rfl] at H; exact H
      clear H
      have H := H1
      clear H1
      replace H := Option.bind_eq_some_iff.mp H
      obtain ⟨t108, A100, H⟩ := H
      replace H : (if t108 = true then (none) else ((addr_Less.f t101 t102 12 0).bind fun t109 => (some t109))) = some r := H
      have A10 := Aside0.mk A100
      clear A100
      by_cases c11 : t108 = true
      ·
       subst c11
       have H1 : (none) = some r := by rw [if_pos rfl] at H; exact H
       clear H
       have H := H1
       clear H1
       exact absurd H (by simp)
      ·
       replace c11 := Bool.eq_false_iff.mpr c11
       subst c11
       have H1 : ((addr_Less.f t101 t102 12 0).bind fun t109 => (some t109)) = some r := by rw [if_neg (show ¬ (false = true) by decide)] at H; exact H
       clear H
       have H := H1
       clear H1
       replace H := Option.bind_eq_some_iff.mp H
       obtain ⟨t109, A120, H⟩ := H
       replace H : (some t109) = some r := H
       have A12 := Aside0.mk A120
       clear A120
       obtain rfl := Option.some.inj H
       go_enter Tryd.func18, Tryd.ntmps18
       go_wp2_with (first | ((with_reducible refine gate_callee (f := 21) rfl ?_); refine goesL_ (some 4) rfl rfl Tryd.func21 (by kernel_rfl) rfl #[.string (⟨#[65, 66, 49, 50]⟩ : ByteArray)] rfl (by (try simp only [List.map_toArray, List.map_cons, List.map_nil]); first | done | rfl | (simp only [List.length_drop, List.length_take]; rfl)) ?_; (with_reducible refine (addr_Parse.calls k (⟨#[65, 66, 49, 50]⟩ : ByteArray) t101 t102 true _ A1.out).mono ?_); rintro e w13 ⟨rfl, hb⟩; refine ⟨_, rfl, ?_⟩; have n0_ := Aside0.mk (below_step (pbx HB) hb); clear HB; have HB := n0_; clear n0_; (try clear hb); (try clear hb2); (try clear hk); (try clear hi)) | ((with_reducible refine gate_dst (N := 1) rfl ?_); refine box_event ?hg (N := 1) ?hd (cs := #[.int .i64 0, .int .i64 0]) (t := 23) ?hr ?_; (case hd => rfl); (case hg => rfl); (case hr => first | (go_simp; done) | (go_simp; rfl)); intro gb104 hg w14 hbox hb; have n0_ := Aside0.mk (below_step (pbx HB) hb); have n1_ := Aside0.mk (hbox); have n2_ := Aside0.mk ((by rw [hg]; exact (below_size (pbx HB)) : w.heap.size ≤ gb104)); have n3_ := Aside0.mk ((by rw [hg]; exact (below_size (pbx HB)) : w.heap.size ≤ gb104)); clear HB; have HB := n0_; have BK104 := n1_; have GW104 := n2_; have GE104 := n3_; clear n0_ n1_ n2_ n3_; clear hb hbox hg; have hcz15_0 : w14.cell? ⟨gb104, 0, none⟩ = some (.int .i64 0) := (blk_cell BK104.out 0).trans rfl; have hcz15_1 : w14.cell? ⟨gb104, 1, none⟩ = some (.int .i64 0) := (blk_cell BK104.out 1).trans rfl; have hfz15_0 := blk_frozen BK104.out 0; have hfz15_1 := blk_frozen BK104.out 1) | (go_at_call 12; (with_reducible refine (addr_Name.calls k t101 t102 t105 _ (by refine tb_ ?_ hT; repeat' (first | exact pbx HB | assumption | refine below_set ?_ (Aside0.out ?_))) A4.out).mono ?_); rintro e w16 ⟨rfl, hb⟩; have n0_ := Aside0.mk (blk_below (g := gb104) (o := .cells #[.int .i64 t101, .int .i64 t102] 23 (0, 0)) (by (with_reducible repeat (first | refine blk_drewN ?_ _ | refine blk_drew ?_ | refine blk_alloc ?_ _)); refine blk_put (cs := #[.int .i64 t101, .int .i64 0]) ?_ 1 _ rfl; (with_reducible repeat (first | refine blk_drewN ?_ _ | refine blk_drew ?_ | refine blk_alloc ?_ _)); refine blk_put (cs := #[.int .i64 0, .int .i64 0]) ?_ 0 _ rfl; (with_reducible repeat (first | refine blk_drewN ?_ _ | refine blk_drew ?_ | refine blk_alloc ?_ _)); exact BK104.out) hb); have n1_ := Aside0.mk (below_step (by repeat (first | (with_reducible first | exact HB.out | apply below_alloc | apply pw_below_drewN | apply below_drew1 | refine below_set ?_ GE104.out) | exact HB.out)) hb); clear BK104; clear HB; have BK104 := n0_; have HB := n1_; clear n0_ n1_; (try clear hb); (try clear hb2); (try clear hk); (try clear hi)) | (go_at_call 14; (with_reducible refine (addr_Letters.calls k 701 t106 _ A6.out).mono ?_); rintro e w17 ⟨rfl, hb⟩; have n0_ := Aside0.mk (blk_below (pkx BK104) hb); have n1_ := Aside0.mk (below_step (pbx HB) hb); clear BK104; clear HB; have BK104 := n0_; have HB := n1_; clear n0_ n1_; (try clear hb); (try clear hb2); (try clear hk); (try clear hi); have hcz18_0 : w17.cell? ⟨gb104, 0, none⟩ = some (.int .i64 t101) := (blk_cell BK104.out 0).trans rfl; have hcz18_1 : w17.cell? ⟨gb104, 1, none⟩ = some (.int .i64 t102) := (blk_cell BK104.out 1).trans rfl; have hfz18_0 := blk_frozen BK104.out 0; have hfz18_1 := blk_frozen BK104.out 1) | (go_at_call 10; (with_reducible refine (addr_May.calls t101 t102 true _ A8.out).mono ?_); rintro e w19 ⟨rfl, hb⟩; have n0_ := Aside0.mk (blk_below (pkx BK104) hb); have n1_ := Aside0.mk (below_step (pbx HB) hb); clear BK104; clear HB; have BK104 := n0_; have HB := n1_; clear n0_ n1_; (try clear hb); (try clear hb2); (try clear hk); (try clear hi)) | (go_at_call 10; (with_reducible refine (addr_May.calls 999 0 false _ A10.out).mono ?_); rintro e w20 ⟨rfl, hb⟩; have n0_ := Aside0.mk (blk_below (pkx BK104) hb); have n1_ := Aside0.mk (below_step (pbx HB) hb); clear BK104; clear HB; have BK104 := n0_; have HB := n1_; clear n0_ n1_; (try clear hb); (try clear hb2); (try clear hk); (try clear hi); have hcz21_0 : w20.cell? ⟨gb104, 0, none⟩ = some (.int .i64 t101) := (blk_cell BK104.out 0).trans rfl; have hcz21_1 : w20.cell? ⟨gb104, 1, none⟩ = some (.int .i64 t102) := (blk_cell BK104.out 1).trans rfl; have hfz21_0 := blk_frozen BK104.out 0; have hfz21_1 := blk_frozen BK104.out 1) | (go_at_call 16; (with_reducible refine (addr_Less.calls t101 t102 12 0 t109 _ A12.out).mono ?_); rintro e w22 ⟨rfl, hb⟩; have n0_ := Aside0.mk (blk_below (pkx BK104) hb); have n1_ := Aside0.mk (below_step (pbx HB) hb); clear BK104; clear HB; have BK104 := n0_; have HB := n1_; clear n0_ n1_; (try clear hb); (try clear hb2); (try clear hk); (try clear hi)))
       go_ret
       exact ⟨by first | rfl | (simp [errW_none, errW_some] <;> rfl) | (simp [*, errW_none, errW_some] <;> rfl), pbx HB⟩
     ·
      replace c9 := Bool.eq_false_iff.mpr c9
      subst c9
      have H1 : (none) = some r := by rw [if_neg (show ¬ (false = true) by decide)] at H; exact H
      clear H
      have H := H1
      clear H1
      exact absurd H (by simp)
    ·
     rw [if_neg c7] at H
     exact absurd H (by simp)
   ·
    rw [if_neg c5] at H
    exact absurd H (by simp)
  ·
   rw [if_neg c3] at H
   exact absurd H (by simp)
 ·
  replace c2 := Bool.eq_false_iff.mpr c2
  subst c2
  have H1 : (none) = some r := by rw [if_neg (show ¬ (false = true) by decide)] at H; exact H
  clear H
  have H := H1
  clear H1
  exact absurd H (by simp)

end Go.Proofs.YtjbdljolpkkhcaaDoor.X
