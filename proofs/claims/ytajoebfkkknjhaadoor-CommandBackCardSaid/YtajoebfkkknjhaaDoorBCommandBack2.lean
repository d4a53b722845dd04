/- Contracts of the functions that the law CommandBack reaches, and what they answer (a session's own texts, joined; part 2). -/
import Derived.Shelf.Strings.SplitCore
import Derived.Lib.SplitLaws
import Derived.Lib.IndexBytes
import Derived.Test.YtajoebfkkknjhaaDoorBCommandBack1
set_option maxHeartbeats 8000000
set_option maxRecDepth 100000
namespace Go.Proofs.YtajoebfkkknjhaaDoor.X
open Go.RowKit Go.Proofs.YtajoebfkkknjhaaDoorW.PrintWords Go.Proofs.YtajoebfkkknjhaaDoorW.PrintLast Go.Proofs.YtajoebfkkknjhaaDoorW.PrintMore
attribute [local go_sem] max2_int min2_int max_two min_two max_three min_three max_four min_four
set_option linter.unusedVariables false
set_option linter.unusedSimpArgs false
attribute [local go_sem high] eqA27
def span_Parse.j0 : Nat → ByteArray → Bool → Bool → Int → Int → Option (Int × Int × Int × Int × Bool)
 | 0, _, _, _, _, _ => none
 | k + 1, x5, x8, x26, x109000, x109001 => if x26 = true then (some (x109000, x109001, x109000, x109001, true)) else ((addr_Parse.f k x5).bind fun bt109 => (if x8 = true then (if bt109.2.2 = true then (if (x109000 == bt109.1 && (x109001 == bt109.2.1)) = true then (some (0, 0, 0, 0, false)) else (some (x109000, x109001, bt109.1, bt109.2.1, true))) else (some (0, 0, 0, 0, false))) else (some (0, 0, 0, 0, false))))
def span_Parse.f (k : Nat) (a0 : ByteArray) : Option (Int × Int × Int × Int × Bool) := (strings_Cut.f a0 (⟨#[58]⟩ : ByteArray)).bind fun bt102 => ((addr_Parse.f k bt102.1).bind fun bt105 => (if bt105.2.2 = true then (span_Parse.j0 k bt102.2.1 bt105.2.2 (!bt102.2.2) bt105.1 bt105.2.1) else (span_Parse.j0 k bt102.2.1 bt105.2.2 false bt105.1 bt105.2.1)))
theorem span_Parse.calls (k : Nat) (a0 : ByteArray) (r1 : Int) (r2 : Int) (r3 : Int) (r4 : Int) (r5 : Bool) (w : World) (h : span_Parse.f k a0 = some (r1, r2, r3, r4, r5)) :
  Calls Tryd.prog 35 #[.string a0] w fun e w' => e = .returned (.tuple #[.agg #[.int .i64 r1, .int .i64 r2, .int .i64 r3, .int .i64 r4], .bool r5]) ∧ Below w.heap.size w w' := by
 have hu29 := Tryd.underlying29; have hu27 := Tryd.underlying27; have HB := A_ (Below.refl w.heap.size w)
 have H : ((strings_Cut.f a0 (⟨#[58]⟩ : ByteArray)).bind fun bt102 => ((addr_Parse.f k bt102.1).bind fun bt105 => (if bt105.2.2 = true then (span_Parse.j0 k bt102.2.1 bt105.2.2 (!bt102.2.2) bt105.1 bt105.2.1) else (span_Parse.j0 k bt102.2.1 bt105.2.2 false bt105.1 bt105.2.1)))) = some (r1, r2, r3, r4, r5) := h
 clear h; obtain ⟨⟨t102, t103, t104⟩, A2, H⟩ := bo_ H; dsimp only at H; obtain ⟨⟨t105, t106, t107⟩, A3, H⟩ := bo_ H; dsimp only at H; have HC4 := A_ H; clear H
 go_enter Tryd.func35, Tryd.ntmps35
 go_upto_region 3 with (first | ((with_reducible refine gd_ 2 ?_); refine be_ (N:=2) (cs := #[.int .i64 0, .int .i64 0, .int .i64 0, .int .i64 0]) (t:=29) ?_; intro g1 hg w5 hbox hb; have B1 := A_ (hbox); have GW101 := hs_ HB hg; have GE101 := hs_ HB hg; replace HB := bs_ HB hb; clear hb hbox hg) | ((with_reducible refine gate_callee (f:=11) rfl ?_); refine gL_ (some 13) rfl rfl Tryd.func11 rfl #[.string a0, .string (⟨#[58]⟩ : ByteArray)] rfl ?_; (with_reducible refine (strings_Cut.calls a0 (⟨#[58]⟩ : ByteArray) t102 t103 t104 _ A2.out).mono ?_); rintro e w' ⟨rfl, ⟨nd, rfl⟩⟩; refine ⟨_, rfl, ?_⟩; (try (rw [drewN_self w5]; generalize hq_ : World.drewN w5 _ = w5; have n0_ : Aside0 (w5.heap[g1]? = some (.cells #[.int .i64 0, .int .i64 0, .int .i64 0, .int .i64 0] 29 (0, 0))) := ⟨by rw [← hq_]; exact (pkx B1)⟩; have n1_ : Aside0 (Below w.heap.size w w5) := ⟨by rw [← hq_]; exact (pbx HB)⟩; clear B1 HB hq_; have B1 := n0_; have HB := n1_; clear n0_ n1_))) | ((with_reducible refine gate_callee (f:=36) rfl ?_); refine gL_ (some 19) rfl rfl Tryd.func36 rfl #[.string t102] rfl ?_; (with_reducible refine (addr_Parse.calls k t102 t105 t106 t107 _ A3.out).mono ?_); rintro e w6 ⟨rfl, hb⟩; refine ⟨_, rfl, ?_⟩; replace B1 := bb_ B1 hb; replace HB := bs_ HB hb; ) | ((with_reducible refine gd_ 7 ?_); refine be_ (N:=7) (cs := #[.int .i64 0, .int .i64 0]) (t:=27) ?_; intro g8 hg w7 hbox hb; have B8 := A_ (hbox); have GW108 := hs_ HB hg; have GE108 := hs_ HB hg; have N18 := hl_ B1 hg; have N81 := hr_ B1 hg; replace B1 := bb_ B1 hb; replace HB := bs_ HB hb; clear hb hbox hg; have hnb8 := N81.out; have hnc8 := N18.out; have ⟨hcz9_0,hcz9_1,hfz9_0,hfz9_1⟩ := z2_ B8))
 (try simp only [q_])
 go_cut [26] (fun v26 wc => ∃ (kq : Nat) (x26_3 : Bool), v26 = .bool x26_3 ∧ Aside0 (span_Parse.j0 kq t103 t107 x26_3 t105 t106 = some (r1, r2, r3, r4, r5)) ∧ Aside0 (kq ≤ k) ∧ Aside0 (wc.heap[g1]? = some (.cells #[.int .i64 0, .int .i64 0, .int .i64 0, .int .i64 0] 29 (0, 0))) ∧ Aside0 (wc.heap[g8]? = some (.cells #[.int .i64 t105, .int .i64 t106] 27 (0, 0))) ∧ Aside0 (Below w.heap.size w wc))
 case first =>
  have H := HC4.out; clear HC4
  by_cases c10 : t107 = true
  ·subst c10
   replace H := it_ H
   have H' := A_ H
   clear H
   go_wp2
   go_meet
   case rel => exact ⟨_, (!t104), (by first | rfl | (simp; done) | (simp [*]; done) | (cases t104 <;> simp; done)), H', le_, ⟨by (iterate 2 refine pf_ ?_ N18.out); exact pkx B1⟩, ⟨by refine pp_ (cs := #[.int .i64 t105, .int .i64 0]) 1 ?_ rfl; refine blk_put (cs := #[.int .i64 0, .int .i64 0]) ?_ 0 _ rfl; exact pkx B8⟩, ⟨bl_⟩⟩
  ·replace c10 := Bool.eq_false_iff.mpr c10; subst c10
   replace H := ie_ H
   have H' := A_ H
   clear H
   go_wp2
   go_meet
   case rel => exact ⟨_, (false), sq_, H', le_, ⟨by (iterate 2 refine pf_ ?_ N18.out); exact pkx B1⟩, ⟨by refine pp_ (cs := #[.int .i64 t105, .int .i64 0]) 1 ?_ rfl; refine blk_put (cs := #[.int .i64 0, .int .i64 0]) ?_ 0 _ rfl; exact pkx B8⟩, ⟨bl_⟩⟩
 case rest =>
  clear HC4; (try clear hcz9_0); (try clear hcz9_1); (try clear hfz9_0); (try clear hfz9_1); obtain ⟨kq, x26_3, rfl, HA, HJ3, B1, B8, HB⟩ := hcut
  cases kq with
  | zero => exact absurd HA.out (by simp [span_Parse.j0])
  | succ kj3 =>
   have H := HA.out; clear HA
   simp only [span_Parse.j0] at H
   by_cases c11 : x26_3 = true
   ·subst c11
    replace H := it_ H
    simp only [Option.some.injEq, Prod.mk.injEq] at H
    obtain ⟨rfl, rfl, rfl, rfl, rfl⟩ := H; have hnb12 := N81.out; have hnc12 := N18.out
    have ⟨hcz13_0,hcz13_1,hfz13_0,hfz13_1⟩ := z2_ B8
    have ⟨hcz14_0,hcz14_1,hcz14_2,hcz14_3,hfz14_0,hfz14_1,hfz14_2,hfz14_3⟩ := z4_ B1
    go_wp2
    refine bodyPost_ret (results_ct rfl _ _ g1 29 #[.int .i64 t105, .int .i64 t106, .int .i64 t105, .int .i64 t106] (0, 0) _ rfl (by refine pp_ (cs := #[.int .i64 t105, .int .i64 t106, .int .i64 t105, .int .i64 0]) 3 ?_ rfl; refine blk_put (cs := #[.int .i64 t105, .int .i64 t106, .int .i64 0, .int .i64 0]) ?_ 2 _ rfl; refine blk_put (cs := #[.int .i64 t105, .int .i64 0, .int .i64 0, .int .i64 0]) ?_ 1 _ rfl; refine blk_put (cs := #[.int .i64 0, .int .i64 0, .int .i64 0, .int .i64 0]) ?_ 0 _ rfl; exact pkx B1) Tryd.underlying29 rfl (by kernel_rfl)) rfl ?_
    exact fi_ bl_
   ·replace c11 := Bool.eq_false_iff.mpr c11; subst c11
    obtain ⟨⟨t109, t110, t111⟩, A15, H⟩ := bo_ (ie_ H); dsimp only at H
    by_cases c16 : t107 = true
    ·subst c16
     replace H := it_ H
     by_cases c17 : t111 = true
     ·subst c17
      replace H := it_ H
      by_cases c18 : (t105 == t109 && (t106 == t110)) = true
      ·rw [if_pos c18] at H
       have c18b0 : (t105 == t109 && (t106 == t110)) = true := c18
       (try (have c18b1 : decide (t105 = t109 && (t106 == t110)) = true := by simpa using c18)); (try (have c18b2 : (t105 == t109 && (t106 == t110)) = true := by simpa using c18)); clear c18
       simp only [Option.some.injEq, Prod.mk.injEq] at H
       obtain ⟨rfl, rfl, rfl, rfl, rfl⟩ := H
       go_wp2_with (first | ((with_reducible refine gate_callee (f:=36) rfl ?_); refine gL_ (some 32) rfl rfl Tryd.func36 rfl #[.string t103] rfl ?_; (with_reducible refine (addr_Parse.calls kj3 t103 t109 t110 true _ A15.out).mono ?_); rintro e w19 ⟨rfl, hb⟩; refine ⟨_, rfl, ?_⟩; replace B1 := bb_ B1 hb; replace B8 := bb_ B8 hb; replace HB := bs_ HB hb; (try clear hb); ) | ((with_reducible refine gd_ 9 ?_); refine be_ (N:=9) (cs := #[.int .i64 0, .int .i64 0]) (t:=27) ?_; intro gb112 hg w20 hbox hb; have BK112 := A_ (hbox); have GW112 := hs_ HB hg; have GE112 := hs_ HB hg; have NB101_112 := hl_ B1 hg; have NB112_101 := hr_ B1 hg; have NB108_112 := hl_ B8 hg; have NB112_108 := hr_ B8 hg; replace B1 := bb_ B1 hb; replace B8 := bb_ B8 hb; replace HB := bs_ HB hb; clear hb hbox hg; have hnb21 := NB112_101.out; have hnc21 := NB101_112.out; have hnb22 := NB112_108.out; have hnc22 := NB108_112.out; have ⟨hcz23_0,hcz23_1,hfz23_0,hfz23_1⟩ := z2_ BK112; have hnb24 := N81.out; have hnc24 := N18.out; have ⟨hcz25_0,hcz25_1,hfz25_0,hfz25_1⟩ := z2_ B8; have ⟨hcz26_0,hcz26_1,hcz26_2,hcz26_3,hfz26_0,hfz26_1,hfz26_2,hfz26_3⟩ := z4_ B1))
       refine bodyPost_ret (results_ct rfl _ _ g1 29 #[.int .i64 0, .int .i64 0, .int .i64 0, .int .i64 0] (0, 0) _ rfl (by refine pp_ (cs := #[.int .i64 0, .int .i64 0, .int .i64 0, .int .i64 0]) 3 ?_ rfl; refine blk_put (cs := #[.int .i64 0, .int .i64 0, .int .i64 0, .int .i64 0]) ?_ 2 _ rfl; refine blk_put (cs := #[.int .i64 0, .int .i64 0, .int .i64 0, .int .i64 0]) ?_ 1 _ rfl; refine blk_put (cs := #[.int .i64 0, .int .i64 0, .int .i64 0, .int .i64 0]) ?_ 0 _ rfl; (iterate 2 refine pf_ ?_ NB101_112.out); exact pkx B1) Tryd.underlying29 rfl (by kernel_rfl)) rfl ?_
       exact fi_ bl_
      ·rw [if_neg c18] at H
       have c18b0 : (t105 == t109 && (t106 == t110)) = false := by simpa using c18
       (try (have c18b1 : decide (t105 = t109 && (t106 == t110)) = false := by simpa using c18)); (try (have c18b2 : (t105 == t109 && (t106 == t110)) = false := by simpa using c18)); (try (have c18b3 : ¬ (t105 = t109 && (t106 == t110)) := by simpa using c18)); clear c18
       simp only [Option.some.injEq, Prod.mk.injEq] at H
       obtain ⟨rfl, rfl, rfl, rfl, rfl⟩ := H
       go_wp2_with (first | ((with_reducible refine gate_callee (f:=36) rfl ?_); refine gL_ (some 32) rfl rfl Tryd.func36 rfl #[.string t103] rfl ?_; (with_reducible refine (addr_Parse.calls kj3 t103 t109 t110 true _ A15.out).mono ?_); rintro e w27 ⟨rfl, hb⟩; refine ⟨_, rfl, ?_⟩; replace B1 := bb_ B1 hb; replace B8 := bb_ B8 hb; replace HB := bs_ HB hb; (try clear hb); ) | ((with_reducible refine gd_ 9 ?_); refine be_ (N:=9) (cs := #[.int .i64 0, .int .i64 0]) (t:=27) ?_; intro gb112 hg w28 hbox hb; have BK112 := A_ (hbox); have GW112 := hs_ HB hg; have GE112 := hs_ HB hg; have NB101_112 := hl_ B1 hg; have NB112_101 := hr_ B1 hg; have NB108_112 := hl_ B8 hg; have NB112_108 := hr_ B8 hg; replace B1 := bb_ B1 hb; replace B8 := bb_ B8 hb; replace HB := bs_ HB hb; clear hb hbox hg; have hnb29 := NB112_101.out; have hnc29 := NB101_112.out; have hnb30 := NB112_108.out; have hnc30 := NB108_112.out; have ⟨hcz31_0,hcz31_1,hfz31_0,hfz31_1⟩ := z2_ BK112; have hnb32 := N81.out; have hnc32 := N18.out; have ⟨hcz33_0,hcz33_1,hfz33_0,hfz33_1⟩ := z2_ B8; have ⟨hcz34_0,hcz34_1,hcz34_2,hcz34_3,hfz34_0,hfz34_1,hfz34_2,hfz34_3⟩ := z4_ B1))
       refine bodyPost_ret (results_ct rfl _ _ g1 29 #[.int .i64 t105, .int .i64 t106, .int .i64 t109, .int .i64 t110] (0, 0) _ rfl (by refine pp_ (cs := #[.int .i64 t105, .int .i64 t106, .int .i64 t109, .int .i64 0]) 3 ?_ rfl; refine blk_put (cs := #[.int .i64 t105, .int .i64 t106, .int .i64 0, .int .i64 0]) ?_ 2 _ rfl; refine blk_put (cs := #[.int .i64 t105, .int .i64 0, .int .i64 0, .int .i64 0]) ?_ 1 _ rfl; refine blk_put (cs := #[.int .i64 0, .int .i64 0, .int .i64 0, .int .i64 0]) ?_ 0 _ rfl; (iterate 2 refine pf_ ?_ NB101_112.out); exact pkx B1) Tryd.underlying29 rfl (by kernel_rfl)) rfl ?_
       exact fi_ bl_
     ·replace c17 := Bool.eq_false_iff.mpr c17; subst c17
      replace H := ie_ H
      simp only [Option.some.injEq, Prod.mk.injEq] at H
      obtain ⟨rfl, rfl, rfl, rfl, rfl⟩ := H
      go_wp2_with (first | ((with_reducible refine gate_callee (f:=36) rfl ?_); refine gL_ (some 32) rfl rfl Tryd.func36 rfl #[.string t103] rfl ?_; (with_reducible refine (addr_Parse.calls kj3 t103 t109 t110 false _ A15.out).mono ?_); rintro e w35 ⟨rfl, hb⟩; refine ⟨_, rfl, ?_⟩; replace B1 := bb_ B1 hb; replace B8 := bb_ B8 hb; replace HB := bs_ HB hb; (try clear hb); ) | ((with_reducible refine gd_ 9 ?_); refine be_ (N:=9) (cs := #[.int .i64 0, .int .i64 0]) (t:=27) ?_; intro gb112 hg w36 hbox hb; have BK112 := A_ (hbox); have GW112 := hs_ HB hg; have GE112 := hs_ HB hg; have NB101_112 := hl_ B1 hg; have NB112_101 := hr_ B1 hg; have NB108_112 := hl_ B8 hg; have NB112_108 := hr_ B8 hg; replace B1 := bb_ B1 hb; replace B8 := bb_ B8 hb; replace HB := bs_ HB hb; clear hb hbox hg; have hnb37 := NB112_101.out; have hnc37 := NB101_112.out; have hnb38 := NB112_108.out; have hnc38 := NB108_112.out; have ⟨hcz39_0,hcz39_1,hfz39_0,hfz39_1⟩ := z2_ BK112; have hnb40 := N18.out; have hnc40 := N81.out; have ⟨hcz41_0,hcz41_1,hcz41_2,hcz41_3,hfz41_0,hfz41_1,hfz41_2,hfz41_3⟩ := z4_ B1))
      refine bodyPost_ret (results_ct rfl _ _ g1 29 #[.int .i64 0, .int .i64 0, .int .i64 0, .int .i64 0] (0, 0) _ rfl (by refine pp_ (cs := #[.int .i64 0, .int .i64 0, .int .i64 0, .int .i64 0]) 3 ?_ rfl; refine blk_put (cs := #[.int .i64 0, .int .i64 0, .int .i64 0, .int .i64 0]) ?_ 2 _ rfl; refine blk_put (cs := #[.int .i64 0, .int .i64 0, .int .i64 0, .int .i64 0]) ?_ 1 _ rfl; refine blk_put (cs := #[.int .i64 0, .int .i64 0, .int .i64 0, .int .i64 0]) ?_ 0 _ rfl; (iterate 2 refine pf_ ?_ NB101_112.out); exact pkx B1) Tryd.underlying29 rfl (by kernel_rfl)) rfl ?_
      exact fi_ bl_
    ·replace c16 := Bool.eq_false_iff.mpr c16; subst c16
     replace H := ie_ H
     simp only [Option.some.injEq, Prod.mk.injEq] at H
     obtain ⟨rfl, rfl, rfl, rfl, rfl⟩ := H
     go_wp2_with (first | ((with_reducible refine gate_callee (f:=36) rfl ?_); refine gL_ (some 32) rfl rfl Tryd.func36 rfl #[.string t103] rfl ?_; (with_reducible refine (addr_Parse.calls kj3 t103 t109 t110 t111 _ A15.out).mono ?_); rintro e w42 ⟨rfl, hb⟩; refine ⟨_, rfl, ?_⟩; replace B1 := bb_ B1 hb; replace B8 := bb_ B8 hb; replace HB := bs_ HB hb; (try clear hb); ) | ((with_reducible refine gd_ 9 ?_); refine be_ (N:=9) (cs := #[.int .i64 0, .int .i64 0]) (t:=27) ?_; intro gb112 hg w43 hbox hb; have BK112 := A_ (hbox); have GW112 := hs_ HB hg; have GE112 := hs_ HB hg; have NB101_112 := hl_ B1 hg; have NB112_101 := hr_ B1 hg; have NB108_112 := hl_ B8 hg; have NB112_108 := hr_ B8 hg; replace B1 := bb_ B1 hb; replace B8 := bb_ B8 hb; replace HB := bs_ HB hb; clear hb hbox hg; have hnb44 := NB112_101.out; have hnc44 := NB101_112.out; have hnb45 := NB112_108.out; have hnc45 := NB108_112.out; have ⟨hcz46_0,hcz46_1,hfz46_0,hfz46_1⟩ := z2_ BK112; have hnb47 := N18.out; have hnc47 := N81.out; have ⟨hcz48_0,hcz48_1,hcz48_2,hcz48_3,hfz48_0,hfz48_1,hfz48_2,hfz48_3⟩ := z4_ B1))
     refine bodyPost_ret (results_ct rfl _ _ g1 29 #[.int .i64 0, .int .i64 0, .int .i64 0, .int .i64 0] (0, 0) _ rfl (by refine pp_ (cs := #[.int .i64 0, .int .i64 0, .int .i64 0, .int .i64 0]) 3 ?_ rfl; refine blk_put (cs := #[.int .i64 0, .int .i64 0, .int .i64 0, .int .i64 0]) ?_ 2 _ rfl; refine blk_put (cs := #[.int .i64 0, .int .i64 0, .int .i64 0, .int .i64 0]) ?_ 1 _ rfl; refine blk_put (cs := #[.int .i64 0, .int .i64 0, .int .i64 0, .int .i64 0]) ?_ 0 _ rfl; (iterate 2 refine pf_ ?_ NB101_112.out); exact pkx B1) Tryd.underlying29 rfl (by kernel_rfl)) rfl ?_
     exact fi_ bl_

end Go.Proofs.YtajoebfkkknjhaaDoor.X
namespace Go.Proofs.YtajoebfkkknjhaaDoor.X
open Go.RowKit Go.Proofs.YtajoebfkkknjhaaDoorW.PrintWords Go.Proofs.YtajoebfkkknjhaaDoorW.PrintLast Go.Proofs.YtajoebfkkknjhaaDoorW.PrintMore
attribute [local go_sem] max2_int min2_int max_two min_two max_three min_three max_four min_four
set_option linter.unusedVariables false
set_option linter.unusedSimpArgs false
mutual
def command_number.j0 : Nat → ByteArray → Bool → Option (Int)
 | 0, _, _ => none
 | k + 1, x0, x17 => if x17 = true then (some 0) else (command_number.l0 k x0 0 (x0.size : Int) 0)
def command_number.l0 : Nat → ByteArray → Int → Int → Int → Option (Int)
 | 0, _, _, _, _ => none
 | k + 1, x0, x3, x19, x20 => if x20 < x19 then (if 0 ≤ x20 then (if x20 < (x0.size : Int) then (if (bt x0 x20) < 48 then (some 0) else (if (bt x0 x20) > 57 then (some 0) else (command_number.l0 k x0 (wrap64 ((wrap64 (x3 * 10)) + (((bt x0 x20) - 48) % 256))) x19 (wrap64 (x20 + 1))))) else (none)) else (none)) else (some x3)
end
def command_number.f (k : Nat) (a0 : ByteArray) : Option (Int) := if (a0.size : Int) < 1 then (command_number.j0 k a0 true) else (if (a0.size : Int) > 6 then (command_number.j0 k a0 true) else (if 0 < (a0.size : Int) then (command_number.j0 k a0 ((bt a0 0) == 48)) else (none)))
theorem command_number.calls (k : Nat) (a0 : ByteArray) (r : Int) (w : World) (h : command_number.f k a0 = some r) :
  Calls Tryd.prog 37 #[.string a0] w fun e w' => e = .returned (.int .i64 r) ∧ Drawn0 w w' := by
 have H : (if (a0.size : Int) < 1 then (command_number.j0 k a0 true) else (if (a0.size : Int) > 6 then (command_number.j0 k a0 true) else (if 0 < (a0.size : Int) then (command_number.j0 k a0 ((bt a0 0) == 48)) else (none)))) = some r := h
 clear h; have HC2 := A_ H; clear H
 go_enter Tryd.func37, Tryd.ntmps37
 go_upto_region 1 with (fail)
 go_cut [17] (fun v17 wc => ∃ (kq : Nat) (x17_1 : Bool), v17 = .bool x17_1 ∧ Aside0 (command_number.j0 kq a0 x17_1 = some r) ∧ Aside0 (kq ≤ k) ∧ Drawn0 w wc)
 case first =>
  have H := HC2.out; clear HC2
  by_cases c3 : (a0.size : Int) < 1
  ·rw [if_pos c3] at H; have c3b0 := decide_eq_true c3; have c3b1 : decide (a0.size < 1) = true := decide_eq_true (by omega); clear c3; (first | rw [c3b0] | (simp only [i64_w, i32_w]; rw [c3b0]) | skip)
   have H' := A_ H
   clear H
   go_wp2
   go_meet
   case rel => exact ⟨_, (true), sq_, H', le_, dr_⟩
  ·rw [if_neg c3] at H; have c3b0 := decide_eq_false c3; have c3b1 : decide (a0.size < 1) = false := decide_eq_false (by omega); clear c3; (first | rw [c3b0] | (simp only [i64_w, i32_w]; rw [c3b0]) | skip)
   by_cases c4 : (a0.size : Int) > 6
   ·rw [if_pos c4] at H; have c4b0 := decide_eq_true c4; have c4b1 : decide (6 < a0.size) = true := decide_eq_true (by omega); clear c4
    have H' := A_ H
    clear H
    go_wp2
    go_meet
    case rel => exact ⟨_, (true), sq_, H', le_, dr_⟩
   ·rw [if_neg c4] at H; have c4b0 := decide_eq_false c4; have c4b1 : decide (6 < a0.size) = false := decide_eq_false (by omega); clear c4
    by_cases c5 : 0 < (a0.size : Int)
    ·rw [if_pos c5] at H; have c5b0 := decide_eq_true c5; have c5b1 : decide (0 < a0.size) = true := decide_eq_true (by omega); clear c5
     have H' := A_ H
     clear H
     have p6 : 0 ≤ (0 : Int) := (by omega)
     have q6 : 0 < a0.size := (by have : (0 : Int) < (a0.size : Int) := of_decide_eq_true as_; omega)
     have hx6 : ∀ h : 0 < a0.size, ((a0[0]'h).toNat : Int) = bt a0 0 := bt_at a0 0
     clear p6; have qi6 : (0 < (a0.size : Int)) = True := eq_true (of_decide_eq_true as_); replace q6 := eq_true q6
     go_wp2
     go_meet
     case rel => exact ⟨_, (((bt a0 0) == 48)), sq_, H', le_, dr_⟩
    ·rw [if_neg c5] at H
     exact absurd H (by simp)
 case rest =>
  clear HC2; obtain ⟨kq, x17_1, rfl, HA, HJ1, ⟨mc1, rfl⟩⟩ := hcut
  cases kq with
  | zero => exact absurd HA.out (by simp [command_number.j0])
  | succ kj1 =>
   have H := HA.out; clear HA
   simp only [command_number.j0] at H
   by_cases c7 : x17_1 = true
   ·subst c7
    replace H := it_ H; obtain rfl := Option.some.inj H
    go_wp2
    go_ret
    exact ⟨by first | rfl | (simp; done) | (simp [*]; done), dr_⟩
   ·replace c7 := Bool.eq_false_iff.mpr c7; subst c7
    replace H := ie_ H
    have H' := A_ H
    clear H
    go_wp2
    go_loopg [3, 20] kj1 (fun kq v3 v20 w' => ∃ (x3_2 : Int) (x20_2 : Int), v3 = .int .i64 x3_2 ∧ v20 = .int .i64 x20_2 ∧ Aside0 (command_number.l0 kq a0 x3_2 (a0.size : Int) x20_2 = some r) ∧ Aside0 (kq ≤ kj1) ∧ Drawn0 w w')
    case atStart => exact ⟨(0), (0), sq_, sq_, H', ⟨Nat.le_refl _⟩, dr_⟩
    case round =>
     clear H'; (try clear c7); obtain ⟨x3_2, x20_2, rfl, rfl, HA, HK2, ⟨m2, rfl⟩⟩ := hrel
     cases gk with
     | zero => exact absurd HA.out (by simp [command_number.l0])
     | succ k2 =>
      have H := HA.out; clear HA
      simp only [command_number.l0] at H
      by_cases c8 : x20_2 < (a0.size : Int)
      ·rw [if_pos c8] at H; have c8b0 := decide_eq_true c8; clear c8
       by_cases c9 : 0 ≤ x20_2
       ·rw [if_pos c9] at H; have c9b0 := decide_eq_true c9; clear c9
        by_cases c10 : x20_2 < (a0.size : Int)
        ·rw [if_pos c10] at H; have c10b0 := decide_eq_true c10; clear c10
         by_cases c12 : (bt a0 x20_2) < 48
         ·rw [if_pos c12] at H; have c12b0 := decide_eq_true c12; clear c12; obtain rfl := Option.some.inj H
          have p11 : 0 ≤ (x20_2 : Int) := of_decide_eq_true as_
          have q11 : x20_2 < (a0.size : Int) := of_decide_eq_true as_
          have hx11 := bt_at a0 x20_2; replace p11 := eq_true p11; replace q11 := eq_true q11
          go_wp2
          go_ret
          exact ⟨by first | rfl | (simp; done) | (simp [*]; done), dr_⟩
         ·rw [if_neg c12] at H; have c12b0 := decide_eq_false c12; clear c12
          by_cases c14 : (bt a0 x20_2) > 57
          ·rw [if_pos c14] at H; have c14b0 := decide_eq_true c14; clear c14; obtain rfl := Option.some.inj H
           have p11 : 0 ≤ (x20_2 : Int) := of_decide_eq_true as_
           have q11 : x20_2 < (a0.size : Int) := of_decide_eq_true as_
           have hx11 := bt_at a0 x20_2; replace p11 := eq_true p11; replace q11 := eq_true q11
           have p13 : 0 ≤ (x20_2 : Int) := of_decide_eq_true as_
           have q13 : x20_2 < (a0.size : Int) := of_decide_eq_true as_
           have hx13 := bt_at a0 x20_2; replace p13 := eq_true p13; replace q13 := eq_true q13
           go_wp2
           go_ret
           exact ⟨by first | rfl | (simp; done) | (simp [*]; done), dr_⟩
          ·rw [if_neg c14] at H; have c14b0 := decide_eq_false c14; clear c14
           have H' := A_ H
           clear H
           have p11 : 0 ≤ (x20_2 : Int) := of_decide_eq_true as_
           have q11 : x20_2 < (a0.size : Int) := of_decide_eq_true as_
           have hx11 := bt_at a0 x20_2; replace p11 := eq_true p11; replace q11 := eq_true q11
           have p13 : 0 ≤ (x20_2 : Int) := of_decide_eq_true as_
           have q13 : x20_2 < (a0.size : Int) := of_decide_eq_true as_
           have hx13 := bt_at a0 x20_2; replace p13 := eq_true p13; replace q13 := eq_true q13
           have p15 : 0 ≤ (x20_2 : Int) := of_decide_eq_true as_
           have q15 : x20_2 < (a0.size : Int) := of_decide_eq_true as_
           have hx15 := bt_at a0 x20_2; replace p15 := eq_true p15; replace q15 := eq_true q15
           go_wp2
           go_roundg k2
           case measure => have := HJ1.out; have := HK2.out; omega
           case rel => exact ⟨(wrap64 ((wrap64 (x3_2 * 10)) + (((bt a0 x20_2) - 48) % 256))), (wrap64 (x20_2 + 1)), sq_, sq_, H', ⟨by have := HJ1.out; have := HK2.out; omega⟩, dr_⟩
        ·rw [if_neg c10] at H
         exact absurd H (by simp)
       ·rw [if_neg c9] at H
        exact absurd H (by simp)
      ·rw [if_neg c8] at H; have c8b0 := decide_eq_false c8; clear c8; obtain rfl := Option.some.inj H
       go_wp2
       go_ret
       exact ⟨by first | rfl | (simp; done) | (simp [*]; done), dr_⟩

def IsS31 (w0 W : World) (g : Nat) (f0 : ByteArray) (f1 : Int) (f2 : Int) (f3 : Int) (f4 : Int) (f5 : Int) (f6 : Int) (f7 : Int) (f8 : Int) (f9 : Int) (f10 : ByteArray) (f11 : Int) : Prop := W.heap[g]? = some (.cells #[.string f0, .int .i64 f1, .int .u64 f2, .int .i64 f3, .int .i64 f4, .int .i64 f5, .int .i64 f6, .int .i64 f7, .int .i64 f8, .int .i64 f9, .string f10, .int .i64 f11] 31 (0, 0)) ∧ w0.heap.size ≤ g
theorem IsS31.grown {w0 W : World} {g : Nat} {f0 : ByteArray} {f1 : Int} {f2 : Int} {f3 : Int} {f4 : Int} {f5 : Int} {f6 : Int} {f7 : Int} {f8 : Int} {f9 : Int} {f10 : ByteArray} {f11 : Int} {W1 : World} {row : Option Nat} (h : IsS31 w0 W g f0 f1 f2 f3 f4 f5 f6 f7 f8 f9 f10 f11) (hw : W.grownBy W1 row) (hne : some g ≠ row) : IsS31 w0 W1 g f0 f1 f2 f3 f4 f5 f6 f7 f8 f9 f10 f11 := by
 obtain ⟨hb, hg⟩ := h
 exact ⟨blk_grown hb hw hne, hg⟩
theorem IsS31.kept {w0 W : World} {g : Nat} {f0 : ByteArray} {f1 : Int} {f2 : Int} {f3 : Int} {f4 : Int} {f5 : Int} {f6 : Int} {f7 : Int} {f8 : Int} {f9 : Int} {f10 : ByteArray} {f11 : Int} {W1 : World} {S : Nat → Prop} (h : IsS31 w0 W g f0 f1 f2 f3 f4 f5 f6 f7 f8 f9 f10 f11) (hk : Kept W W1 S) (hne : ¬ S g) : IsS31 w0 W1 g f0 f1 f2 f3 f4 f5 f6 f7 f8 f9 f10 f11 := by
 obtain ⟨hb, hg⟩ := h
 exact ⟨blk_kept hb hk hne, hg⟩
theorem IsS31.below {w0 W : World} {g : Nat} {f0 : ByteArray} {f1 : Int} {f2 : Int} {f3 : Int} {f4 : Int} {f5 : Int} {f6 : Int} {f7 : Int} {f8 : Int} {f9 : Int} {f10 : ByteArray} {f11 : Int} {W1 : World} (h : IsS31 w0 W g f0 f1 f2 f3 f4 f5 f6 f7 f8 f9 f10 f11) (hw : Below W.heap.size W W1) : IsS31 w0 W1 g f0 f1 f2 f3 f4 f5 f6 f7 f8 f9 f10 f11 := h.grown (grown_of_below hw none) (by simp)
theorem IsS31.alloc {w0 W : World} {g : Nat} {f0 : ByteArray} {f1 : Int} {f2 : Int} {f3 : Int} {f4 : Int} {f5 : Int} {f6 : Int} {f7 : Int} {f8 : Int} {f9 : Int} {f10 : ByteArray} {f11 : Int} (h : IsS31 w0 W g f0 f1 f2 f3 f4 f5 f6 f7 f8 f9 f10 f11) (o : Obj) : IsS31 w0 (W.alloc o) g f0 f1 f2 f3 f4 f5 f6 f7 f8 f9 f10 f11 := h.below (below_alloc (Below.refl _ _) o)
theorem IsS31.drewN {w0 W : World} {g : Nat} {f0 : ByteArray} {f1 : Int} {f2 : Int} {f3 : Int} {f4 : Int} {f5 : Int} {f6 : Int} {f7 : Int} {f8 : Int} {f9 : Int} {f10 : ByteArray} {f11 : Int} (h : IsS31 w0 W g f0 f1 f2 f3 f4 f5 f6 f7 f8 f9 f10 f11) (m : Nat) : IsS31 w0 (W.drewN m) g f0 f1 f2 f3 f4 f5 f6 f7 f8 f9 f10 f11 := h
theorem IsS31.drew {w0 W : World} {g : Nat} {f0 : ByteArray} {f1 : Int} {f2 : Int} {f3 : Int} {f4 : Int} {f5 : Int} {f6 : Int} {f7 : Int} {f8 : Int} {f9 : Int} {f10 : ByteArray} {f11 : Int} (h : IsS31 w0 W g f0 f1 f2 f3 f4 f5 f6 f7 f8 f9 f10 f11) : IsS31 w0 W.drew g f0 f1 f2 f3 f4 f5 f6 f7 f8 f9 f10 f11 := h
theorem IsS31.at_ {w0 W : World} {g : Nat} {f0 : ByteArray} {f1 : Int} {f2 : Int} {f3 : Int} {f4 : Int} {f5 : Int} {f6 : Int} {f7 : Int} {f8 : Int} {f9 : Int} {f10 : ByteArray} {f11 : Int} {w' : World} {m : Nat} (hq : W.drewN m = w') (h : IsS31 w0 W g f0 f1 f2 f3 f4 f5 f6 f7 f8 f9 f10 f11) : IsS31 w0 w' g f0 f1 f2 f3 f4 f5 f6 f7 f8 f9 f10 f11 := by subst hq; exact IsS31.drewN h m
theorem IsS31.apart {w0 W : World} {g : Nat} {f0 : ByteArray} {f1 : Int} {f2 : Int} {f3 : Int} {f4 : Int} {f5 : Int} {f6 : Int} {f7 : Int} {f8 : Int} {f9 : Int} {f10 : ByteArray} {f11 : Int} {α : Type} {d : Kd α} {e : Nat} {base : Nat} {ok : Nat → Prop} {v : Value} {xs : List α} (h : IsS31 w0 W g f0 f1 f2 f3 f4 f5 f6 f7 f8 f9 f10 f11) (ho : d.R e W base ok v xs) (ht : ∀ q, q ∈ e :: d.E → q ≠ 31) : d.R e W base (fun k => ok k ∧ k ≠ g) v xs := by
 obtain ⟨hb, hg⟩ := h
 exact Kd.R_types ho hb ht
theorem IsS31.own_ne {w0 W : World} {g : Nat} {f0 : ByteArray} {f1 : Int} {f2 : Int} {f3 : Int} {f4 : Int} {f5 : Int} {f6 : Int} {f7 : Int} {f8 : Int} {f9 : Int} {f10 : ByteArray} {f11 : Int} {α : Type} {d : Kd α} {e : Nat} {base : Nat} {ok : Nat → Prop} {v : Value} {xs : List α} (h : IsS31 w0 W g f0 f1 f2 f3 f4 f5 f6 f7 f8 f9 f10 f11) (ho : d.R e W base ok v xs) (ht : e ≠ 31) : some g ≠ v.ownBlock := by
 obtain ⟨hb, hg⟩ := h
 exact Kd.R_ne ho hb ht
theorem IsS31.lt {w0 W : World} {g : Nat} {f0 : ByteArray} {f1 : Int} {f2 : Int} {f3 : Int} {f4 : Int} {f5 : Int} {f6 : Int} {f7 : Int} {f8 : Int} {f9 : Int} {f10 : ByteArray} {f11 : Int} (h : IsS31 w0 W g f0 f1 f2 f3 f4 f5 f6 f7 f8 f9 f10 f11) : g < W.heap.size := by
 obtain ⟨hb, hg⟩ := h
 exact blk_lt hb
theorem IsS31.ge {w0 W : World} {g : Nat} {f0 : ByteArray} {f1 : Int} {f2 : Int} {f3 : Int} {f4 : Int} {f5 : Int} {f6 : Int} {f7 : Int} {f8 : Int} {f9 : Int} {f10 : ByteArray} {f11 : Int} (h : IsS31 w0 W g f0 f1 f2 f3 f4 f5 f6 f7 f8 f9 f10 f11) : w0.heap.size ≤ g := by
 obtain ⟨hb, hg⟩ := h
 exact hg
theorem cellS31_0 {W : World} {g : Nat} {f0 : ByteArray} {f1 : Int} {f2 : Int} {f3 : Int} {f4 : Int} {f5 : Int} {f6 : Int} {f7 : Int} {f8 : Int} {f9 : Int} {f10 : ByteArray} {f11 : Int} (h : W.heap[g]? = some (.cells #[.string f0, .int .i64 f1, .int .u64 f2, .int .i64 f3, .int .i64 f4, .int .i64 f5, .int .i64 f6, .int .i64 f7, .int .i64 f8, .int .i64 f9, .string f10, .int .i64 f11] 31 (0, 0))) : W.cell? ⟨g, 0, none⟩ = some (.string f0) := (blk_cell h 0).trans rfl
theorem IsS31.set_0 {w0 W : World} {g : Nat} {f0 : ByteArray} {f1 : Int} {f2 : Int} {f3 : Int} {f4 : Int} {f5 : Int} {f6 : Int} {f7 : Int} {f8 : Int} {f9 : Int} {f10 : ByteArray} {f11 : Int} (h : IsS31 w0 W g f0 f1 f2 f3 f4 f5 f6 f7 f8 f9 f10 f11) (x : ByteArray) : IsS31 w0 (W.setCell ⟨g, 0, none⟩ (.string x)) g x f1 f2 f3 f4 f5 f6 f7 f8 f9 f10 f11 := by
 obtain ⟨hb, hg⟩ := h
 exact ⟨by simpa using blk_set hb 0 (.string x), hg⟩
theorem cellS31_1 {W : World} {g : Nat} {f0 : ByteArray} {f1 : Int} {f2 : Int} {f3 : Int} {f4 : Int} {f5 : Int} {f6 : Int} {f7 : Int} {f8 : Int} {f9 : Int} {f10 : ByteArray} {f11 : Int} (h : W.heap[g]? = some (.cells #[.string f0, .int .i64 f1, .int .u64 f2, .int .i64 f3, .int .i64 f4, .int .i64 f5, .int .i64 f6, .int .i64 f7, .int .i64 f8, .int .i64 f9, .string f10, .int .i64 f11] 31 (0, 0))) : W.cell? ⟨g, 1, none⟩ = some (.int .i64 f1) := (blk_cell h 1).trans rfl
theorem IsS31.set_1 {w0 W : World} {g : Nat} {f0 : ByteArray} {f1 : Int} {f2 : Int} {f3 : Int} {f4 : Int} {f5 : Int} {f6 : Int} {f7 : Int} {f8 : Int} {f9 : Int} {f10 : ByteArray} {f11 : Int} (h : IsS31 w0 W g f0 f1 f2 f3 f4 f5 f6 f7 f8 f9 f10 f11) (x : Int) : IsS31 w0 (W.setCell ⟨g, 1, none⟩ (.int .i64 x)) g f0 x f2 f3 f4 f5 f6 f7 f8 f9 f10 f11 := by
 obtain ⟨hb, hg⟩ := h
 exact ⟨by simpa using blk_set hb 1 (.int .i64 x), hg⟩
theorem cellS31_2 {W : World} {g : Nat} {f0 : ByteArray} {f1 : Int} {f2 : Int} {f3 : Int} {f4 : Int} {f5 : Int} {f6 : Int} {f7 : Int} {f8 : Int} {f9 : Int} {f10 : ByteArray} {f11 : Int} (h : W.heap[g]? = some (.cells #[.string f0, .int .i64 f1, .int .u64 f2, .int .i64 f3, .int .i64 f4, .int .i64 f5, .int .i64 f6, .int .i64 f7, .int .i64 f8, .int .i64 f9, .string f10, .int .i64 f11] 31 (0, 0))) : W.cell? ⟨g, 2, none⟩ = some (.int .u64 f2) := (blk_cell h 2).trans rfl
theorem IsS31.set_2 {w0 W : World} {g : Nat} {f0 : ByteArray} {f1 : Int} {f2 : Int} {f3 : Int} {f4 : Int} {f5 : Int} {f6 : Int} {f7 : Int} {f8 : Int} {f9 : Int} {f10 : ByteArray} {f11 : Int} (h : IsS31 w0 W g f0 f1 f2 f3 f4 f5 f6 f7 f8 f9 f10 f11) (x : Int) : IsS31 w0 (W.setCell ⟨g, 2, none⟩ (.int .u64 x)) g f0 f1 x f3 f4 f5 f6 f7 f8 f9 f10 f11 := by
 obtain ⟨hb, hg⟩ := h
 exact ⟨by simpa using blk_set hb 2 (.int .u64 x), hg⟩
theorem cellS31_3 {W : World} {g : Nat} {f0 : ByteArray} {f1 : Int} {f2 : Int} {f3 : Int} {f4 : Int} {f5 : Int} {f6 : Int} {f7 : Int} {f8 : Int} {f9 : Int} {f10 : ByteArray} {f11 : Int} (h : W.heap[g]? = some (.cells #[.string f0, .int .i64 f1, .int .u64 f2, .int .i64 f3, .int .i64 f4, .int .i64 f5, .int .i64 f6, .int .i64 f7, .int .i64 f8, .int .i64 f9, .string f10, .int .i64 f11] 31 (0, 0))) : W.cell? ⟨g, 3, none⟩ = some (.int .i64 f3) := (blk_cell h 3).trans rfl
theorem IsS31.set_3 {w0 W : World} {g : Nat} {f0 : ByteArray} {f1 : Int} {f2 : Int} {f3 : Int} {f4 : Int} {f5 : Int} {f6 : Int} {f7 : Int} {f8 : Int} {f9 : Int} {f10 : ByteArray} {f11 : Int} (h : IsS31 w0 W g f0 f1 f2 f3 f4 f5 f6 f7 f8 f9 f10 f11) (x : Int) : IsS31 w0 (W.setCell ⟨g, 3, none⟩ (.int .i64 x)) g f0 f1 f2 x f4 f5 f6 f7 f8 f9 f10 f11 := by
 obtain ⟨hb, hg⟩ := h
 exact ⟨by simpa using blk_set hb 3 (.int .i64 x), hg⟩
theorem cellS31_4 {W : World} {g : Nat} {f0 : ByteArray} {f1 : Int} {f2 : Int} {f3 : Int} {f4 : Int} {f5 : Int} {f6 : Int} {f7 : Int} {f8 : Int} {f9 : Int} {f10 : ByteArray} {f11 : Int} (h : W.heap[g]? = some (.cells #[.string f0, .int .i64 f1, .int .u64 f2, .int .i64 f3, .int .i64 f4, .int .i64 f5, .int .i64 f6, .int .i64 f7, .int .i64 f8, .int .i64 f9, .string f10, .int .i64 f11] 31 (0, 0))) : W.cell? ⟨g, 4, none⟩ = some (.int .i64 f4) := (blk_cell h 4).trans rfl
theorem IsS31.set_4 {w0 W : World} {g : Nat} {f0 : ByteArray} {f1 : Int} {f2 : Int} {f3 : Int} {f4 : Int} {f5 : Int} {f6 : Int} {f7 : Int} {f8 : Int} {f9 : Int} {f10 : ByteArray} {f11 : Int} (h : IsS31 w0 W g f0 f1 f2 f3 f4 f5 f6 f7 f8 f9 f10 f11) (x : Int) : IsS31 w0 (W.setCell ⟨g, 4, none⟩ (.int .i64 x)) g f0 f1 f2 f3 x f5 f6 f7 f8 f9 f10 f11 := by
 obtain ⟨hb, hg⟩ := h
 exact ⟨by simpa using blk_set hb 4 (.int .i64 x), hg⟩
theorem cellS31_5 {W : World} {g : Nat} {f0 : ByteArray} {f1 : Int} {f2 : Int} {f3 : Int} {f4 : Int} {f5 : Int} {f6 : Int} {f7 : Int} {f8 : Int} {f9 : Int} {f10 : ByteArray} {f11 : Int} (h : W.heap[g]? = some (.cells #[.string f0, .int .i64 f1, .int .u64 f2, .int .i64 f3, .int .i64 f4, .int .i64 f5, .int .i64 f6, .int .i64 f7, .int .i64 f8, .int .i64 f9, .string f10, .int .i64 f11] 31 (0, 0))) : W.cell? ⟨g, 5, none⟩ = some (.int .i64 f5) := (blk_cell h 5).trans rfl
theorem IsS31.set_5 {w0 W : World} {g : Nat} {f0 : ByteArray} {f1 : Int} {f2 : Int} {f3 : Int} {f4 : Int} {f5 : Int} {f6 : Int} {f7 : Int} {f8 : Int} {f9 : Int} {f10 : ByteArray} {f11 : Int} (h : IsS31 w0 W g f0 f1 f2 f3 f4 f5 f6 f7 f8 f9 f10 f11) (x : Int) : IsS31 w0 (W.setCell ⟨g, 5, none⟩ (.int .i64 x)) g f0 f1 f2 f3 f4 x f6 f7 f8 f9 f10 f11 := by
 obtain ⟨hb, hg⟩ := h
 exact ⟨by simpa using blk_set hb 5 (.int .i64 x), hg⟩
theorem cellS31_6 {W : World} {g : Nat} {f0 : ByteArray} {f1 : Int} {f2 : Int} {f3 : Int} {f4 : Int} {f5 : Int} {f6 : Int} {f7 : Int} {f8 : Int} {f9 : Int} {f10 : ByteArray} {f11 : Int} (h : W.heap[g]? = some (.cells #[.string f0, .int .i64 f1, .int .u64 f2, .int .i64 f3, .int .i64 f4, .int .i64 f5, .int .i64 f6, .int .i64 f7, .int .i64 f8, .int .i64 f9, .string f10, .int .i64 f11] 31 (0, 0))) : W.cell? ⟨g, 6, none⟩ = some (.int .i64 f6) := (blk_cell h 6).trans rfl
theorem IsS31.set_6 {w0 W : World} {g : Nat} {f0 : ByteArray} {f1 : Int} {f2 : Int} {f3 : Int} {f4 : Int} {f5 : Int} {f6 : Int} {f7 : Int} {f8 : Int} {f9 : Int} {f10 : ByteArray} {f11 : Int} (h : IsS31 w0 W g f0 f1 f2 f3 f4 f5 f6 f7 f8 f9 f10 f11) (x : Int) : IsS31 w0 (W.setCell ⟨g, 6, none⟩ (.int .i64 x)) g f0 f1 f2 f3 f4 f5 x f7 f8 f9 f10 f11 := by
 obtain ⟨hb, hg⟩ := h
 exact ⟨by simpa using blk_set hb 6 (.int .i64 x), hg⟩
theorem cellS31_7 {W : World} {g : Nat} {f0 : ByteArray} {f1 : Int} {f2 : Int} {f3 : Int} {f4 : Int} {f5 : Int} {f6 : Int} {f7 : Int} {f8 : Int} {f9 : Int} {f10 : ByteArray} {f11 : Int} (h : W.heap[g]? = some (.cells #[.string f0, .int .i64 f1, .int .u64 f2, .int .i64 f3, .int .i64 f4, .int .i64 f5, .int .i64 f6, .int .i64 f7, .int .i64 f8, .int .i64 f9, .string f10, .int .i64 f11] 31 (0, 0))) : W.cell? ⟨g, 7, none⟩ = some (.int .i64 f7) := (blk_cell h 7).trans rfl
theorem IsS31.set_7 {w0 W : World} {g : Nat} {f0 : ByteArray} {f1 : Int} {f2 : Int} {f3 : Int} {f4 : Int} {f5 : Int} {f6 : Int} {f7 : Int} {f8 : Int} {f9 : Int} {f10 : ByteArray} {f11 : Int} (h : IsS31 w0 W g f0 f1 f2 f3 f4 f5 f6 f7 f8 f9 f10 f11) (x : Int) : IsS31 w0 (W.setCell ⟨g, 7, none⟩ (.int .i64 x)) g f0 f1 f2 f3 f4 f5 f6 x f8 f9 f10 f11 := by
 obtain ⟨hb, hg⟩ := h
 exact ⟨by simpa using blk_set hb 7 (.int .i64 x), hg⟩
theorem cellS31_8 {W : World} {g : Nat} {f0 : ByteArray} {f1 : Int} {f2 : Int} {f3 : Int} {f4 : Int} {f5 : Int} {f6 : Int} {f7 : Int} {f8 : Int} {f9 : Int} {f10 : ByteArray} {f11 : Int} (h : W.heap[g]? = some (.cells #[.string f0, .int .i64 f1, .int .u64 f2, .int .i64 f3, .int .i64 f4, .int .i64 f5, .int .i64 f6, .int .i64 f7, .int .i64 f8, .int .i64 f9, .string f10, .int .i64 f11] 31 (0, 0))) : W.cell? ⟨g, 8, none⟩ = some (.int .i64 f8) := (blk_cell h 8).trans rfl
theorem IsS31.set_8 {w0 W : World} {g : Nat} {f0 : ByteArray} {f1 : Int} {f2 : Int} {f3 : Int} {f4 : Int} {f5 : Int} {f6 : Int} {f7 : Int} {f8 : Int} {f9 : Int} {f10 : ByteArray} {f11 : Int} (h : IsS31 w0 W g f0 f1 f2 f3 f4 f5 f6 f7 f8 f9 f10 f11) (x : Int) : IsS31 w0 (W.setCell ⟨g, 8, none⟩ (.int .i64 x)) g f0 f1 f2 f3 f4 f5 f6 f7 x f9 f10 f11 := by
 obtain ⟨hb, hg⟩ := h
 exact ⟨by simpa using blk_set hb 8 (.int .i64 x), hg⟩
theorem cellS31_9 {W : World} {g : Nat} {f0 : ByteArray} {f1 : Int} {f2 : Int} {f3 : Int} {f4 : Int} {f5 : Int} {f6 : Int} {f7 : Int} {f8 : Int} {f9 : Int} {f10 : ByteArray} {f11 : Int} (h : W.heap[g]? = some (.cells #[.string f0, .int .i64 f1, .int .u64 f2, .int .i64 f3, .int .i64 f4, .int .i64 f5, .int .i64 f6, .int .i64 f7, .int .i64 f8, .int .i64 f9, .string f10, .int .i64 f11] 31 (0, 0))) : W.cell? ⟨g, 9, none⟩ = some (.int .i64 f9) := (blk_cell h 9).trans rfl
theorem IsS31.set_9 {w0 W : World} {g : Nat} {f0 : ByteArray} {f1 : Int} {f2 : Int} {f3 : Int} {f4 : Int} {f5 : Int} {f6 : Int} {f7 : Int} {f8 : Int} {f9 : Int} {f10 : ByteArray} {f11 : Int} (h : IsS31 w0 W g f0 f1 f2 f3 f4 f5 f6 f7 f8 f9 f10 f11) (x : Int) : IsS31 w0 (W.setCell ⟨g, 9, none⟩ (.int .i64 x)) g f0 f1 f2 f3 f4 f5 f6 f7 f8 x f10 f11 := by
 obtain ⟨hb, hg⟩ := h
 exact ⟨by simpa using blk_set hb 9 (.int .i64 x), hg⟩
theorem cellS31_10 {W : World} {g : Nat} {f0 : ByteArray} {f1 : Int} {f2 : Int} {f3 : Int} {f4 : Int} {f5 : Int} {f6 : Int} {f7 : Int} {f8 : Int} {f9 : Int} {f10 : ByteArray} {f11 : Int} (h : W.heap[g]? = some (.cells #[.string f0, .int .i64 f1, .int .u64 f2, .int .i64 f3, .int .i64 f4, .int .i64 f5, .int .i64 f6, .int .i64 f7, .int .i64 f8, .int .i64 f9, .string f10, .int .i64 f11] 31 (0, 0))) : W.cell? ⟨g, 10, none⟩ = some (.string f10) := (blk_cell h 10).trans rfl
theorem IsS31.set_10 {w0 W : World} {g : Nat} {f0 : ByteArray} {f1 : Int} {f2 : Int} {f3 : Int} {f4 : Int} {f5 : Int} {f6 : Int} {f7 : Int} {f8 : Int} {f9 : Int} {f10 : ByteArray} {f11 : Int} (h : IsS31 w0 W g f0 f1 f2 f3 f4 f5 f6 f7 f8 f9 f10 f11) (x : ByteArray) : IsS31 w0 (W.setCell ⟨g, 10, none⟩ (.string x)) g f0 f1 f2 f3 f4 f5 f6 f7 f8 f9 x f11 := by
 obtain ⟨hb, hg⟩ := h
 exact ⟨by simpa using blk_set hb 10 (.string x), hg⟩
theorem cellS31_11 {W : World} {g : Nat} {f0 : ByteArray} {f1 : Int} {f2 : Int} {f3 : Int} {f4 : Int} {f5 : Int} {f6 : Int} {f7 : Int} {f8 : Int} {f9 : Int} {f10 : ByteArray} {f11 : Int} (h : W.heap[g]? = some (.cells #[.string f0, .int .i64 f1, .int .u64 f2, .int .i64 f3, .int .i64 f4, .int .i64 f5, .int .i64 f6, .int .i64 f7, .int .i64 f8, .int .i64 f9, .string f10, .int .i64 f11] 31 (0, 0))) : W.cell? ⟨g, 11, none⟩ = some (.int .i64 f11) := (blk_cell h 11).trans rfl
theorem IsS31.set_11 {w0 W : World} {g : Nat} {f0 : ByteArray} {f1 : Int} {f2 : Int} {f3 : Int} {f4 : Int} {f5 : Int} {f6 : Int} {f7 : Int} {f8 : Int} {f9 : Int} {f10 : ByteArray} {f11 : Int} (h : IsS31 w0 W g f0 f1 f2 f3 f4 f5 f6 f7 f8 f9 f10 f11) (x : Int) : IsS31 w0 (W.setCell ⟨g, 11, none⟩ (.int .i64 x)) g f0 f1 f2 f3 f4 f5 f6 f7 f8 f9 f10 x := by
 obtain ⟨hb, hg⟩ := h
 exact ⟨by simpa using blk_set hb 11 (.int .i64 x), hg⟩
theorem IsS31.new (w0 W : World) (f0 : ByteArray) (f1 : Int) (f2 : Int) (f3 : Int) (f4 : Int) (f5 : Int) (f6 : Int) (f7 : Int) (f8 : Int) (f9 : Int) (f10 : ByteArray) (f11 : Int) (hB : Below w0.heap.size w0 W) : IsS31 w0 (W.alloc (.cells #[.string f0, .int .i64 f1, .int .u64 f2, .int .i64 f3, .int .i64 f4, .int .i64 f5, .int .i64 f6, .int .i64 f7, .int .i64 f8, .int .i64 f9, .string f10, .int .i64 f11] 31)) W.heap.size f0 f1 f2 f3 f4 f5 f6 f7 f8 f9 f10 f11 := ⟨by simpa using heap_alloc_new W _, hB.size⟩

mutual
def command_args.j0 : Nat → ByteArray → Bool → Bool → Bool → Int → Bool → ByteArray → Int → Int → Int → Int → Int → Int → Int → Int → Int → ByteArray → Int → Option (Bool × ByteArray × Int × Int × Int × Int × Int × Int × Int × Int × Int × ByteArray × Int)
 | 0, _, _, _, _, _, _, _, _, _, _, _, _, _, _, _, _, _, _ => none
 | k + 1, x1, x2, x7, x8, x15, x16, x1000, x1001, x1002, x1003, x1004, x1005, x1006, x1007, x1008, x1009, x1010, x1011 => if x16 = true then (some (!x2, x1000, x1001, x1002, x1003, x1004, x1005, x1006, x1007, x1008, x1009, x1010, x1011)) else (if x15 = 2 then ((span_Parse.f k x1).bind fun bt101 => (if bt101.2.2.2.2 = true then (some (x8, x1000, x1001, x1002, x1003, x1004, x1005, bt101.1, bt101.2.1, bt101.2.2.1, bt101.2.2.2.1, x1010, x1011)) else (some (false, x1000, x1001, x1002, x1003, x1004, x1005, bt101.1, bt101.2.1, bt101.2.2.1, bt101.2.2.2.1, x1010, x1011)))) else (if x15 = 4 then (command_args.j1 k x1 x7 x8 x15 (x15 == 4) x1000 x1001 x1002 x1003 x1004 x1005 x1006 x1007 x1008 x1009 x1010 x1011) else (command_args.j1 k x1 x7 x8 x15 (x15 == 5) x1000 x1001 x1002 x1003 x1004 x1005 x1006 x1007 x1008 x1009 x1010 x1011)))
def command_args.j1 : Nat → ByteArray → Bool → Bool → Int → Bool → ByteArray → Int → Int → Int → Int → Int → Int → Int → Int → Int → ByteArray → Int → Option (Bool × ByteArray × Int × Int × Int × Int × Int × Int × Int × Int × Int × ByteArray × Int)
 | 0, _, _, _, _, _, _, _, _, _, _, _, _, _, _, _, _, _ => none
 | k + 1, x1, x7, x8, x15, x33, x1000, x1001, x1002, x1003, x1004, x1005, x1006, x1007, x1008, x1009, x1010, x1011 => if x33 = true then ((addr_Parse.f k x1).bind fun bt106 => (if bt106.2.2 = true then (some (x8, x1000, x1001, x1002, x1003, bt106.1, bt106.2.1, x1006, x1007, x1008, x1009, x1010, x1011)) else (some (false, x1000, x1001, x1002, x1003, bt106.1, bt106.2.1, x1006, x1007, x1008, x1009, x1010, x1011)))) else (if x15 = 8 then ((command_number.f k x1).bind fun t109 => (if t109 > 0 then (some (x8, x1000, x1001, x1002, x1003, x1004, x1005, x1006, x1007, x1008, x1009, x1010, t109)) else (some (false, x1000, x1001, x1002, x1003, x1004, x1005, x1006, x1007, x1008, x1009, x1010, t109)))) else (if x15 = 1 then (command_args.j2 k x1 x7 x8 (x15 == 1) x1000 x1001 x1002 x1003 x1004 x1005 x1006 x1007 x1008 x1009 x1010 x1011) else (command_args.j2 k x1 x7 x8 (x15 == 3) x1000 x1001 x1002 x1003 x1004 x1005 x1006 x1007 x1008 x1009 x1010 x1011)))
def command_args.j2 : Nat → ByteArray → Bool → Bool → Bool → ByteArray → Int → Int → Int → Int → Int → Int → Int → Int → Int → ByteArray → Int → Option (Bool × ByteArray × Int × Int × Int × Int × Int × Int × Int × Int × Int × ByteArray × Int)
 | 0, _, _, _, _, _, _, _, _, _, _, _, _, _, _, _, _ => none
 | k + 1, x1, x7, x8, x56, x1000, x1001, x1002, x1003, x1004, x1005, x1006, x1007, x1008, x1009, x1010, x1011 => if x56 = true then ((strings_Cut.f x1 (⟨#[32]⟩ : ByteArray)).bind fun bt110 => ((addr_Parse.f k bt110.1).bind fun bt113 => (if x1003 = 1 then (if bt113.2.2 = true then (some ((bt110.2.1.toList != ([] : List UInt8)), x1000, x1001, x1002, x1003, bt113.1, bt113.2.1, x1006, x1007, x1008, x1009, bt110.2.1, x1011)) else (some (false, x1000, x1001, x1002, x1003, bt113.1, bt113.2.1, x1006, x1007, x1008, x1009, bt110.2.1, x1011))) else ((span_Parse.f k bt110.2.1).bind fun bt116 => (if bt113.2.2 = true then (some (bt116.2.2.2.2, x1000, x1001, x1002, x1003, bt113.1, bt113.2.1, bt116.1, bt116.2.1, bt116.2.2.1, bt116.2.2.2.1, x1010, x1011)) else (some (false, x1000, x1001, x1002, x1003, bt113.1, bt113.2.1, bt116.1, bt116.2.1, bt116.2.2.1, bt116.2.2.2.1, x1010, x1011))))))) else (if x7 = true then (some (x8, x1000, x1001, x1002, x1003, x1004, x1005, x1006, x1007, x1008, x1009, x1010, x1011)) else (some (false, x1000, x1001, x1002, x1003, x1004, x1005, x1006, x1007, x1008, x1009, x1010, x1011)))
end
def command_args.f (k : Nat) (s0_0 : ByteArray) (s0_1 : Int) (s0_2 : Int) (s0_3 : Int) (s0_4 : Int) (s0_5 : Int) (s0_6 : Int) (s0_7 : Int) (s0_8 : Int) (s0_9 : Int) (s0_10 : ByteArray) (s0_11 : Int) (a1 : ByteArray) (a2 : Bool) : Option (Bool × ByteArray × Int × Int × Int × Int × Int × Int × Int × Int × Int × ByteArray × Int) := if s0_3 = 6 then (command_args.j0 k a1 a2 true true s0_3 (s0_3 == 6) s0_0 s0_1 s0_2 s0_3 s0_4 s0_5 s0_6 s0_7 s0_8 s0_9 s0_10 s0_11) else (if s0_3 = 7 then (command_args.j0 k a1 a2 true true s0_3 (s0_3 == 7) s0_0 s0_1 s0_2 s0_3 s0_4 s0_5 s0_6 s0_7 s0_8 s0_9 s0_10 s0_11) else (if s0_3 = 9 then (command_args.j0 k a1 a2 true true s0_3 (s0_3 == 9) s0_0 s0_1 s0_2 s0_3 s0_4 s0_5 s0_6 s0_7 s0_8 s0_9 s0_10 s0_11) else (command_args.j0 k a1 a2 true true s0_3 (s0_3 == 10) s0_0 s0_1 s0_2 s0_3 s0_4 s0_5 s0_6 s0_7 s0_8 s0_9 s0_10 s0_11)))
theorem command_args.calls (k : Nat) (g : Nat) (s0_0 : ByteArray) (s0_1 : Int) (s0_2 : Int) (s0_3 : Int) (s0_4 : Int) (s0_5 : Int) (s0_6 : Int) (s0_7 : Int) (s0_8 : Int) (s0_9 : Int) (s0_10 : ByteArray) (s0_11 : Int) (a1 : ByteArray) (a2 : Bool) (r1 : Bool) (r2 : ByteArray) (r3 : Int) (r4 : Int) (r5 : Int) (r6 : Int) (r7 : Int) (r8 : Int) (r9 : Int) (r10 : Int) (r11 : Int) (r12 : ByteArray) (r13 : Int) (w0 w : World) (hI : IsS31 w0 w g s0_0 s0_1 s0_2 s0_3 s0_4 s0_5 s0_6 s0_7 s0_8 s0_9 s0_10 s0_11) (hB : Below w0.heap.size w0 w) (h : command_args.f k s0_0 s0_1 s0_2 s0_3 s0_4 s0_5 s0_6 s0_7 s0_8 s0_9 s0_10 s0_11 a1 a2 = some (r1, r2, r3, r4, r5, r6, r7, r8, r9, r10, r11, r12, r13)) :
  Calls Tryd.prog 15 #[.pointer (some ⟨g, 0, none⟩), .string a1, .bool a2] w fun e w' => e = .returned (.bool r1) ∧ IsS31 w0 w' g r2 r3 r4 r5 r6 r7 r8 r9 r10 r11 r12 r13 ∧ Below w0.heap.size w0 w' ∧ KeepBut w w' g none := by
 have hu29 := Tryd.underlying29; have hu27 := Tryd.underlying27; have HI0 := A_ hI; have HK := A_ (KeepBut.refl w g none); have HL := A_ hB.size; clear hI; have HW0 := A_ hB.size; have HB := A_ hB; clear hB
 have H : (if s0_3 = 6 then (command_args.j0 k a1 a2 true true s0_3 (s0_3 == 6) s0_0 s0_1 s0_2 s0_3 s0_4 s0_5 s0_6 s0_7 s0_8 s0_9 s0_10 s0_11) else (if s0_3 = 7 then (command_args.j0 k a1 a2 true true s0_3 (s0_3 == 7) s0_0 s0_1 s0_2 s0_3 s0_4 s0_5 s0_6 s0_7 s0_8 s0_9 s0_10 s0_11) else (if s0_3 = 9 then (command_args.j0 k a1 a2 true true s0_3 (s0_3 == 9) s0_0 s0_1 s0_2 s0_3 s0_4 s0_5 s0_6 s0_7 s0_8 s0_9 s0_10 s0_11) else (command_args.j0 k a1 a2 true true s0_3 (s0_3 == 10) s0_0 s0_1 s0_2 s0_3 s0_4 s0_5 s0_6 s0_7 s0_8 s0_9 s0_10 s0_11)))) = some (r1, r2, r3, r4, r5, r6, r7, r8, r9, r10, r11, r12, r13) := h
 clear h; have HC4 := A_ H; clear H; obtain ⟨HGz5, hgz5⟩ := HI0.out; have hcz5_0 := cellS31_0 HGz5; have hcz5_1 := cellS31_1 HGz5; have hcz5_2 := cellS31_2 HGz5; have hcz5_3 := cellS31_3 HGz5; have hcz5_4 := cellS31_4 HGz5; have hcz5_5 := cellS31_5 HGz5; have hcz5_6 := cellS31_6 HGz5; have hcz5_7 := cellS31_7 HGz5; have hcz5_8 := cellS31_8 HGz5; have hcz5_9 := cellS31_9 HGz5; have hcz5_10 := cellS31_10 HGz5; have hcz5_11 := cellS31_11 HGz5; have hfz5_0 := blk_frozen HGz5 0; have hfz5_1 := blk_frozen HGz5 1; have hfz5_2 := blk_frozen HGz5 2; have hfz5_3 := blk_frozen HGz5 3; have hfz5_4 := blk_frozen HGz5 4; have hfz5_5 := blk_frozen HGz5 5; have hfz5_6 := blk_frozen HGz5 6; have hfz5_7 := blk_frozen HGz5 7; have hfz5_8 := blk_frozen HGz5 8; have hfz5_9 := blk_frozen HGz5 9; have hfz5_10 := blk_frozen HGz5 10; have hfz5_11 := blk_frozen HGz5 11; clear HGz5 hgz5
 go_enter Tryd.func15, Tryd.ntmps15
 go_upto_if 16 with (fail)
 go_cut [16] (fun v16 wc => ∃ (kq : Nat) (x16_3 : Bool), v16 = .bool x16_3 ∧ Aside0 (command_args.j0 kq a1 a2 true true s0_3 x16_3 s0_0 s0_1 s0_2 s0_3 s0_4 s0_5 s0_6 s0_7 s0_8 s0_9 s0_10 s0_11 = some (r1, r2, r3, r4, r5, r6, r7, r8, r9, r10, r11, r12, r13)) ∧ Aside0 (kq ≤ k) ∧ Aside0 (IsS31 w0 wc g s0_0 s0_1 s0_2 s0_3 s0_4 s0_5 s0_6 s0_7 s0_8 s0_9 s0_10 s0_11) ∧ Aside0 (KeepBut w wc g none) ∧ Aside0 (Below w0.heap.size w0 wc))
 case first =>
  have H := HC4.out; clear HC4
  by_cases c6 : s0_3 = 6
  ·rw [if_pos c6] at H; have ⟨c6b0,c6b1⟩ := e1_ c6; clear c6; (first | rw [c6b0] | (simp only [i64_w, i32_w]; rw [c6b0]) | skip)
   have H' := A_ H
   clear H
   go_wp2
   go_meet
   case rel => exact ⟨_, ((s0_3 == 6)), sq_, H', le_, ⟨by repeat (first | (with_reducible first | exact HI0.out | apply IsS31.alloc | apply IsS31.drewN | apply IsS31.drew | apply IsS31.set_0 | apply IsS31.set_1 | apply IsS31.set_2 | apply IsS31.set_3 | apply IsS31.set_4 | apply IsS31.set_5 | apply IsS31.set_6 | apply IsS31.set_7 | apply IsS31.set_8 | apply IsS31.set_9 | apply IsS31.set_10 | apply IsS31.set_11) | exact HI0.out)⟩, ⟨by repeat (first | (with_reducible first | exact HK.out | apply KeepBut.set_ | apply keep_drewN | apply keep_drew | apply keep_alloc) | exact HK.out)⟩, ⟨by repeat (first | (with_reducible first | exact HB.out | apply below_alloc | apply pw_below_drewN | apply below_drew1 | refine below_set ?_ (IsS31.ge HI0.out)) | exact HB.out)⟩⟩
  ·rw [if_neg c6] at H; have ⟨c6b0,c6b1⟩ := e0_ c6; (first | rw [c6b0] | (simp only [i64_w, i32_w]; rw [c6b0]) | skip)
   by_cases c7 : s0_3 = 7
   ·rw [if_pos c7] at H; have ⟨c7b0,c7b1⟩ := e1_ c7; clear c7
    have H' := A_ H
    clear H
    go_wp2
    go_meet
    case rel => exact ⟨_, ((s0_3 == 7)), sq_, H', le_, ⟨by repeat (first | (with_reducible first | exact HI0.out | apply IsS31.alloc | apply IsS31.drewN | apply IsS31.drew | apply IsS31.set_0 | apply IsS31.set_1 | apply IsS31.set_2 | apply IsS31.set_3 | apply IsS31.set_4 | apply IsS31.set_5 | apply IsS31.set_6 | apply IsS31.set_7 | apply IsS31.set_8 | apply IsS31.set_9 | apply IsS31.set_10 | apply IsS31.set_11) | exact HI0.out)⟩, ⟨by repeat (first | (with_reducible first | exact HK.out | apply KeepBut.set_ | apply keep_drewN | apply keep_drew | apply keep_alloc) | exact HK.out)⟩, ⟨by repeat (first | (with_reducible first | exact HB.out | apply below_alloc | apply pw_below_drewN | apply below_drew1 | refine below_set ?_ (IsS31.ge HI0.out)) | exact HB.out)⟩⟩
   ·rw [if_neg c7] at H; have ⟨c7b0,c7b1⟩ := e0_ c7
    by_cases c8 : s0_3 = 9
    ·rw [if_pos c8] at H; have ⟨c8b0,c8b1⟩ := e1_ c8; clear c8
     have H' := A_ H
     clear H
     go_wp2
     go_meet
     case rel => exact ⟨_, ((s0_3 == 9)), sq_, H', le_, ⟨by repeat (first | (with_reducible first | exact HI0.out | apply IsS31.alloc | apply IsS31.drewN | apply IsS31.drew | apply IsS31.set_0 | apply IsS31.set_1 | apply IsS31.set_2 | apply IsS31.set_3 | apply IsS31.set_4 | apply IsS31.set_5 | apply IsS31.set_6 | apply IsS31.set_7 | apply IsS31.set_8 | apply IsS31.set_9 | apply IsS31.set_10 | apply IsS31.set_11) | exact HI0.out)⟩, ⟨by repeat (first | (with_reducible first | exact HK.out | apply KeepBut.set_ | apply keep_drewN | apply keep_drew | apply keep_alloc) | exact HK.out)⟩, ⟨by repeat (first | (with_reducible first | exact HB.out | apply below_alloc | apply pw_below_drewN | apply below_drew1 | refine below_set ?_ (IsS31.ge HI0.out)) | exact HB.out)⟩⟩
    ·rw [if_neg c8] at H; have ⟨c8b0,c8b1⟩ := e0_ c8
     have H' := A_ H
     clear H
     go_wp2
     go_meet
     case rel => exact ⟨_, ((s0_3 == 10)), sq_, H', le_, ⟨by repeat (first | (with_reducible first | exact HI0.out | apply IsS31.alloc | apply IsS31.drewN | apply IsS31.drew | apply IsS31.set_0 | apply IsS31.set_1 | apply IsS31.set_2 | apply IsS31.set_3 | apply IsS31.set_4 | apply IsS31.set_5 | apply IsS31.set_6 | apply IsS31.set_7 | apply IsS31.set_8 | apply IsS31.set_9 | apply IsS31.set_10 | apply IsS31.set_11) | exact HI0.out)⟩, ⟨by repeat (first | (with_reducible first | exact HK.out | apply KeepBut.set_ | apply keep_drewN | apply keep_drew | apply keep_alloc) | exact HK.out)⟩, ⟨by repeat (first | (with_reducible first | exact HB.out | apply below_alloc | apply pw_below_drewN | apply below_drew1 | refine below_set ?_ (IsS31.ge HI0.out)) | exact HB.out)⟩⟩
 case rest =>
  clear HC4; (try clear hcz5_0); (try clear hcz5_1); (try clear hcz5_10); (try clear hcz5_11); (try clear hcz5_2); (try clear hcz5_3); (try clear hcz5_4); (try clear hcz5_5); (try clear hcz5_6); (try clear hcz5_7); (try clear hcz5_8); (try clear hcz5_9); (try clear hfz5_0); (try clear hfz5_1); (try clear hfz5_10); (try clear hfz5_11); (try clear hfz5_2); (try clear hfz5_3); (try clear hfz5_4); (try clear hfz5_5); (try clear hfz5_6); (try clear hfz5_7); (try clear hfz5_8); (try clear hfz5_9); obtain ⟨kq, x16_3, rfl, HA, HJ3, HI0, HK, HB⟩ := hcut
  cases kq with
  | zero => exact absurd HA.out (by simp [command_args.j0])
  | succ kj3 =>
   have H := HA.out; clear HA
   simp only [command_args.j0] at H
   by_cases c9 : x16_3 = true
   ·subst c9
    replace H := it_ H
    simp only [Option.some.injEq, Prod.mk.injEq] at H
    obtain ⟨rfl, rfl, rfl, rfl, rfl, rfl, rfl, rfl, rfl, rfl, rfl, rfl, rfl⟩ := H
    go_wp2
    go_ret
    exact ⟨by first | rfl | (simp [errW_none, errW_some] <;> rfl) | (simp [*, errW_none, errW_some] <;> rfl) | (simp [*, errW_none, errW_some]; generalize ByteArray.toList _ = l9_; cases l9_ <;> rfl), by repeat (first | (with_reducible first | exact HI0.out | apply IsS31.alloc | apply IsS31.drewN | apply IsS31.drew | apply IsS31.set_0 | apply IsS31.set_1 | apply IsS31.set_2 | apply IsS31.set_3 | apply IsS31.set_4 | apply IsS31.set_5 | apply IsS31.set_6 | apply IsS31.set_7 | apply IsS31.set_8 | apply IsS31.set_9 | apply IsS31.set_10 | apply IsS31.set_11) | exact HI0.out), by repeat (first | (with_reducible first | exact HB.out | apply below_alloc | apply pw_below_drewN | apply below_drew1 | refine below_set ?_ (IsS31.ge HI0.out)) | exact HB.out), by repeat (first | (with_reducible first | exact HK.out | apply KeepBut.set_ | apply keep_drewN | apply keep_drew | apply keep_alloc) | exact HK.out)⟩
   ·replace c9 := Bool.eq_false_iff.mpr c9; subst c9
    replace H := ie_ H
    by_cases c10 : s0_3 = 2
    ·rw [if_pos c10] at H; have ⟨c10b0,c10b1⟩ := e1_ c10; clear c10; obtain ⟨⟨t101, t102, t103, t104, t105⟩, A11, H⟩ := bo_ H; dsimp only at H
     by_cases c12 : t105 = true
     ·subst c12
      replace H := it_ H
      simp only [Option.some.injEq, Prod.mk.injEq] at H
      obtain ⟨rfl, rfl, rfl, rfl, rfl, rfl, rfl, rfl, rfl, rfl, rfl, rfl, rfl⟩ := H
      go_wp2_with (first | ((with_reducible refine gate_callee (f:=35) rfl ?_); refine gL_ (some 28) rfl rfl Tryd.func35 rfl #[.string a1] rfl ?_; (with_reducible refine (span_Parse.calls kj3 a1 t101 t102 t103 t104 true _ A11.out).mono ?_); rintro e w13 ⟨rfl, hb⟩; refine ⟨_, rfl, ?_⟩; have n0_ := A_ (IsS31.below (by repeat (first | (with_reducible first | exact HI0.out | apply IsS31.alloc | apply IsS31.drewN | apply IsS31.drew | apply IsS31.set_0 | apply IsS31.set_1 | apply IsS31.set_2 | apply IsS31.set_3 | apply IsS31.set_4 | apply IsS31.set_5 | apply IsS31.set_6 | apply IsS31.set_7 | apply IsS31.set_8 | apply IsS31.set_9 | apply IsS31.set_10 | apply IsS31.set_11) | exact HI0.out)) hb); have n1_ := A_ (KeepBut.trans (by repeat (first | (with_reducible first | exact HK.out | apply KeepBut.set_ | apply keep_drewN | apply keep_drew | apply keep_alloc) | exact HK.out)) (KeepBut.of_below hb g none) (.inl rfl)); have n2_ := A_ (below_step (by repeat (first | (with_reducible first | exact HB.out | apply below_alloc | apply pw_below_drewN | apply below_drew1 | refine below_set ?_ (IsS31.ge HI0.out)) | exact HB.out)) hb); clear HI0; clear HK; clear HB; have HI0 := n0_; have HK := n1_; have HB := n2_; clear n0_ n1_ n2_; obtain ⟨HGz14, hgz14⟩ := HI0.out; have hcz14_0 := cellS31_0 HGz14; have hcz14_1 := cellS31_1 HGz14; have hcz14_2 := cellS31_2 HGz14; have hcz14_3 := cellS31_3 HGz14; have hcz14_4 := cellS31_4 HGz14; have hcz14_5 := cellS31_5 HGz14; have hcz14_6 := cellS31_6 HGz14; have hcz14_7 := cellS31_7 HGz14; have hcz14_8 := cellS31_8 HGz14; have hcz14_9 := cellS31_9 HGz14; have hcz14_10 := cellS31_10 HGz14; have hcz14_11 := cellS31_11 HGz14; have hfz14_0 := blk_frozen HGz14 0; have hfz14_1 := blk_frozen HGz14 1; have hfz14_2 := blk_frozen HGz14 2; have hfz14_3 := blk_frozen HGz14 3; have hfz14_4 := blk_frozen HGz14 4; have hfz14_5 := blk_frozen HGz14 5; have hfz14_6 := blk_frozen HGz14 6; have hfz14_7 := blk_frozen HGz14 7; have hfz14_8 := blk_frozen HGz14 8; have hfz14_9 := blk_frozen HGz14 9; have hfz14_10 := blk_frozen HGz14 10; have hfz14_11 := blk_frozen HGz14 11; clear HGz14 hgz14))
      go_ret
      exact ⟨by first | rfl | (simp [errW_none, errW_some] <;> rfl) | (simp [*, errW_none, errW_some] <;> rfl) | (simp [*, errW_none, errW_some]; generalize ByteArray.toList _ = l9_; cases l9_ <;> rfl), by repeat (first | (with_reducible first | exact HI0.out | apply IsS31.alloc | apply IsS31.drewN | apply IsS31.drew | apply IsS31.set_0 | apply IsS31.set_1 | apply IsS31.set_2 | apply IsS31.set_3 | apply IsS31.set_4 | apply IsS31.set_5 | apply IsS31.set_6 | apply IsS31.set_7 | apply IsS31.set_8 | apply IsS31.set_9 | apply IsS31.set_10 | apply IsS31.set_11) | exact HI0.out), by repeat (first | (with_reducible first | exact HB.out | apply below_alloc | apply pw_below_drewN | apply below_drew1 | refine below_set ?_ (IsS31.ge HI0.out)) | exact HB.out), by repeat (first | (with_reducible first | exact HK.out | apply KeepBut.set_ | apply keep_drewN | apply keep_drew | apply keep_alloc) | exact HK.out)⟩
     ·replace c12 := Bool.eq_false_iff.mpr c12; subst c12
      replace H := ie_ H
      simp only [Option.some.injEq, Prod.mk.injEq] at H
      obtain ⟨rfl, rfl, rfl, rfl, rfl, rfl, rfl, rfl, rfl, rfl, rfl, rfl, rfl⟩ := H
      go_wp2_with (first | ((with_reducible refine gate_callee (f:=35) rfl ?_); refine gL_ (some 28) rfl rfl Tryd.func35 rfl #[.string a1] rfl ?_; (with_reducible refine (span_Parse.calls kj3 a1 t101 t102 t103 t104 false _ A11.out).mono ?_); rintro e w15 ⟨rfl, hb⟩; refine ⟨_, rfl, ?_⟩; have n0_ := A_ (IsS31.below (by repeat (first | (with_reducible first | exact HI0.out | apply IsS31.alloc | apply IsS31.drewN | apply IsS31.drew | apply IsS31.set_0 | apply IsS31.set_1 | apply IsS31.set_2 | apply IsS31.set_3 | apply IsS31.set_4 | apply IsS31.set_5 | apply IsS31.set_6 | apply IsS31.set_7 | apply IsS31.set_8 | apply IsS31.set_9 | apply IsS31.set_10 | apply IsS31.set_11) | exact HI0.out)) hb); have n1_ := A_ (KeepBut.trans (by repeat (first | (with_reducible first | exact HK.out | apply KeepBut.set_ | apply keep_drewN | apply keep_drew | apply keep_alloc) | exact HK.out)) (KeepBut.of_below hb g none) (.inl rfl)); have n2_ := A_ (below_step (by repeat (first | (with_reducible first | exact HB.out | apply below_alloc | apply pw_below_drewN | apply below_drew1 | refine below_set ?_ (IsS31.ge HI0.out)) | exact HB.out)) hb); clear HI0; clear HK; clear HB; have HI0 := n0_; have HK := n1_; have HB := n2_; clear n0_ n1_ n2_; obtain ⟨HGz16, hgz16⟩ := HI0.out; have hcz16_0 := cellS31_0 HGz16; have hcz16_1 := cellS31_1 HGz16; have hcz16_2 := cellS31_2 HGz16; have hcz16_3 := cellS31_3 HGz16; have hcz16_4 := cellS31_4 HGz16; have hcz16_5 := cellS31_5 HGz16; have hcz16_6 := cellS31_6 HGz16; have hcz16_7 := cellS31_7 HGz16; have hcz16_8 := cellS31_8 HGz16; have hcz16_9 := cellS31_9 HGz16; have hcz16_10 := cellS31_10 HGz16; have hcz16_11 := cellS31_11 HGz16; have hfz16_0 := blk_frozen HGz16 0; have hfz16_1 := blk_frozen HGz16 1; have hfz16_2 := blk_frozen HGz16 2; have hfz16_3 := blk_frozen HGz16 3; have hfz16_4 := blk_frozen HGz16 4; have hfz16_5 := blk_frozen HGz16 5; have hfz16_6 := blk_frozen HGz16 6; have hfz16_7 := blk_frozen HGz16 7; have hfz16_8 := blk_frozen HGz16 8; have hfz16_9 := blk_frozen HGz16 9; have hfz16_10 := blk_frozen HGz16 10; have hfz16_11 := blk_frozen HGz16 11; clear HGz16 hgz16))
      go_ret
      exact ⟨by first | rfl | (simp [errW_none, errW_some] <;> rfl) | (simp [*, errW_none, errW_some] <;> rfl) | (simp [*, errW_none, errW_some]; generalize ByteArray.toList _ = l9_; cases l9_ <;> rfl), by repeat (first | (with_reducible first | exact HI0.out | apply IsS31.alloc | apply IsS31.drewN | apply IsS31.drew | apply IsS31.set_0 | apply IsS31.set_1 | apply IsS31.set_2 | apply IsS31.set_3 | apply IsS31.set_4 | apply IsS31.set_5 | apply IsS31.set_6 | apply IsS31.set_7 | apply IsS31.set_8 | apply IsS31.set_9 | apply IsS31.set_10 | apply IsS31.set_11) | exact HI0.out), by repeat (first | (with_reducible first | exact HB.out | apply below_alloc | apply pw_below_drewN | apply below_drew1 | refine below_set ?_ (IsS31.ge HI0.out)) | exact HB.out), by repeat (first | (with_reducible first | exact HK.out | apply KeepBut.set_ | apply keep_drewN | apply keep_drew | apply keep_alloc) | exact HK.out)⟩
    ·rw [if_neg c10] at H; have ⟨c10b0,c10b1⟩ := e0_ c10; have HC17 := A_ H; clear H
     go_upto_if 33 with (fail)
     go_cut [33] (fun v33 wc => ∃ (kq : Nat) (x33_16 : Bool), v33 = .bool x33_16 ∧ Aside0 (command_args.j1 kq a1 true true s0_3 x33_16 s0_0 s0_1 s0_2 s0_3 s0_4 s0_5 s0_6 s0_7 s0_8 s0_9 s0_10 s0_11 = some (r1, r2, r3, r4, r5, r6, r7, r8, r9, r10, r11, r12, r13)) ∧ Aside0 (kq ≤ kj3) ∧ Aside0 (IsS31 w0 wc g s0_0 s0_1 s0_2 s0_3 s0_4 s0_5 s0_6 s0_7 s0_8 s0_9 s0_10 s0_11) ∧ Aside0 (KeepBut w wc g none) ∧ Aside0 (Below w0.heap.size w0 wc))
     case first =>
      have H := HC17.out; clear HC17
      by_cases c18 : s0_3 = 4
      ·rw [if_pos c18] at H; have ⟨c18b0,c18b1⟩ := e1_ c18; clear c18; (first | rw [c18b0] | (simp only [i64_w, i32_w]; rw [c18b0]) | skip)
       have H' := A_ H
       clear H
       go_wp2
       go_meet
       case rel => exact ⟨_, ((s0_3 == 4)), sq_, H', ⟨by have := HJ3.out; first | omega | exact Nat.le_refl _⟩, ⟨by repeat (first | (with_reducible first | exact HI0.out | apply IsS31.alloc | apply IsS31.drewN | apply IsS31.drew | apply IsS31.set_0 | apply IsS31.set_1 | apply IsS31.set_2 | apply IsS31.set_3 | apply IsS31.set_4 | apply IsS31.set_5 | apply IsS31.set_6 | apply IsS31.set_7 | apply IsS31.set_8 | apply IsS31.set_9 | apply IsS31.set_10 | apply IsS31.set_11) | exact HI0.out)⟩, ⟨by repeat (first | (with_reducible first | exact HK.out | apply KeepBut.set_ | apply keep_drewN | apply keep_drew | apply keep_alloc) | exact HK.out)⟩, ⟨by repeat (first | (with_reducible first | exact HB.out | apply below_alloc | apply pw_below_drewN | apply below_drew1 | refine below_set ?_ (IsS31.ge HI0.out)) | exact HB.out)⟩⟩
      ·rw [if_neg c18] at H; have ⟨c18b0,c18b1⟩ := e0_ c18; (first | rw [c18b0] | (simp only [i64_w, i32_w]; rw [c18b0]) | skip)
       have H' := A_ H
       clear H
       go_wp2
       go_meet
       case rel => exact ⟨_, ((s0_3 == 5)), sq_, H', ⟨by have := HJ3.out; first | omega | exact Nat.le_refl _⟩, ⟨by repeat (first | (with_reducible first | exact HI0.out | apply IsS31.alloc | apply IsS31.drewN | apply IsS31.drew | apply IsS31.set_0 | apply IsS31.set_1 | apply IsS31.set_2 | apply IsS31.set_3 | apply IsS31.set_4 | apply IsS31.set_5 | apply IsS31.set_6 | apply IsS31.set_7 | apply IsS31.set_8 | apply IsS31.set_9 | apply IsS31.set_10 | apply IsS31.set_11) | exact HI0.out)⟩, ⟨by repeat (first | (with_reducible first | exact HK.out | apply KeepBut.set_ | apply keep_drewN | apply keep_drew | apply keep_alloc) | exact HK.out)⟩, ⟨by repeat (first | (with_reducible first | exact HB.out | apply below_alloc | apply pw_below_drewN | apply below_drew1 | refine below_set ?_ (IsS31.ge HI0.out)) | exact HB.out)⟩⟩
     case rest =>
      clear HC17; (try clear c9); (try clear c10); (try clear c10b0); (try clear c10b1); (try clear hcz5_0); (try clear hcz5_1); (try clear hcz5_10); (try clear hcz5_11); (try clear hcz5_2); (try clear hcz5_3); (try clear hcz5_4); (try clear hcz5_5); (try clear hcz5_6); (try clear hcz5_7); (try clear hcz5_8); (try clear hcz5_9); (try clear hfz5_0); (try clear hfz5_1); (try clear hfz5_10); (try clear hfz5_11); (try clear hfz5_2); (try clear hfz5_3); (try clear hfz5_4); (try clear hfz5_5); (try clear hfz5_6)
      (try clear hfz5_7); (try clear hfz5_8); (try clear hfz5_9); obtain ⟨kq, x33_16, rfl, HA, HJ16, HI0, HK, HB⟩ := hcut
      cases kq with
      | zero => exact absurd HA.out (by simp [command_args.j1])
      | succ kj16 =>
       have H := HA.out; clear HA
       simp only [command_args.j1] at H
       by_cases c19 : x33_16 = true
       ·subst c19
        obtain ⟨⟨t106, t107, t108⟩, A20, H⟩ := bo_ (it_ H); dsimp only at H
        by_cases c21 : t108 = true
        ·subst c21
         replace H := it_ H
         simp only [Option.some.injEq, Prod.mk.injEq] at H
         obtain ⟨rfl, rfl, rfl, rfl, rfl, rfl, rfl, rfl, rfl, rfl, rfl, rfl, rfl⟩ := H
         go_wp2_with (first | ((with_reducible refine gate_callee (f:=36) rfl ?_); refine gL_ (some 39) rfl rfl Tryd.func36 rfl #[.string a1] rfl ?_; (with_reducible refine (addr_Parse.calls kj16 a1 t106 t107 true _ A20.out).mono ?_); rintro e w22 ⟨rfl, hb⟩; refine ⟨_, rfl, ?_⟩; have n0_ := A_ (IsS31.below (by repeat (first | (with_reducible first | exact HI0.out | apply IsS31.alloc | apply IsS31.drewN | apply IsS31.drew | apply IsS31.set_0 | apply IsS31.set_1 | apply IsS31.set_2 | apply IsS31.set_3 | apply IsS31.set_4 | apply IsS31.set_5 | apply IsS31.set_6 | apply IsS31.set_7 | apply IsS31.set_8 | apply IsS31.set_9 | apply IsS31.set_10 | apply IsS31.set_11) | exact HI0.out)) hb); have n1_ := A_ (KeepBut.trans (by repeat (first | (with_reducible first | exact HK.out | apply KeepBut.set_ | apply keep_drewN | apply keep_drew | apply keep_alloc) | exact HK.out)) (KeepBut.of_below hb g none) (.inl rfl)); have n2_ := A_ (below_step (by repeat (first | (with_reducible first | exact HB.out | apply below_alloc | apply pw_below_drewN | apply below_drew1 | refine below_set ?_ (IsS31.ge HI0.out)) | exact HB.out)) hb); clear HI0; clear HK; clear HB; have HI0 := n0_; have HK := n1_; have HB := n2_; clear n0_ n1_ n2_; obtain ⟨HGz23, hgz23⟩ := HI0.out; have hcz23_0 := cellS31_0 HGz23; have hcz23_1 := cellS31_1 HGz23; have hcz23_2 := cellS31_2 HGz23; have hcz23_3 := cellS31_3 HGz23; have hcz23_4 := cellS31_4 HGz23; have hcz23_5 := cellS31_5 HGz23; have hcz23_6 := cellS31_6 HGz23; have hcz23_7 := cellS31_7 HGz23; have hcz23_8 := cellS31_8 HGz23; have hcz23_9 := cellS31_9 HGz23; have hcz23_10 := cellS31_10 HGz23; have hcz23_11 := cellS31_11 HGz23; have hfz23_0 := blk_frozen HGz23 0; have hfz23_1 := blk_frozen HGz23 1; have hfz23_2 := blk_frozen HGz23 2; have hfz23_3 := blk_frozen HGz23 3; have hfz23_4 := blk_frozen HGz23 4; have hfz23_5 := blk_frozen HGz23 5; have hfz23_6 := blk_frozen HGz23 6; have hfz23_7 := blk_frozen HGz23 7; have hfz23_8 := blk_frozen HGz23 8; have hfz23_9 := blk_frozen HGz23 9; have hfz23_10 := blk_frozen HGz23 10; have hfz23_11 := blk_frozen HGz23 11; clear HGz23 hgz23))
         go_ret
         exact ⟨by first | rfl | (simp [errW_none, errW_some] <;> rfl) | (simp [*, errW_none, errW_some] <;> rfl) | (simp [*, errW_none, errW_some]; generalize ByteArray.toList _ = l9_; cases l9_ <;> rfl), by repeat (first | (with_reducible first | exact HI0.out | apply IsS31.alloc | apply IsS31.drewN | apply IsS31.drew | apply IsS31.set_0 | apply IsS31.set_1 | apply IsS31.set_2 | apply IsS31.set_3 | apply IsS31.set_4 | apply IsS31.set_5 | apply IsS31.set_6 | apply IsS31.set_7 | apply IsS31.set_8 | apply IsS31.set_9 | apply IsS31.set_10 | apply IsS31.set_11) | exact HI0.out), by repeat (first | (with_reducible first | exact HB.out | apply below_alloc | apply pw_below_drewN | apply below_drew1 | refine below_set ?_ (IsS31.ge HI0.out)) | exact HB.out), by repeat (first | (with_reducible first | exact HK.out | apply KeepBut.set_ | apply keep_drewN | apply keep_drew | apply keep_alloc) | exact HK.out)⟩
        ·replace c21 := Bool.eq_false_iff.mpr c21; subst c21
         replace H := ie_ H
         simp only [Option.some.injEq, Prod.mk.injEq] at H
         obtain ⟨rfl, rfl, rfl, rfl, rfl, rfl, rfl, rfl, rfl, rfl, rfl, rfl, rfl⟩ := H
         go_wp2_with (first | ((with_reducible refine gate_callee (f:=36) rfl ?_); refine gL_ (some 39) rfl rfl Tryd.func36 rfl #[.string a1] rfl ?_; (with_reducible refine (addr_Parse.calls kj16 a1 t106 t107 false _ A20.out).mono ?_); rintro e w24 ⟨rfl, hb⟩; refine ⟨_, rfl, ?_⟩; have n0_ := A_ (IsS31.below (by repeat (first | (with_reducible first | exact HI0.out | apply IsS31.alloc | apply IsS31.drewN | apply IsS31.drew | apply IsS31.set_0 | apply IsS31.set_1 | apply IsS31.set_2 | apply IsS31.set_3 | apply IsS31.set_4 | apply IsS31.set_5 | apply IsS31.set_6 | apply IsS31.set_7 | apply IsS31.set_8 | apply IsS31.set_9 | apply IsS31.set_10 | apply IsS31.set_11) | exact HI0.out)) hb); have n1_ := A_ (KeepBut.trans (by repeat (first | (with_reducible first | exact HK.out | apply KeepBut.set_ | apply keep_drewN | apply keep_drew | apply keep_alloc) | exact HK.out)) (KeepBut.of_below hb g none) (.inl rfl)); have n2_ := A_ (below_step (by repeat (first | (with_reducible first | exact HB.out | apply below_alloc | apply pw_below_drewN | apply below_drew1 | refine below_set ?_ (IsS31.ge HI0.out)) | exact HB.out)) hb); clear HI0; clear HK; clear HB; have HI0 := n0_; have HK := n1_; have HB := n2_; clear n0_ n1_ n2_; obtain ⟨HGz25, hgz25⟩ := HI0.out; have hcz25_0 := cellS31_0 HGz25; have hcz25_1 := cellS31_1 HGz25; have hcz25_2 := cellS31_2 HGz25; have hcz25_3 := cellS31_3 HGz25; have hcz25_4 := cellS31_4 HGz25; have hcz25_5 := cellS31_5 HGz25; have hcz25_6 := cellS31_6 HGz25; have hcz25_7 := cellS31_7 HGz25; have hcz25_8 := cellS31_8 HGz25; have hcz25_9 := cellS31_9 HGz25; have hcz25_10 := cellS31_10 HGz25; have hcz25_11 := cellS31_11 HGz25; have hfz25_0 := blk_frozen HGz25 0; have hfz25_1 := blk_frozen HGz25 1; have hfz25_2 := blk_frozen HGz25 2; have hfz25_3 := blk_frozen HGz25 3; have hfz25_4 := blk_frozen HGz25 4; have hfz25_5 := blk_frozen HGz25 5; have hfz25_6 := blk_frozen HGz25 6; have hfz25_7 := blk_frozen HGz25 7; have hfz25_8 := blk_frozen HGz25 8; have hfz25_9 := blk_frozen HGz25 9; have hfz25_10 := blk_frozen HGz25 10; have hfz25_11 := blk_frozen HGz25 11; clear HGz25 hgz25))
         go_ret
         exact ⟨by first | rfl | (simp [errW_none, errW_some] <;> rfl) | (simp [*, errW_none, errW_some] <;> rfl) | (simp [*, errW_none, errW_some]; generalize ByteArray.toList _ = l9_; cases l9_ <;> rfl), by repeat (first | (with_reducible first | exact HI0.out | apply IsS31.alloc | apply IsS31.drewN | apply IsS31.drew | apply IsS31.set_0 | apply IsS31.set_1 | apply IsS31.set_2 | apply IsS31.set_3 | apply IsS31.set_4 | apply IsS31.set_5 | apply IsS31.set_6 | apply IsS31.set_7 | apply IsS31.set_8 | apply IsS31.set_9 | apply IsS31.set_10 | apply IsS31.set_11) | exact HI0.out), by repeat (first | (with_reducible first | exact HB.out | apply below_alloc | apply pw_below_drewN | apply below_drew1 | refine below_set ?_ (IsS31.ge HI0.out)) | exact HB.out), by repeat (first | (with_reducible first | exact HK.out | apply KeepBut.set_ | apply keep_drewN | apply keep_drew | apply keep_alloc) | exact HK.out)⟩
       ·replace c19 := Bool.eq_false_iff.mpr c19; subst c19
        replace H := ie_ H
        by_cases c26 : s0_3 = 8
        ·rw [if_pos c26] at H; have ⟨c26b0,c26b1⟩ := e1_ c26; clear c26; obtain ⟨t109, A27, H⟩ := bo_ H
         by_cases c28 : t109 > 0
         ·rw [if_pos c28] at H; have c28b0 := decide_eq_true c28; clear c28
          simp only [Option.some.injEq, Prod.mk.injEq] at H
          obtain ⟨rfl, rfl, rfl, rfl, rfl, rfl, rfl, rfl, rfl, rfl, rfl, rfl, rfl⟩ := H
          go_wp2_with (first | ((with_reducible refine gate_callee (f:=37) rfl ?_); refine gL_ (some 48) rfl rfl Tryd.func37 rfl #[.string a1] rfl ?_; (with_reducible refine (command_number.calls kj16 a1 t109 _ A27.out).mono ?_); rintro e w' ⟨rfl, ⟨nd, rfl⟩⟩; refine ⟨_, rfl, ?_⟩; (try (rw [drewN_self wc]; generalize hq_ : World.drewN wc _ = wc; have n0_ : Aside0 (IsS31 w0 wc g s0_0 s0_1 s0_2 s0_3 s0_4 s0_5 s0_6 s0_7 s0_8 s0_9 s0_10 s0_11) := ⟨by rw [← hq_]; exact (by repeat (first | (with_reducible first | exact HI0.out | apply IsS31.alloc | apply IsS31.drewN | apply IsS31.drew | apply IsS31.set_0 | apply IsS31.set_1 | apply IsS31.set_2 | apply IsS31.set_3 | apply IsS31.set_4 | apply IsS31.set_5 | apply IsS31.set_6 | apply IsS31.set_7 | apply IsS31.set_8 | apply IsS31.set_9 | apply IsS31.set_10 | apply IsS31.set_11) | exact HI0.out))⟩; have n1_ : Aside0 (KeepBut w wc g none) := ⟨by rw [← hq_]; exact (by repeat (first | (with_reducible first | exact HK.out | apply KeepBut.set_ | apply keep_drewN | apply keep_drew | apply keep_alloc) | exact HK.out))⟩; have n2_ : Aside0 (Below w0.heap.size w0 wc) := ⟨by rw [← hq_]; exact (by repeat (first | (with_reducible first | exact HB.out | apply below_alloc | apply pw_below_drewN | apply below_drew1 | refine below_set ?_ (IsS31.ge HI0.out)) | exact HB.out))⟩; clear HI0 HK HB hq_; have HI0 := n0_; have HK := n1_; have HB := n2_; clear n0_ n1_ n2_)); obtain ⟨HGz29, hgz29⟩ := HI0.out; have hcz29_0 := cellS31_0 HGz29; have hcz29_1 := cellS31_1 HGz29; have hcz29_2 := cellS31_2 HGz29; have hcz29_3 := cellS31_3 HGz29; have hcz29_4 := cellS31_4 HGz29; have hcz29_5 := cellS31_5 HGz29; have hcz29_6 := cellS31_6 HGz29; have hcz29_7 := cellS31_7 HGz29; have hcz29_8 := cellS31_8 HGz29; have hcz29_9 := cellS31_9 HGz29; have hcz29_10 := cellS31_10 HGz29; have hcz29_11 := cellS31_11 HGz29; have hfz29_0 := blk_frozen HGz29 0; have hfz29_1 := blk_frozen HGz29 1; have hfz29_2 := blk_frozen HGz29 2; have hfz29_3 := blk_frozen HGz29 3; have hfz29_4 := blk_frozen HGz29 4; have hfz29_5 := blk_frozen HGz29 5; have hfz29_6 := blk_frozen HGz29 6; have hfz29_7 := blk_frozen HGz29 7; have hfz29_8 := blk_frozen HGz29 8; have hfz29_9 := blk_frozen HGz29 9; have hfz29_10 := blk_frozen HGz29 10; have hfz29_11 := blk_frozen HGz29 11; clear HGz29 hgz29))
          go_ret
          exact ⟨by first | rfl | (simp [errW_none, errW_some] <;> rfl) | (simp [*, errW_none, errW_some] <;> rfl) | (simp [*, errW_none, errW_some]; generalize ByteArray.toList _ = l9_; cases l9_ <;> rfl), by repeat (first | (with_reducible first | exact HI0.out | apply IsS31.alloc | apply IsS31.drewN | apply IsS31.drew | apply IsS31.set_0 | apply IsS31.set_1 | apply IsS31.set_2 | apply IsS31.set_3 | apply IsS31.set_4 | apply IsS31.set_5 | apply IsS31.set_6 | apply IsS31.set_7 | apply IsS31.set_8 | apply IsS31.set_9 | apply IsS31.set_10 | apply IsS31.set_11) | exact HI0.out), by repeat (first | (with_reducible first | exact HB.out | apply below_alloc | apply pw_below_drewN | apply below_drew1 | refine below_set ?_ (IsS31.ge HI0.out)) | exact HB.out), by repeat (first | (with_reducible first | exact HK.out | apply KeepBut.set_ | apply keep_drewN | apply keep_drew | apply keep_alloc) | exact HK.out)⟩
         ·rw [if_neg c28] at H; have c28b0 := decide_eq_false c28; clear c28
          simp only [Option.some.injEq, Prod.mk.injEq] at H
          obtain ⟨rfl, rfl, rfl, rfl, rfl, rfl, rfl, rfl, rfl, rfl, rfl, rfl, rfl⟩ := H
          go_wp2_with (first | ((with_reducible refine gate_callee (f:=37) rfl ?_); refine gL_ (some 48) rfl rfl Tryd.func37 rfl #[.string a1] rfl ?_; (with_reducible refine (command_number.calls kj16 a1 t109 _ A27.out).mono ?_); rintro e w' ⟨rfl, ⟨nd, rfl⟩⟩; refine ⟨_, rfl, ?_⟩; (try (rw [drewN_self wc]; generalize hq_ : World.drewN wc _ = wc; have n0_ : Aside0 (IsS31 w0 wc g s0_0 s0_1 s0_2 s0_3 s0_4 s0_5 s0_6 s0_7 s0_8 s0_9 s0_10 s0_11) := ⟨by rw [← hq_]; exact (by repeat (first | (with_reducible first | exact HI0.out | apply IsS31.alloc | apply IsS31.drewN | apply IsS31.drew | apply IsS31.set_0 | apply IsS31.set_1 | apply IsS31.set_2 | apply IsS31.set_3 | apply IsS31.set_4 | apply IsS31.set_5 | apply IsS31.set_6 | apply IsS31.set_7 | apply IsS31.set_8 | apply IsS31.set_9 | apply IsS31.set_10 | apply IsS31.set_11) | exact HI0.out))⟩; have n1_ : Aside0 (KeepBut w wc g none) := ⟨by rw [← hq_]; exact (by repeat (first | (with_reducible first | exact HK.out | apply KeepBut.set_ | apply keep_drewN | apply keep_drew | apply keep_alloc) | exact HK.out))⟩; have n2_ : Aside0 (Below w0.heap.size w0 wc) := ⟨by rw [← hq_]; exact (by repeat (first | (with_reducible first | exact HB.out | apply below_alloc | apply pw_below_drewN | apply below_drew1 | refine below_set ?_ (IsS31.ge HI0.out)) | exact HB.out))⟩; clear HI0 HK HB hq_; have HI0 := n0_; have HK := n1_; have HB := n2_; clear n0_ n1_ n2_)); obtain ⟨HGz30, hgz30⟩ := HI0.out; have hcz30_0 := cellS31_0 HGz30; have hcz30_1 := cellS31_1 HGz30; have hcz30_2 := cellS31_2 HGz30; have hcz30_3 := cellS31_3 HGz30; have hcz30_4 := cellS31_4 HGz30; have hcz30_5 := cellS31_5 HGz30; have hcz30_6 := cellS31_6 HGz30; have hcz30_7 := cellS31_7 HGz30; have hcz30_8 := cellS31_8 HGz30; have hcz30_9 := cellS31_9 HGz30; have hcz30_10 := cellS31_10 HGz30; have hcz30_11 := cellS31_11 HGz30; have hfz30_0 := blk_frozen HGz30 0; have hfz30_1 := blk_frozen HGz30 1; have hfz30_2 := blk_frozen HGz30 2; have hfz30_3 := blk_frozen HGz30 3; have hfz30_4 := blk_frozen HGz30 4; have hfz30_5 := blk_frozen HGz30 5; have hfz30_6 := blk_frozen HGz30 6; have hfz30_7 := blk_frozen HGz30 7; have hfz30_8 := blk_frozen HGz30 8; have hfz30_9 := blk_frozen HGz30 9; have hfz30_10 := blk_frozen HGz30 10; have hfz30_11 := blk_frozen HGz30 11; clear HGz30 hgz30))
          go_ret
          exact ⟨by first | rfl | (simp [errW_none, errW_some] <;> rfl) | (simp [*, errW_none, errW_some] <;> rfl) | (simp [*, errW_none, errW_some]; generalize ByteArray.toList _ = l9_; cases l9_ <;> rfl), by repeat (first | (with_reducible first | exact HI0.out | apply IsS31.alloc | apply IsS31.drewN | apply IsS31.drew | apply IsS31.set_0 | apply IsS31.set_1 | apply IsS31.set_2 | apply IsS31.set_3 | apply IsS31.set_4 | apply IsS31.set_5 | apply IsS31.set_6 | apply IsS31.set_7 | apply IsS31.set_8 | apply IsS31.set_9 | apply IsS31.set_10 | apply IsS31.set_11) | exact HI0.out), by repeat (first | (with_reducible first | exact HB.out | apply below_alloc | apply pw_below_drewN | apply below_drew1 | refine below_set ?_ (IsS31.ge HI0.out)) | exact HB.out), by repeat (first | (with_reducible first | exact HK.out | apply KeepBut.set_ | apply keep_drewN | apply keep_drew | apply keep_alloc) | exact HK.out)⟩
        ·rw [if_neg c26] at H; have ⟨c26b0,c26b1⟩ := e0_ c26; have HC31 := A_ H; clear H
         go_upto_if 56 with (fail)
         go_cut [56] (fun v56 wc => ∃ (kq : Nat) (x56_30 : Bool), v56 = .bool x56_30 ∧ Aside0 (command_args.j2 kq a1 true true x56_30 s0_0 s0_1 s0_2 s0_3 s0_4 s0_5 s0_6 s0_7 s0_8 s0_9 s0_10 s0_11 = some (r1, r2, r3, r4, r5, r6, r7, r8, r9, r10, r11, r12, r13)) ∧ Aside0 (kq ≤ kj16) ∧ Aside0 (IsS31 w0 wc g s0_0 s0_1 s0_2 s0_3 s0_4 s0_5 s0_6 s0_7 s0_8 s0_9 s0_10 s0_11) ∧ Aside0 (KeepBut w wc g none) ∧ Aside0 (Below w0.heap.size w0 wc))
         case first =>
          have H := HC31.out; clear HC31
          by_cases c32 : s0_3 = 1
          ·rw [if_pos c32] at H; have ⟨c32b0,c32b1⟩ := e1_ c32; clear c32; (first | rw [c32b0] | (simp only [i64_w, i32_w]; rw [c32b0]) | skip)
           have H' := A_ H
           clear H
           go_wp2
           go_meet
           case rel => exact ⟨_, ((s0_3 == 1)), sq_, H', ⟨by have := HJ3.out; have := HJ16.out; first | omega | exact Nat.le_refl _⟩, ⟨by repeat (first | (with_reducible first | exact HI0.out | apply IsS31.alloc | apply IsS31.drewN | apply IsS31.drew | apply IsS31.set_0 | apply IsS31.set_1 | apply IsS31.set_2 | apply IsS31.set_3 | apply IsS31.set_4 | apply IsS31.set_5 | apply IsS31.set_6 | apply IsS31.set_7 | apply IsS31.set_8 | apply IsS31.set_9 | apply IsS31.set_10 | apply IsS31.set_11) | exact HI0.out)⟩, ⟨by repeat (first | (with_reducible first | exact HK.out | apply KeepBut.set_ | apply keep_drewN | apply keep_drew | apply keep_alloc) | exact HK.out)⟩, ⟨by repeat (first | (with_reducible first | exact HB.out | apply below_alloc | apply pw_below_drewN | apply below_drew1 | refine below_set ?_ (IsS31.ge HI0.out)) | exact HB.out)⟩⟩
          ·rw [if_neg c32] at H; have ⟨c32b0,c32b1⟩ := e0_ c32; (first | rw [c32b0] | (simp only [i64_w, i32_w]; rw [c32b0]) | skip)
           have H' := A_ H
           clear H
           go_wp2
           go_meet
           case rel => exact ⟨_, ((s0_3 == 3)), sq_, H', ⟨by have := HJ3.out; have := HJ16.out; first | omega | exact Nat.le_refl _⟩, ⟨by repeat (first | (with_reducible first | exact HI0.out | apply IsS31.alloc | apply IsS31.drewN | apply IsS31.drew | apply IsS31.set_0 | apply IsS31.set_1 | apply IsS31.set_2 | apply IsS31.set_3 | apply IsS31.set_4 | apply IsS31.set_5 | apply IsS31.set_6 | apply IsS31.set_7 | apply IsS31.set_8 | apply IsS31.set_9 | apply IsS31.set_10 | apply IsS31.set_11) | exact HI0.out)⟩, ⟨by repeat (first | (with_reducible first | exact HK.out | apply KeepBut.set_ | apply keep_drewN | apply keep_drew | apply keep_alloc) | exact HK.out)⟩, ⟨by repeat (first | (with_reducible first | exact HB.out | apply below_alloc | apply pw_below_drewN | apply below_drew1 | refine below_set ?_ (IsS31.ge HI0.out)) | exact HB.out)⟩⟩
         case rest =>
          clear HC31; (try clear c9); (try clear c10); (try clear c10b0); (try clear c10b1); (try clear c19); (try clear c26); (try clear c26b0); (try clear c26b1)
          (try clear hcz5_0); (try clear hcz5_1); (try clear hcz5_10); (try clear hcz5_11); (try clear hcz5_2); (try clear hcz5_3); (try clear hcz5_4); (try clear hcz5_5); (try clear hcz5_6); (try clear hcz5_7); (try clear hcz5_8); (try clear hcz5_9)
          (try clear hfz5_0); (try clear hfz5_1); (try clear hfz5_10); (try clear hfz5_11); (try clear hfz5_2); (try clear hfz5_3); (try clear hfz5_4); (try clear hfz5_5); (try clear hfz5_6); (try clear hfz5_7); (try clear hfz5_8); (try clear hfz5_9); obtain ⟨kq, x56_30, rfl, HA, HJ30, HI0, HK, HB⟩ := hcut
          cases kq with
          | zero => exact absurd HA.out (by simp [command_args.j2])
          | succ kj30 =>
           have H := HA.out; clear HA
           simp only [command_args.j2] at H
           by_cases c33 : x56_30 = true
           ·subst c33
            obtain ⟨⟨t110, t111, t112⟩, A34, H⟩ := bo_ (it_ H); dsimp only at H; obtain ⟨⟨t113, t114, t115⟩, A35, H⟩ := bo_ H; dsimp only at H
            by_cases c36 : s0_3 = 1
            ·rw [if_pos c36] at H; have ⟨c36b0,c36b1⟩ := e1_ c36; clear c36
             by_cases c37 : t115 = true
             ·subst c37
              replace H := it_ H
              simp only [Option.some.injEq, Prod.mk.injEq] at H
              obtain ⟨rfl, rfl, rfl, rfl, rfl, rfl, rfl, rfl, rfl, rfl, rfl, rfl, rfl⟩ := H
              go_wp2_with (first | ((with_reducible refine gate_callee (f:=11) rfl ?_); refine gL_ (some 61) rfl rfl Tryd.func11 rfl #[.string a1, .string (⟨#[32]⟩ : ByteArray)] rfl ?_; (with_reducible refine (strings_Cut.calls a1 (⟨#[32]⟩ : ByteArray) t110 t111 t112 _ A34.out).mono ?_); rintro e w' ⟨rfl, ⟨nd, rfl⟩⟩; refine ⟨_, rfl, ?_⟩; (try (rw [drewN_self wc]; generalize hq_ : World.drewN wc _ = wc; have n0_ : Aside0 (IsS31 w0 wc g s0_0 s0_1 s0_2 s0_3 s0_4 s0_5 s0_6 s0_7 s0_8 s0_9 s0_10 s0_11) := ⟨by rw [← hq_]; exact (by repeat (first | (with_reducible first | exact HI0.out | apply IsS31.alloc | apply IsS31.drewN | apply IsS31.drew | apply IsS31.set_0 | apply IsS31.set_1 | apply IsS31.set_2 | apply IsS31.set_3 | apply IsS31.set_4 | apply IsS31.set_5 | apply IsS31.set_6 | apply IsS31.set_7 | apply IsS31.set_8 | apply IsS31.set_9 | apply IsS31.set_10 | apply IsS31.set_11) | exact HI0.out))⟩; have n1_ : Aside0 (KeepBut w wc g none) := ⟨by rw [← hq_]; exact (by repeat (first | (with_reducible first | exact HK.out | apply KeepBut.set_ | apply keep_drewN | apply keep_drew | apply keep_alloc) | exact HK.out))⟩; have n2_ : Aside0 (Below w0.heap.size w0 wc) := ⟨by rw [← hq_]; exact (by repeat (first | (with_reducible first | exact HB.out | apply below_alloc | apply pw_below_drewN | apply below_drew1 | refine below_set ?_ (IsS31.ge HI0.out)) | exact HB.out))⟩; clear HI0 HK HB hq_; have HI0 := n0_; have HK := n1_; have HB := n2_; clear n0_ n1_ n2_))) | ((with_reducible refine gate_callee (f:=36) rfl ?_); refine gL_ (some 68) rfl rfl Tryd.func36 rfl #[.string t110] rfl ?_; (with_reducible refine (addr_Parse.calls kj30 t110 t113 t114 true _ A35.out).mono ?_); rintro e w38 ⟨rfl, hb⟩; refine ⟨_, rfl, ?_⟩; have n0_ := A_ (IsS31.below (by repeat (first | (with_reducible first | exact HI0.out | apply IsS31.alloc | apply IsS31.drewN | apply IsS31.drew | apply IsS31.set_0 | apply IsS31.set_1 | apply IsS31.set_2 | apply IsS31.set_3 | apply IsS31.set_4 | apply IsS31.set_5 | apply IsS31.set_6 | apply IsS31.set_7 | apply IsS31.set_8 | apply IsS31.set_9 | apply IsS31.set_10 | apply IsS31.set_11) | exact HI0.out)) hb); have n1_ := A_ (KeepBut.trans (by repeat (first | (with_reducible first | exact HK.out | apply KeepBut.set_ | apply keep_drewN | apply keep_drew | apply keep_alloc) | exact HK.out)) (KeepBut.of_below hb g none) (.inl rfl)); have n2_ := A_ (below_step (by repeat (first | (with_reducible first | exact HB.out | apply below_alloc | apply pw_below_drewN | apply below_drew1 | refine below_set ?_ (IsS31.ge HI0.out)) | exact HB.out)) hb); clear HI0; clear HK; clear HB; have HI0 := n0_; have HK := n1_; have HB := n2_; clear n0_ n1_ n2_; obtain ⟨HGz39, hgz39⟩ := HI0.out; have hcz39_0 := cellS31_0 HGz39; have hcz39_1 := cellS31_1 HGz39; have hcz39_2 := cellS31_2 HGz39; have hcz39_3 := cellS31_3 HGz39; have hcz39_4 := cellS31_4 HGz39; have hcz39_5 := cellS31_5 HGz39; have hcz39_6 := cellS31_6 HGz39; have hcz39_7 := cellS31_7 HGz39; have hcz39_8 := cellS31_8 HGz39; have hcz39_9 := cellS31_9 HGz39; have hcz39_10 := cellS31_10 HGz39; have hcz39_11 := cellS31_11 HGz39; have hfz39_0 := blk_frozen HGz39 0; have hfz39_1 := blk_frozen HGz39 1; have hfz39_2 := blk_frozen HGz39 2; have hfz39_3 := blk_frozen HGz39 3; have hfz39_4 := blk_frozen HGz39 4; have hfz39_5 := blk_frozen HGz39 5; have hfz39_6 := blk_frozen HGz39 6; have hfz39_7 := blk_frozen HGz39 7; have hfz39_8 := blk_frozen HGz39 8; have hfz39_9 := blk_frozen HGz39 9; have hfz39_10 := blk_frozen HGz39 10; have hfz39_11 := blk_frozen HGz39 11; clear HGz39 hgz39))
              go_ret
              exact ⟨by first | rfl | (simp [errW_none, errW_some] <;> rfl) | (simp [*, errW_none, errW_some] <;> rfl) | (simp [*, errW_none, errW_some]; generalize ByteArray.toList _ = l9_; cases l9_ <;> rfl), by repeat (first | (with_reducible first | exact HI0.out | apply IsS31.alloc | apply IsS31.drewN | apply IsS31.drew | apply IsS31.set_0 | apply IsS31.set_1 | apply IsS31.set_2 | apply IsS31.set_3 | apply IsS31.set_4 | apply IsS31.set_5 | apply IsS31.set_6 | apply IsS31.set_7 | apply IsS31.set_8 | apply IsS31.set_9 | apply IsS31.set_10 | apply IsS31.set_11) | exact HI0.out), by repeat (first | (with_reducible first | exact HB.out | apply below_alloc | apply pw_below_drewN | apply below_drew1 | refine below_set ?_ (IsS31.ge HI0.out)) | exact HB.out), by repeat (first | (with_reducible first | exact HK.out | apply KeepBut.set_ | apply keep_drewN | apply keep_drew | apply keep_alloc) | exact HK.out)⟩
             ·replace c37 := Bool.eq_false_iff.mpr c37; subst c37
              replace H := ie_ H
              simp only [Option.some.injEq, Prod.mk.injEq] at H
              obtain ⟨rfl, rfl, rfl, rfl, rfl, rfl, rfl, rfl, rfl, rfl, rfl, rfl, rfl⟩ := H
              go_wp2_with (first | ((with_reducible refine gate_callee (f:=11) rfl ?_); refine gL_ (some 61) rfl rfl Tryd.func11 rfl #[.string a1, .string (⟨#[32]⟩ : ByteArray)] rfl ?_; (with_reducible refine (strings_Cut.calls a1 (⟨#[32]⟩ : ByteArray) t110 t111 t112 _ A34.out).mono ?_); rintro e w' ⟨rfl, ⟨nd, rfl⟩⟩; refine ⟨_, rfl, ?_⟩; (try (rw [drewN_self wc]; generalize hq_ : World.drewN wc _ = wc; have n0_ : Aside0 (IsS31 w0 wc g s0_0 s0_1 s0_2 s0_3 s0_4 s0_5 s0_6 s0_7 s0_8 s0_9 s0_10 s0_11) := ⟨by rw [← hq_]; exact (by repeat (first | (with_reducible first | exact HI0.out | apply IsS31.alloc | apply IsS31.drewN | apply IsS31.drew | apply IsS31.set_0 | apply IsS31.set_1 | apply IsS31.set_2 | apply IsS31.set_3 | apply IsS31.set_4 | apply IsS31.set_5 | apply IsS31.set_6 | apply IsS31.set_7 | apply IsS31.set_8 | apply IsS31.set_9 | apply IsS31.set_10 | apply IsS31.set_11) | exact HI0.out))⟩; have n1_ : Aside0 (KeepBut w wc g none) := ⟨by rw [← hq_]; exact (by repeat (first | (with_reducible first | exact HK.out | apply KeepBut.set_ | apply keep_drewN | apply keep_drew | apply keep_alloc) | exact HK.out))⟩; have n2_ : Aside0 (Below w0.heap.size w0 wc) := ⟨by rw [← hq_]; exact (by repeat (first | (with_reducible first | exact HB.out | apply below_alloc | apply pw_below_drewN | apply below_drew1 | refine below_set ?_ (IsS31.ge HI0.out)) | exact HB.out))⟩; clear HI0 HK HB hq_; have HI0 := n0_; have HK := n1_; have HB := n2_; clear n0_ n1_ n2_))) | ((with_reducible refine gate_callee (f:=36) rfl ?_); refine gL_ (some 68) rfl rfl Tryd.func36 rfl #[.string t110] rfl ?_; (with_reducible refine (addr_Parse.calls kj30 t110 t113 t114 false _ A35.out).mono ?_); rintro e w40 ⟨rfl, hb⟩; refine ⟨_, rfl, ?_⟩; have n0_ := A_ (IsS31.below (by repeat (first | (with_reducible first | exact HI0.out | apply IsS31.alloc | apply IsS31.drewN | apply IsS31.drew | apply IsS31.set_0 | apply IsS31.set_1 | apply IsS31.set_2 | apply IsS31.set_3 | apply IsS31.set_4 | apply IsS31.set_5 | apply IsS31.set_6 | apply IsS31.set_7 | apply IsS31.set_8 | apply IsS31.set_9 | apply IsS31.set_10 | apply IsS31.set_11) | exact HI0.out)) hb); have n1_ := A_ (KeepBut.trans (by repeat (first | (with_reducible first | exact HK.out | apply KeepBut.set_ | apply keep_drewN | apply keep_drew | apply keep_alloc) | exact HK.out)) (KeepBut.of_below hb g none) (.inl rfl)); have n2_ := A_ (below_step (by repeat (first | (with_reducible first | exact HB.out | apply below_alloc | apply pw_below_drewN | apply below_drew1 | refine below_set ?_ (IsS31.ge HI0.out)) | exact HB.out)) hb); clear HI0; clear HK; clear HB; have HI0 := n0_; have HK := n1_; have HB := n2_; clear n0_ n1_ n2_; obtain ⟨HGz41, hgz41⟩ := HI0.out; have hcz41_0 := cellS31_0 HGz41; have hcz41_1 := cellS31_1 HGz41; have hcz41_2 := cellS31_2 HGz41; have hcz41_3 := cellS31_3 HGz41; have hcz41_4 := cellS31_4 HGz41; have hcz41_5 := cellS31_5 HGz41; have hcz41_6 := cellS31_6 HGz41; have hcz41_7 := cellS31_7 HGz41; have hcz41_8 := cellS31_8 HGz41; have hcz41_9 := cellS31_9 HGz41; have hcz41_10 := cellS31_10 HGz41; have hcz41_11 := cellS31_11 HGz41; have hfz41_0 := blk_frozen HGz41 0; have hfz41_1 := blk_frozen HGz41 1; have hfz41_2 := blk_frozen HGz41 2; have hfz41_3 := blk_frozen HGz41 3; have hfz41_4 := blk_frozen HGz41 4; have hfz41_5 := blk_frozen HGz41 5; have hfz41_6 := blk_frozen HGz41 6; have hfz41_7 := blk_frozen HGz41 7; have hfz41_8 := blk_frozen HGz41 8; have hfz41_9 := blk_frozen HGz41 9; have hfz41_10 := blk_frozen HGz41 10; have hfz41_11 := blk_frozen HGz41 11; clear HGz41 hgz41))
              go_ret
              exact ⟨by first | rfl | (simp [errW_none, errW_some] <;> rfl) | (simp [*, errW_none, errW_some] <;> rfl) | (simp [*, errW_none, errW_some]; generalize ByteArray.toList _ = l9_; cases l9_ <;> rfl), by repeat (first | (with_reducible first | exact HI0.out | apply IsS31.alloc | apply IsS31.drewN | apply IsS31.drew | apply IsS31.set_0 | apply IsS31.set_1 | apply IsS31.set_2 | apply IsS31.set_3 | apply IsS31.set_4 | apply IsS31.set_5 | apply IsS31.set_6 | apply IsS31.set_7 | apply IsS31.set_8 | apply IsS31.set_9 | apply IsS31.set_10 | apply IsS31.set_11) | exact HI0.out), by repeat (first | (with_reducible first | exact HB.out | apply below_alloc | apply pw_below_drewN | apply below_drew1 | refine below_set ?_ (IsS31.ge HI0.out)) | exact HB.out), by repeat (first | (with_reducible first | exact HK.out | apply KeepBut.set_ | apply keep_drewN | apply keep_drew | apply keep_alloc) | exact HK.out)⟩
            ·rw [if_neg c36] at H; have ⟨c36b0,c36b1⟩ := e0_ c36; obtain ⟨⟨t116, t117, t118, t119, t120⟩, A42, H⟩ := bo_ H; dsimp only at H
             by_cases c43 : t115 = true
             ·subst c43
              replace H := it_ H
              simp only [Option.some.injEq, Prod.mk.injEq] at H
              obtain ⟨rfl, rfl, rfl, rfl, rfl, rfl, rfl, rfl, rfl, rfl, rfl, rfl, rfl⟩ := H
              go_wp2_with (first | ((with_reducible refine gate_callee (f:=11) rfl ?_); refine gL_ (some 61) rfl rfl Tryd.func11 rfl #[.string a1, .string (⟨#[32]⟩ : ByteArray)] rfl ?_; (with_reducible refine (strings_Cut.calls a1 (⟨#[32]⟩ : ByteArray) t110 t111 t112 _ A34.out).mono ?_); rintro e w' ⟨rfl, ⟨nd, rfl⟩⟩; refine ⟨_, rfl, ?_⟩; (try (rw [drewN_self wc]; generalize hq_ : World.drewN wc _ = wc; have n0_ : Aside0 (IsS31 w0 wc g s0_0 s0_1 s0_2 s0_3 s0_4 s0_5 s0_6 s0_7 s0_8 s0_9 s0_10 s0_11) := ⟨by rw [← hq_]; exact (by repeat (first | (with_reducible first | exact HI0.out | apply IsS31.alloc | apply IsS31.drewN | apply IsS31.drew | apply IsS31.set_0 | apply IsS31.set_1 | apply IsS31.set_2 | apply IsS31.set_3 | apply IsS31.set_4 | apply IsS31.set_5 | apply IsS31.set_6 | apply IsS31.set_7 | apply IsS31.set_8 | apply IsS31.set_9 | apply IsS31.set_10 | apply IsS31.set_11) | exact HI0.out))⟩; have n1_ : Aside0 (KeepBut w wc g none) := ⟨by rw [← hq_]; exact (by repeat (first | (with_reducible first | exact HK.out | apply KeepBut.set_ | apply keep_drewN | apply keep_drew | apply keep_alloc) | exact HK.out))⟩; have n2_ : Aside0 (Below w0.heap.size w0 wc) := ⟨by rw [← hq_]; exact (by repeat (first | (with_reducible first | exact HB.out | apply below_alloc | apply pw_below_drewN | apply below_drew1 | refine below_set ?_ (IsS31.ge HI0.out)) | exact HB.out))⟩; clear HI0 HK HB hq_; have HI0 := n0_; have HK := n1_; have HB := n2_; clear n0_ n1_ n2_))) | ((with_reducible refine gate_callee (f:=36) rfl ?_); refine gL_ (some 68) rfl rfl Tryd.func36 rfl #[.string t110] rfl ?_; (with_reducible refine (addr_Parse.calls kj30 t110 t113 t114 true _ A35.out).mono ?_); rintro e w44 ⟨rfl, hb⟩; refine ⟨_, rfl, ?_⟩; have n0_ := A_ (IsS31.below (by repeat (first | (with_reducible first | exact HI0.out | apply IsS31.alloc | apply IsS31.drewN | apply IsS31.drew | apply IsS31.set_0 | apply IsS31.set_1 | apply IsS31.set_2 | apply IsS31.set_3 | apply IsS31.set_4 | apply IsS31.set_5 | apply IsS31.set_6 | apply IsS31.set_7 | apply IsS31.set_8 | apply IsS31.set_9 | apply IsS31.set_10 | apply IsS31.set_11) | exact HI0.out)) hb); have n1_ := A_ (KeepBut.trans (by repeat (first | (with_reducible first | exact HK.out | apply KeepBut.set_ | apply keep_drewN | apply keep_drew | apply keep_alloc) | exact HK.out)) (KeepBut.of_below hb g none) (.inl rfl)); have n2_ := A_ (below_step (by repeat (first | (with_reducible first | exact HB.out | apply below_alloc | apply pw_below_drewN | apply below_drew1 | refine below_set ?_ (IsS31.ge HI0.out)) | exact HB.out)) hb); clear HI0; clear HK; clear HB; have HI0 := n0_; have HK := n1_; have HB := n2_; clear n0_ n1_ n2_; obtain ⟨HGz45, hgz45⟩ := HI0.out; have hcz45_0 := cellS31_0 HGz45; have hcz45_1 := cellS31_1 HGz45; have hcz45_2 := cellS31_2 HGz45; have hcz45_3 := cellS31_3 HGz45; have hcz45_4 := cellS31_4 HGz45; have hcz45_5 := cellS31_5 HGz45; have hcz45_6 := cellS31_6 HGz45; have hcz45_7 := cellS31_7 HGz45; have hcz45_8 := cellS31_8 HGz45; have hcz45_9 := cellS31_9 HGz45; have hcz45_10 := cellS31_10 HGz45; have hcz45_11 := cellS31_11 HGz45; have hfz45_0 := blk_frozen HGz45 0; have hfz45_1 := blk_frozen HGz45 1; have hfz45_2 := blk_frozen HGz45 2; have hfz45_3 := blk_frozen HGz45 3; have hfz45_4 := blk_frozen HGz45 4; have hfz45_5 := blk_frozen HGz45 5; have hfz45_6 := blk_frozen HGz45 6; have hfz45_7 := blk_frozen HGz45 7; have hfz45_8 := blk_frozen HGz45 8; have hfz45_9 := blk_frozen HGz45 9; have hfz45_10 := blk_frozen HGz45 10; have hfz45_11 := blk_frozen HGz45 11; clear HGz45 hgz45) | ((with_reducible refine gate_callee (f:=35) rfl ?_); refine gL_ (some 87) rfl rfl Tryd.func35 rfl #[.string t111] rfl ?_; (with_reducible refine (span_Parse.calls kj30 t111 t116 t117 t118 t119 t120 _ A42.out).mono ?_); rintro e w46 ⟨rfl, hb⟩; refine ⟨_, rfl, ?_⟩; have n0_ := A_ (IsS31.below (show IsS31 w0 ((w44.setCell ⟨g, 4, none⟩ (.int .i64 t113)).setCell ⟨g, 5, none⟩ (.int .i64 t114)) g s0_0 s0_1 s0_2 s0_3 t113 t114 s0_6 s0_7 s0_8 s0_9 s0_10 s0_11 from by repeat (first | (with_reducible first | exact HI0.out | apply IsS31.alloc | apply IsS31.drewN | apply IsS31.drew | apply IsS31.set_0 | apply IsS31.set_1 | apply IsS31.set_2 | apply IsS31.set_3 | apply IsS31.set_4 | apply IsS31.set_5 | apply IsS31.set_6 | apply IsS31.set_7 | apply IsS31.set_8 | apply IsS31.set_9 | apply IsS31.set_10 | apply IsS31.set_11) | exact HI0.out)) hb); have n1_ := A_ (KeepBut.trans (by repeat (first | (with_reducible first | exact HK.out | apply KeepBut.set_ | apply keep_drewN | apply keep_drew | apply keep_alloc) | exact HK.out)) (KeepBut.of_below hb g none) (.inl rfl)); have n2_ := A_ (below_step (by repeat (first | (with_reducible first | exact HB.out | apply below_alloc | apply pw_below_drewN | apply below_drew1 | refine below_set ?_ (IsS31.ge HI0.out)) | exact HB.out)) hb); clear HI0; clear HK; clear HB; have HI0 := n0_; have HK := n1_; have HB := n2_; clear n0_ n1_ n2_; obtain ⟨HGz47, hgz47⟩ := HI0.out; have hcz47_0 := cellS31_0 HGz47; have hcz47_1 := cellS31_1 HGz47; have hcz47_2 := cellS31_2 HGz47; have hcz47_3 := cellS31_3 HGz47; have hcz47_4 := cellS31_4 HGz47; have hcz47_5 := cellS31_5 HGz47; have hcz47_6 := cellS31_6 HGz47; have hcz47_7 := cellS31_7 HGz47; have hcz47_8 := cellS31_8 HGz47; have hcz47_9 := cellS31_9 HGz47; have hcz47_10 := cellS31_10 HGz47; have hcz47_11 := cellS31_11 HGz47; have hfz47_0 := blk_frozen HGz47 0; have hfz47_1 := blk_frozen HGz47 1; have hfz47_2 := blk_frozen HGz47 2; have hfz47_3 := blk_frozen HGz47 3; have hfz47_4 := blk_frozen HGz47 4; have hfz47_5 := blk_frozen HGz47 5; have hfz47_6 := blk_frozen HGz47 6; have hfz47_7 := blk_frozen HGz47 7; have hfz47_8 := blk_frozen HGz47 8; have hfz47_9 := blk_frozen HGz47 9; have hfz47_10 := blk_frozen HGz47 10; have hfz47_11 := blk_frozen HGz47 11; clear HGz47 hgz47))
              go_ret
              exact ⟨by first | rfl | (simp [errW_none, errW_some] <;> rfl) | (simp [*, errW_none, errW_some] <;> rfl) | (simp [*, errW_none, errW_some]; generalize ByteArray.toList _ = l9_; cases l9_ <;> rfl), by repeat (first | (with_reducible first | exact HI0.out | apply IsS31.alloc | apply IsS31.drewN | apply IsS31.drew | apply IsS31.set_0 | apply IsS31.set_1 | apply IsS31.set_2 | apply IsS31.set_3 | apply IsS31.set_4 | apply IsS31.set_5 | apply IsS31.set_6 | apply IsS31.set_7 | apply IsS31.set_8 | apply IsS31.set_9 | apply IsS31.set_10 | apply IsS31.set_11) | exact HI0.out), by repeat (first | (with_reducible first | exact HB.out | apply below_alloc | apply pw_below_drewN | apply below_drew1 | refine below_set ?_ (IsS31.ge HI0.out)) | exact HB.out), by repeat (first | (with_reducible first | exact HK.out | apply KeepBut.set_ | apply keep_drewN | apply keep_drew | apply keep_alloc) | exact HK.out)⟩
             ·replace c43 := Bool.eq_false_iff.mpr c43; subst c43
              replace H := ie_ H
              simp only [Option.some.injEq, Prod.mk.injEq] at H
              obtain ⟨rfl, rfl, rfl, rfl, rfl, rfl, rfl, rfl, rfl, rfl, rfl, rfl, rfl⟩ := H
              go_wp2_with (first | ((with_reducible refine gate_callee (f:=11) rfl ?_); refine gL_ (some 61) rfl rfl Tryd.func11 rfl #[.string a1, .string (⟨#[32]⟩ : ByteArray)] rfl ?_; (with_reducible refine (strings_Cut.calls a1 (⟨#[32]⟩ : ByteArray) t110 t111 t112 _ A34.out).mono ?_); rintro e w' ⟨rfl, ⟨nd, rfl⟩⟩; refine ⟨_, rfl, ?_⟩; (try (rw [drewN_self wc]; generalize hq_ : World.drewN wc _ = wc; have n0_ : Aside0 (IsS31 w0 wc g s0_0 s0_1 s0_2 s0_3 s0_4 s0_5 s0_6 s0_7 s0_8 s0_9 s0_10 s0_11) := ⟨by rw [← hq_]; exact (by repeat (first | (with_reducible first | exact HI0.out | apply IsS31.alloc | apply IsS31.drewN | apply IsS31.drew | apply IsS31.set_0 | apply IsS31.set_1 | apply IsS31.set_2 | apply IsS31.set_3 | apply IsS31.set_4 | apply IsS31.set_5 | apply IsS31.set_6 | apply IsS31.set_7 | apply IsS31.set_8 | apply IsS31.set_9 | apply IsS31.set_10 | apply IsS31.set_11) | exact HI0.out))⟩; have n1_ : Aside0 (KeepBut w wc g none) := ⟨by rw [← hq_]; exact (by repeat (first | (with_reducible first | exact HK.out | apply KeepBut.set_ | apply keep_drewN | apply keep_drew | apply keep_alloc) | exact HK.out))⟩; have n2_ : Aside0 (Below w0.heap.size w0 wc) := ⟨by rw [← hq_]; exact (by repeat (first | (with_reducible first | exact HB.out | apply below_alloc | apply pw_below_drewN | apply below_drew1 | refine below_set ?_ (IsS31.ge HI0.out)) | exact HB.out))⟩; clear HI0 HK HB hq_; have HI0 := n0_; have HK := n1_; have HB := n2_; clear n0_ n1_ n2_))) | ((with_reducible refine gate_callee (f:=36) rfl ?_); refine gL_ (some 68) rfl rfl Tryd.func36 rfl #[.string t110] rfl ?_; (with_reducible refine (addr_Parse.calls kj30 t110 t113 t114 false _ A35.out).mono ?_); rintro e w48 ⟨rfl, hb⟩; refine ⟨_, rfl, ?_⟩; have n0_ := A_ (IsS31.below (by repeat (first | (with_reducible first | exact HI0.out | apply IsS31.alloc | apply IsS31.drewN | apply IsS31.drew | apply IsS31.set_0 | apply IsS31.set_1 | apply IsS31.set_2 | apply IsS31.set_3 | apply IsS31.set_4 | apply IsS31.set_5 | apply IsS31.set_6 | apply IsS31.set_7 | apply IsS31.set_8 | apply IsS31.set_9 | apply IsS31.set_10 | apply IsS31.set_11) | exact HI0.out)) hb); have n1_ := A_ (KeepBut.trans (by repeat (first | (with_reducible first | exact HK.out | apply KeepBut.set_ | apply keep_drewN | apply keep_drew | apply keep_alloc) | exact HK.out)) (KeepBut.of_below hb g none) (.inl rfl)); have n2_ := A_ (below_step (by repeat (first | (with_reducible first | exact HB.out | apply below_alloc | apply pw_below_drewN | apply below_drew1 | refine below_set ?_ (IsS31.ge HI0.out)) | exact HB.out)) hb); clear HI0; clear HK; clear HB; have HI0 := n0_; have HK := n1_; have HB := n2_; clear n0_ n1_ n2_; obtain ⟨HGz49, hgz49⟩ := HI0.out; have hcz49_0 := cellS31_0 HGz49; have hcz49_1 := cellS31_1 HGz49; have hcz49_2 := cellS31_2 HGz49; have hcz49_3 := cellS31_3 HGz49; have hcz49_4 := cellS31_4 HGz49; have hcz49_5 := cellS31_5 HGz49; have hcz49_6 := cellS31_6 HGz49; have hcz49_7 := cellS31_7 HGz49; have hcz49_8 := cellS31_8 HGz49; have hcz49_9 := cellS31_9 HGz49; have hcz49_10 := cellS31_10 HGz49; have hcz49_11 := cellS31_11 HGz49; have hfz49_0 := blk_frozen HGz49 0; have hfz49_1 := blk_frozen HGz49 1; have hfz49_2 := blk_frozen HGz49 2; have hfz49_3 := blk_frozen HGz49 3; have hfz49_4 := blk_frozen HGz49 4; have hfz49_5 := blk_frozen HGz49 5; have hfz49_6 := blk_frozen HGz49 6; have hfz49_7 := blk_frozen HGz49 7; have hfz49_8 := blk_frozen HGz49 8; have hfz49_9 := blk_frozen HGz49 9; have hfz49_10 := blk_frozen HGz49 10; have hfz49_11 := blk_frozen HGz49 11; clear HGz49 hgz49) | ((with_reducible refine gate_callee (f:=35) rfl ?_); refine gL_ (some 87) rfl rfl Tryd.func35 rfl #[.string t111] rfl ?_; (with_reducible refine (span_Parse.calls kj30 t111 t116 t117 t118 t119 t120 _ A42.out).mono ?_); rintro e w50 ⟨rfl, hb⟩; refine ⟨_, rfl, ?_⟩; have n0_ := A_ (IsS31.below (show IsS31 w0 ((w48.setCell ⟨g, 4, none⟩ (.int .i64 t113)).setCell ⟨g, 5, none⟩ (.int .i64 t114)) g s0_0 s0_1 s0_2 s0_3 t113 t114 s0_6 s0_7 s0_8 s0_9 s0_10 s0_11 from by repeat (first | (with_reducible first | exact HI0.out | apply IsS31.alloc | apply IsS31.drewN | apply IsS31.drew | apply IsS31.set_0 | apply IsS31.set_1 | apply IsS31.set_2 | apply IsS31.set_3 | apply IsS31.set_4 | apply IsS31.set_5 | apply IsS31.set_6 | apply IsS31.set_7 | apply IsS31.set_8 | apply IsS31.set_9 | apply IsS31.set_10 | apply IsS31.set_11) | exact HI0.out)) hb); have n1_ := A_ (KeepBut.trans (by repeat (first | (with_reducible first | exact HK.out | apply KeepBut.set_ | apply keep_drewN | apply keep_drew | apply keep_alloc) | exact HK.out)) (KeepBut.of_below hb g none) (.inl rfl)); have n2_ := A_ (below_step (by repeat (first | (with_reducible first | exact HB.out | apply below_alloc | apply pw_below_drewN | apply below_drew1 | refine below_set ?_ (IsS31.ge HI0.out)) | exact HB.out)) hb); clear HI0; clear HK; clear HB; have HI0 := n0_; have HK := n1_; have HB := n2_; clear n0_ n1_ n2_; obtain ⟨HGz51, hgz51⟩ := HI0.out; have hcz51_0 := cellS31_0 HGz51; have hcz51_1 := cellS31_1 HGz51; have hcz51_2 := cellS31_2 HGz51; have hcz51_3 := cellS31_3 HGz51; have hcz51_4 := cellS31_4 HGz51; have hcz51_5 := cellS31_5 HGz51; have hcz51_6 := cellS31_6 HGz51; have hcz51_7 := cellS31_7 HGz51; have hcz51_8 := cellS31_8 HGz51; have hcz51_9 := cellS31_9 HGz51; have hcz51_10 := cellS31_10 HGz51; have hcz51_11 := cellS31_11 HGz51; have hfz51_0 := blk_frozen HGz51 0; have hfz51_1 := blk_frozen HGz51 1; have hfz51_2 := blk_frozen HGz51 2; have hfz51_3 := blk_frozen HGz51 3; have hfz51_4 := blk_frozen HGz51 4; have hfz51_5 := blk_frozen HGz51 5; have hfz51_6 := blk_frozen HGz51 6; have hfz51_7 := blk_frozen HGz51 7; have hfz51_8 := blk_frozen HGz51 8; have hfz51_9 := blk_frozen HGz51 9; have hfz51_10 := blk_frozen HGz51 10; have hfz51_11 := blk_frozen HGz51 11; clear HGz51 hgz51))
              go_ret
              exact ⟨by first | rfl | (simp [errW_none, errW_some] <;> rfl) | (simp [*, errW_none, errW_some] <;> rfl) | (simp [*, errW_none, errW_some]; generalize ByteArray.toList _ = l9_; cases l9_ <;> rfl), by repeat (first | (with_reducible first | exact HI0.out | apply IsS31.alloc | apply IsS31.drewN | apply IsS31.drew | apply IsS31.set_0 | apply IsS31.set_1 | apply IsS31.set_2 | apply IsS31.set_3 | apply IsS31.set_4 | apply IsS31.set_5 | apply IsS31.set_6 | apply IsS31.set_7 | apply IsS31.set_8 | apply IsS31.set_9 | apply IsS31.set_10 | apply IsS31.set_11) | exact HI0.out), by repeat (first | (with_reducible first | exact HB.out | apply below_alloc | apply pw_below_drewN | apply below_drew1 | refine below_set ?_ (IsS31.ge HI0.out)) | exact HB.out), by repeat (first | (with_reducible first | exact HK.out | apply KeepBut.set_ | apply keep_drewN | apply keep_drew | apply keep_alloc) | exact HK.out)⟩
           ·replace c33 := Bool.eq_false_iff.mpr c33; subst c33
            replace H := ie_ H
            by_cases c52 : true = true
            ·clear c52
             replace H := it_ H
             simp only [Option.some.injEq, Prod.mk.injEq] at H
             obtain ⟨rfl, rfl, rfl, rfl, rfl, rfl, rfl, rfl, rfl, rfl, rfl, rfl, rfl⟩ := H
             go_wp2
             go_ret
             exact ⟨by first | rfl | (simp [errW_none, errW_some] <;> rfl) | (simp [*, errW_none, errW_some] <;> rfl) | (simp [*, errW_none, errW_some]; generalize ByteArray.toList _ = l9_; cases l9_ <;> rfl), by repeat (first | (with_reducible first | exact HI0.out | apply IsS31.alloc | apply IsS31.drewN | apply IsS31.drew | apply IsS31.set_0 | apply IsS31.set_1 | apply IsS31.set_2 | apply IsS31.set_3 | apply IsS31.set_4 | apply IsS31.set_5 | apply IsS31.set_6 | apply IsS31.set_7 | apply IsS31.set_8 | apply IsS31.set_9 | apply IsS31.set_10 | apply IsS31.set_11) | exact HI0.out), by repeat (first | (with_reducible first | exact HB.out | apply below_alloc | apply pw_below_drewN | apply below_drew1 | refine below_set ?_ (IsS31.ge HI0.out)) | exact HB.out), by repeat (first | (with_reducible first | exact HK.out | apply KeepBut.set_ | apply keep_drewN | apply keep_drew | apply keep_alloc) | exact HK.out)⟩
            ·exact absurd rfl c52

mutual
def cats_number.j0 : Nat → ByteArray → Bool → Option (Int × Bool)
 | 0, _, _ => none
 | k + 1, x0, x23 => if x23 = true then (some (0, false)) else (cats_number.l0 k x0 0 (x0.size : Int) 0)
def cats_number.l0 : Nat → ByteArray → Int → Int → Int → Option (Int × Bool)
 | 0, _, _, _, _ => none
 | k + 1, x0, x4, x25, x26 => if x26 < x25 then (if 0 ≤ x26 then (if x26 < (x0.size : Int) then (if (bt x0 x26) < 48 then (some (0, false)) else (if (bt x0 x26) > 57 then (some (0, false)) else (cats_number.l0 k x0 (wrap64 ((wrap64 (x4 * 10)) + (((bt x0 x26) - 48) % 256))) x25 (wrap64 (x26 + 1))))) else (none)) else (none)) else (some (x4, decide (x4 < 64)))
end
def cats_number.f (k : Nat) (a0 : ByteArray) : Option (Int × Bool) := if (a0.size : Int) < 1 then (cats_number.j0 k a0 true) else (if (a0.size : Int) > 2 then (cats_number.j0 k a0 true) else (if (a0.size : Int) = 2 then (if 0 < (a0.size : Int) then (cats_number.j0 k a0 ((bt a0 0) == 48)) else (none)) else (cats_number.j0 k a0 false)))
theorem cats_number.calls (k : Nat) (a0 : ByteArray) (r1 : Int) (r2 : Bool) (w : World) (h : cats_number.f k a0 = some (r1, r2)) :
  Calls Tryd.prog 60 #[.string a0] w fun e w' => e = .returned (.tuple #[.int .i64 r1, .bool r2]) ∧ Drawn0 w w' := by
 have H : (if (a0.size : Int) < 1 then (cats_number.j0 k a0 true) else (if (a0.size : Int) > 2 then (cats_number.j0 k a0 true) else (if (a0.size : Int) = 2 then (if 0 < (a0.size : Int) then (cats_number.j0 k a0 ((bt a0 0) == 48)) else (none)) else (cats_number.j0 k a0 false)))) = some (r1, r2) := h
 clear h; have HC2 := A_ H; clear H
 go_enter Tryd.func60, Tryd.ntmps60
 go_upto_region 1 with (fail)
 go_cut [23] (fun v23 wc => ∃ (kq : Nat) (x23_1 : Bool), v23 = .bool x23_1 ∧ Aside0 (cats_number.j0 kq a0 x23_1 = some (r1, r2)) ∧ Aside0 (kq ≤ k) ∧ Drawn0 w wc)
 case first =>
  have H := HC2.out; clear HC2
  by_cases c3 : (a0.size : Int) < 1
  ·rw [if_pos c3] at H; have c3b0 := decide_eq_true c3; have c3b1 : decide (a0.size < 1) = true := decide_eq_true (by omega); clear c3; (first | rw [c3b0] | (simp only [i64_w, i32_w]; rw [c3b0]) | skip)
   have H' := A_ H
   clear H
   go_wp2
   go_meet
   case rel => exact ⟨_, (true), sq_, H', le_, dr_⟩
  ·rw [if_neg c3] at H; have c3b0 := decide_eq_false c3; have c3b1 : decide (a0.size < 1) = false := decide_eq_false (by omega); clear c3; (first | rw [c3b0] | (simp only [i64_w, i32_w]; rw [c3b0]) | skip)
   by_cases c4 : (a0.size : Int) > 2
   ·rw [if_pos c4] at H; have c4b0 := decide_eq_true c4; have c4b1 : decide (2 < a0.size) = true := decide_eq_true (by omega); clear c4
    have H' := A_ H
    clear H
    go_wp2
    go_meet
    case rel => exact ⟨_, (true), sq_, H', le_, dr_⟩
   ·rw [if_neg c4] at H; have c4b0 := decide_eq_false c4; have c4b1 : decide (2 < a0.size) = false := decide_eq_false (by omega); clear c4
    by_cases c5 : (a0.size : Int) = 2
    ·rw [if_pos c5] at H; have ⟨c5b0,c5b1⟩ := e1_ c5; clear c5
     by_cases c6 : 0 < (a0.size : Int)
     ·rw [if_pos c6] at H; have c6b0 := decide_eq_true c6; have c6b1 : decide (0 < a0.size) = true := decide_eq_true (by omega); clear c6
      have H' := A_ H
      clear H
      have p7 : 0 ≤ (0 : Int) := (by omega)
      have q7 : 0 < a0.size := (by have : (0 : Int) < (a0.size : Int) := of_decide_eq_true as_; omega)
      have hx7 : ∀ h : 0 < a0.size, ((a0[0]'h).toNat : Int) = bt a0 0 := bt_at a0 0
      clear p7; have qi7 : (0 < (a0.size : Int)) = True := eq_true (of_decide_eq_true as_); replace q7 := eq_true q7
      go_wp2
      go_meet
      case rel => exact ⟨_, (((bt a0 0) == 48)), sq_, H', le_, dr_⟩
     ·rw [if_neg c6] at H
      exact absurd H (by simp)
    ·rw [if_neg c5] at H; have ⟨c5b0,c5b1⟩ := e0_ c5
     have H' := A_ H
     clear H
     go_wp2
     go_meet
     case rel => exact ⟨_, (false), sq_, H', le_, dr_⟩
 case rest =>
  clear HC2; obtain ⟨kq, x23_1, rfl, HA, HJ1, ⟨mc1, rfl⟩⟩ := hcut
  cases kq with
  | zero => exact absurd HA.out (by simp [cats_number.j0])
  | succ kj1 =>
   have H := HA.out; clear HA
   simp only [cats_number.j0] at H
   by_cases c8 : x23_1 = true
   ·subst c8
    replace H := it_ H
    simp only [Option.some.injEq, Prod.mk.injEq] at H
    obtain ⟨rfl, rfl⟩ := H
    go_wp2
    go_ret2
    exact ⟨by first | rfl | (simp; done) | (simp [*]; done), dr_⟩
   ·replace c8 := Bool.eq_false_iff.mpr c8; subst c8
    replace H := ie_ H
    have H' := A_ H
    clear H
    go_wp2
    go_loopg [4, 26] kj1 (fun kq v4 v26 w' => ∃ (x4_2 : Int) (x26_2 : Int), v4 = .int .i64 x4_2 ∧ v26 = .int .i64 x26_2 ∧ Aside0 (cats_number.l0 kq a0 x4_2 (a0.size : Int) x26_2 = some (r1, r2)) ∧ Aside0 (kq ≤ kj1) ∧ Drawn0 w w')
    case atStart => exact ⟨(0), (0), sq_, sq_, H', ⟨Nat.le_refl _⟩, dr_⟩
    case round =>
     clear H'; (try clear c8); obtain ⟨x4_2, x26_2, rfl, rfl, HA, HK2, ⟨m2, rfl⟩⟩ := hrel
     cases gk with
     | zero => exact absurd HA.out (by simp [cats_number.l0])
     | succ k2 =>
      have H := HA.out; clear HA
      simp only [cats_number.l0] at H
      by_cases c9 : x26_2 < (a0.size : Int)
      ·rw [if_pos c9] at H; have c9b0 := decide_eq_true c9; clear c9
       by_cases c10 : 0 ≤ x26_2
       ·rw [if_pos c10] at H; have c10b0 := decide_eq_true c10; clear c10
        by_cases c11 : x26_2 < (a0.size : Int)
        ·rw [if_pos c11] at H; have c11b0 := decide_eq_true c11; clear c11
         by_cases c13 : (bt a0 x26_2) < 48
         ·rw [if_pos c13] at H; have c13b0 := decide_eq_true c13; clear c13
          simp only [Option.some.injEq, Prod.mk.injEq] at H
          obtain ⟨rfl, rfl⟩ := H
          have p12 : 0 ≤ (x26_2 : Int) := of_decide_eq_true as_
          have q12 : x26_2 < (a0.size : Int) := of_decide_eq_true as_
          have hx12 := bt_at a0 x26_2; replace p12 := eq_true p12; replace q12 := eq_true q12
          go_wp2
          go_ret2
          exact ⟨by first | rfl | (simp; done) | (simp [*]; done), dr_⟩
         ·rw [if_neg c13] at H; have c13b0 := decide_eq_false c13; clear c13
          by_cases c15 : (bt a0 x26_2) > 57
          ·rw [if_pos c15] at H; have c15b0 := decide_eq_true c15; clear c15
           simp only [Option.some.injEq, Prod.mk.injEq] at H
           obtain ⟨rfl, rfl⟩ := H
           have p12 : 0 ≤ (x26_2 : Int) := of_decide_eq_true as_
           have q12 : x26_2 < (a0.size : Int) := of_decide_eq_true as_
           have hx12 := bt_at a0 x26_2; replace p12 := eq_true p12; replace q12 := eq_true q12
           have p14 : 0 ≤ (x26_2 : Int) := of_decide_eq_true as_
           have q14 : x26_2 < (a0.size : Int) := of_decide_eq_true as_
           have hx14 := bt_at a0 x26_2; replace p14 := eq_true p14; replace q14 := eq_true q14
           go_wp2
           go_ret2
           exact ⟨by first | rfl | (simp; done) | (simp [*]; done), dr_⟩
          ·rw [if_neg c15] at H; have c15b0 := decide_eq_false c15; clear c15
           have H' := A_ H
           clear H
           have p12 : 0 ≤ (x26_2 : Int) := of_decide_eq_true as_
           have q12 : x26_2 < (a0.size : Int) := of_decide_eq_true as_
           have hx12 := bt_at a0 x26_2; replace p12 := eq_true p12; replace q12 := eq_true q12
           have p14 : 0 ≤ (x26_2 : Int) := of_decide_eq_true as_
           have q14 : x26_2 < (a0.size : Int) := of_decide_eq_true as_
           have hx14 := bt_at a0 x26_2; replace p14 := eq_true p14; replace q14 := eq_true q14
           have p16 : 0 ≤ (x26_2 : Int) := of_decide_eq_true as_
           have q16 : x26_2 < (a0.size : Int) := of_decide_eq_true as_
           have hx16 := bt_at a0 x26_2; replace p16 := eq_true p16; replace q16 := eq_true q16
           go_wp2
           go_roundg k2
           case measure => have := HJ1.out; have := HK2.out; omega
           case rel => exact ⟨(wrap64 ((wrap64 (x4_2 * 10)) + (((bt a0 x26_2) - 48) % 256))), (wrap64 (x26_2 + 1)), sq_, sq_, H', ⟨by have := HJ1.out; have := HK2.out; omega⟩, dr_⟩
        ·rw [if_neg c11] at H
         exact absurd H (by simp)
       ·rw [if_neg c10] at H
        exact absurd H (by simp)
      ·rw [if_neg c9] at H; have c9b0 := decide_eq_false c9; clear c9
       simp only [Option.some.injEq, Prod.mk.injEq] at H
       obtain ⟨rfl, rfl⟩ := H
       go_wp2
       go_ret2
       exact ⟨by first | rfl | (simp; done) | (simp [*]; done), dr_⟩

end Go.Proofs.YtajoebfkkknjhaaDoor.X
/- The contract of strings.Split at a separator of one byte: out of the shelf's. -/
set_option linter.unusedVariables false
namespace Go.Proofs.YtajoebfkkknjhaaDoor.X
open Go.RowKit Go.Proofs.YtajoebfkkknjhaaDoorW.PrintWords Go.Proofs.YtajoebfkkknjhaaDoorW.PrintLast Go.Proofs.YtajoebfkkknjhaaDoorW.PrintMore
def strings_Split.f (a0 a1 : ByteArray) : Option (List ByteArray) := if a1.size = 1 ∧ a0.size < 4294967281 then some (Lib.splitB a1 0 (Lib.countB a0 a1) a0) else none
theorem heap_new_ (w : World) (o : Obj) : (w.alloc o).heap[w.heap.size]? = some o := by
 show (w.heap.push o)[w.heap.size]? = some o
 simp
theorem strs_own (W : World) (l : List ByteArray) (hl : l.length ≤ 9223372036854775807) :
  Kd.R Kd.string 9 (W.alloc (.cells (l.map Value.string).toArray 9)) W.heap.size (fun _ => True) (.slice (some ⟨W.heap.size, 0, none⟩) l.length l.length) l := by
 refine ⟨fun _ _ => trivial, l.map Value.string, ⟨by simp [Kd.string, Kd.scalar], Or.inr ⟨W.heap.size, l.length, (l.map Value.string).toArray, rfl, Nat.le_refl _, heap_new_ W _, Nat.le_refl _, by unfold maxLen; omega, by simp [Kd.string, Kd.scalar], by simp only [Kd.string, Kd.scalar, Nat.mul_one]; rw [List.take_of_length_le (by simp)]⟩⟩, ?_⟩
 exact Kd.reps_scalar l
theorem gensplit_one (s : ByteArray) (c : UInt8) (w : World) (hs : s.size < 4294967281) :
  Calls Tryd.prog 78 #[.string s, .string ⟨#[c]⟩, .int .i64 0, .int .i64 (-1)] w fun e w' =>
   e = .returned (.slice (some ⟨w.heap.size, 0, none⟩) (Lib.countB s ⟨#[c]⟩ + 1) (Lib.countB s ⟨#[c]⟩ + 1)) ∧ w' = w.alloc (.cells ((Lib.splitB ⟨#[c]⟩ 0 (Lib.countB s ⟨#[c]⟩) s).map Value.string).toArray 9) := by
 have h1 : 1 ≤ (⟨#[c]⟩ : ByteArray).size := Nat.le_refl _
 have hle := Lib.countB_le ⟨#[c]⟩ h1 s.size s (Nat.le_refl _)
 have hlen := Lib.splitB_all ⟨#[c]⟩ h1 0 _ s rfl
 have c0 := Any.strings_genSplit_core Tryd.lays221 (by kernel_rfl) s ⟨#[c]⟩ 0 (-1) (Lib.countB s ⟨#[c]⟩ + 1) w hs h1 (Nat.zero_le _)
  (fun x d hx => (Tryd.strings_Index_one x c _).mono fun e w' ⟨he, hw⟩ => ⟨by rw [he, ← Lib.index_one], hw⟩)
  ((Tryd.strings_Count_one s c w).mono fun e w' ⟨he, hw⟩ => ⟨by
   rw [he]
   show _ = Ending.returned (Value.int .i64 ((Lib.count s.data.toList [c] : Nat) : Int))
   rw [Lib.count_one]
   rfl, hw⟩) (by decide) (by decide) (by rw [if_pos (by decide)]; omega)
 rw [Nat.add_sub_cancel, hlen] at c0
 have e2 : Lib.cellsOf (Lib.splitB ⟨#[c]⟩ 0 (Lib.countB s ⟨#[c]⟩) s) (Lib.countB s ⟨#[c]⟩ + 1) = ((Lib.splitB ⟨#[c]⟩ 0 (Lib.countB s ⟨#[c]⟩) s).map Value.string).toArray := by rw [← hlen]; exact Lib.cellsOf_full _
 rw [e2] at c0
 exact c0
theorem split_one_w (s : ByteArray) (c : UInt8) (w : World) (hs : s.size < 4294967281) :
  Calls Tryd.prog 59 #[.string s, .string ⟨#[c]⟩] w fun e w' =>
   e = .returned (.slice (some ⟨w.heap.size, 0, none⟩) (Lib.countB s ⟨#[c]⟩ + 1) (Lib.countB s ⟨#[c]⟩ + 1)) ∧ w' = w.alloc (.cells ((Lib.splitB ⟨#[c]⟩ 0 (Lib.countB s ⟨#[c]⟩) s).map Value.string).toArray 9) := by
 go_enter Tryd.func59, Tryd.ntmps59
 go_wp2_with (go_at_call 78; refine (gensplit_one s c w hs).mono ?_; rintro e w' ⟨rfl, hw⟩; rw [hw])
 go_ret
 exact ⟨rfl, rfl⟩
theorem strings_Split.calls (a0 a1 : ByteArray) (r : List ByteArray) (w : World) (h : strings_Split.f a0 a1 = some r) :
  Calls Tryd.prog 59 #[.string a0, .string a1] w fun e w' => ∃ v0_ : Value, e = .returned (v0_) ∧ Kd.R Kd.string 9 w' w.heap.size (fun _ => True) v0_ r ∧ Below w.heap.size w w' := by
 unfold strings_Split.f at h
 by_cases hs : a1.size = 1 ∧ a0.size < 4294967281
 ·rw [if_pos hs] at h
  obtain rfl := Option.some.inj h
  obtain ⟨c, rfl⟩ := Lib.one_byte a1 hs.1
  have h1 : 1 ≤ (⟨#[c]⟩ : ByteArray).size := Nat.le_refl _
  have hle := Lib.countB_le ⟨#[c]⟩ h1 a0.size a0 (Nat.le_refl _)
  have hlen := Lib.splitB_all ⟨#[c]⟩ h1 0 _ a0 rfl
  refine (split_one_w a0 c w hs.2).mono ?_
  rintro e w' ⟨rfl, rfl⟩
  have := strs_own w (Lib.splitB ⟨#[c]⟩ 0 (Lib.countB a0 ⟨#[c]⟩) a0) (by rw [hlen]; omega)
  rw [hlen] at this
  exact ⟨_, rfl, this, (Below.refl _ w).alloc (Nat.le_refl _) _⟩
 ·rw [if_neg hs] at h
  cases h
end Go.Proofs.YtajoebfkkknjhaaDoor.X
namespace Go.Proofs.YtajoebfkkknjhaaDoor.X
open Go.RowKit Go.Proofs.YtajoebfkkknjhaaDoorW.PrintWords Go.Proofs.YtajoebfkkknjhaaDoorW.PrintLast Go.Proofs.YtajoebfkkknjhaaDoorW.PrintMore
attribute [local go_sem] max2_int min2_int max_two min_two max_three min_three max_four min_four
set_option linter.unusedVariables false
set_option linter.unusedSimpArgs false
def cats_Parse.l0 : Nat → Int → List ByteArray → Int → Int → Option (Int × Bool)
 | 0, _, _, _, _ => none
 | k + 1, x4, x12, x13, x14 => if x14 < x13 then (if 0 ≤ x14 then (if x14 < (x12.length : Int) then ((cats_number.f k (rdOf ByteArray.empty x12 x14)).bind fun bt105 => (if bt105.2 = true then (if 0 ≤ (IntKind.u64.wrap (bt105.1)) then (if (shr .u64 x4 (IntKind.u64.wrap (bt105.1))) = 0 then (cats_Parse.l0 k (Go.bits .or .u64 x4 (shl .u64 1 (IntKind.u64.wrap (bt105.1)))) x12 x13 (wrap64 (x14 + 1))) else (some (0, false))) else (none)) else (some (0, false)))) else (none)) else (none)) else (some (x4, true))
def cats_Parse.f (k : Nat) (a0 : ByteArray) : Option (Int × Bool) := if a0.toList = ([] : List UInt8) then (some (0, true)) else ((strings_Split.f a0 (⟨#[44]⟩ : ByteArray)).bind fun t101 => (cats_Parse.l0 k 0 t101 (t101.length : Int) 0))
theorem cats_Parse.calls (k : Nat) (a0 : ByteArray) (r1 : Int) (r2 : Bool) (w : World) (h : cats_Parse.f k a0 = some (r1, r2)) :
  Calls Tryd.prog 34 #[.string a0] w fun e w' => e = .returned (.tuple #[.int .u64 r1, .bool r2]) ∧ Below w.heap.size w w' := by
 have HB := A_ (Below.refl w.heap.size w)
 have H : (if a0.toList = ([] : List UInt8) then (some (0, true)) else ((strings_Split.f a0 (⟨#[44]⟩ : ByteArray)).bind fun t101 => (cats_Parse.l0 k 0 t101 (t101.length : Int) 0))) = some (r1, r2) := h
 clear h
 by_cases c2 : a0.toList = ([] : List UInt8)
 ·rw [if_pos c2] at H; have ⟨c2b0,c2b1⟩ := e1_ c2; clear c2
  simp only [Option.some.injEq, Prod.mk.injEq] at H
  obtain ⟨rfl, rfl⟩ := H
  go_enter Tryd.func34, Tryd.ntmps34
  go_wp2
  go_ret2
  exact fi_ (pbx HB)
 ·rw [if_neg c2] at H; have ⟨c2b0,c2b1⟩ := e0_ c2; obtain ⟨t101, A3, H⟩ := bo_ H
  have H' := A_ H
  clear H
  go_enter Tryd.func34, Tryd.ntmps34
  go_wp2_with (first | ((with_reducible refine gate_callee (f:=59) rfl ?_); refine gL_ (some 12) rfl rfl Tryd.func59 rfl #[.string a0, .string (⟨#[44]⟩ : ByteArray)] rfl ?_; (with_reducible refine (strings_Split.calls a0 (⟨#[44]⟩ : ByteArray) t101 _ A3.out).mono ?_); rintro e w4 ⟨v102, rfl, ho0, hb⟩; refine ⟨_, rfl, ?_⟩; have HO103 := A_ (Kd.R_lower ho0 (below_size (pbx HB))); replace HB := bs_ HB hb; obtain ⟨Ao5, co5, eo5⟩ := Kd.R_slice HO103.out; subst eo5))
  go_loopg [4, 14] k (fun kq v4 v14 w' => ∃ (x4_1 : Int) (x14_1 : Int), v4 = .int .u64 x4_1 ∧ v14 = .int .i64 x14_1 ∧ Aside0 (cats_Parse.l0 kq x4_1 t101 (t101.length : Int) x14_1 = some (r1, r2)) ∧ Aside0 (kq ≤ k) ∧ Aside0 (Kd.R Kd.string 9 w' w.heap.size (fun _ => True) (.slice Ao5 t101.length co5) t101) ∧ Aside0 (Below w.heap.size w w'))
  case atStart => exact ⟨(0), (0), sq_, sq_, H', ⟨Nat.le_refl _⟩, ⟨ra_ HO103.out⟩, ⟨pbx HB⟩⟩
  case round =>
   clear H'; (try clear c2); (try clear c2b0); (try clear c2b1); obtain ⟨x4_1, x14_1, rfl, rfl, HA, HK1, HO_12, HB⟩ := hrel
   cases gk with
   | zero => exact absurd HA.out (by simp [cats_Parse.l0])
   | succ k1 =>
    have H := HA.out; clear HA
    simp only [cats_Parse.l0] at H
    by_cases c6 : x14_1 < (t101.length : Int)
    ·rw [if_pos c6] at H; have c6b0 := decide_eq_true c6; clear c6
     by_cases c7 : 0 ≤ x14_1
     ·rw [if_pos c7] at H; have c7b0 := decide_eq_true c7; clear c7
      by_cases c8 : x14_1 < (t101.length : Int)
      ·rw [if_pos c8] at H; have c8b0 := decide_eq_true c8; clear c8; obtain ⟨⟨t105, t106⟩, A9, H⟩ := bo_ H; dsimp only at H
       by_cases c10 : t106 = true
       ·subst c10
        replace H := it_ H; obtain ⟨ji11, hji11⟩ : ∃ j_ : Int, (IntKind.u64.wrap (t105)) = j_ := ⟨_, rfl⟩
        replace H : (if 0 ≤ (ji11) then (if (shr .u64 x4_1 (ji11)) = 0 then (cats_Parse.l0 k1 (Go.bits .or .u64 x4_1 (shl .u64 1 (ji11))) t101 (t101.length : Int) (wrap64 (x14_1 + 1))) else (some (0, false))) else (none)) = some (r1, r2) := by first | (rw [hji11] at H; exact H) | (simp only [hji11] at H ⊢; exact H)
        (try rw [hji11] at A9)
        by_cases c12 : 0 ≤ (ji11)
        ·rw [if_pos c12] at H; have c12b0 := eq_true c12; have c12b1 := decide_eq_true c12; clear c12; obtain ⟨ji13, hji13⟩ : ∃ j_ : Int, (shr .u64 x4_1 (ji11)) = j_ := ⟨_, rfl⟩
         replace H : (if (ji13) = 0 then (cats_Parse.l0 k1 (Go.bits .or .u64 x4_1 (shl .u64 1 (ji11))) t101 (t101.length : Int) (wrap64 (x14_1 + 1))) else (some (0, false))) = some (r1, r2) := by first | (rw [hji13] at H; exact H) | (simp only [hji13] at H ⊢; exact H)
         (try rw [hji13] at A9)
         have hji13_ : (x4_1 / 2 ^ min (ji11).toNat 64) = ji13 := hji13
         have hji13z : (ji11) ≤ 64 → (x4_1 / 2 ^ (ji11).toNat) = ji13 := shr_small hji13
         by_cases c14 : (ji13) = 0
         ·rw [if_pos c14] at H; have ⟨c14b0,c14b1⟩ := e1_ c14; clear c14; have c15b0 := eq_true (of_decide_eq_true as_ : 0 ≤ (ji11)); obtain ⟨ji16, hji16⟩ : ∃ j_ : Int, (shl .u64 1 (ji11)) = j_ := ⟨_, rfl⟩
          replace H : (cats_Parse.l0 k1 (Go.bits .or .u64 x4_1 (ji16)) t101 (t101.length : Int) (wrap64 (x14_1 + 1))) = some (r1, r2) := by first | (rw [hji16] at H; exact H) | (simp only [hji16] at H ⊢; exact H)
          (try rw [hji16] at A9)
          have hji16_ : (IntKind.u64.wrap (1 * 2 ^ min (ji11).toNat 64)) = ji16 := hji16
          have hji16z : (ji11) ≤ 64 → (IntKind.u64.wrap (1 * 2 ^ (ji11).toNat)) = ji16 := shl_small hji16
          have hji16u : (IntKind.u64.wrap (2 ^ min (ji11).toNat 64)) = ji16 := by have h_ := hji16_; rw [Int.one_mul] at h_; exact h_
          have hji16v : (ji11) ≤ 64 → (IntKind.u64.wrap (2 ^ (ji11).toNat)) = ji16 := fun hle_ => by have h_ := hji16z hle_; rw [Int.one_mul] at h_; exact h_
          have H' := A_ H
          clear H
          have p104 : 0 ≤ (x14_1 : Int) := of_decide_eq_true as_
          have q104 : x14_1 < (t101.length : Int) := of_decide_eq_true as_
          obtain ⟨ad104, e104, hx104_0⟩ := Kd.at_string (Kd.R_reads' HO_12.out).2.2 x14_1 p104 q104
          cases e104
          replace p104 := eq_true p104; replace q104 := eq_true q104
          go_wp2_with (first | ((with_reducible refine gate_callee (f:=60) rfl ?_); refine gL_ (some 20) rfl rfl Tryd.func60 rfl #[.string (rdOf ByteArray.empty t101 x14_1)] rfl ?_; (with_reducible refine (cats_number.calls k1 (rdOf ByteArray.empty t101 x14_1) t105 true _ A9.out).mono ?_); rintro e w' ⟨rfl, ⟨nd, rfl⟩⟩; refine ⟨_, rfl, ?_⟩))
          go_roundg k1
          case measure => have := HK1.out; omega
          case rel => exact ⟨(Go.bits .or .u64 x4_1 (ji16)), (wrap64 (x14_1 + 1)), (by first | rfl | (simp; done) | (simp only [← hji16] <;> (first | rfl | simp)) | (simp [*]; done)), sq_, H', ⟨by have := HK1.out; omega⟩, ⟨ra_ HO_12.out⟩, ⟨pbx HB⟩⟩
         ·rw [if_neg c14] at H; have ⟨c14b0,c14b1⟩ := e0_ c14
          simp only [Option.some.injEq, Prod.mk.injEq] at H
          obtain ⟨rfl, rfl⟩ := H
          have p104 : 0 ≤ (x14_1 : Int) := of_decide_eq_true as_
          have q104 : x14_1 < (t101.length : Int) := of_decide_eq_true as_
          obtain ⟨ad104, e104, hx104_0⟩ := Kd.at_string (Kd.R_reads' HO_12.out).2.2 x14_1 p104 q104
          cases e104
          replace p104 := eq_true p104; replace q104 := eq_true q104
          go_wp2_with (first | ((with_reducible refine gate_callee (f:=60) rfl ?_); refine gL_ (some 20) rfl rfl Tryd.func60 rfl #[.string (rdOf ByteArray.empty t101 x14_1)] rfl ?_; (with_reducible refine (cats_number.calls k1 (rdOf ByteArray.empty t101 x14_1) t105 true _ A9.out).mono ?_); rintro e w' ⟨rfl, ⟨nd, rfl⟩⟩; refine ⟨_, rfl, ?_⟩))
          go_ret2
          exact ⟨by first | rfl | (simp [errW_none, errW_some] <;> rfl) | (simp only [← hji11, ← hji13]; first | rfl | (simp [errW_none, errW_some] <;> rfl)) | (simp [*, errW_none, errW_some] <;> rfl), pbx HB⟩
        ·rw [if_neg c12] at H
         exact absurd H (by simp)
       ·replace c10 := Bool.eq_false_iff.mpr c10; subst c10
        replace H := ie_ H
        simp only [Option.some.injEq, Prod.mk.injEq] at H
        obtain ⟨rfl, rfl⟩ := H
        have p104 : 0 ≤ (x14_1 : Int) := of_decide_eq_true as_
        have q104 : x14_1 < (t101.length : Int) := of_decide_eq_true as_
        obtain ⟨ad104, e104, hx104_0⟩ := Kd.at_string (Kd.R_reads' HO_12.out).2.2 x14_1 p104 q104
        cases e104
        replace p104 := eq_true p104; replace q104 := eq_true q104
        go_wp2_with (first | ((with_reducible refine gate_callee (f:=60) rfl ?_); refine gL_ (some 20) rfl rfl Tryd.func60 rfl #[.string (rdOf ByteArray.empty t101 x14_1)] rfl ?_; (with_reducible refine (cats_number.calls k1 (rdOf ByteArray.empty t101 x14_1) t105 false _ A9.out).mono ?_); rintro e w' ⟨rfl, ⟨nd, rfl⟩⟩; refine ⟨_, rfl, ?_⟩))
        go_ret2
        exact fi_ (pbx HB)
      ·rw [if_neg c8] at H
       exact absurd H (by simp)
     ·rw [if_neg c7] at H
      exact absurd H (by simp)
    ·rw [if_neg c6] at H; have c6b0 := decide_eq_false c6; clear c6
     simp only [Option.some.injEq, Prod.mk.injEq] at H
     obtain ⟨rfl, rfl⟩ := H
     go_wp2
     go_ret2
     exact fi_ (pbx HB)

end Go.Proofs.YtajoebfkkknjhaaDoor.X
namespace Go.Proofs.YtajoebfkkknjhaaDoor.X
open Go.RowKit Go.Proofs.YtajoebfkkknjhaaDoorW.PrintWords Go.Proofs.YtajoebfkkknjhaaDoorW.PrintLast Go.Proofs.YtajoebfkkknjhaaDoorW.PrintMore
attribute [local go_sem] max2_int min2_int max_two min_two max_three min_three max_four min_four
set_option linter.unusedVariables false
set_option linter.unusedSimpArgs false
attribute [local go_sem high] eqA25
mutual
def label_Parse.l0 : Nat → ByteArray → ByteArray → Bool → Int → Int → Int → Option (Int × Int × Bool)
 | 0, _, _, _, _, _, _ => none
 | k + 1, x4, x5, x6, x21, x108000, x108001 => if x21 < 16 then ((strconv_Itoa.f x21).bind fun t108 => (if t108.toList = x4.toList then (label_Parse.l0 k x4 x5 x6 (wrap64 (x21 + 1)) x21 x108001) else (label_Parse.l0 k x4 x5 x6 (wrap64 (x21 + 1)) x108000 x108001))) else ((cats_Parse.f k x5).bind fun bt109 => (if bt109.2 = true then (if x108000 < 0 then (label_Parse.j1 k true x108000 bt109.1) else (if (x6 != (bt109.1 != 0)) = true then (label_Parse.j1 k true x108000 bt109.1) else ((label_Top.f).bind fun bt111 => (label_Parse.j1 k (x108000 == bt111.1 && (bt109.1 == bt111.2)) x108000 bt109.1)))) else (label_Parse.j1 k true x108000 bt109.1)))
def label_Parse.j1 : Nat → Bool → Int → Int → Option (Int × Int × Bool)
 | 0, _, _, _ => none
 | k + 1, x55, x108000, x108001 => if x55 = true then (some (0, 0, false)) else (some (x108000, x108001, true))
end
def label_Parse.f (k : Nat) (a0 : ByteArray) : Option (Int × Int × Bool) := if a0.toList = ([116, 111, 112] : List UInt8) then ((label_Top.f).bind fun bt102 => (some (bt102.1, bt102.2, true))) else ((strings_Cut.f a0 (⟨#[58]⟩ : ByteArray)).bind fun bt104 => (label_Parse.l0 k bt104.1 bt104.2.1 bt104.2.2 0 (-1) 0))
def label_Parse.T13 : Bool × List (List Nat × List Nat) := (true, [([], []), ([0], [0]), ([1], [1]), ([2], [2]), ([3, 2], [2, 3]), ([4, 2], [2, 4]), ([2, 5], [2, 5]), ([6, 2], [6]), ([7], [7]), ([7], [7]), ([9, 7], [7, 9]), ([8, 10, 7], [7, 8, 10]), ([7, 11], [7, 11]), ([12, 7], [12]), ([13], [13]), ([13, 13], [13]), ([14, 15, 13], [13, 14, 15]), ([13, 16], [13, 16])])
def label_Parse.B13 : List Nat := [0, 1, 3, 7, 15, 31, 63, 127, 255, 255, 767, 2047, 4095, 8191, 16383, 16383, 65535, 131071]
theorem label_Parse.tab13 : rtab .any (opsOf Tryd.f12 13) = label_Parse.T13 := by kernel_rfl
theorem label_Parse.bits13 : waitsOk label_Parse.T13.2 label_Parse.B13 = true := by kernel_rfl
theorem label_Parse.calls (k : Nat) (a0 : ByteArray) (r1 : Int) (r2 : Int) (r3 : Bool) (w : World) (hT : Aside0 (Tab w)) (h : label_Parse.f k a0 = some (r1, r2, r3)) :
  Calls Tryd.prog 12 #[.string a0] w fun e w' => e = .returned (.tuple #[.agg #[.int .i64 r1, .int .u64 r2], .bool r3]) ∧ Below w.heap.size w w' := by
 have hu25 := Tryd.underlying25; have HB := A_ (Below.refl w.heap.size w)
 have H : (if a0.toList = ([116, 111, 112] : List UInt8) then ((label_Top.f).bind fun bt102 => (some (bt102.1, bt102.2, true))) else ((strings_Cut.f a0 (⟨#[58]⟩ : ByteArray)).bind fun bt104 => (label_Parse.l0 k bt104.1 bt104.2.1 bt104.2.2 0 (-1) 0))) = some (r1, r2, r3) := h
 clear h
 by_cases c2 : a0.toList = ([116, 111, 112] : List UInt8)
 ·rw [if_pos c2] at H; have ⟨c2b0,c2b1⟩ := e1_ c2; clear c2; obtain ⟨⟨t102, t103⟩, A3, H⟩ := bo_ H; dsimp only at H
  simp only [Option.some.injEq, Prod.mk.injEq] at H
  obtain ⟨rfl, rfl, rfl⟩ := H
  go_enter Tryd.func12, Tryd.ntmps12
  go_wp2_with (first | ((with_reducible refine gd_ 2 ?_); refine be_ (N:=2) (cs := #[.int .i64 0, .int .u64 0]) (t:=25) ?_; intro g1 hg w4 hbox hb; have B1 := A_ (hbox); have GW101 := hs_ HB hg; have GE101 := hs_ HB hg; replace HB := bs_ HB hb; clear hb hbox hg) | ((with_reducible refine gate_callee (f:=33) rfl ?_); refine gL_ (some 13) rfl rfl Tryd.func33 rfl #[] rfl ?_; (with_reducible refine (label_Top.calls  t102 t103 _ A3.out).mono ?_); rintro e w5 ⟨rfl, hb⟩; refine ⟨_, rfl, ?_⟩; replace B1 := bb_ B1 hb; replace HB := bs_ HB hb; have ⟨hcz6_0,hcz6_1,hfz6_0,hfz6_1⟩ := z2_ B1))
  refine bodyPost_ret (results_ct rfl _ _ g1 25 #[.int .i64 t102, .int .u64 t103] (0, 0) _ rfl (by refine pp_ (cs := #[.int .i64 t102, .int .u64 0]) 1 ?_ rfl; refine blk_put (cs := #[.int .i64 0, .int .u64 0]) ?_ 0 _ rfl; exact pkx B1) Tryd.underlying25 rfl (by kernel_rfl)) rfl ?_
  exact fi_ bl_
 ·rw [if_neg c2] at H; have ⟨c2b0,c2b1⟩ := e0_ c2; obtain ⟨⟨t104, t105, t106⟩, A7, H⟩ := bo_ H; dsimp only at H
  have H' := A_ H
  clear H
  go_enter Tryd.func12, Tryd.ntmps12
  go_wp2_with (first | ((with_reducible refine gd_ 2 ?_); refine be_ (N:=2) (cs := #[.int .i64 0, .int .u64 0]) (t:=25) ?_; intro g1 hg w8 hbox hb; have B1 := A_ (hbox); have GW101 := hs_ HB hg; have GE101 := hs_ HB hg; replace HB := bs_ HB hb; clear hb hbox hg) | ((with_reducible refine gate_callee (f:=11) rfl ?_); refine gL_ (some 16) rfl rfl Tryd.func11 rfl #[.string a0, .string (⟨#[58]⟩ : ByteArray)] rfl ?_; (with_reducible refine (strings_Cut.calls a0 (⟨#[58]⟩ : ByteArray) t104 t105 t106 _ A7.out).mono ?_); rintro e w' ⟨rfl, ⟨nd, rfl⟩⟩; refine ⟨_, rfl, ?_⟩; (try (rw [drewN_self w8]; generalize hq_ : World.drewN w8 _ = w8; have n0_ : Aside0 (w8.heap[g1]? = some (.cells #[.int .i64 0, .int .u64 0] 25 (0, 0))) := ⟨by rw [← hq_]; exact (pkx B1)⟩; have n1_ : Aside0 (Below w.heap.size w w8) := ⟨by rw [← hq_]; exact (pbx HB)⟩; clear B1 HB hq_; have B1 := n0_; have HB := n1_; clear n0_ n1_))) | ((with_reducible refine gd_ 7 ?_); refine be_ (N:=7) (cs := #[.int .i64 0, .int .u64 0]) (t:=25) ?_; intro g7 hg w9 hbox hb; have B7 := A_ (hbox); have GW107 := hs_ HB hg; have GE107 := hs_ HB hg; have N17 := hl_ B1 hg; have N71 := hr_ B1 hg; replace B1 := bb_ B1 hb; replace HB := bs_ HB hb; clear hb hbox hg; have hnb10 := N71.out; have hnc10 := N17.out; have ⟨hcz11_0,hcz11_1,hfz11_0,hfz11_1⟩ := z2_ B7))
  go_loopg [21] k (fun kq v21 w' => ∃ (x21_1 : Int) (x108000_1 : Int), v21 = .int .i64 x21_1 ∧ Aside0 (label_Parse.l0 kq t104 t105 t106 x21_1 x108000_1 0 = some (r1, r2, r3)) ∧ Aside0 (kq ≤ k) ∧ Aside0 (w'.heap[g1]? = some (.cells #[.int .i64 0, .int .u64 0] 25 (0, 0))) ∧ Aside0 (w'.heap[g7]? = some (.cells #[.int .i64 x108000_1, .int .u64 0] 25 (0, 0))) ∧ Aside0 (Below w.heap.size w w'))
  case atStart => exact ⟨(0), ((-1)), sq_, H', ⟨Nat.le_refl _⟩, ⟨by (iterate 2 refine pf_ ?_ N17.out); exact pkx B1⟩, ⟨by refine pp_ (cs := #[.int .i64 (-1), .int .u64 0]) 1 ?_ rfl; refine blk_put (cs := #[.int .i64 0, .int .u64 0]) ?_ 0 _ rfl; exact pkx B7⟩, ⟨bl_⟩⟩
  case round =>
   clear H'; (try clear c2); (try clear c2b0); (try clear c2b1); (try clear hcz11_0); (try clear hcz11_1); (try clear hfz11_0); (try clear hfz11_1); obtain ⟨x21_1, x108000_1, rfl, HA, HK1, B1, B7, HB⟩ := hrel
   cases gk with
   | zero => exact absurd HA.out (by simp [label_Parse.l0])
   | succ k1 =>
    have H := HA.out; clear HA
    simp only [label_Parse.l0] at H
    by_cases c12 : x21_1 < 16
    ·rw [if_pos c12] at H; have c12b0 := decide_eq_true c12; clear c12; obtain ⟨t108, A13, H⟩ := bo_ H
     by_cases c14 : t108.toList = t104.toList
     ·rw [if_pos c14] at H; have ⟨c14b0,c14b1⟩ := e1_ c14; clear c14
      have H' := A_ H
      clear H
      go_wp2_with (first | ((with_reducible refine gate_callee (f:=26) rfl ?_); refine gL_ (some 25) rfl rfl Tryd.func26 rfl #[.int .i64 x21_1] rfl ?_; (with_reducible refine (strconv_Itoa.calls x21_1 t108 _ (by refine tb_ ?_ hT; repeat' (first | exact pbx HB | exact Below.refl _ _ | assumption | refine below_set ?_ (Aside0.out ?_))) A13.out).mono ?_); rintro e w15 ⟨rfl, hb⟩; refine ⟨_, rfl, ?_⟩; replace B1 := bb_ B1 hb; replace B7 := bb_ B7 hb; replace HB := bs_ HB hb; (try clear hb); have hnb16 := N71.out; have hnc16 := N17.out; have ⟨hcz17_0,hcz17_1,hfz17_0,hfz17_1⟩ := z2_ B7))
      go_roundg k1
      case measure => have := HK1.out; omega
      case rel => exact ⟨(wrap64 (x21_1 + 1)), (x21_1), sq_, H', ⟨by have := HK1.out; omega⟩, ⟨by refine pf_ ?_ N17.out; exact pkx B1⟩, ⟨by refine pp_ (cs := #[.int .i64 x108000_1, .int .u64 0]) 0 ?_ rfl; exact pkx B7⟩, ⟨bl_⟩⟩
     ·rw [if_neg c14] at H; have ⟨c14b0,c14b1⟩ := e0_ c14
      have H' := A_ H
      clear H
      go_wp2_with (first | ((with_reducible refine gate_callee (f:=26) rfl ?_); refine gL_ (some 25) rfl rfl Tryd.func26 rfl #[.int .i64 x21_1] rfl ?_; (with_reducible refine (strconv_Itoa.calls x21_1 t108 _ (by refine tb_ ?_ hT; repeat' (first | exact pbx HB | exact Below.refl _ _ | assumption | refine below_set ?_ (Aside0.out ?_))) A13.out).mono ?_); rintro e w18 ⟨rfl, hb⟩; refine ⟨_, rfl, ?_⟩; replace B1 := bb_ B1 hb; replace B7 := bb_ B7 hb; replace HB := bs_ HB hb; (try clear hb); ))
      go_roundg k1
      case measure => have := HK1.out; omega
      case rel => exact ⟨(wrap64 (x21_1 + 1)), (x108000_1), sq_, H', ⟨by have := HK1.out; omega⟩, ⟨pkx B1⟩, ⟨pkx B7⟩, ⟨pbx HB⟩⟩
    ·rw [if_neg c12] at H; have c12b0 := decide_eq_false c12; clear c12; obtain ⟨⟨t109, t110⟩, A19, H⟩ := bo_ H; dsimp only at H; have HC20 := A_ H; clear H
     go_upto_region 13 with (first | ((with_reducible refine gate_callee (f:=34) rfl ?_); refine gL_ (some 33) rfl rfl Tryd.func34 rfl #[.string t105] rfl ?_; (with_reducible refine (cats_Parse.calls k1 t105 t109 t110 _ A19.out).mono ?_); rintro e w21 ⟨rfl, hb⟩; refine ⟨_, rfl, ?_⟩; replace B1 := bb_ B1 hb; replace B7 := bb_ B7 hb; replace HB := bs_ HB hb; (try clear hb); have hnb22 := N71.out; have hnc22 := N17.out; have ⟨hcz23_0,hcz23_1,hfz23_0,hfz23_1⟩ := z2_ B7))
     (try simp only [q_])
     go_cut [55] (fun v55 wc => ∃ (kq : Nat) (x55_19 : Bool), v55 = .bool x55_19 ∧ Aside0 (label_Parse.j1 kq x55_19 x108000_1 t109 = some (r1, r2, r3)) ∧ Aside0 (kq ≤ k1) ∧ Aside0 (wc.heap[g1]? = some (.cells #[.int .i64 0, .int .u64 0] 25 (0, 0))) ∧ Aside0 (wc.heap[g7]? = some (.cells #[.int .i64 x108000_1, .int .u64 t109] 25 (0, 0))) ∧ Aside0 (Below w.heap.size w wc))
     case first =>
      have H := HC20.out; clear HC20
      by_cases c24 : t110 = true
      ·subst c24
       replace H := it_ H
       by_cases c25 : x108000_1 < 0
       ·rw [if_pos c25] at H; have c25b0 := decide_eq_true c25; clear c25; (first | rw [c25b0] | (simp only [i64_w, i32_w]; rw [c25b0]) | skip)
        have H' := A_ H
        clear H
        try go_wp2
        have n0_ : Aside0 ((w21.setCell ⟨g7, 1, none⟩ (.int .u64 t109)).heap[g1]? = some (.cells #[.int .i64 0, .int .u64 0] 25 (0, 0))) := ⟨by refine pf_ ?_ N17.out; exact pkx B1⟩; have n1_ : Aside0 ((w21.setCell ⟨g7, 1, none⟩ (.int .u64 t109)).heap[g7]? = some (.cells #[.int .i64 x108000_1, .int .u64 t109] 25 (0, 0))) := ⟨by refine pp_ (cs := #[.int .i64 x108000_1, .int .u64 0]) 1 ?_ rfl; exact pkx B7⟩; have n2_ : Aside0 (Below w.heap.size w (w21.setCell ⟨g7, 1, none⟩ (.int .u64 t109))) := ⟨bl_⟩
        (try clear B1); (try clear B7); (try clear HB)
        generalize (w21.setCell ⟨g7, 1, none⟩ (.int .u64 t109)) = w26 at n0_ n1_ n2_ ⊢; have B1 := n0_; have B7 := n1_; have HB := n2_; clear n0_ n1_ n2_; (try (rw [drewN_self w26]; generalize hq_ : World.drewN w26 _ = w26; have n0_ : Aside0 (w26.heap[g1]? = some (.cells #[.int .i64 0, .int .u64 0] 25 (0, 0))) := ⟨by rw [← hq_]; exact (pkx B1)⟩; have n1_ : Aside0 (w26.heap[g7]? = some (.cells #[.int .i64 x108000_1, .int .u64 t109] 25 (0, 0))) := ⟨by rw [← hq_]; exact (pkx B7)⟩; have n2_ : Aside0 (Below w.heap.size w w26) := ⟨by rw [← hq_]; exact (pbx HB)⟩; clear B1 B7 HB hq_; have B1 := n0_; have B7 := n1_; have HB := n2_; clear n0_ n1_ n2_))
        replace B1 := A_ (blk_drew B1.out); replace B7 := A_ (blk_drew B7.out); replace HB := A_ (below_drew1 HB.out)
        refine start_ (n:=18) (S := fun w' => w'.cell? ⟨g7, 0, none⟩ = some (.int .i64 x108000_1) ∧ w'.cell? ⟨g7, 1, none⟩ = some (.int .u64 t109)) (ds := []) #[F,F,F,F,F,F,F,F,F,F,F,F,F,F,F,F,F,F] (by kernel_rfl) rfl rfl ⟨bc_ B7 0 rfl, bc_ B7 1 rfl⟩ (fun hHeld => ?_); refine with_tabW label_Parse.tab13 label_Parse.bits13 (fun HT_ HW_ => ?_)
        generalize w26.drew = w27 at B1 B7 HB hHeld ⊢; refine pure_ (i:=0) (N:=some 38) (v:=?_) (a':=?_) ⟨m_ 18 1⟩ rfl rfl (ao_ HT_) (fun _ _ _ h=>h) (Or.inl ⟨rfl, ?_⟩) ?_ ?_; rotate_left
        ·intro w'; go_simp; with_reducible rfl
        rotate_left
        ·simp only [q_, i64_w, i32_w]; rfl
        refine pure_ (i:=1) (N:=some 39) (v:=?_) (a':=?_) ⟨m_ 18 3⟩ rfl rfl (ao_ HT_) (fun _ _ _ h=>h) (Or.inl ⟨rfl, ?_⟩) ?_ ?_; rotate_left
        ·intro w'; go_simp; with_reducible rfl
        rotate_left
        ·simp only [q_, i64_w, i32_w]; rfl
        refine pure_ (i:=2) (N:=some 40) (v:=?_) (a':=?_) ⟨m_ 18 7⟩ rfl rfl (ao_ HT_) (fun _ _ _ h=>h) (Or.inl ⟨rfl, ?_⟩) ?_ ?_; rotate_left
        ·intro w'; go_simp; with_reducible rfl
        rotate_left
        ·simp only [q_, i64_w, i32_w]; rfl
        refine pure_ (i:=3) (N:=some 41) (v:=?_) (a':=?_) ⟨m_ 18 15⟩ rfl rfl (ao_ HT_) (fun _ _ _ h=>h) (Or.inl ⟨rfl, ?_⟩) ?_ ?_; rotate_left
        ·intro w'; go_simp; with_reducible rfl
        rotate_left
        ·simp only [q_, i64_w, i32_w]; rfl
        refine take_ (i:=4) (N:=some 42) (v:=?_) (a':=?_) ⟨m_ 18 31⟩ rfl rfl (tw_ HT_ HW_) (fun _ _ _ h=>h) (Or.inl ⟨rfl, ?_⟩) hHeld ?_ ?_; rotate_left
        ·rintro w' ⟨s0, s1⟩; go_simp; with_reducible rfl
        rotate_left
        ·simp only [q_, i64_w, i32_w]; rfl
        refine pure_ (i:=5) (N:=some 43) (v:=?_) (a':=?_) ⟨m_ 18 63⟩ rfl rfl (ao_ HT_) (fun _ _ _ h=>h) (Or.inl ⟨rfl, ?_⟩) ?_ ?_; rotate_left
        ·intro w'; go_simp; with_reducible rfl
        rotate_left
        ·simp only [q_, i64_w, i32_w]; rfl
        refine pure_ (i:=6) (N:=some 44) (v:=?_) (a':=?_) ⟨m_ 18 127⟩ rfl rfl (ao_ HT_) (fun _ _ _ h=>h) (Or.inl ⟨rfl, ?_⟩) ?_ ?_; rotate_left
        ·intro w'; go_simp; with_reducible rfl
        rotate_left
        ·simp only [q_, i64_w, i32_w]; rfl
        refine pure_ (i:=7) (N:=some 45) (v:=?_) (a':=?_) ⟨m_ 18 255⟩ rfl rfl (ao_ HT_) (fun _ _ _ h=>h) (Or.inl ⟨rfl, ?_⟩) ?_ ?_; rotate_left
        ·intro w'; go_simp; with_reducible rfl
        rotate_left
        ·simp only [q_, i64_w, i32_w]; rfl
        refine pure_ (i:=8) (N:=some 46) (v:=undef) (a':=?_) ⟨m_ 18 511⟩ rfl rfl (ao_ HT_) (fun _ _ _ h=>h) (Or.inr ⟨by rfl, rfl⟩) ?_ ?_; rotate_left
        ·simp only [q_, i64_w, i32_w]; rfl
        refine pure_ (i:=9) (N:=some 47) (v:=undef) (a':=?_) ⟨m_ 18 1023⟩ rfl rfl (ao_ HT_) (fun _ _ _ h=>h) (Or.inr ⟨by rfl, rfl⟩) ?_ ?_; rotate_left
        ·simp only [q_, i64_w, i32_w]; rfl
        refine pure_ (i:=10) (N:=some 48) (v:=undef) (a':=?_) ⟨m_ 18 2047⟩ rfl rfl (ao_ HT_) (fun _ _ _ h=>h) (Or.inr ⟨by rfl, rfl⟩) ?_ ?_; rotate_left
        ·simp only [q_, i64_w, i32_w]; rfl
        refine pure_ (i:=11) (N:=some 49) (v:=undef) (a':=?_) ⟨m_ 18 4095⟩ rfl rfl (ao_ HT_) (fun _ _ _ h=>h) (Or.inr ⟨by rfl, rfl⟩) ?_ ?_; rotate_left
        ·simp only [q_, i64_w, i32_w]; rfl
        refine pure_ (i:=12) (N:=some 50) (v:=?_) (a':=?_) ⟨m_ 18 8191⟩ rfl rfl (ao_ HT_) (fun _ _ _ h=>h) (Or.inl ⟨rfl, ?_⟩) ?_ ?_; rotate_left
        ·intro w'; go_simp; with_reducible rfl
        rotate_left
        ·simp only [q_, i64_w, i32_w]; rfl
        refine pure_ (i:=13) (N:=some 51) (v:=?_) (a':=?_) ⟨m_ 18 16383⟩ rfl rfl (ao_ HT_) (fun _ _ _ h=>h) (Or.inl ⟨rfl, ?_⟩) ?_ ?_; rotate_left
        ·intro w'; go_simp; with_reducible rfl
        rotate_left
        ·simp only [q_, i64_w, i32_w]; rfl
        refine pure_ (i:=14) (N:=some 52) (v:=undef) (a':=?_) ⟨m_ 18 32767⟩ rfl rfl (ao_ HT_) (fun _ _ _ h=>h) (Or.inr ⟨by rfl, rfl⟩) ?_ ?_; rotate_left
        ·simp only [q_, i64_w, i32_w]; rfl
        refine pure_ (i:=15) (N:=some 53) (v:=undef) (a':=?_) ⟨m_ 18 65535⟩ rfl rfl (ao_ HT_) (fun _ _ _ h=>h) (Or.inr ⟨by rfl, rfl⟩) ?_ ?_; rotate_left
        ·simp only [q_, i64_w, i32_w]; rfl
        refine pure_ (i:=16) (N:=some 54) (v:=undef) (a':=?_) ⟨m_ 18 131071⟩ rfl rfl (ao_ HT_) (fun _ _ _ h=>h) (Or.inr ⟨by rfl, rfl⟩) ?_ ?_; rotate_left
        ·simp only [q_, i64_w, i32_w]; rfl
        refine pure_ (i:=17) (N:=some 55) (v:=?_) (a':=?_) ⟨m_ 18 262143⟩ rfl rfl (ao_ HT_) (fun _ _ _ h=>h) (Or.inl ⟨rfl, ?_⟩) ?_ ?_; rotate_left
        ·intro w'; go_simp; with_reducible rfl
        rotate_left
        ·simp only [q_, i64_w, i32_w]; rfl
        refine done_ (done_of HT_.out (by kernel_rfl)) ?_
        try go_wp2
        go_meet
        case rel => exact ⟨_, (true), sq_, H', ⟨by have := HK1.out; first | omega | exact Nat.le_refl _⟩, ⟨pkx B1⟩, ⟨pkx B7⟩, ⟨pbx HB⟩⟩
       ·rw [if_neg c25] at H; have c25b0 := decide_eq_false c25; clear c25; (first | rw [c25b0] | (simp only [i64_w, i32_w]; rw [c25b0]) | skip)
        by_cases c28 : (t106 != (t109 != 0)) = true
        ·rw [if_pos c28] at H
         have c28b0 : (t106 != (t109 != 0)) = true := c28
         (try (have c28b1 : decide (t106 = (t109 != 0)) = false := by simpa using c28)); (try (have c28b2 : (t106 == (t109 != 0)) = false := by simpa using c28)); (try (have c28b3 : ¬ (t106 = (t109 != 0)) := by simpa using c28)); clear c28
         have H' := A_ H
         clear H
         try go_wp2
         have n0_ : Aside0 ((w21.setCell ⟨g7, 1, none⟩ (.int .u64 t109)).heap[g1]? = some (.cells #[.int .i64 0, .int .u64 0] 25 (0, 0))) := ⟨by refine pf_ ?_ N17.out; exact pkx B1⟩; have n1_ : Aside0 ((w21.setCell ⟨g7, 1, none⟩ (.int .u64 t109)).heap[g7]? = some (.cells #[.int .i64 x108000_1, .int .u64 t109] 25 (0, 0))) := ⟨by refine pp_ (cs := #[.int .i64 x108000_1, .int .u64 0]) 1 ?_ rfl; exact pkx B7⟩; have n2_ : Aside0 (Below w.heap.size w (w21.setCell ⟨g7, 1, none⟩ (.int .u64 t109))) := ⟨bl_⟩
         (try clear B1); (try clear B7); (try clear HB)
         generalize (w21.setCell ⟨g7, 1, none⟩ (.int .u64 t109)) = w29 at n0_ n1_ n2_ ⊢; have B1 := n0_; have B7 := n1_; have HB := n2_; clear n0_ n1_ n2_; (try (rw [drewN_self w29]; generalize hq_ : World.drewN w29 _ = w29; have n0_ : Aside0 (w29.heap[g1]? = some (.cells #[.int .i64 0, .int .u64 0] 25 (0, 0))) := ⟨by rw [← hq_]; exact (pkx B1)⟩; have n1_ : Aside0 (w29.heap[g7]? = some (.cells #[.int .i64 x108000_1, .int .u64 t109] 25 (0, 0))) := ⟨by rw [← hq_]; exact (pkx B7)⟩; have n2_ : Aside0 (Below w.heap.size w w29) := ⟨by rw [← hq_]; exact (pbx HB)⟩; clear B1 B7 HB hq_; have B1 := n0_; have B7 := n1_; have HB := n2_; clear n0_ n1_ n2_))
         replace B1 := A_ (blk_drew B1.out); replace B7 := A_ (blk_drew B7.out); replace HB := A_ (below_drew1 HB.out)
         refine start_ (n:=18) (S := fun w' => w'.cell? ⟨g7, 0, none⟩ = some (.int .i64 x108000_1) ∧ w'.cell? ⟨g7, 1, none⟩ = some (.int .u64 t109)) (ds := []) #[F,F,F,F,F,F,F,F,F,F,F,F,F,F,F,F,F,F] (by kernel_rfl) rfl rfl ⟨bc_ B7 0 rfl, bc_ B7 1 rfl⟩ (fun hHeld => ?_); refine with_tabW label_Parse.tab13 label_Parse.bits13 (fun HT_ HW_ => ?_)
         generalize w29.drew = w30 at B1 B7 HB hHeld ⊢; refine pure_ (i:=0) (N:=some 38) (v:=?_) (a':=?_) ⟨m_ 18 1⟩ rfl rfl (ao_ HT_) (fun _ _ _ h=>h) (Or.inl ⟨rfl, ?_⟩) ?_ ?_; rotate_left
         ·intro w'; go_simp; with_reducible rfl
         rotate_left
         ·simp only [q_, i64_w, i32_w]; rfl
         refine pure_ (i:=1) (N:=some 39) (v:=?_) (a':=?_) ⟨m_ 18 3⟩ rfl rfl (ao_ HT_) (fun _ _ _ h=>h) (Or.inl ⟨rfl, ?_⟩) ?_ ?_; rotate_left
         ·intro w'; go_simp; with_reducible rfl
         rotate_left
         ·simp only [q_, i64_w, i32_w]; rfl
         refine pure_ (i:=2) (N:=some 40) (v:=?_) (a':=?_) ⟨m_ 18 7⟩ rfl rfl (ao_ HT_) (fun _ _ _ h=>h) (Or.inl ⟨rfl, ?_⟩) ?_ ?_; rotate_left
         ·intro w'; go_simp; with_reducible rfl
         rotate_left
         ·simp only [q_, i64_w, i32_w]; rfl
         refine pure_ (i:=3) (N:=some 41) (v:=?_) (a':=?_) ⟨m_ 18 15⟩ rfl rfl (ao_ HT_) (fun _ _ _ h=>h) (Or.inl ⟨rfl, ?_⟩) ?_ ?_; rotate_left
         ·intro w'; go_simp; with_reducible rfl
         rotate_left
         ·simp only [q_, i64_w, i32_w]; rfl
         refine take_ (i:=4) (N:=some 42) (v:=?_) (a':=?_) ⟨m_ 18 31⟩ rfl rfl (tw_ HT_ HW_) (fun _ _ _ h=>h) (Or.inl ⟨rfl, ?_⟩) hHeld ?_ ?_; rotate_left
         ·rintro w' ⟨s0, s1⟩; go_simp; with_reducible rfl
         rotate_left
         ·simp only [q_, i64_w, i32_w]; rfl
         refine pure_ (i:=5) (N:=some 43) (v:=?_) (a':=?_) ⟨m_ 18 63⟩ rfl rfl (ao_ HT_) (fun _ _ _ h=>h) (Or.inl ⟨rfl, ?_⟩) ?_ ?_; rotate_left
         ·intro w'; go_simp; with_reducible rfl
         rotate_left
         ·simp only [q_, i64_w, i32_w]; rfl
         refine pure_ (i:=6) (N:=some 44) (v:=?_) (a':=?_) ⟨m_ 18 127⟩ rfl rfl (ao_ HT_) (fun _ _ _ h=>h) (Or.inl ⟨rfl, ?_⟩) ?_ ?_; rotate_left
         ·intro w'; go_simp; with_reducible rfl
         rotate_left
         ·simp only [q_, i64_w, i32_w]; rfl
         refine pure_ (i:=7) (N:=some 45) (v:=?_) (a':=?_) ⟨m_ 18 255⟩ rfl rfl (ao_ HT_) (fun _ _ _ h=>h) (Or.inl ⟨rfl, ?_⟩) ?_ ?_; rotate_left
         ·intro w'; go_simp; with_reducible rfl
         rotate_left
         ·simp only [q_, i64_w, i32_w]; rfl
         refine pure_ (i:=8) (N:=some 46) (v:=?_) (a':=?_) ⟨m_ 18 511⟩ rfl rfl (ao_ HT_) (fun _ _ _ h=>h) (Or.inl ⟨rfl, ?_⟩) ?_ ?_; rotate_left
         ·intro w'; go_simp; with_reducible rfl
         rotate_left
         ·simp only [q_, i64_w, i32_w]; rfl
         refine pure_ (i:=9) (N:=some 47) (v:=?_) (a':=?_) ⟨m_ 18 1023⟩ rfl rfl (ao_ HT_) (fun _ _ _ h=>h) (Or.inl ⟨rfl, ?_⟩) ?_ ?_; rotate_left
         ·intro w'; go_simp; with_reducible rfl
         rotate_left
         ·simp only [q_, i64_w, i32_w]; rfl
         refine pure_ (i:=10) (N:=some 48) (v:=?_) (a':=?_) ⟨m_ 18 2047⟩ rfl rfl (ao_ HT_) (fun _ _ _ h=>h) (Or.inl ⟨rfl, ?_⟩) ?_ ?_; rotate_left
         ·intro w'; go_simp; with_reducible rfl
         rotate_left
         ·simp only [q_, i64_w, i32_w]; rfl
         refine pure_ (i:=11) (N:=some 49) (v:=?_) (a':=?_) ⟨m_ 18 4095⟩ rfl rfl (ao_ HT_) (fun _ _ _ h=>h) (Or.inl ⟨rfl, ?_⟩) ?_ ?_; rotate_left
         ·intro w'; go_simp; with_reducible rfl
         rotate_left
         ·simp only [q_, i64_w, i32_w]; rfl
         refine pure_ (i:=12) (N:=some 50) (v:=?_) (a':=?_) ⟨m_ 18 8191⟩ rfl rfl (ao_ HT_) (fun _ _ _ h=>h) (Or.inl ⟨rfl, ?_⟩) ?_ ?_; rotate_left
         ·intro w'; go_simp; with_reducible rfl
         rotate_left
         ·simp only [q_, i64_w, i32_w]; rfl
         refine pure_ (i:=13) (N:=some 51) (v:=?_) (a':=?_) ⟨m_ 18 16383⟩ rfl rfl (ao_ HT_) (fun _ _ _ h=>h) (Or.inl ⟨rfl, ?_⟩) ?_ ?_; rotate_left
         ·intro w'; go_simp; with_reducible rfl
         rotate_left
         ·simp only [q_, i64_w, i32_w]; rfl
         refine pure_ (i:=14) (N:=some 52) (v:=undef) (a':=?_) ⟨m_ 18 32767⟩ rfl rfl (ao_ HT_) (fun _ _ _ h=>h) (Or.inr ⟨by rfl, rfl⟩) ?_ ?_; rotate_left
         ·simp only [q_, i64_w, i32_w]; rfl
         refine pure_ (i:=15) (N:=some 53) (v:=undef) (a':=?_) ⟨m_ 18 65535⟩ rfl rfl (ao_ HT_) (fun _ _ _ h=>h) (Or.inr ⟨by rfl, rfl⟩) ?_ ?_; rotate_left
         ·simp only [q_, i64_w, i32_w]; rfl
         refine pure_ (i:=16) (N:=some 54) (v:=undef) (a':=?_) ⟨m_ 18 131071⟩ rfl rfl (ao_ HT_) (fun _ _ _ h=>h) (Or.inr ⟨by rfl, rfl⟩) ?_ ?_; rotate_left
         ·simp only [q_, i64_w, i32_w]; rfl
         refine pure_ (i:=17) (N:=some 55) (v:=?_) (a':=?_) ⟨m_ 18 262143⟩ rfl rfl (ao_ HT_) (fun _ _ _ h=>h) (Or.inl ⟨rfl, ?_⟩) ?_ ?_; rotate_left
         ·intro w'; go_simp; with_reducible rfl
         rotate_left
         ·simp only [q_, i64_w, i32_w]; rfl
         refine done_ (done_of HT_.out (by kernel_rfl)) ?_
         try go_wp2
         go_meet
         case rel => exact ⟨_, (true), sq_, H', ⟨by have := HK1.out; first | omega | exact Nat.le_refl _⟩, ⟨pkx B1⟩, ⟨pkx B7⟩, ⟨pbx HB⟩⟩
        ·rw [if_neg c28] at H
         have c28b0 : (t106 != (t109 != 0)) = false := by simpa using c28
         (try (have c28b1 : decide (t106 = (t109 != 0)) = true := by simpa using c28)); (try (have c28b2 : (t106 == (t109 != 0)) = true := by simpa using c28))
         clear c28; obtain ⟨⟨t111, t112⟩, A31, H⟩ := bo_ H; dsimp only at H
         have H' := A_ H
         clear H
         try go_wp2
         have n0_ : Aside0 ((w21.setCell ⟨g7, 1, none⟩ (.int .u64 t109)).heap[g1]? = some (.cells #[.int .i64 0, .int .u64 0] 25 (0, 0))) := ⟨by refine pf_ ?_ N17.out; exact pkx B1⟩; have n1_ : Aside0 ((w21.setCell ⟨g7, 1, none⟩ (.int .u64 t109)).heap[g7]? = some (.cells #[.int .i64 x108000_1, .int .u64 t109] 25 (0, 0))) := ⟨by refine pp_ (cs := #[.int .i64 x108000_1, .int .u64 0]) 1 ?_ rfl; exact pkx B7⟩; have n2_ : Aside0 (Below w.heap.size w (w21.setCell ⟨g7, 1, none⟩ (.int .u64 t109))) := ⟨bl_⟩
         (try clear B1); (try clear B7); (try clear HB)
         generalize (w21.setCell ⟨g7, 1, none⟩ (.int .u64 t109)) = w32 at n0_ n1_ n2_ ⊢; have B1 := n0_; have B7 := n1_; have HB := n2_; clear n0_ n1_ n2_; (try (rw [drewN_self w32]; generalize hq_ : World.drewN w32 _ = w32; have n0_ : Aside0 (w32.heap[g1]? = some (.cells #[.int .i64 0, .int .u64 0] 25 (0, 0))) := ⟨by rw [← hq_]; exact (pkx B1)⟩; have n1_ : Aside0 (w32.heap[g7]? = some (.cells #[.int .i64 x108000_1, .int .u64 t109] 25 (0, 0))) := ⟨by rw [← hq_]; exact (pkx B7)⟩; have n2_ : Aside0 (Below w.heap.size w w32) := ⟨by rw [← hq_]; exact (pbx HB)⟩; clear B1 B7 HB hq_; have B1 := n0_; have B7 := n1_; have HB := n2_; clear n0_ n1_ n2_))
         replace B1 := A_ (blk_drew B1.out); replace B7 := A_ (blk_drew B7.out); replace HB := A_ (below_drew1 HB.out)
         refine start_ (n:=18) (S := fun w' => w'.cell? ⟨g7, 0, none⟩ = some (.int .i64 x108000_1) ∧ w'.cell? ⟨g7, 1, none⟩ = some (.int .u64 t109)) (ds := []) #[F,F,F,F,F,F,F,F,F,F,F,F,F,F,F,F,F,F] (by kernel_rfl) rfl rfl ⟨bc_ B7 0 rfl, bc_ B7 1 rfl⟩ (fun hHeld => ?_); refine with_tabW label_Parse.tab13 label_Parse.bits13 (fun HT_ HW_ => ?_)
         generalize w32.drew = w33 at B1 B7 HB hHeld ⊢; refine pure_ (i:=0) (N:=some 38) (v:=?_) (a':=?_) ⟨m_ 18 1⟩ rfl rfl (ao_ HT_) (fun _ _ _ h=>h) (Or.inl ⟨rfl, ?_⟩) ?_ ?_; rotate_left
         ·intro w'; go_simp; with_reducible rfl
         rotate_left
         ·simp only [q_, i64_w, i32_w]; rfl
         refine pure_ (i:=1) (N:=some 39) (v:=?_) (a':=?_) ⟨m_ 18 3⟩ rfl rfl (ao_ HT_) (fun _ _ _ h=>h) (Or.inl ⟨rfl, ?_⟩) ?_ ?_; rotate_left
         ·intro w'; go_simp; with_reducible rfl
         rotate_left
         ·simp only [q_, i64_w, i32_w]; rfl
         refine pure_ (i:=2) (N:=some 40) (v:=?_) (a':=?_) ⟨m_ 18 7⟩ rfl rfl (ao_ HT_) (fun _ _ _ h=>h) (Or.inl ⟨rfl, ?_⟩) ?_ ?_; rotate_left
         ·intro w'; go_simp; with_reducible rfl
         rotate_left
         ·simp only [q_, i64_w, i32_w]; rfl
         refine pure_ (i:=3) (N:=some 41) (v:=?_) (a':=?_) ⟨m_ 18 15⟩ rfl rfl (ao_ HT_) (fun _ _ _ h=>h) (Or.inl ⟨rfl, ?_⟩) ?_ ?_; rotate_left
         ·intro w'; go_simp; with_reducible rfl
         rotate_left
         ·simp only [q_, i64_w, i32_w]; rfl
         refine take_ (i:=4) (N:=some 42) (v:=?_) (a':=?_) ⟨m_ 18 31⟩ rfl rfl (tw_ HT_ HW_) (fun _ _ _ h=>h) (Or.inl ⟨rfl, ?_⟩) hHeld ?_ ?_; rotate_left
         ·rintro w' ⟨s0, s1⟩; go_simp; with_reducible rfl
         rotate_left
         ·simp only [q_, i64_w, i32_w]; rfl
         refine pure_ (i:=5) (N:=some 43) (v:=?_) (a':=?_) ⟨m_ 18 63⟩ rfl rfl (ao_ HT_) (fun _ _ _ h=>h) (Or.inl ⟨rfl, ?_⟩) ?_ ?_; rotate_left
         ·intro w'; go_simp; with_reducible rfl
         rotate_left
         ·simp only [q_, i64_w, i32_w]; rfl
         refine pure_ (i:=6) (N:=some 44) (v:=?_) (a':=?_) ⟨m_ 18 127⟩ rfl rfl (ao_ HT_) (fun _ _ _ h=>h) (Or.inl ⟨rfl, ?_⟩) ?_ ?_; rotate_left
         ·intro w'; go_simp; with_reducible rfl
         rotate_left
         ·simp only [q_, i64_w, i32_w]; rfl
         refine pure_ (i:=7) (N:=some 45) (v:=?_) (a':=?_) ⟨m_ 18 255⟩ rfl rfl (ao_ HT_) (fun _ _ _ h=>h) (Or.inl ⟨rfl, ?_⟩) ?_ ?_; rotate_left
         ·intro w'; go_simp; with_reducible rfl
         rotate_left
         ·simp only [q_, i64_w, i32_w]; rfl
         refine pure_ (i:=8) (N:=some 46) (v:=?_) (a':=?_) ⟨m_ 18 511⟩ rfl rfl (ao_ HT_) (fun _ _ _ h=>h) (Or.inl ⟨rfl, ?_⟩) ?_ ?_; rotate_left
         ·intro w'; go_simp; with_reducible rfl
         rotate_left
         ·simp only [q_, i64_w, i32_w]; rfl
         refine pure_ (i:=9) (N:=some 47) (v:=?_) (a':=?_) ⟨m_ 18 1023⟩ rfl rfl (ao_ HT_) (fun _ _ _ h=>h) (Or.inl ⟨rfl, ?_⟩) ?_ ?_; rotate_left
         ·intro w'; go_simp; with_reducible rfl
         rotate_left
         ·simp only [q_, i64_w, i32_w]; rfl
         refine pure_ (i:=10) (N:=some 48) (v:=?_) (a':=?_) ⟨m_ 18 2047⟩ rfl rfl (ao_ HT_) (fun _ _ _ h=>h) (Or.inl ⟨rfl, ?_⟩) ?_ ?_; rotate_left
         ·intro w'; go_simp; with_reducible rfl
         rotate_left
         ·simp only [q_, i64_w, i32_w]; rfl
         refine pure_ (i:=11) (N:=some 49) (v:=?_) (a':=?_) ⟨m_ 18 4095⟩ rfl rfl (ao_ HT_) (fun _ _ _ h=>h) (Or.inl ⟨rfl, ?_⟩) ?_ ?_; rotate_left
         ·intro w'; go_simp; with_reducible rfl
         rotate_left
         ·simp only [q_, i64_w, i32_w]; rfl
         refine pure_ (i:=12) (N:=some 50) (v:=?_) (a':=?_) ⟨m_ 18 8191⟩ rfl rfl (ao_ HT_) (fun _ _ _ h=>h) (Or.inl ⟨rfl, ?_⟩) ?_ ?_; rotate_left
         ·intro w'; go_simp; with_reducible rfl
         rotate_left
         ·simp only [q_, i64_w, i32_w]; rfl
         refine pure_ (i:=13) (N:=some 51) (v:=?_) (a':=?_) ⟨m_ 18 16383⟩ rfl rfl (ao_ HT_) (fun _ _ _ h=>h) (Or.inl ⟨rfl, ?_⟩) ?_ ?_; rotate_left
         ·intro w'; go_simp; with_reducible rfl
         rotate_left
         ·simp only [q_, i64_w, i32_w]; rfl
         refine take_ (i:=14) (N:=some 52) (v:=?_) (a':=?_) ⟨m_ 18 32767⟩ rfl rfl (tw_ HT_ HW_) (fun _ _ _ h=>h) (Or.inl ⟨rfl, ?_⟩) hHeld ?_ ?_; rotate_left
         ·rintro w' ⟨s0, s1⟩; go_simp; with_reducible rfl
         rotate_left
         ·simp only [q_, i64_w, i32_w]; rfl
         refine one_ (i:=15) (N:=some 53) ⟨m_ 18 65535⟩ rfl rfl (oo_ HT_) (by decide) (fun K hK => ?_); refine goes_ Tryd.func33 (by kernel_rfl) rfl #[] (by rfl) rfl rfl ha_ ?_; with_reducible refine (label_Top.calls  t111 t112 _ A31.out).mono ?_; rintro e w34 ⟨rfl, hb⟩; refine ⟨_, rfl, ?_⟩
         replace B1 := bb_ B1 hb; replace B7 := bb_ B7 hb; replace HB := bs_ HB hb; (try clear hb); refine hK.out _ _ ⟨bc_ B7 0 rfl, bc_ B7 1 rfl⟩ (fun hHeld => ?_); clear hK K; refine norm_ (a':=?_) ?_ ?_; rotate_left
         ·show Act.put _ (some 53) _ = _; simp only [q_, i64_w, i32_w]; rfl
         refine pure_ (i:=16) (N:=some 54) (v:=?_) (a':=?_) ⟨m_ 18 131071⟩ rfl rfl (ao_ HT_) (fun _ _ _ h=>h) (Or.inl ⟨rfl, ?_⟩) ?_ ?_; rotate_left
         ·intro w'; go_simp; with_reducible rfl
         rotate_left
         ·simp only [q_, i64_w, i32_w]; rfl
         refine pure_ (i:=17) (N:=some 55) (v:=?_) (a':=?_) ⟨m_ 18 262143⟩ rfl rfl (ao_ HT_) (fun _ _ _ h=>h) (Or.inl ⟨rfl, ?_⟩) ?_ ?_; rotate_left
         ·intro w'; go_simp; with_reducible rfl
         rotate_left
         ·simp only [q_, i64_w, i32_w]; rfl
         refine done_ (done_of HT_.out (by kernel_rfl)) ?_
         try go_wp2
         go_meet
         case rel => exact ⟨_, ((x108000_1 == t111 && (t109 == t112))), (by first | rfl | (simp; done) | (simp [*]; done) | (cases t111 <;> simp; done) | (cases t109 <;> simp; done) | (cases t112 <;> simp; done)), H', ⟨by have := HK1.out; first | omega | exact Nat.le_refl _⟩, ⟨pkx B1⟩, ⟨pkx B7⟩, ⟨pbx HB⟩⟩
      ·replace c24 := Bool.eq_false_iff.mpr c24; subst c24
       replace H := ie_ H
       have H' := A_ H
       clear H
       try go_wp2
       have n0_ : Aside0 ((w21.setCell ⟨g7, 1, none⟩ (.int .u64 t109)).heap[g1]? = some (.cells #[.int .i64 0, .int .u64 0] 25 (0, 0))) := ⟨by refine pf_ ?_ N17.out; exact pkx B1⟩; have n1_ : Aside0 ((w21.setCell ⟨g7, 1, none⟩ (.int .u64 t109)).heap[g7]? = some (.cells #[.int .i64 x108000_1, .int .u64 t109] 25 (0, 0))) := ⟨by refine pp_ (cs := #[.int .i64 x108000_1, .int .u64 0]) 1 ?_ rfl; exact pkx B7⟩; have n2_ : Aside0 (Below w.heap.size w (w21.setCell ⟨g7, 1, none⟩ (.int .u64 t109))) := ⟨bl_⟩
       (try clear B1); (try clear B7); (try clear HB)
       generalize (w21.setCell ⟨g7, 1, none⟩ (.int .u64 t109)) = w35 at n0_ n1_ n2_ ⊢; have B1 := n0_; have B7 := n1_; have HB := n2_; clear n0_ n1_ n2_; (try (rw [drewN_self w35]; generalize hq_ : World.drewN w35 _ = w35; have n0_ : Aside0 (w35.heap[g1]? = some (.cells #[.int .i64 0, .int .u64 0] 25 (0, 0))) := ⟨by rw [← hq_]; exact (pkx B1)⟩; have n1_ : Aside0 (w35.heap[g7]? = some (.cells #[.int .i64 x108000_1, .int .u64 t109] 25 (0, 0))) := ⟨by rw [← hq_]; exact (pkx B7)⟩; have n2_ : Aside0 (Below w.heap.size w w35) := ⟨by rw [← hq_]; exact (pbx HB)⟩; clear B1 B7 HB hq_; have B1 := n0_; have B7 := n1_; have HB := n2_; clear n0_ n1_ n2_))
       replace B1 := A_ (blk_drew B1.out); replace B7 := A_ (blk_drew B7.out); replace HB := A_ (below_drew1 HB.out)
       refine start_ (n:=18) (S := fun w' => True) (ds := []) #[F,F,F,F,F,F,F,F,F,F,F,F,F,F,F,F,F,F] (by kernel_rfl) rfl rfl trivial (fun hHeld => ?_); refine with_tabW label_Parse.tab13 label_Parse.bits13 (fun HT_ HW_ => ?_)
       generalize w35.drew = w36 at B1 B7 HB hHeld ⊢; refine pure_ (i:=0) (N:=some 38) (v:=?_) (a':=?_) ⟨m_ 18 1⟩ rfl rfl (ao_ HT_) (fun _ _ _ h=>h) (Or.inl ⟨rfl, ?_⟩) ?_ ?_; rotate_left
       ·intro w'; go_simp; with_reducible rfl
       rotate_left
       ·simp only [q_, i64_w, i32_w]; rfl
       refine pure_ (i:=1) (N:=some 39) (v:=?_) (a':=?_) ⟨m_ 18 3⟩ rfl rfl (ao_ HT_) (fun _ _ _ h=>h) (Or.inl ⟨rfl, ?_⟩) ?_ ?_; rotate_left
       ·intro w'; go_simp; with_reducible rfl
       rotate_left
       ·simp only [q_, i64_w, i32_w]; rfl
       refine pure_ (i:=2) (N:=some 40) (v:=?_) (a':=?_) ⟨m_ 18 7⟩ rfl rfl (ao_ HT_) (fun _ _ _ h=>h) (Or.inl ⟨rfl, ?_⟩) ?_ ?_; rotate_left
       ·intro w'; go_simp; with_reducible rfl
       rotate_left
       ·simp only [q_, i64_w, i32_w]; rfl
       refine pure_ (i:=3) (N:=some 41) (v:=undef) (a':=?_) ⟨m_ 18 15⟩ rfl rfl (ao_ HT_) (fun _ _ _ h=>h) (Or.inr ⟨by rfl, rfl⟩) ?_ ?_; rotate_left
       ·simp only [q_, i64_w, i32_w]; rfl
       refine pure_ (i:=4) (N:=some 42) (v:=undef) (a':=?_) ⟨m_ 18 31⟩ rfl rfl (ao_ HT_) (fun _ _ _ h=>h) (Or.inr ⟨by rfl, rfl⟩) ?_ ?_; rotate_left
       ·simp only [q_, i64_w, i32_w]; rfl
       refine pure_ (i:=5) (N:=some 43) (v:=undef) (a':=?_) ⟨m_ 18 63⟩ rfl rfl (ao_ HT_) (fun _ _ _ h=>h) (Or.inr ⟨by rfl, rfl⟩) ?_ ?_; rotate_left
       ·simp only [q_, i64_w, i32_w]; rfl
       refine pure_ (i:=6) (N:=some 44) (v:=?_) (a':=?_) ⟨m_ 18 127⟩ rfl rfl (ao_ HT_) (fun _ _ _ h=>h) (Or.inl ⟨rfl, ?_⟩) ?_ ?_; rotate_left
       ·intro w'; go_simp; with_reducible rfl
       rotate_left
       ·simp only [q_, i64_w, i32_w]; rfl
       refine pure_ (i:=7) (N:=some 45) (v:=?_) (a':=?_) ⟨m_ 18 255⟩ rfl rfl (ao_ HT_) (fun _ _ _ h=>h) (Or.inl ⟨rfl, ?_⟩) ?_ ?_; rotate_left
       ·intro w'; go_simp; with_reducible rfl
       rotate_left
       ·simp only [q_, i64_w, i32_w]; rfl
       refine pure_ (i:=8) (N:=some 46) (v:=undef) (a':=?_) ⟨m_ 18 511⟩ rfl rfl (ao_ HT_) (fun _ _ _ h=>h) (Or.inr ⟨by rfl, rfl⟩) ?_ ?_; rotate_left
       ·simp only [q_, i64_w, i32_w]; rfl
       refine pure_ (i:=9) (N:=some 47) (v:=undef) (a':=?_) ⟨m_ 18 1023⟩ rfl rfl (ao_ HT_) (fun _ _ _ h=>h) (Or.inr ⟨by rfl, rfl⟩) ?_ ?_; rotate_left
       ·simp only [q_, i64_w, i32_w]; rfl
       refine pure_ (i:=10) (N:=some 48) (v:=undef) (a':=?_) ⟨m_ 18 2047⟩ rfl rfl (ao_ HT_) (fun _ _ _ h=>h) (Or.inr ⟨by rfl, rfl⟩) ?_ ?_; rotate_left
       ·simp only [q_, i64_w, i32_w]; rfl
       refine pure_ (i:=11) (N:=some 49) (v:=undef) (a':=?_) ⟨m_ 18 4095⟩ rfl rfl (ao_ HT_) (fun _ _ _ h=>h) (Or.inr ⟨by rfl, rfl⟩) ?_ ?_; rotate_left
       ·simp only [q_, i64_w, i32_w]; rfl
       refine pure_ (i:=12) (N:=some 50) (v:=?_) (a':=?_) ⟨m_ 18 8191⟩ rfl rfl (ao_ HT_) (fun _ _ _ h=>h) (Or.inl ⟨rfl, ?_⟩) ?_ ?_; rotate_left
       ·intro w'; go_simp; with_reducible rfl
       rotate_left
       ·simp only [q_, i64_w, i32_w]; rfl
       refine pure_ (i:=13) (N:=some 51) (v:=?_) (a':=?_) ⟨m_ 18 16383⟩ rfl rfl (ao_ HT_) (fun _ _ _ h=>h) (Or.inl ⟨rfl, ?_⟩) ?_ ?_; rotate_left
       ·intro w'; go_simp; with_reducible rfl
       rotate_left
       ·simp only [q_, i64_w, i32_w]; rfl
       refine pure_ (i:=14) (N:=some 52) (v:=undef) (a':=?_) ⟨m_ 18 32767⟩ rfl rfl (ao_ HT_) (fun _ _ _ h=>h) (Or.inr ⟨by rfl, rfl⟩) ?_ ?_; rotate_left
       ·simp only [q_, i64_w, i32_w]; rfl
       refine pure_ (i:=15) (N:=some 53) (v:=undef) (a':=?_) ⟨m_ 18 65535⟩ rfl rfl (ao_ HT_) (fun _ _ _ h=>h) (Or.inr ⟨by rfl, rfl⟩) ?_ ?_; rotate_left
       ·simp only [q_, i64_w, i32_w]; rfl
       refine pure_ (i:=16) (N:=some 54) (v:=undef) (a':=?_) ⟨m_ 18 131071⟩ rfl rfl (ao_ HT_) (fun _ _ _ h=>h) (Or.inr ⟨by rfl, rfl⟩) ?_ ?_; rotate_left
       ·simp only [q_, i64_w, i32_w]; rfl
       refine pure_ (i:=17) (N:=some 55) (v:=?_) (a':=?_) ⟨m_ 18 262143⟩ rfl rfl (ao_ HT_) (fun _ _ _ h=>h) (Or.inl ⟨rfl, ?_⟩) ?_ ?_; rotate_left
       ·intro w'; go_simp; with_reducible rfl
       rotate_left
       ·simp only [q_, i64_w, i32_w]; rfl
       refine done_ (done_of HT_.out (by kernel_rfl)) ?_
       try go_wp2
       go_meet
       case rel => exact ⟨_, (true), sq_, H', ⟨by have := HK1.out; first | omega | exact Nat.le_refl _⟩, ⟨pkx B1⟩, ⟨pkx B7⟩, ⟨pbx HB⟩⟩
     case rest =>
      clear HC20; (try clear c2); obtain ⟨kq, x55_19, rfl, HA, HJ19, B1, B7, HB⟩ := hcut
      cases kq with
      | zero => exact absurd HA.out (by simp [label_Parse.j1])
      | succ kj19 =>
       have H := HA.out; clear HA
       simp only [label_Parse.j1] at H
       by_cases c37 : x55_19 = true
       ·subst c37
        replace H := it_ H
        simp only [Option.some.injEq, Prod.mk.injEq] at H
        obtain ⟨rfl, rfl, rfl⟩ := H; have hnb38 := N17.out; have hnc38 := N71.out
        have ⟨hcz39_0,hcz39_1,hfz39_0,hfz39_1⟩ := z2_ B1
        go_wp2
        refine bodyPost_ret (results_ct rfl _ _ g1 25 #[.int .i64 0, .int .u64 0] (0, 0) _ rfl (by refine pp_ (cs := #[.int .i64 0, .int .u64 0]) 1 ?_ rfl; refine blk_put (cs := #[.int .i64 0, .int .u64 0]) ?_ 0 _ rfl; exact pkx B1) Tryd.underlying25 rfl (by kernel_rfl)) rfl ?_
        exact fi_ bl_
       ·replace c37 := Bool.eq_false_iff.mpr c37; subst c37
        replace H := ie_ H
        simp only [Option.some.injEq, Prod.mk.injEq] at H
        obtain ⟨rfl, rfl, rfl⟩ := H; have hnb40 := N71.out; have hnc40 := N17.out
        have ⟨hcz41_0,hcz41_1,hfz41_0,hfz41_1⟩ := z2_ B7
        have ⟨hcz42_0,hcz42_1,hfz42_0,hfz42_1⟩ := z2_ B1
        go_wp2
        refine bodyPost_ret (results_ct rfl _ _ g1 25 #[.int .i64 x108000_1, .int .u64 t109] (0, 0) _ rfl (by refine pp_ (cs := #[.int .i64 x108000_1, .int .u64 0]) 1 ?_ rfl; refine blk_put (cs := #[.int .i64 0, .int .u64 0]) ?_ 0 _ rfl; exact pkx B1) Tryd.underlying25 rfl (by kernel_rfl)) rfl ?_
        exact fi_ bl_

end Go.Proofs.YtajoebfkkknjhaaDoor.X
namespace Go.Proofs.YtajoebfkkknjhaaDoor.X
open Go.RowKit Go.Proofs.YtajoebfkkknjhaaDoorW.PrintWords Go.Proofs.YtajoebfkkknjhaaDoorW.PrintLast Go.Proofs.YtajoebfkkknjhaaDoorW.PrintMore
attribute [local go_sem] max2_int min2_int max_two min_two max_three min_three max_four min_four
set_option linter.unusedVariables false
set_option linter.unusedSimpArgs false
def command_verb.l0 : Nat → ByteArray → Int → Option (Int)
 | 0, _, _ => none
 | k + 1, x0, x3 => if x3 ≤ 10 then ((command_word.f x3).bind fun t101 => (if t101.toList = x0.toList then (some x3) else (command_verb.l0 k x0 (wrap64 (x3 + 1))))) else (some 0)
def command_verb.f (k : Nat) (a0 : ByteArray) : Option (Int) := command_verb.l0 k a0 1
theorem command_verb.calls (k : Nat) (a0 : ByteArray) (r : Int) (w : World) (h : command_verb.f k a0 = some r) :
  Calls Tryd.prog 13 #[.string a0] w fun e w' => e = .returned (.int .i64 r) ∧ Drawn0 w w' := by
 have H : (command_verb.l0 k a0 1) = some r := h
 clear h
 have H' := A_ H
 clear H
 go_enter Tryd.func13, Tryd.ntmps13
 go_wp2
 go_loopg [3] k (fun kq v3 w' => ∃ (x3_1 : Int), v3 = .int .i64 x3_1 ∧ Aside0 (command_verb.l0 kq a0 x3_1 = some r) ∧ Aside0 (kq ≤ k) ∧ Drawn0 w w')
 case atStart => exact ⟨(1), sq_, H', ⟨Nat.le_refl _⟩, dr_⟩
 case round =>
  clear H'; obtain ⟨x3_1, rfl, HA, HK1, ⟨m1, rfl⟩⟩ := hrel
  cases gk with
  | zero => exact absurd HA.out (by simp [command_verb.l0])
  | succ k1 =>
   have H := HA.out; clear HA
   simp only [command_verb.l0] at H
   by_cases c2 : x3_1 ≤ 10
   ·rw [if_pos c2] at H; have c2b0 := decide_eq_true c2; clear c2; obtain ⟨t101, A3, H⟩ := bo_ H
    by_cases c4 : t101.toList = a0.toList
    ·rw [if_pos c4] at H; have ⟨c4b0,c4b1⟩ := e1_ c4; clear c4; obtain rfl := Option.some.inj H
     go_wp2_with (first | ((with_reducible refine gate_callee (f:=23) rfl ?_); refine gL_ (some 9) rfl rfl Tryd.func23 rfl #[.int .i64 x3_1] rfl ?_; (with_reducible refine (command_word.calls x3_1 t101 _ A3.out).mono ?_); rintro e w' ⟨rfl, ⟨nd, rfl⟩⟩; refine ⟨_, rfl, ?_⟩))
     go_ret
     exact ⟨by first | rfl | (simp; done) | (simp [*]; done), dr_⟩
    ·rw [if_neg c4] at H; have ⟨c4b0,c4b1⟩ := e0_ c4
     have H' := A_ H
     clear H
     go_wp2_with (first | ((with_reducible refine gate_callee (f:=23) rfl ?_); refine gL_ (some 9) rfl rfl Tryd.func23 rfl #[.int .i64 x3_1] rfl ?_; (with_reducible refine (command_word.calls x3_1 t101 _ A3.out).mono ?_); rintro e w' ⟨rfl, ⟨nd, rfl⟩⟩; refine ⟨_, rfl, ?_⟩))
     go_roundg k1
     case measure => have := HK1.out; omega
     case rel => exact ⟨(wrap64 (x3_1 + 1)), sq_, H', ⟨by have := HK1.out; omega⟩, dr_⟩
   ·rw [if_neg c2] at H; have c2b0 := decide_eq_false c2; clear c2; obtain rfl := Option.some.inj H
    go_wp2
    go_ret
    exact ⟨by first | rfl | (simp; done) | (simp [*]; done), dr_⟩

mutual
def right_Name.j0 : Nat → ByteArray → Bool → Option (Bool)
 | 0, _, _ => none
 | k + 1, x0, x16 => if x16 = true then (some false) else (right_Name.l0 k x0 (x0.size : Int) 0)
def right_Name.l0 : Nat → ByteArray → Int → Int → Option (Bool)
 | 0, _, _, _ => none
 | k + 1, x0, x18, x19 => if x19 < x18 then (if 0 ≤ x19 then (if x19 < (x0.size : Int) then (if (bt x0 x19) < 97 then (if (bt x0 x19) < 48 then (some false) else (if (bt x0 x19) > 57 then (some false) else (right_Name.l0 k x0 x18 (wrap64 (x19 + 1))))) else (if (bt x0 x19) > 122 then (if (bt x0 x19) < 48 then (some false) else (if (bt x0 x19) > 57 then (some false) else (right_Name.l0 k x0 x18 (wrap64 (x19 + 1))))) else (right_Name.l0 k x0 x18 (wrap64 (x19 + 1))))) else (none)) else (none)) else (some true)
end
def right_Name.f (k : Nat) (a0 : ByteArray) : Option (Bool) := if (a0.size : Int) < 1 then (right_Name.j0 k a0 true) else (if (a0.size : Int) > 16 then (right_Name.j0 k a0 true) else (if 0 < (a0.size : Int) then (right_Name.j0 k a0 (decide ((bt a0 0) < 97))) else (none)))
theorem right_Name.calls (k : Nat) (a0 : ByteArray) (r : Bool) (w : World) (h : right_Name.f k a0 = some r) :
  Calls Tryd.prog 14 #[.string a0] w fun e w' => e = .returned (.bool r) ∧ Drawn0 w w' := by
 have H : (if (a0.size : Int) < 1 then (right_Name.j0 k a0 true) else (if (a0.size : Int) > 16 then (right_Name.j0 k a0 true) else (if 0 < (a0.size : Int) then (right_Name.j0 k a0 (decide ((bt a0 0) < 97))) else (none)))) = some r := h
 clear h; have HC2 := A_ H; clear H
 go_enter Tryd.func14, Tryd.ntmps14
 go_upto_region 1 with (fail)
 go_cut [16] (fun v16 wc => ∃ (kq : Nat) (x16_1 : Bool), v16 = .bool x16_1 ∧ Aside0 (right_Name.j0 kq a0 x16_1 = some r) ∧ Aside0 (kq ≤ k) ∧ Drawn0 w wc)
 case first =>
  have H := HC2.out; clear HC2
  by_cases c3 : (a0.size : Int) < 1
  ·rw [if_pos c3] at H; have c3b0 := decide_eq_true c3; have c3b1 : decide (a0.size < 1) = true := decide_eq_true (by omega); clear c3; (first | rw [c3b0] | (simp only [i64_w, i32_w]; rw [c3b0]) | skip)
   have H' := A_ H
   clear H
   go_wp2
   go_meet
   case rel => exact ⟨_, (true), sq_, H', le_, dr_⟩
  ·rw [if_neg c3] at H; have c3b0 := decide_eq_false c3; have c3b1 : decide (a0.size < 1) = false := decide_eq_false (by omega); clear c3; (first | rw [c3b0] | (simp only [i64_w, i32_w]; rw [c3b0]) | skip)
   by_cases c4 : (a0.size : Int) > 16
   ·rw [if_pos c4] at H; have c4b0 := decide_eq_true c4; have c4b1 : decide (16 < a0.size) = true := decide_eq_true (by omega); clear c4
    have H' := A_ H
    clear H
    go_wp2
    go_meet
    case rel => exact ⟨_, (true), sq_, H', le_, dr_⟩
   ·rw [if_neg c4] at H; have c4b0 := decide_eq_false c4; have c4b1 : decide (16 < a0.size) = false := decide_eq_false (by omega); clear c4
    by_cases c5 : 0 < (a0.size : Int)
    ·rw [if_pos c5] at H; have c5b0 := decide_eq_true c5; have c5b1 : decide (0 < a0.size) = true := decide_eq_true (by omega); clear c5
     have H' := A_ H
     clear H
     have p6 : 0 ≤ (0 : Int) := (by omega)
     have q6 : 0 < a0.size := (by have : (0 : Int) < (a0.size : Int) := of_decide_eq_true as_; omega)
     have hx6 : ∀ h : 0 < a0.size, ((a0[0]'h).toNat : Int) = bt a0 0 := bt_at a0 0
     clear p6; have qi6 : (0 < (a0.size : Int)) = True := eq_true (of_decide_eq_true as_); replace q6 := eq_true q6
     go_wp2
     go_meet
     case rel => exact ⟨_, (decide ((bt a0 0) < 97)), sq_, H', le_, dr_⟩
    ·rw [if_neg c5] at H
     exact absurd H (by simp)
 case rest =>
  clear HC2; obtain ⟨kq, x16_1, rfl, HA, HJ1, ⟨mc1, rfl⟩⟩ := hcut
  cases kq with
  | zero => exact absurd HA.out (by simp [right_Name.j0])
  | succ kj1 =>
   have H := HA.out; clear HA
   simp only [right_Name.j0] at H
   by_cases c7 : x16_1 = true
   ·subst c7
    replace H := it_ H; obtain rfl := Option.some.inj H
    go_wp2
    go_ret
    exact ⟨by first | rfl | (simp; done) | (simp [*]; done), dr_⟩
   ·replace c7 := Bool.eq_false_iff.mpr c7; subst c7
    replace H := ie_ H
    have H' := A_ H
    clear H
    go_wp2
    go_loopg [19] kj1 (fun kq v19 w' => ∃ (x19_2 : Int), v19 = .int .i64 x19_2 ∧ Aside0 (right_Name.l0 kq a0 (a0.size : Int) x19_2 = some r) ∧ Aside0 (kq ≤ kj1) ∧ Drawn0 w w')
    case atStart => exact ⟨(0), sq_, H', ⟨Nat.le_refl _⟩, dr_⟩
    case round =>
     clear H'; (try clear c7); obtain ⟨x19_2, rfl, HA, HK2, ⟨m2, rfl⟩⟩ := hrel
     cases gk with
     | zero => exact absurd HA.out (by simp [right_Name.l0])
     | succ k2 =>
      have H := HA.out; clear HA
      simp only [right_Name.l0] at H
      by_cases c8 : x19_2 < (a0.size : Int)
      ·rw [if_pos c8] at H; have c8b0 := decide_eq_true c8; clear c8
       by_cases c9 : 0 ≤ x19_2
       ·rw [if_pos c9] at H; have c9b0 := decide_eq_true c9; clear c9
        by_cases c10 : x19_2 < (a0.size : Int)
        ·rw [if_pos c10] at H; have c10b0 := decide_eq_true c10; clear c10
         by_cases c12 : (bt a0 x19_2) < 97
         ·rw [if_pos c12] at H; have c12b0 := decide_eq_true c12; clear c12
          by_cases c14 : (bt a0 x19_2) < 48
          ·rw [if_pos c14] at H; have c14b0 := decide_eq_true c14; clear c14; obtain rfl := Option.some.inj H
           have p11 : 0 ≤ (x19_2 : Int) := of_decide_eq_true as_
           have q11 : x19_2 < (a0.size : Int) := of_decide_eq_true as_
           have hx11 := bt_at a0 x19_2; replace p11 := eq_true p11; replace q11 := eq_true q11
           have p13 : 0 ≤ (x19_2 : Int) := of_decide_eq_true as_
           have q13 : x19_2 < (a0.size : Int) := of_decide_eq_true as_
           have hx13 := bt_at a0 x19_2; replace p13 := eq_true p13; replace q13 := eq_true q13
           go_wp2
           go_ret
           exact ⟨by first | rfl | (simp; done) | (simp [*]; done), dr_⟩
          ·rw [if_neg c14] at H; have c14b0 := decide_eq_false c14; clear c14
           by_cases c16 : (bt a0 x19_2) > 57
           ·rw [if_pos c16] at H; have c16b0 := decide_eq_true c16; clear c16; obtain rfl := Option.some.inj H
            have p11 : 0 ≤ (x19_2 : Int) := of_decide_eq_true as_
            have q11 : x19_2 < (a0.size : Int) := of_decide_eq_true as_
            have hx11 := bt_at a0 x19_2; replace p11 := eq_true p11; replace q11 := eq_true q11
            have p13 : 0 ≤ (x19_2 : Int) := of_decide_eq_true as_
            have q13 : x19_2 < (a0.size : Int) := of_decide_eq_true as_
            have hx13 := bt_at a0 x19_2; replace p13 := eq_true p13; replace q13 := eq_true q13
            have p15 : 0 ≤ (x19_2 : Int) := of_decide_eq_true as_
            have q15 : x19_2 < (a0.size : Int) := of_decide_eq_true as_
            have hx15 := bt_at a0 x19_2; replace p15 := eq_true p15; replace q15 := eq_true q15
            go_wp2
            go_ret
            exact ⟨by first | rfl | (simp; done) | (simp [*]; done), dr_⟩
           ·rw [if_neg c16] at H; have c16b0 := decide_eq_false c16; clear c16
            have H' := A_ H
            clear H
            have p11 : 0 ≤ (x19_2 : Int) := of_decide_eq_true as_
            have q11 : x19_2 < (a0.size : Int) := of_decide_eq_true as_
            have hx11 := bt_at a0 x19_2; replace p11 := eq_true p11; replace q11 := eq_true q11
            have p13 : 0 ≤ (x19_2 : Int) := of_decide_eq_true as_
            have q13 : x19_2 < (a0.size : Int) := of_decide_eq_true as_
            have hx13 := bt_at a0 x19_2; replace p13 := eq_true p13; replace q13 := eq_true q13
            have p15 : 0 ≤ (x19_2 : Int) := of_decide_eq_true as_
            have q15 : x19_2 < (a0.size : Int) := of_decide_eq_true as_
            have hx15 := bt_at a0 x19_2; replace p15 := eq_true p15; replace q15 := eq_true q15
            go_wp2
            go_roundg k2
            case measure => have := HJ1.out; have := HK2.out; omega
            case rel => exact ⟨(wrap64 (x19_2 + 1)), sq_, H', ⟨by have := HJ1.out; have := HK2.out; omega⟩, dr_⟩
         ·rw [if_neg c12] at H; have c12b0 := decide_eq_false c12; clear c12
          by_cases c18 : (bt a0 x19_2) > 122
          ·rw [if_pos c18] at H; have c18b0 := decide_eq_true c18; clear c18
           by_cases c20 : (bt a0 x19_2) < 48
           ·rw [if_pos c20] at H; have c20b0 := decide_eq_true c20; clear c20; obtain rfl := Option.some.inj H
            have p11 : 0 ≤ (x19_2 : Int) := of_decide_eq_true as_
            have q11 : x19_2 < (a0.size : Int) := of_decide_eq_true as_
            have hx11 := bt_at a0 x19_2; replace p11 := eq_true p11; replace q11 := eq_true q11
            have p17 : 0 ≤ (x19_2 : Int) := of_decide_eq_true as_
            have q17 : x19_2 < (a0.size : Int) := of_decide_eq_true as_
            have hx17 := bt_at a0 x19_2; replace p17 := eq_true p17; replace q17 := eq_true q17
            have p19 : 0 ≤ (x19_2 : Int) := of_decide_eq_true as_
            have q19 : x19_2 < (a0.size : Int) := of_decide_eq_true as_
            have hx19 := bt_at a0 x19_2; replace p19 := eq_true p19; replace q19 := eq_true q19
            go_wp2
            go_ret
            exact ⟨by first | rfl | (simp; done) | (simp [*]; done), dr_⟩
           ·rw [if_neg c20] at H; have c20b0 := decide_eq_false c20; clear c20
            by_cases c22 : (bt a0 x19_2) > 57
            ·rw [if_pos c22] at H; have c22b0 := decide_eq_true c22; clear c22; obtain rfl := Option.some.inj H
             have p11 : 0 ≤ (x19_2 : Int) := of_decide_eq_true as_
             have q11 : x19_2 < (a0.size : Int) := of_decide_eq_true as_
             have hx11 := bt_at a0 x19_2; replace p11 := eq_true p11; replace q11 := eq_true q11
             have p17 : 0 ≤ (x19_2 : Int) := of_decide_eq_true as_
             have q17 : x19_2 < (a0.size : Int) := of_decide_eq_true as_
             have hx17 := bt_at a0 x19_2; replace p17 := eq_true p17; replace q17 := eq_true q17
             have p19 : 0 ≤ (x19_2 : Int) := of_decide_eq_true as_
             have q19 : x19_2 < (a0.size : Int) := of_decide_eq_true as_
             have hx19 := bt_at a0 x19_2; replace p19 := eq_true p19; replace q19 := eq_true q19
             have p21 : 0 ≤ (x19_2 : Int) := of_decide_eq_true as_
             have q21 : x19_2 < (a0.size : Int) := of_decide_eq_true as_
             have hx21 := bt_at a0 x19_2; replace p21 := eq_true p21; replace q21 := eq_true q21
             go_wp2
             go_ret
             exact ⟨by first | rfl | (simp; done) | (simp [*]; done), dr_⟩
            ·rw [if_neg c22] at H; have c22b0 := decide_eq_false c22; clear c22
             have H' := A_ H
             clear H
             have p11 : 0 ≤ (x19_2 : Int) := of_decide_eq_true as_
             have q11 : x19_2 < (a0.size : Int) := of_decide_eq_true as_
             have hx11 := bt_at a0 x19_2; replace p11 := eq_true p11; replace q11 := eq_true q11
             have p17 : 0 ≤ (x19_2 : Int) := of_decide_eq_true as_
             have q17 : x19_2 < (a0.size : Int) := of_decide_eq_true as_
             have hx17 := bt_at a0 x19_2; replace p17 := eq_true p17; replace q17 := eq_true q17
             have p19 : 0 ≤ (x19_2 : Int) := of_decide_eq_true as_
             have q19 : x19_2 < (a0.size : Int) := of_decide_eq_true as_
             have hx19 := bt_at a0 x19_2; replace p19 := eq_true p19; replace q19 := eq_true q19
             have p21 : 0 ≤ (x19_2 : Int) := of_decide_eq_true as_
             have q21 : x19_2 < (a0.size : Int) := of_decide_eq_true as_
             have hx21 := bt_at a0 x19_2; replace p21 := eq_true p21; replace q21 := eq_true q21
             go_wp2
             go_roundg k2
             case measure => have := HJ1.out; have := HK2.out; omega
             case rel => exact ⟨(wrap64 (x19_2 + 1)), sq_, H', ⟨by have := HJ1.out; have := HK2.out; omega⟩, dr_⟩
          ·rw [if_neg c18] at H; have c18b0 := decide_eq_false c18; clear c18
           have H' := A_ H
           clear H
           have p11 : 0 ≤ (x19_2 : Int) := of_decide_eq_true as_
           have q11 : x19_2 < (a0.size : Int) := of_decide_eq_true as_
           have hx11 := bt_at a0 x19_2; replace p11 := eq_true p11; replace q11 := eq_true q11
           have p17 : 0 ≤ (x19_2 : Int) := of_decide_eq_true as_
           have q17 : x19_2 < (a0.size : Int) := of_decide_eq_true as_
           have hx17 := bt_at a0 x19_2; replace p17 := eq_true p17; replace q17 := eq_true q17
           go_wp2
           go_roundg k2
           case measure => have := HJ1.out; have := HK2.out; omega
           case rel => exact ⟨(wrap64 (x19_2 + 1)), sq_, H', ⟨by have := HJ1.out; have := HK2.out; omega⟩, dr_⟩
        ·rw [if_neg c10] at H
         exact absurd H (by simp)
       ·rw [if_neg c9] at H
        exact absurd H (by simp)
      ·rw [if_neg c8] at H; have c8b0 := decide_eq_false c8; clear c8; obtain rfl := Option.some.inj H
       go_wp2
       go_ret
       exact ⟨by first | rfl | (simp; done) | (simp [*]; done), dr_⟩

end Go.Proofs.YtajoebfkkknjhaaDoor.X
