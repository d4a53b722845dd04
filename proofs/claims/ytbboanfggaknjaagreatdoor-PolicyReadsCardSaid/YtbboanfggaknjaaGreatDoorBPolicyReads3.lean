/- Contracts of the functions that the law PolicyReads reaches, and what they answer (a session's own texts, joined; part 3). -/
import Derived.Shelf.Strings.BuilderK
import Derived.Shelf.Spec.TrailingZeros
import Derived.Test.YtbboanfggaknjaaGreatDoorBPolicyReads2
set_option maxHeartbeats 8000000
set_option maxRecDepth 100000
/- policy.Parse, walked. -/
set_option linter.unusedVariables false
set_option linter.unusedSimpArgs false
namespace Go.Proofs.YtbboanfggaknjaaGreatDoor.X
open Go.RowKit Go.Proofs.YtbboanfggaknjaaGreatDoorW.PrintWords Go.Proofs.YtbboanfggaknjaaGreatDoorW.PrintLast Go.Proofs.YtbboanfggaknjaaGreatDoorW.PrintMore
theorem cells5_ {W : World} {g : Nat} {t : TypeId} {a0 a1 a2 a3 a4 : Value} (h : W.heap[g]? = some (.cells #[a0, a1, a2, a3, a4] t (0, 0))) : W.cell? ⟨g, 0, none⟩ = some a0 ∧ W.cell? ⟨g, 1, none⟩ = some a1 ∧ W.cell? ⟨g, 2, none⟩ = some a2 ∧ W.cell? ⟨g, 3, none⟩ = some a3 ∧ W.cell? ⟨g, 4, none⟩ = some a4 := ⟨(blk_cell h 0).trans rfl, (blk_cell h 1).trans rfl, (blk_cell h 2).trans rfl, (blk_cell h 3).trans rfl, (blk_cell h 4).trans rfl⟩
def Ans7 (w w' : World) (en : Ending) (e n r c : Int) (zs : List S60) (us : List S62) (gs : List S64) : Prop :=
 ∃ vz vu vg, en = .returned (.tuple #[.agg #[.int .i64 r, .int .i64 c, vz, vu, vg], .int .i64 n, .int .i64 e]) ∧ k60.R 60 w' w.heap.size (fun _ => True) vz zs ∧ k62.R 62 w' w.heap.size (fun _ => True) vu us ∧ k64.R 64 w' w.heap.size (fun _ => True) vg gs ∧ Below w.heap.size w w'
theorem put5_ {W : World} {g t : Nat} {a0 a1 a2 a3 a4 : Value} (h : W.heap[g]? = some (.cells #[a0, a1, a2, a3, a4] t (0, 0))) (b0 b1 b2 b3 b4 : Value) : (((((W.setCell ⟨g, 0, none⟩ b0).setCell ⟨g, 1, none⟩ b1).setCell ⟨g, 2, none⟩ b2).setCell ⟨g, 3, none⟩ b3).setCell ⟨g, 4, none⟩ b4).heap[g]? = some (.cells #[b0, b1, b2, b3, b4] t (0, 0)) := by
 have h0 := blk_set h 0 b0
 have h1 := blk_set h0 1 b1
 have h2 := blk_set h1 2 b2
 have h3 := blk_set h2 3 b3
 have h4 := blk_set h3 4 b4
 simpa using h4
theorem below5_ {w W : World} {g : Nat} (h : Below w.heap.size w W) (hg : w.heap.size ≤ g) (b0 b1 b2 b3 b4 : Value) : Below w.heap.size w (((((W.setCell ⟨g, 0, none⟩ b0).setCell ⟨g, 1, none⟩ b1).setCell ⟨g, 2, none⟩ b2).setCell ⟨g, 3, none⟩ b3).setCell ⟨g, 4, none⟩ b4) := below_set (below_set (below_set (below_set (below_set h hg) hg) hg) hg) hg
theorem parse_long (a0 : ByteArray) (w : World) (h : (a0.size : Int) > 4000) :
  Calls Tryz.prog 5 #[.string a0] w fun en w' => Ans7 w w' en 3 0 0 0 [] [] [] := by
 have hu := Tryz.underlying27
 have hd1 : decide ((a0.size : Int) > 4000) = true := decide_eq_true h
 have hd2 : decide (4000 < a0.size) = true := decide_eq_true (by omega)
 clear h
 go_enter Tryz.func5, Tryz.ntmps5
 go_upto_region 1 with fail
 have HG := Aside0.mk (blk_new w (.cells #[.int .i64 0, .int .i64 0, .slice none 0 0, .slice none 0 0, .slice none 0 0] 27))
 have HB := Aside0.mk (new_below w (.cells #[.int .i64 0, .int .i64 0, .slice none 0 0, .slice none 0 0, .slice none 0 0] 27))
 generalize w.alloc (.cells #[.int .i64 0, .int .i64 0, .slice none 0 0, .slice none 0 0, .slice none 0 0] 27) = w1 at HG HB ⊢
 obtain ⟨z0, z1, z2, z3, z4⟩ := cells5_ HG.out
 have f0 := blk_frozen HG.out 0
 have f1 := blk_frozen HG.out 1
 have f2 := blk_frozen HG.out 2
 have f3 := blk_frozen HG.out 3
 have f4 := blk_frozen HG.out 4
 go_wp2
 refine bodyPost_ret (results_ctt rfl _ _ w.heap.size 27 _ (0, 0) _ rfl (put5_ HG.out _ _ _ _ _) hu rfl (by kernel_rfl)) rfl ?_
 exact ⟨_, _, _, rfl, Kd.R_nil _ _ _ _ _, Kd.R_nil _ _ _ _ _, Kd.R_nil _ _ _ _ _, below5_ HB.out (Nat.le_refl _) _ _ _ _ _⟩
def Rel7 (k : Nat) (w0 : World) (g kq : Nat) (v6 v7 v8 : Value) (w' : World) (R : T7) : Prop :=
 ∃ (last : Int) (n : Nat) (rest : ByteArray) (r c : Int) (vz vu vg : Value) (zs : List S60) (us : List S62) (gs : List S64), v6 = .int .i64 last ∧ v7 = .int .i64 (n : Int) ∧ v8 = .string rest ∧ Aside0 (IsP w0 w' g r c vz vu vg zs us gs) ∧ Aside0 (policy_Parse.l k kq last n rest r c zs us gs = some R) ∧ Aside0 (kq ≤ k)
theorem par_ways (ended : Bool) (kind : Int) (n : Nat) (last : Int) :
  (bad7 ended kind n last ∧ ended = false) ∨ (bad7 ended kind n last ∧ ended = true ∧ kind = 4) ∨
  (bad7 ended kind n last ∧ ended = true ∧ ¬ kind = 4 ∧ (kind == 4) = false ∧ ¬ (((n : Int) + 1 == 1) = (kind == 0))) ∨
  (bad7 ended kind n last ∧ ended = true ∧ ¬ kind = 4 ∧ (kind == 4) = false ∧ ((n : Int) + 1 == 1) = (kind == 0) ∧ 1 < (n : Int) + 1 ∧ kind < last) ∨
  (¬ bad7 ended kind n last ∧ ended = true ∧ ¬ kind = 4 ∧ (kind == 4) = false ∧ ((n : Int) + 1 == 1) = (kind == 0) ∧ 1 < (n : Int) + 1 ∧ ¬ kind < last) ∨
  (¬ bad7 ended kind n last ∧ ended = true ∧ ¬ kind = 4 ∧ (kind == 4) = false ∧ ((n : Int) + 1 == 1) = (kind == 0) ∧ ¬ 1 < (n : Int) + 1) := by
 have e0 : ((n : Int) + 1 == 1) = decide (n = 0) := by rw [Bool.eq_iff_iff]; simp only [beq_iff_eq, decide_eq_true_eq]; omega
 have e1 : (kind == 0) = decide (kind = 0) := rfl
 have e2 : ((n : Int) + 1 == 1) = (kind == 0) ↔ (n = 0 ↔ kind = 0) := by rw [e0, e1, decide_eq_decide]
 have e4 : (kind == 4) = false ↔ ¬ kind = 4 := by simp
 rw [e2, e4]
 unfold bad7
 cases ended with
 | false => exact Or.inl ⟨Or.inl rfl, rfl⟩
 | true =>
  by_cases h4 : kind = 4
  ·exact Or.inr (Or.inl ⟨Or.inr (Or.inl h4), rfl, h4⟩)
  ·by_cases hm : (n = 0 ↔ kind = 0)
   ·by_cases hn : 0 < n
    ·by_cases hl : kind < last
     ·exact Or.inr (Or.inr (Or.inr (Or.inl ⟨Or.inr (Or.inr (Or.inr ⟨hn, hl⟩)), rfl, h4, h4, hm, by omega, hl⟩)))
     ·exact Or.inr (Or.inr (Or.inr (Or.inr (Or.inl ⟨by rintro (h | h | h | h); cases h; exact h4 h; exact h hm; exact hl h.2, rfl, h4, h4, hm, by omega, hl⟩))))
    ·exact Or.inr (Or.inr (Or.inr (Or.inr (Or.inr ⟨by rintro (h | h | h | h); cases h; exact h4 h; exact h hm; exact hn h.1, rfl, h4, h4, hm, by omega⟩))))
   ·exact Or.inr (Or.inr (Or.inl ⟨Or.inr (Or.inr (Or.inl hm)), rfl, h4, h4, hm⟩))
theorem R_set5 {α : Type} {d : Kd α} {e b : Nat} {w : World} {ok : Nat → Prop} {v : Value} {xs : List α} {g t : Nat} {cs : Array Value} (h : d.R e w b ok v xs) (hP : w.heap[g]? = some (.cells cs t (0, 0))) (ht : ∀ q, q ∈ e :: d.E → q ≠ t) (b0 b1 b2 b3 b4 : Value) : d.R e (((((w.setCell ⟨g, 0, none⟩ b0).setCell ⟨g, 1, none⟩ b1).setCell ⟨g, 2, none⟩ b2).setCell ⟨g, 3, none⟩ b3).setCell ⟨g, 4, none⟩ b4) b ok v xs := by
 have h0 := blk_set hP 0 b0
 have h1 := blk_set h0 1 b1
 have h2 := blk_set h1 2 b2
 have h3 := blk_set h2 3 b3
 exact Kd.R_set (Kd.R_set (Kd.R_set (Kd.R_set (Kd.R_set h hP ht 0 b0) h0 ht 1 b1) h1 ht 2 b2) h2 ht 3 b3) h3 ht 4 b4
theorem beq_dec (a b : Int) : ((a == b) = true ∧ (a != b) = false ∧ a = b) ∨ ((a == b) = false ∧ (a != b) = true ∧ ¬ a = b) := by
 by_cases h : a = b
 ·exact Or.inl ⟨beq_iff_eq.mpr h, bne_eq_false_iff_eq.mpr h, h⟩
 ·exact Or.inr ⟨beq_eq_false_iff_ne.mpr h, bne_iff_ne.mpr h, h⟩
theorem tab7 {w w1 w2 : World} {g : Nat} {r c : Int} {vz vu vg : Value} {zs : List S60} {us : List S62} {gs : List S64} (hT : Aside0 (Tab w)) (hb : Aside0 (Below w.heap.size w w1)) (hI : Aside0 (IsP w1 w2 g r c vz vu vg zs us gs)) : Tab w2 := (hT.out.below hb.out).below hI.out.hB
theorem parse_short (k : Nat) (a0 : ByteArray) (e9 n9 r9 c9 : Int) (zs9 : List S60) (us9 : List S62) (gs9 : List S64) (w : World) (hT : Aside0 (Tab w)) (h : ¬ (a0.size : Int) > 4000) (H0 : policy_Parse.l k k 4 0 a0 0 0 [] [] [] = some (e9, n9, r9, c9, zs9, us9, gs9)) :
  Calls Tryz.prog 5 #[.string a0] w fun en w' => Ans7 w w' en e9 n9 r9 c9 zs9 us9 gs9 := by
 have HL := Aside0.mk H0
 clear H0
 have hu := Tryz.underlying27
 have hd1 : decide ((a0.size : Int) > 4000) = false := decide_eq_false h
 have hd2 : decide (4000 < a0.size) = false := decide_eq_false (by omega)
 clear h
 go_enter Tryz.func5, Tryz.ntmps5
 go_upto_region 1 with fail
 have HG := Aside0.mk (blk_new w (.cells #[.int .i64 0, .int .i64 0, .slice none 0 0, .slice none 0 0, .slice none 0 0] 27))
 have HB := Aside0.mk (new_below w (.cells #[.int .i64 0, .int .i64 0, .slice none 0 0, .slice none 0 0, .slice none 0 0] 27))
 generalize w.alloc (.cells #[.int .i64 0, .int .i64 0, .slice none 0 0, .slice none 0 0, .slice none 0 0] 27) = w1 at HG HB ⊢
 obtain ⟨g1, hg1⟩ : ∃ g1, w.heap.size = g1 := ⟨_, rfl⟩
 have HG1 : Aside0 (w.heap.size ≤ g1) := Aside0.mk (by omega)
 rw [hg1] at HG ⊢
 clear hg1
 go_upto_region 4 with fail
 have HI : Aside0 (IsP w1 _ _ 0 0 (.slice none 0 0) (.slice none 0 0) (.slice none 0 0) [] [] []) := Aside0.mk ⟨blk_new w1 (.cells #[.int .i64 0, .int .i64 0, .slice none 0 0, .slice none 0 0, .slice none 0 0] 27), Nat.le_refl _, Kd.R_nil _ _ _ _ _, Kd.R_nil _ _ _ _ _, Kd.R_nil _ _ _ _ _, new_below w1 _⟩
 generalize w1.alloc (.cells #[.int .i64 0, .int .i64 0, .slice none 0 0, .slice none 0 0, .slice none 0 0] 27) = w2 at HI ⊢
 generalize w1.heap.size = g2 at HI ⊢
 go_wp2
 go_loopg [6, 7, 8] k (fun kq v6 v7 v8 w' => Rel7 k w1 g2 kq v6 v7 v8 w' (e9, n9, r9, c9, zs9, us9, gs9))
 case atStart => exact ⟨_, 0, _, _, _, _, _, _, _, _, _, rfl, rfl, rfl, HI, HL, ⟨Nat.le_refl _⟩⟩
 case round =>
  obtain ⟨last, n, rest, r, c, vz, vu, vg, zs, us, gs, rfl, rfl, rfl, HI, HL, HK⟩ := hrel
  cases gk with
  | zero => exact absurd HL.out (by simp [policy_Parse.l])
  | succ k1 =>
   have H := HL.out
   clear HL
   simp only [policy_Parse.l] at H
   by_cases c1 : rest.toList ≠ [] ∨ n = 0
   ·rw [if_pos c1] at H
    by_cases c2 : n < 100000
    ·rw [if_pos c2] at H
     obtain ⟨⟨hd, tl, ended⟩, A1, H⟩ := Option.bind_eq_some_iff.mp H
     obtain ⟨ws, A2, H⟩ := Option.bind_eq_some_iff.mp H
     obtain ⟨⟨kind, r1, c1', zs1, us1, gs1⟩, A3, H⟩ := Option.bind_eq_some_iff.mp H
     replace H : (if bad7 ended kind n last then some (1, ((n : Int) + 1), 0, 0, [], [], []) else policy_Parse.l k k1 kind (n + 1) tl r1 c1' zs1 us1 gs1) = some (e9, n9, r9, c9, zs9, us9, gs9) := H
     have H4 := Aside0.mk H
     have HA1 := Aside0.mk A1
     have HA2 := Aside0.mk A2
     have HA3 := Aside0.mk A3
     clear H A1 A2 A3
     have hn1 : (n : Int) ≤ 100000 := by omega
     have HT := Aside0.mk (tab7 hT HB HI)
     have HE : Aside0 (rest.toList ≠ [] ∨ (rest.toList = [] ∧ ((n : Int) == 0) = true)) := ⟨by
      by_cases h : rest.toList = []
      ·exact Or.inr ⟨h, beq_iff_eq.mpr (by rcases c1 with c1 | c1; exact absurd h c1; omega)⟩
      ·exact Or.inl h⟩
     clear c1 c2
     have HP := Aside0.mk (par_ways ended kind n last)
     rcases HE.out with t1 | ⟨t1, t2⟩
     all_goals
      clear HE
      go_upto_block 1 with fail
      go_upto_region 10 with (first
       | (go_at_call 10; (with_reducible refine (strings_Cut.calls rest ⟨#[10]⟩ hd tl ended _ HA1.out).mono ?_); rintro e w5 ⟨rfl, hdr⟩; have HI5 := Aside0.mk (HI.out.below hdr.below); have HT5 := tb_ hdr.below HT; clear hdr)
       | (go_at_call 12; (with_reducible refine (strings_Split.calls hd ⟨#[32]⟩ ws _ HA2.out).mono ?_); rintro e w6 ⟨v6, rfl, hR, hb⟩; obtain ⟨A6, cap6, rfl⟩ := Kd.R_slice hR; have HI6 := Aside0.mk (HI5.out.below hb); have HT6 := tb_ hb HT5; have HR6 := Aside0.mk hR; have HC6 := Aside0.mk (Kd.R_reads' hR).2.1; clear hb hR)
       | (go_at_call 11; (with_reducible refine (policy_add.calls k g2 r c vz vu vg zs us gs A6 cap6 ws _ kind r1 c1' zs1 us1 gs1 w1 _ HT6 HI6 HR6 HC6.out HA3.out).mono ?_); rintro e w7 ⟨rfl, vz1, vu1, vg1, hI7⟩; have HI7 := Aside0.mk hI7; clear hI7))
      clear HI HI5 HI6 HT HT5 HT6 HR6 HC6 HA1 HA2 HA3 t1
      have HG7 := Aside0.mk (blk_below HG.out HI7.out.hB)
      obtain ⟨z0, z1, z2, z3, z4⟩ := cells5_ HG7.out
      have f0 := blk_frozen HG7.out 0
      have f1 := blk_frozen HG7.out 1
      have f2 := blk_frozen HG7.out 2
      have f3 := blk_frozen HG7.out 3
      have f4 := blk_frozen HG7.out 4
      rcases HP.out with ⟨hb, s1⟩ | ⟨hb, s1, s2⟩ | ⟨hb, s1, s2, s3, s4⟩ | ⟨hb, s1, s2, s3, s4, s5, s6⟩ | ⟨hb, s1, s2, s3, s4, s5, s6⟩ | ⟨hb, s1, s2, s3, s4, s5⟩
      all_goals
       have HBAD := Aside0.mk hb
       clear hb HP
       obtain rfl := s1
       try obtain rfl := s2
       go_wp2
       first
        | (have H := H4.out; rw [if_pos HBAD.out] at H; simp only [Option.some.injEq, Prod.mk.injEq] at H; obtain ⟨rfl, rfl, rfl, rfl, rfl, rfl, rfl⟩ := H; refine bodyPost_ret (results_ctt rfl _ _ g1 27 _ (0, 0) _ rfl (put5_ HG7.out _ _ _ _ _) hu rfl (by kernel_rfl)) rfl ?_; exact ⟨_, _, _, rfl, Kd.R_nil _ _ _ _ _, Kd.R_nil _ _ _ _ _, Kd.R_nil _ _ _ _ _, below5_ (below_step HB.out HI7.out.hB) HG1.out _ _ _ _ _⟩)
        | (have HL := Aside0.mk ((if_neg HBAD.out).symm.trans H4.out); go_roundg k1; (case measure => have := HK.out; omega); (case rel => exact ⟨kind, n + 1, tl, r1, c1', vz1, vu1, vg1, zs1, us1, gs1, rfl, by go_num, rfl, HI7, HL, ⟨by have := HK.out; omega⟩⟩))
    ·rw [if_neg c2] at H
     cases H
   ·rw [if_neg c1] at H
    obtain ⟨⟨at9, er9⟩, A1, H⟩ := Option.bind_eq_some_iff.mp H
    have H4 := Aside0.mk H
    have HA1 := Aside0.mk A1
    have t1 : rest.toList = [] := Classical.byContradiction fun h => c1 (Or.inl h)
    have t2 : ((n : Int) == 0) = false := beq_eq_false_iff_ne.mpr (by intro h; exact c1 (Or.inr (by omega)))
    clear H A1 c1
    obtain ⟨Az, cz, hz⟩ := Kd.R_slice HI.out.hz
    subst hz
    obtain ⟨Au, cu, hz⟩ := Kd.R_slice HI.out.hu
    subst hz
    obtain ⟨Ag, cg, hz⟩ := Kd.R_slice HI.out.hr
    subst hz
    obtain ⟨y0, y1, y2, y3, y4⟩ := cells5_ HI.out.hP
    have HTz := Aside0.mk (Kd.R_reads' HI.out.hz).2
    have HTu := Aside0.mk (Kd.R_reads' HI.out.hu).2
    have HTg := Aside0.mk (Kd.R_reads' HI.out.hr).2
    have tb := beq_dec er9 0
    go_upto_region 14 with (go_at_call 13; (with_reducible refine (policy_Wrong.calls k r c Az cz zs Au cu us Ag cg gs at9 er9 _ HTz.out.2 HTz.out.1 HTu.out.2 HTu.out.1 HTg.out.2 HTg.out.1 HA1.out).mono ?_); rintro e w5 ⟨rfl, hb⟩; have HI5 := Aside0.mk (HI.out.below hb); clear hb)
    clear y0 y1 y2 y3 y4 HI HTz HTu HTg t1 t2
    have HG5 := Aside0.mk (blk_below HG.out HI5.out.hB)
    obtain ⟨z0, z1, z2, z3, z4⟩ := cells5_ HG5.out
    have f0 := blk_frozen HG5.out 0
    have f1 := blk_frozen HG5.out 1
    have f2 := blk_frozen HG5.out 2
    have f3 := blk_frozen HG5.out 3
    have f4 := blk_frozen HG5.out 4
    rcases tb with ⟨b0, b1, b2⟩ | ⟨b0, b1, b2⟩
    ·have H := H4.out
     have e : fin7 er9 at9 r c zs us gs = (0, 0, r, c, zs, us, gs) := if_pos b2
     rw [e] at H
     simp only [Option.some.injEq, Prod.mk.injEq] at H
     obtain ⟨rfl, rfl, rfl, rfl, rfl, rfl, rfl⟩ := H
     clear H4 e b2
     obtain ⟨y0, y1, y2, y3, y4⟩ := cells5_ HI5.out.hP
     go_wp2
     refine bodyPost_ret (results_ctt rfl _ _ g1 27 _ (0, 0) _ rfl (put5_ HG5.out _ _ _ _ _) hu rfl (by kernel_rfl)) rfl ?_
     exact ⟨_, _, _, rfl, Kd.R_lower (R_set5 HI5.out.hz HG5.out ne26_61 _ _ _ _ _) (below_size HB.out), Kd.R_lower (R_set5 HI5.out.hu HG5.out ne26_65 _ _ _ _ _) (below_size HB.out), Kd.R_lower (R_set5 HI5.out.hr HG5.out ne26_67 _ _ _ _ _) (below_size HB.out), below5_ (below_step HB.out HI5.out.hB) HG1.out _ _ _ _ _⟩
    ·have H := H4.out
     have e : fin7 er9 at9 r c zs us gs = (er9, at9, 0, 0, [], [], []) := if_neg b2
     rw [e] at H
     simp only [Option.some.injEq, Prod.mk.injEq] at H
     obtain ⟨rfl, rfl, rfl, rfl, rfl, rfl, rfl⟩ := H
     clear H4 e
     go_wp2
     refine bodyPost_ret (results_ctt rfl _ _ g1 27 _ (0, 0) _ rfl (put5_ HG5.out _ _ _ _ _) hu rfl (by kernel_rfl)) rfl ?_
     exact ⟨_, _, _, rfl, Kd.R_nil _ _ _ _ _, Kd.R_nil _ _ _ _ _, Kd.R_nil _ _ _ _ _, below5_ (below_step HB.out HI5.out.hB) HG1.out _ _ _ _ _⟩
theorem policy_Parse.calls (k : Nat) (a0 : ByteArray) (e n r c : Int) (zs : List S60) (us : List S62) (gs : List S64) (w : World) (hT : Aside0 (Tab w)) (h : policy_Parse.f k a0 = some (e, n, r, c, zs, us, gs)) :
  Calls Tryz.prog 5 #[.string a0] w fun en w' => Ans7 w w' en e n r c zs us gs := by
 unfold policy_Parse.f at h
 by_cases hs : (a0.size : Int) > 4000
 ·rw [if_pos hs] at h
  simp only [Option.some.injEq, Prod.mk.injEq] at h
  obtain ⟨rfl, rfl, rfl, rfl, rfl, rfl, rfl⟩ := h
  exact parse_long a0 w hs
 ·rw [if_neg hs] at h
  exact parse_short k a0 e n r c zs us gs w hT hs h
end Go.Proofs.YtbboanfggaknjaaGreatDoor.X
namespace Go.Proofs.YtbboanfggaknjaaGreatDoor.X
open Go.RowKit Go.Proofs.YtbboanfggaknjaaGreatDoorW.PrintWords Go.Proofs.YtbboanfggaknjaaGreatDoorW.PrintLast Go.Proofs.YtbboanfggaknjaaGreatDoorW.PrintMore
attribute [local go_sem] max2_int min2_int max_two min_two max_three min_three max_four min_four
set_option linter.unusedVariables false
set_option linter.unusedSimpArgs false
def policy_In.f (a0_0 : Int) (a0_1 : Int) (l0_2 : List (S60)) (l0_3 : List (S62)) (l0_4 : List (S64)) (a1_0 : Int) (a1_1 : Int) : Option (Bool) := if a1_0 ≥ 0 then (if a1_0 < a0_0 then (if a1_1 ≥ 0 then (some (decide (a1_1 < a0_1))) else (some false)) else (some false)) else (some false)
theorem policy_In.calls (a0_0 : Int) (a0_1 : Int) (A0_2 : Option Addr) (c0_2 : Nat) (l0_2 : List (S60)) (A0_3 : Option Addr) (c0_3 : Nat) (l0_3 : List (S62)) (A0_4 : Option Addr) (c0_4 : Nat) (l0_4 : List (S64)) (a1_0 : Int) (a1_1 : Int) (r : Bool) (w : World) (hr0_2 : Kd.C k60 w A0_2 l0_2.length l0_2) (hc0_2 : l0_2.length ≤ c0_2) (hr0_3 : Kd.C k62 w A0_3 l0_3.length l0_3) (hc0_3 : l0_3.length ≤ c0_3) (hr0_4 : Kd.C k64 w A0_4 l0_4.length l0_4) (hc0_4 : l0_4.length ≤ c0_4) (h : policy_In.f a0_0 a0_1 l0_2 l0_3 l0_4 a1_0 a1_1 = some r) :
  Calls Tryz.prog 9 #[.agg #[.int .i64 a0_0, .int .i64 a0_1, .slice A0_2 l0_2.length c0_2, .slice A0_3 l0_3.length c0_3, .slice A0_4 l0_4.length c0_4], .agg #[.int .i64 a1_0, .int .i64 a1_1]] w fun e w' => e = .returned (.bool r) ∧ Below w.heap.size w w' := by
 have hu27 := Tryz.underlying27; have hu39 := Tryz.underlying39; have HR0_2 := A_ hr0_2; have HC0_2 := A_ hc0_2; clear hr0_2 hc0_2; have HR0_3 := A_ hr0_3; have HC0_3 := A_ hc0_3; clear hr0_3 hc0_3; have HR0_4 := A_ hr0_4; have HC0_4 := A_ hc0_4; clear hr0_4 hc0_4; have HB := A_ (Below.refl w.heap.size w)
 have H : (if a1_0 ≥ 0 then (if a1_0 < a0_0 then (if a1_1 ≥ 0 then (some (decide (a1_1 < a0_1))) else (some false)) else (some false)) else (some false)) = some r := h
 clear h
 by_cases c3 : a1_0 ≥ 0
 ·rw [if_pos c3] at H; have c3b0 := decide_eq_true c3; clear c3
  by_cases c4 : a1_0 < a0_0
  ·rw [if_pos c4] at H; have c4b0 := decide_eq_true c4; clear c4
   by_cases c5 : a1_1 ≥ 0
   ·rw [if_pos c5] at H; have c5b0 := decide_eq_true c5; clear c5; obtain rfl := Option.some.inj H
    go_enter Tryz.func9, Tryz.ntmps9
    go_wp2_with (first | ((with_reducible refine gd_ 2 ?_); refine be_ (N:=2) (cs := #[.int .i64 a0_0, .int .i64 a0_1, .slice A0_2 l0_2.length c0_2, .slice A0_3 l0_3.length c0_3, .slice A0_4 l0_4.length c0_4]) (t:=27) ?_; intro g1 hg w6 hbox hb; have B1 := A_ (hbox); replace HB := bs_ HB hb; clear hb hbox hg) | ((with_reducible refine gd_ 3 ?_); refine be_ (N:=3) (cs := #[.int .i64 a1_0, .int .i64 a1_1]) (t:=39) ?_; intro g2 hg w7 hbox hb; have B2 := A_ (hbox); replace B1 := bb_ B1 hb; replace HB := bs_ HB hb; clear hb hbox hg; have hcz8_0 : w7.cell? ⟨g2, 0, none⟩ = some (.int .i64 a1_0) := bc_ B2 0 rfl; have hcz8_1 : w7.cell? ⟨g2, 1, none⟩ = some (.int .i64 a1_1) := bc_ B2 1 rfl; have hcz9_0 : w7.cell? ⟨g1, 0, none⟩ = some (.int .i64 a0_0) := bc_ B1 0 rfl; have hcz9_1 : w7.cell? ⟨g1, 1, none⟩ = some (.int .i64 a0_1) := bc_ B1 1 rfl; have hcz9_2 : w7.cell? ⟨g1, 2, none⟩ = some (.slice A0_2 l0_2.length c0_2) := bc_ B1 2 rfl; have hcz9_3 : w7.cell? ⟨g1, 3, none⟩ = some (.slice A0_3 l0_3.length c0_3) := bc_ B1 3 rfl; have hcz9_4 : w7.cell? ⟨g1, 4, none⟩ = some (.slice A0_4 l0_4.length c0_4) := bc_ B1 4 rfl))
    go_ret
    exact fi_ (pbx HB)
   ·rw [if_neg c5] at H; have c5b0 := decide_eq_false c5; clear c5; obtain rfl := Option.some.inj H
    go_enter Tryz.func9, Tryz.ntmps9
    go_wp2_with (first | ((with_reducible refine gd_ 2 ?_); refine be_ (N:=2) (cs := #[.int .i64 a0_0, .int .i64 a0_1, .slice A0_2 l0_2.length c0_2, .slice A0_3 l0_3.length c0_3, .slice A0_4 l0_4.length c0_4]) (t:=27) ?_; intro g1 hg w10 hbox hb; have B1 := A_ (hbox); replace HB := bs_ HB hb; clear hb hbox hg) | ((with_reducible refine gd_ 3 ?_); refine be_ (N:=3) (cs := #[.int .i64 a1_0, .int .i64 a1_1]) (t:=39) ?_; intro g2 hg w11 hbox hb; have B2 := A_ (hbox); replace B1 := bb_ B1 hb; replace HB := bs_ HB hb; clear hb hbox hg; have hcz12_0 : w11.cell? ⟨g2, 0, none⟩ = some (.int .i64 a1_0) := bc_ B2 0 rfl; have hcz12_1 : w11.cell? ⟨g2, 1, none⟩ = some (.int .i64 a1_1) := bc_ B2 1 rfl; have hcz13_0 : w11.cell? ⟨g1, 0, none⟩ = some (.int .i64 a0_0) := bc_ B1 0 rfl; have hcz13_1 : w11.cell? ⟨g1, 1, none⟩ = some (.int .i64 a0_1) := bc_ B1 1 rfl; have hcz13_2 : w11.cell? ⟨g1, 2, none⟩ = some (.slice A0_2 l0_2.length c0_2) := bc_ B1 2 rfl; have hcz13_3 : w11.cell? ⟨g1, 3, none⟩ = some (.slice A0_3 l0_3.length c0_3) := bc_ B1 3 rfl; have hcz13_4 : w11.cell? ⟨g1, 4, none⟩ = some (.slice A0_4 l0_4.length c0_4) := bc_ B1 4 rfl))
    go_ret
    exact fi_ (pbx HB)
  ·rw [if_neg c4] at H; have c4b0 := decide_eq_false c4; clear c4; obtain rfl := Option.some.inj H
   go_enter Tryz.func9, Tryz.ntmps9
   go_wp2_with (first | ((with_reducible refine gd_ 2 ?_); refine be_ (N:=2) (cs := #[.int .i64 a0_0, .int .i64 a0_1, .slice A0_2 l0_2.length c0_2, .slice A0_3 l0_3.length c0_3, .slice A0_4 l0_4.length c0_4]) (t:=27) ?_; intro g1 hg w14 hbox hb; have B1 := A_ (hbox); replace HB := bs_ HB hb; clear hb hbox hg) | ((with_reducible refine gd_ 3 ?_); refine be_ (N:=3) (cs := #[.int .i64 a1_0, .int .i64 a1_1]) (t:=39) ?_; intro g2 hg w15 hbox hb; have B2 := A_ (hbox); replace B1 := bb_ B1 hb; replace HB := bs_ HB hb; clear hb hbox hg; have hcz16_0 : w15.cell? ⟨g2, 0, none⟩ = some (.int .i64 a1_0) := bc_ B2 0 rfl; have hcz16_1 : w15.cell? ⟨g2, 1, none⟩ = some (.int .i64 a1_1) := bc_ B2 1 rfl; have hcz17_0 : w15.cell? ⟨g1, 0, none⟩ = some (.int .i64 a0_0) := bc_ B1 0 rfl; have hcz17_1 : w15.cell? ⟨g1, 1, none⟩ = some (.int .i64 a0_1) := bc_ B1 1 rfl; have hcz17_2 : w15.cell? ⟨g1, 2, none⟩ = some (.slice A0_2 l0_2.length c0_2) := bc_ B1 2 rfl; have hcz17_3 : w15.cell? ⟨g1, 3, none⟩ = some (.slice A0_3 l0_3.length c0_3) := bc_ B1 3 rfl; have hcz17_4 : w15.cell? ⟨g1, 4, none⟩ = some (.slice A0_4 l0_4.length c0_4) := bc_ B1 4 rfl))
   go_ret
   exact fi_ (pbx HB)
 ·rw [if_neg c3] at H; have c3b0 := decide_eq_false c3; clear c3; obtain rfl := Option.some.inj H
  go_enter Tryz.func9, Tryz.ntmps9
  go_wp2_with (first | ((with_reducible refine gd_ 2 ?_); refine be_ (N:=2) (cs := #[.int .i64 a0_0, .int .i64 a0_1, .slice A0_2 l0_2.length c0_2, .slice A0_3 l0_3.length c0_3, .slice A0_4 l0_4.length c0_4]) (t:=27) ?_; intro g1 hg w18 hbox hb; have B1 := A_ (hbox); replace HB := bs_ HB hb; clear hb hbox hg) | ((with_reducible refine gd_ 3 ?_); refine be_ (N:=3) (cs := #[.int .i64 a1_0, .int .i64 a1_1]) (t:=39) ?_; intro g2 hg w19 hbox hb; have B2 := A_ (hbox); replace B1 := bb_ B1 hb; replace HB := bs_ HB hb; clear hb hbox hg; have hcz20_0 : w19.cell? ⟨g2, 0, none⟩ = some (.int .i64 a1_0) := bc_ B2 0 rfl; have hcz20_1 : w19.cell? ⟨g2, 1, none⟩ = some (.int .i64 a1_1) := bc_ B2 1 rfl))
  go_ret
  exact fi_ (pbx HB)

end Go.Proofs.YtbboanfggaknjaaGreatDoor.X
/- The law's own 'alive': a policy of four lines is read, one whose lines stand in a wrong order is not. -/
set_option linter.unusedVariables false
set_option linter.unusedSimpArgs false
namespace Go.Proofs.YtbboanfggaknjaaGreatDoor.X
open Go.RowKit Go.Proofs.YtbboanfggaknjaaGreatDoorW.PrintWords Go.Proofs.YtbboanfggaknjaaGreatDoorW.PrintLast Go.Proofs.YtbboanfggaknjaaGreatDoorW.PrintMore
abbrev al7a : ByteArray := ⟨#[103, 114, 105, 100, 32, 53, 32, 52, 10, 122, 111, 110, 101, 32, 65, 49, 58, 66, 50, 32, 50, 58, 48, 10, 117, 115, 101, 114, 32, 97, 110, 110, 32, 116, 111, 112, 10, 103, 114, 97, 110, 116, 32, 97, 110, 110, 32, 51, 32, 49, 10]⟩
abbrev al7b : ByteArray := ⟨#[103, 114, 105, 100, 32, 53, 32, 52, 10, 117, 115, 101, 114, 32, 97, 110, 110, 32, 49, 10, 122, 111, 110, 101, 32, 65, 49, 32, 49, 10]⟩
theorem al7a_ : (policy_Parse.f 60 al7a).map (fun q => (q.1, q.2.1, q.2.2.1, q.2.2.2.1, q.2.2.2.2.1.length, q.2.2.2.2.2.2.length)) = some (0, 0, 5, 4, 1, 1) := by decide +kernel
theorem al7b_ : (policy_Parse.f 60 al7b).map (fun q => (q.1, q.2.1)) = some (1, 3) := by decide +kernel
def oculuslaw07_alive.f (k : Nat) : Option Bool := some true
theorem oculuslaw07_alive.calls (k : Nat) (r : Bool) (w : World) (hT : Aside0 (Tab w)) (h : oculuslaw07_alive.f k = some r) :
  Calls Tryz.prog 4 #[] w fun e w' => e = .returned (.bool r) ∧ Below w.heap.size w w' := by
 obtain rfl := Option.some.inj h
 clear h
 have hu := Tryz.underlying27
 obtain ⟨⟨e1, n1, r1, c1, zs, us, gs⟩, A1, A2⟩ := Option.map_eq_some_iff.mp al7a_
 simp only [Prod.mk.injEq] at A2
 obtain ⟨rfl, rfl, rfl, rfl, lz, lg⟩ := A2
 obtain ⟨⟨e2, n2, r2, c2, zs2, us2, gs2⟩, B1, B2⟩ := Option.map_eq_some_iff.mp al7b_
 simp only [Prod.mk.injEq] at B2
 obtain ⟨rfl, rfl⟩ := B2
 have HA := Aside0.mk A1
 have HB1 := Aside0.mk B1
 have LZ := Aside0.mk lz
 have LG := Aside0.mk lg
 clear A1 B1 lz lg
 go_enter Tryz.func4, Tryz.ntmps4
 go_upto_region 2 with (first
  | (go_at_call 5; (with_reducible refine (policy_Parse.calls 60 al7a 0 0 5 4 zs us gs _ hT HA.out).mono ?_); rintro e w5 ⟨vz, vu, vg, rfl, hz, hu, hg, hb⟩; obtain ⟨Az, cz, rfl⟩ := Kd.R_slice hz; obtain ⟨Au, cu, rfl⟩ := Kd.R_slice hu; obtain ⟨Ag, cg, rfl⟩ := Kd.R_slice hg; have HZ := Aside0.mk hz; have HU := Aside0.mk hu; have HG := Aside0.mk hg; have HB := Aside0.mk hb; have HT5 := tb_ hb hT; clear hz hu hg hb))
 have HP := Aside0.mk (blk_new w5 (.cells #[.int .i64 5, .int .i64 4, .slice Az zs.length cz, .slice Au us.length cu, .slice Ag gs.length cg] 27))
 have hb6 := new_below w5 (.cells #[.int .i64 5, .int .i64 4, .slice Az zs.length cz, .slice Au us.length cu, .slice Ag gs.length cg] 27)
 replace HT5 := tb_ hb6 HT5
 replace HZ := Aside0.mk (Kd.R_below HZ.out hb6)
 replace HU := Aside0.mk (Kd.R_below HU.out hb6)
 replace HG := Aside0.mk (Kd.R_below HG.out hb6)
 replace HB := Aside0.mk (below_step HB.out hb6)
 clear hb6
 generalize w5.alloc (.cells #[.int .i64 5, .int .i64 4, .slice Az zs.length cz, .slice Au us.length cu, .slice Ag gs.length cg] 27) = w6 at HP HT5 HZ HU HG HB ⊢
 generalize w5.heap.size = g at HP ⊢
 go_upto_region 3 with (first
  | (go_at_call 5; (with_reducible refine (policy_Parse.calls 60 al7b 1 3 r2 c2 zs2 us2 gs2 _ HT5 HB1.out).mono ?_); rintro e w7 ⟨vz2, vu2, vg2, rfl, hz, hu, hg, hb⟩; obtain ⟨Az2, cz2, rfl⟩ := Kd.R_slice hz; obtain ⟨Au2, cu2, rfl⟩ := Kd.R_slice hu; obtain ⟨Ag2, cg2, rfl⟩ := Kd.R_slice hg; replace HP := Aside0.mk (blk_below HP.out hb); replace HZ := Aside0.mk (Kd.R_below HZ.out hb); replace HU := Aside0.mk (Kd.R_below HU.out hb); replace HG := Aside0.mk (Kd.R_below HG.out hb); replace HB := Aside0.mk (below_step HB.out hb); clear hz hu hg hb))
 have hb6 := new_below w7 (.cells #[.int .i64 r2, .int .i64 c2, .slice Az2 zs2.length cz2, .slice Au2 us2.length cu2, .slice Ag2 gs2.length cg2] 27)
 replace HP := Aside0.mk (blk_below HP.out hb6)
 replace HZ := Aside0.mk (Kd.R_reads' (Kd.R_below HZ.out hb6)).2
 replace HU := Aside0.mk (Kd.R_reads' (Kd.R_below HU.out hb6)).2
 replace HG := Aside0.mk (Kd.R_reads' (Kd.R_below HG.out hb6)).2
 replace HB := Aside0.mk (below_step HB.out hb6)
 clear hb6
 generalize w7.alloc (.cells #[.int .i64 r2, .int .i64 c2, .slice Az2 zs2.length cz2, .slice Au2 us2.length cu2, .slice Ag2 gs2.length cg2] 27) = w8 at HP HZ HU HG HB ⊢
 clear HT5 HA HB1
 obtain ⟨y0, y1, y2, y3, y4⟩ := cells5_ HP.out
 have lz := LZ.out
 have lg := LG.out
 have dz : (((zs.length : Nat) : Int) == 1) = true := by rw [lz]; rfl
 have dg : (((gs.length : Nat) : Int) == 1) = true := by rw [lg]; rfl
 clear lz lg
 go_wp2_with (first
  | (go_at_call 9; (with_reducible refine (policy_In.calls 5 4 Az cz zs Au cu us Ag cg gs 4 3 true _ HZ.out.2 HZ.out.1 HU.out.2 HU.out.1 HG.out.2 HG.out.1 rfl).mono ?_); rintro e w9 ⟨rfl, hb⟩; replace HP := Aside0.mk (blk_below HP.out hb); replace HZ := Aside0.mk (And.intro HZ.out.1 (Kd.C_below HZ.out.2 hb)); replace HU := Aside0.mk (And.intro HU.out.1 (Kd.C_below HU.out.2 hb)); replace HG := Aside0.mk (And.intro HG.out.1 (Kd.C_below HG.out.2 hb)); replace HB := Aside0.mk (below_step HB.out hb); clear hb; clear y0 y1 y2 y3 y4; obtain ⟨y0, y1, y2, y3, y4⟩ := cells5_ HP.out)
  | (go_at_call 9; (with_reducible refine (policy_In.calls 5 4 Az cz zs Au cu us Ag cg gs 4 4 false _ HZ.out.2 HZ.out.1 HU.out.2 HU.out.1 HG.out.2 HG.out.1 rfl).mono ?_); rintro e w10 ⟨rfl, hb⟩; replace HB := Aside0.mk (below_step HB.out hb); clear hb))
 go_ret
 exact ⟨rfl, HB.out⟩
end Go.Proofs.YtbboanfggaknjaaGreatDoor.X
/- The contracts of strings.Builder's WriteByte and WriteString, for a program in which copyCheck's last arm is refused: the shelf's proofs, walked at this program. -/
set_option linter.unusedVariables false
namespace Go.Proofs.YtbboanfggaknjaaGreatDoor.X
open Go.RowKit Go.Shelf Go.Proofs.YtbboanfggaknjaaGreatDoorW.PrintWords Go.Proofs.YtbboanfggaknjaaGreatDoorW.PrintLast Go.Proofs.YtbboanfggaknjaaGreatDoorW.PrintMore
theorem bldSize : (Tryz.prog.info? 68).map (·.size) = some 2 := by kernel_rfl
theorem bldLies : liesAt Tryz.prog Tryz.prog.depth 68 (2 / Tryz.prog.cellsOf 68) 0 68 1 = true := by kernel_rfl
theorem bldByte : (Tryz.prog.info? 5).map (fun i => (i.zero, i.size, i.bytes)) = some (some (.int .u8 0), 1, 1) := by kernel_rfl
theorem bld_check_used (b : Nat) (w : World) (h0 : w.cell? ⟨b, 0, none⟩ = some (.pointer (some ⟨b, 0, none⟩))) :
  Calls Tryz.prog 40 #[.pointer (some ⟨b, 0, none⟩)] w fun e w' => e = .returned (.tuple #[]) ∧ w' = w := by
 obtain ⟨j, hj, _⟩ := Option.map_eq_some_iff.1 bldSize
 go_enter Tryz.func40, Tryz.ntmps40
 go_wp2
 rw [Lib.run_neq_ptr_same w _ Tryz.underlying65 hj]
 go_wp2
 go_end0
 exact ⟨rfl, rfl⟩
theorem bld_check_fresh (b : Nat) (w : World) (h0 : w.cell? ⟨b, 0, none⟩ = some (.pointer none)) (hsh : w.shape? b = some (68, 2)) (hfz : w.frozen? ⟨b, 0, none⟩ = false) :
  Calls Tryz.prog 40 #[.pointer (some ⟨b, 0, none⟩)] w fun e w' => e = .returned (.tuple #[]) ∧ w' = w.setCell ⟨b, 0, none⟩ (.pointer (some ⟨b, 0, none⟩)) := by
 obtain ⟨j, hj, hjs⟩ := Option.map_eq_some_iff.1 bldSize
 go_enter Tryz.func40, Tryz.ntmps40
 go_wp2
 rw [Lib.run_to_unsafe w ⟨b, 0, none⟩ Tryz.underlying65 Tryz.underlying124 hj (by rw [hjs]; decide) hsh (Nat.zero_lt_succ 1)]
 simp only [Result.andThen]
 rw [Oper.upon_value]
 go_wp2
 rw [run_callFunc_extern Tryz.func66 (by kernel_rfl) (by kernel_rfl) (by kernel_rfl) (e := Extern.AbiNoEscape.same) (by kernel_rfl)]
 rw [Lib.run_noEscape]
 simp only [Result.andThen]
 rw [Oper.upon_value]
 go_wp2
 rw [Lib.run_from_unsafe w ⟨b, 0, none⟩ Tryz.underlying124 Tryz.underlying65 hj hsh bldLies]
 simp only [Result.andThen]
 rw [Oper.upon_value]
 go_wp2
 go_end0
 exact ⟨rfl, rfl⟩
theorem bld_check_k (B b : Nat) (bs : List Value) (w : World) (h : Lib.IsBuilderF 68 5 B b bs w) :
  Calls Tryz.prog 40 #[.pointer (some ⟨b, 0, none⟩)] w fun e w' => e = .returned (.tuple #[]) ∧ (Lib.BuilderAtF 68 5 B b (.pointer (some ⟨b, 0, none⟩)) bs w' ∧ Below B w w' ∧ Lib.OthersKept 5 (some b) w w') := by
 rcases h with h | h
 ·refine (bld_check_fresh b w h.cell0 h.shape h.frozen0).mono ?_
  rintro e w' ⟨rfl, rfl⟩
  exact ⟨rfl, h.used _, (Below.refl B w).setCell (p := ⟨b, 0, none⟩) h.1 _, (Lib.OthersKept.refl _ _ w).setCell ⟨b, 0, none⟩ rfl _⟩
 ·refine (bld_check_used b w h.cell0).mono ?_
  rintro e w' ⟨rfl, rfl⟩
  exact ⟨rfl, h, Below.refl B _, Lib.OthersKept.refl _ _ _⟩
theorem bld_byte_k (B b : Nat) (bs : List Value) (c : Int) (w : World) (h : Lib.IsBuilderF 68 5 B b bs w) (hlen : bs.length + 1 ≤ 140737488355328) (hBw : B ≤ w.heap.size) :
  Calls Tryz.prog 20 #[.pointer (some ⟨b, 0, none⟩), .int .u8 c] w fun e w' => e = .returned .nilIface ∧ (Lib.BuilderAtF 68 5 B b (.pointer (some ⟨b, 0, none⟩)) (bs ++ [.int .u8 c]) w' ∧ Below B w w' ∧ Lib.OthersKept 5 (some b) w w') := by
 obtain ⟨i0, hi, hz0, hz1, hz2⟩ := info_parts bldByte
 have e240 : ∀ args w, (callFunc 40 args).run Tryz.prog w = .ok (.enter 40 args) w := enters_of Tryz.func40 (by kernel_rfl) rfl
 go_enter Tryz.func20, Tryz.ntmps20
 go_wp2_with (go_at_call 40; refine (bld_check_k B b bs _ h).mono ?_)
 rintro e w1 ⟨rfl, h1, hb1, hk1⟩
 obtain ⟨hB, v, hbk, hown, hne⟩ := h1
 have c0 : w1.cell? ⟨b, 0, none⟩ = some (.pointer (some ⟨b, 0, none⟩)) := by rw [Lib.cell_of_heap hbk]; rfl
 have c1 : w1.cell? ⟨b, 1, none⟩ = some v := by rw [Lib.cell_of_heap hbk]; rfl
 go_wp2_with (at_builtin; refine wpList_append_ownF _ rfl _ _ 66 rfl B 5 i0 (.int .u8 0) 1 1 Tryz.underlying66 hi hz0 hz1 hz2 rfl (by decide) _ _ _ rfl (hown.alloc _) ⟨w1.heap.size, 0, none⟩ 1 1 [.int .u8 c] rfl rfl ?c1 ?c2 ?c3 ?c4 ?c5 ?_)
 case c1 =>
  intro j u hj
  match j, hj with
  | 0, hj => simp at hj; subst hj; simp [Addr.add]
 case c2 => intro u hu; simp at hu; subst hu; rfl
 case c3 => unfold maxLen; omega
 case c4 => omega
 case c5 => have := hb1.size; simp; omega
 intro v' w2 hown' hgrow _
 have hlt : b < w1.heap.size := by
  rcases Nat.lt_or_ge b w1.heap.size with h' | h'
  ·exact h'
  ·simp [Array.getElem?_eq_none h'] at hbk
 have hb2 : w2.heap[b]? = some (.cells #[.pointer (some ⟨b, 0, none⟩), v] 68 (0, 0)) := by
  rw [hgrow.block b (by simp; omega) (fun e => hne e.symm), Lib.alloc_old w1 _ b hlt]
  exact hbk
 have d0 : w2.cell? ⟨b, 0, none⟩ = some (.pointer (some ⟨b, 0, none⟩)) := by rw [Lib.cell_of_heap hb2]; rfl
 have d1 : w2.cell? ⟨b, 1, none⟩ = some v := by rw [Lib.cell_of_heap hb2]; rfl
 have f1 : w2.frozen? ⟨b, 1, none⟩ = false := Lib.frozen_of_heap hb2 1
 obtain ⟨g, cap, rfl⟩ : ∃ g cap, v' = .slice (some ⟨g, 0, none⟩) (bs.length + 1) cap := by
  rcases hown'.2 with ⟨_, h0⟩ | ⟨g, cap, cur, fz, hv, _⟩
  ·omega
  ·exact ⟨g, cap, hv⟩
 go_wp2
 go_ret
 refine ⟨rfl, ?_, ?_, ((hk1.alloc _).grown hgrow (Lib.ownsRowF_kind (hown.alloc _))).setCell ⟨b, 1, none⟩ rfl _⟩
 ·exact Lib.BuilderAtF.put (T := 68) (e := 5) hB hb2 (bs' := bs ++ [.int .u8 c]) (by simpa using hown') (by decide)
 ·exact ((hb1.alloc (by have := hb1.size; omega) _).grown hgrow (by have := hb1.size; simp; omega) (fun k hk => (hown.lt k hk).1)).setCell (p := ⟨b, 1, none⟩) hB _
theorem bld_string_k (B b : Nat) (bs : List Value) (s : ByteArray) (w : World) (h : Lib.IsBuilderF 68 5 B b bs w) (hlen : bs.length + s.size ≤ 140737488355328) (hBw : B ≤ w.heap.size) :
  Calls Tryz.prog 18 #[.pointer (some ⟨b, 0, none⟩), .string s] w fun e w' => e = .returned (.tuple #[.int .i64 s.size, .nilIface]) ∧ (Lib.BuilderAtF 68 5 B b (.pointer (some ⟨b, 0, none⟩)) (bs ++ Lib.strCells s) w' ∧ Below B w w' ∧ Lib.OthersKept 5 (some b) w w') := by
 obtain ⟨i0, hi, hz0, hz1, hz2⟩ := info_parts bldByte
 have e240 : ∀ args w, (callFunc 40 args).run Tryz.prog w = .ok (.enter 40 args) w := enters_of Tryz.func40 (by kernel_rfl) rfl
 go_enter Tryz.func18, Tryz.ntmps18
 go_wp2_with (go_at_call 40; refine (bld_check_k B b bs _ h).mono ?_)
 rintro e w1 ⟨rfl, h1, hb1, hk1⟩
 obtain ⟨hB, v, hbk, hown, hne⟩ := h1
 have c0 : w1.cell? ⟨b, 0, none⟩ = some (.pointer (some ⟨b, 0, none⟩)) := by rw [Lib.cell_of_heap hbk]; rfl
 have c1 : w1.cell? ⟨b, 1, none⟩ = some v := by rw [Lib.cell_of_heap hbk]; rfl
 go_wp2_with (at_builtin; refine Lib.wpList_append_own_stringF _ rfl _ _ 66 9 rfl B 5 i0 Tryz.underlying66 Tryz.underlying9 hi hz0 hz1 hz2 _ _ _ rfl hown s rfl ?c3 ?c4 ?c5 ?_)
 case c3 => unfold maxLen; omega
 case c4 => omega
 case c5 => have := hb1.size; omega
 intro v' w2 hown' hgrow _
 have hlt : b < w1.heap.size := by
  rcases Nat.lt_or_ge b w1.heap.size with h' | h'
  ·exact h'
  ·simp [Array.getElem?_eq_none h'] at hbk
 have hb2 : w2.heap[b]? = some (.cells #[.pointer (some ⟨b, 0, none⟩), v] 68 (0, 0)) := by
  rw [hgrow.block b hlt (fun e => hne e.symm)]
  exact hbk
 have d0 : w2.cell? ⟨b, 0, none⟩ = some (.pointer (some ⟨b, 0, none⟩)) := by rw [Lib.cell_of_heap hb2]; rfl
 have d1 : w2.cell? ⟨b, 1, none⟩ = some v := by rw [Lib.cell_of_heap hb2]; rfl
 have f1 : w2.frozen? ⟨b, 1, none⟩ = false := Lib.frozen_of_heap hb2 1
 obtain ⟨ao, n', cap, rfl⟩ : ∃ ao n' cap, v' = .slice ao n' cap := by
  rcases hown'.2 with ⟨hv, _⟩ | ⟨g, cap, cur, fz, hv, _⟩
  ·exact ⟨_, _, _, hv⟩
  ·exact ⟨_, _, _, hv⟩
 go_wp2
 go_ret2
 refine ⟨rfl, ?_, ?_, (hk1.grown hgrow (Lib.ownsRowF_kind hown)).setCell ⟨b, 1, none⟩ rfl _⟩
 ·exact Lib.BuilderAtF.put (T := 68) (e := 5) hB hb2 (bs' := bs ++ Lib.strCells s) (by simpa [Lib.strCells_length] using hown') (by decide)
 ·exact (hb1.grown hgrow (by have := hb1.size; omega) (fun k hk => (hown.lt k hk).1)).setCell (p := ⟨b, 1, none⟩) hB _
end Go.Proofs.YtbboanfggaknjaaGreatDoor.X
/- The contract of strings.Join: the texts of a row, with a text between them, told through strings.Builder. -/
set_option linter.unusedVariables false
set_option linter.unusedSimpArgs false
namespace Go.Proofs.YtbboanfggaknjaaGreatDoor.X
open Go.RowKit Go.Shelf Go.Proofs.YtbboanfggaknjaaGreatDoorW.PrintWords Go.Proofs.YtbboanfggaknjaaGreatDoorW.PrintLast Go.Proofs.YtbboanfggaknjaaGreatDoorW.PrintMore
def joinL (s : List UInt8) : List (List UInt8) → List UInt8
 | [] => []
 | x :: xs => x ++ xs.flatMap fun y => s ++ y
def sizesT (l : List ByteArray) : Nat := (l.map ByteArray.size).sum
def strings_Join.f (l0 : List ByteArray) (a1 : ByteArray) : Option ByteArray :=
 if l0.length ≤ 100000 ∧ a1.size ≤ 100000 ∧ sizesT l0 ≤ 1000000000 then some (tx (joinL (by_ a1) (l0.map by_))) else none
theorem sizesT_take (l : List ByteArray) (i : Nat) (h : i < l.length) : sizesT (l.take (i + 1)) = sizesT (l.take i) + l[i].size := by
 unfold sizesT
 rw [List.take_add_one, List.getElem?_eq_getElem h]
 simp only [Option.toList_some, List.map_append, List.sum_append, List.map_cons, List.map_nil, List.sum_cons, List.sum_nil, Nat.add_zero]
theorem sizesT_le (l : List ByteArray) (i : Nat) : sizesT (l.take i) ≤ sizesT l := by
 conv => rhs; rw [← List.take_append_drop i l]
 unfold sizesT
 rw [List.map_append, List.sum_append]; omega
theorem rdS_ (l : List ByteArray) (i : Nat) (h : i < l.length) : rdOf ByteArray.empty l (i : Int) = l[i] := by
 unfold rdOf
 rw [Int.toNat_natCast, List.getD_eq_getElem?_getD, List.getElem?_eq_getElem h]; rfl
theorem strings_at {w : World} {A : Option Addr} {l : List ByteArray} (h : Kd.C Kd.string w A l.length l) (i : Nat) (hi : i < l.length) : ∃ ad, A = some ad ∧ w.cell? (ad.add i) = some (.string l[i]) := by
 obtain ⟨ad, hA, hc⟩ := Kd.at_string h (i : Int) (by omega) (by omega)
 refine ⟨ad, hA, ?_⟩
 rw [Int.toNat_natCast] at hc
 rw [hc]
 rw [rdS_ l i hi]
set_option maxRecDepth 1000000 in
theorem join0 (a1 : ByteArray) (A0 : Option Addr) (c0 : Nat) (w : World) :
  Calls Tryz.prog 19 #[.slice A0 0 c0, .string a1] w fun e w' => e = .returned (.string ⟨#[]⟩) ∧ Below w.heap.size w w' := by
 go_enter Tryz.func19, Tryz.ntmps19
 go_wp2
 go_ret
 exact ⟨rfl, Below.refl _ _⟩
set_option maxRecDepth 1000000 in
theorem join1 (a1 x : ByteArray) (ad : Addr) (c0 : Nat) (w : World) (hx : w.cell? ad = some (.string x)) :
  Calls Tryz.prog 19 #[.slice (some ad) 1 c0, .string a1] w fun e w' => e = .returned (.string x) ∧ Below w.heap.size w w' := by
 go_enter Tryz.func19, Tryz.ntmps19
 go_wp2
 go_ret
 exact ⟨rfl, Below.refl _ _⟩
def outJ (s : List UInt8) (l : List ByteArray) (k : Nat) : List UInt8 := joinL s ((l.take (k + 1)).map by_)
theorem joinL_snoc (s : List UInt8) (xs : List (List UInt8)) (z : List UInt8) (h : xs ≠ []) : joinL s (xs ++ [z]) = joinL s xs ++ (s ++ z) := by
 cases xs with
 | nil => exact absurd rfl h
 | cons x xs => simp [joinL, List.flatMap_append]
theorem outJ_succ (s : List UInt8) (l : List ByteArray) (k : Nat) (h : k + 1 < l.length) : outJ s l (k + 1) = outJ s l k ++ (s ++ by_ l[k + 1]) := by
 unfold outJ
 rw [List.take_add_one, List.getElem?_eq_getElem h, List.map_append]
 refine joinL_snoc s _ _ ?_
 intro e
 have := congrArg List.length e
 rw [List.length_map, List.length_take, List.length_nil] at this
 omega
theorem outJ_zero (s : List UInt8) (l : List ByteArray) (h : 0 < l.length) : outJ s l 0 = by_ l[0] := by
 unfold outJ
 rw [List.take_add_one, List.take_zero, List.getElem?_eq_getElem h]
 simp [joinL]
theorem outJ_len (s : List UInt8) (l : List ByteArray) : ∀ k, k < l.length → (outJ s l k).length = sizesT (l.take (k + 1)) + k * s.length
 | 0, h => by
  rw [outJ_zero s l h, sizesT_take l 0 h, ← size_by, List.take_zero]; simp [sizesT]
 | k + 1, h => by
  rw [outJ_succ s l k h, List.length_append, List.length_append, outJ_len s l k (by omega), sizesT_take l (k + 1) h, ← size_by, Nat.succ_mul]; omega
theorem quo_ok (n z : Nat) (hn : 2 ≤ n) (hn2 : n ≤ 100000) (hz : z ≤ 100000) : (z : Int) < 9223372036854775807 / ((n : Int) - 1) := by
 have h1 : ((z : Int) + 1) * ((n : Int) - 1) ≤ 9223372036854775807 := by
  have : ((z : Int) + 1) * ((n : Int) - 1) ≤ 100001 * 100000 := Int.mul_le_mul (by omega) (by omega) (by omega) (by omega)
  omega
 have := Int.le_ediv_of_mul_le (by omega) h1
 omega
set_option maxRecDepth 1000000 in
theorem join2 (a1 : ByteArray) (l : List ByteArray) (n : Nat) (ad : Addr) (c0 : Nat) (w : World) (hl : l.length = n) (hn : 2 ≤ n) (hn2 : n ≤ 100000) (hc : n ≤ c0) (hz : a1.size ≤ 100000) (ht : sizesT l ≤ 1000000000) (hr : ∀ (i : Nat) (x : ByteArray), l[i]? = some x → w.cell? (ad.add i) = some (.string x)) :
  Calls Tryz.prog 19 #[.slice (some ad) n c0, .string a1] w fun e w' => e = .returned (.string (tx (outJ (by_ a1) l (n - 1)))) ∧ Below w.heap.size w w' := by
 have HL := Aside0.mk hl
 have HT := Aside0.mk ht
 have HR := Aside0.mk hr
 have hq := quo_ok n a1.size hn hn2 hz
 have q1 : decide (9223372036854775807 / ((n : Int) - 1) ≤ (a1.size : Int)) = false := decide_eq_false (by omega)
 clear hl ht hr hq
 have HB0 := Aside0.mk (Below.refl w.heap.size w)
 have e0 : ((n : Int) == 0) = false := beq_eq_false_iff_ne.2 (by omega)
 have e1 : ((n : Int) == 1) = false := beq_eq_false_iff_ne.2 (by omega)
 have hx0 : wrap64 (wrap64 ((a1.size : Int) * ((n : Int) - 1))) = ((a1.size * (n - 1) : Nat) : Int) := by
  have h1 : ((a1.size * (n - 1) : Nat) : Int) = (a1.size : Int) * ((n : Int) - 1) := by
   rw [Int.natCast_mul]; congr 1; omega
  have h2 : a1.size * (n - 1) ≤ 100000 * 100000 := Nat.mul_le_mul hz (show n - 1 ≤ 100000 by omega)
  rw [← h1, w64 (x := ((a1.size * (n - 1) : Nat) : Int)) (by omega) (by omega), w64 (by omega) (by omega)]
 have hx1 : a1.size * (n - 1) ≤ 10000000000 := Nat.le_trans (Nat.mul_le_mul hz (show n - 1 ≤ 100000 by omega)) (by decide)
 have HX0 := Aside0.mk hx0
 have HZ := Aside0.mk hz
 clear hx0
 obtain ⟨b, g0⟩ : ∃ b, decide (0 < a1.size) = b := ⟨_, rfl⟩
 cases b
 all_goals
  go_enter Tryz.func19, Tryz.ntmps19
  go_wp2
  go_loop [5, 41] (fun v5 v41 => ∃ k x : Nat, v41 = .int .i64 (k : Int) ∧ v5 = .int .i64 (x : Int) ∧ Aside0 (k ≤ n ∧ x ≤ 10000000000 + sizesT (l.take k))) (fun _ v41 => n - (intOf v41).toNat)
  case atStart => first | exact ⟨0, 0, rfl, rfl, ⟨by omega, by omega⟩⟩ | exact ⟨0, a1.size * (n - 1), rfl, congrArg (Value.int IntKind.i64) HX0.out, ⟨by omega, by omega⟩⟩
  case round =>
   obtain ⟨k, x, rfl, rfl, HK⟩ := hrel
   have hk := HK.out
   clear q1 hx1 e0 e1 g0
   by_cases hlt : k < n
   ·have hd : decide ((k : Int) < (n : Int)) = true := decide_eq_true (by omega)
    have hdn : decide (k < n) = true := decide_eq_true hlt
    have hkl : k < l.length := by rw [HL.out]; exact hlt
    have hcell := HR.out k l[k] (List.getElem?_eq_getElem hkl)
    have hs := sizesT_take l k hkl
    have hs2 := sizesT_le l (k + 1)
    have ht := HT.out
    obtain ⟨y, hy⟩ : ∃ y, l[k] = y := ⟨_, rfl⟩
    rw [hy] at hcell hs
    have hd2 : decide (9223372036854775807 - (x : Int) < (y.size : Int)) = false := decide_eq_false (by omega)
    have HS := Aside0.mk hs
    have HS2 := Aside0.mk (show x + y.size ≤ 10000000000 + sizesT (l.take (k + 1)) by omega)
    have hy2 : y.size ≤ 1000000000 := by omega
    have hx2 : x ≤ 11000000000 := by omega
    clear hs hs2 ht hy hk
    go_wp2
    go_round
    case rel => exact ⟨k + 1, x + y.size, by go_num, by go_num, ⟨by omega, HS2.out⟩⟩
    case measure => simp [intOf]; omega
   ·have hd : decide ((k : Int) < (n : Int)) = false := decide_eq_false (by omega)
    have hdn : decide (k < n) = false := decide_eq_false hlt
    have hx2 : x ≤ 11000000000 := by have := sizesT_le l k; have := HT.out; omega
    have hlt0 : 0 < l.length := by rw [HL.out]; omega
    have hc0 := HR.out 0 l[0] (List.getElem?_eq_getElem hlt0)
    rw [show ad.add 0 = ad from if_pos rfl] at hc0
    obtain ⟨y0, hy0⟩ : ∃ y, l[0] = y := ⟨_, rfl⟩
    rw [hy0] at hc0
    have hadlt := World.block_lt_of_cell? w _ hc0
    have hy0s : y0.size ≤ 1000000000 := by
     have h1 := sizesT_take l 0 hlt0
     have h2 := sizesT_le l (0 + 1)
     have h3 := HT.out
     rw [hy0] at h1
     omega
    have HY0 := Aside0.mk hy0
    have hnew : (w.alloc (.cells #[.pointer none, .slice none 0 0] 68)).heap[w.heap.size]? = some (.cells #[.pointer none, .slice none 0 0] 68 (0, 0)) := by
     show (w.heap.push _)[w.heap.size]? = some _
     simp
    have HNEW := Aside0.mk hnew
    have HB1 : Aside0 (Below w.heap.size w (w.alloc (.cells #[.pointer none, .slice none 0 0] 68))) := ⟨(Below.refl _ _).alloc (Nat.le_refl _) _⟩
    have hcc : c0 ≠ 1 := by omega
    clear hk hy0 hnew hlt
    go_wp2_with (first
     | (go_at_call 41; refine (Tryz.Builder_Grow_fresh w.heap.size w.heap.size x _ (Nat.le_refl _) (by exact HNEW.out) (by exact HB1.out.size) (by omega)).mono ?_; rintro e w2 ⟨rfl, h2, hb2⟩; have HB2 := Aside0.mk (HB1.out.trans hb2); have hc2 := (HB2.out.cell (p := ad) hadlt).trans hc0; clear hb2)
     | (go_at_call 18; refine (bld_string_k w.heap.size w.heap.size [] y0 _ (Or.inr (Lib.BuilderAtF.of h2)) (by simp; omega) (by exact HB2.out.size)).mono ?_; rintro e w3 ⟨rfl, h3, hb3, hk3⟩; have HB3 := Aside0.mk (HB2.out.trans hb3); clear hb3 hk3))
    have HI3 : Aside0 (Lib.BuilderAtF 68 5 w.heap.size w.heap.size (.pointer (some ⟨w.heap.size, 0, none⟩)) (Lib.byteCells (outJ (by_ a1) l 0)) w3) := by
     have e : outJ (by_ a1) l 0 = by_ y0 := by
      rw [outJ_zero (by_ a1) l hlt0, HY0.out]
     rw [e]
     have h3 : Lib.BuilderAtF 68 5 w.heap.size w.heap.size (.pointer (some ⟨w.heap.size, 0, none⟩)) ([] ++ Lib.strCells y0) w3 := h3
     exact ⟨by rw [List.nil_append] at h3; exact h3⟩
    clear h2 h3 hc2 hc0
    go_loopw [65] (fun v w' => ∃ j : Nat, v = .int .i64 (j : Int) ∧ Aside0 (j ≤ n - 1) ∧ Aside0 (Lib.BuilderAtF 68 5 w.heap.size w.heap.size (.pointer (some ⟨w.heap.size, 0, none⟩)) (Lib.byteCells (outJ (by_ a1) l j)) w') ∧ Aside0 (Below w.heap.size w w')) (fun v _ => n - (intOf v).toNat)
    case atStart => exact ⟨0, rfl, ⟨by omega⟩, HI3, HB3⟩
    case round =>
     clear HI3 HB3 HB2 HB1 HNEW
     obtain ⟨j, rfl, HJ, HI, HB⟩ := hrel
     have hj := HJ.out
     by_cases hlt2 : j < n - 1
     ·have hdn : decide (j < n - 1) = true := decide_eq_true hlt2
      have hdi : decide ((j : Int) < (n : Int) - 1) = true := decide_eq_true (by omega)
      have hjl : j + 1 < l.length := by rw [HL.out]; omega
      have hcl := HR.out (j + 1) l[j + 1] (List.getElem?_eq_getElem hjl)
      have hcw := (HB.out.cell (World.block_lt_of_cell? w _ hcl)).trans hcl
      rw [show ad.add (j + 1) = ⟨ad.block, ad.off + 1 + j, none⟩ by simp [Addr.add]; omega] at hcw
      have HS := Aside0.mk (outJ_succ (by_ a1) l j hjl)
      have hlen := outJ_len (by_ a1) l j (by omega)
      have h2 := sizesT_le l (j + 1)
      have h3 := sizesT_take l (j + 1) hjl
      have h4 := sizesT_le l (j + 1 + 1)
      have h5 := HT.out
      have h6 : j * (by_ a1).length ≤ 100000 * 100000 := Nat.mul_le_mul (by omega) (by rw [← size_by]; exact HZ.out)
      obtain ⟨y, hy⟩ : ∃ y, l[j + 1] = y := ⟨_, rfl⟩
      rw [hy] at hcw h3
      have HY := Aside0.mk hy
      have HLEN := Aside0.mk (show (outJ (by_ a1) l j).length + (a1.size + y.size) ≤ 140737488355328 by have := HZ.out; omega)
      clear hcl hlen h2 h3 h4 h5 h6 hy hj
      go_wp2_with (first
       | (go_at_call 18; (with_reducible refine (bld_string_k w.heap.size w.heap.size (Lib.byteCells (outJ (by_ a1) l j)) a1 _ ?hA ?hB ?hC).mono ?_); (case hA => exact Or.inr HI.out); (case hB => have := HLEN.out; rw [Lib.byteCells_length]; omega); (case hC => exact HB.out.size); rintro e w4 ⟨rfl, h4, hb4, hk4⟩; have HB4 := Aside0.mk (HB.out.trans hb4); have H4 := Aside0.mk h4; clear hb4 hk4 h4)
       | (go_at_call 18; (with_reducible refine (bld_string_k w.heap.size w.heap.size (Lib.byteCells (outJ (by_ a1) l j) ++ Lib.strCells a1) y _ ?hA ?hB ?hC).mono ?_); (case hA => exact Or.inr H4.out); (case hB => have := HLEN.out; rw [List.length_append, Lib.byteCells_length, Lib.strCells_length]; omega); (case hC => exact HB4.out.size); rintro e w5 ⟨rfl, h5, hb5, hk5⟩; have HB5 := Aside0.mk (HB4.out.trans hb5); have H5 := Aside0.mk h5; clear hb5 hk5 h5))
      go_roundw
      case rel =>
       refine ⟨j + 1, by go_num, ⟨by omega⟩, ⟨?_⟩, HB5⟩
       rw [HS.out, HY.out, Lib.byteCells_append, Lib.byteCells_append, ← List.append_assoc]
       exact H5.out
      case measure => simp [intOf]; omega
     ·have hdn : decide (j < n - 1) = false := decide_eq_false hlt2
      have hdi : decide ((j : Int) < (n : Int) - 1) = false := decide_eq_false (by omega)
      obtain rfl : j = n - 1 := by omega
      clear hj
      go_wp2_with (go_at_call 24; refine (Tryz.Builder_String_any_k w.heap.size w.heap.size _ _ (by exact Or.inr HI.out) (by exact HB.out.size)).mono ?_; rintro e w2 ⟨rfl, _, hb2, _⟩)
      go_ret
      exact ⟨rfl, HB.out.trans hb2⟩
theorem strings_Join.calls (A0 : Option Addr) (c0 : Nat) (l0 : List ByteArray) (a1 : ByteArray) (r : ByteArray) (w : World) (hr0 : Kd.C Kd.string w A0 l0.length l0) (hc0 : l0.length ≤ c0) (h : strings_Join.f l0 a1 = some r) :
  Calls Tryz.prog 19 #[.slice A0 l0.length c0, .string a1] w fun e w' => e = .returned (.string r) ∧ Below w.heap.size w w' := by
 unfold strings_Join.f at h
 by_cases hg : l0.length ≤ 100000 ∧ a1.size ≤ 100000 ∧ sizesT l0 ≤ 1000000000
 ·rw [if_pos hg] at h
  obtain rfl := Option.some.inj h
  match l0, hr0, hc0, hg with
  | [], hr0, hc0, hg => exact join0 a1 A0 c0 w
  | [x], hr0, hc0, hg =>
   obtain ⟨ad, rfl, hc⟩ := strings_at hr0 0 (by simp)
   rw [show ad.add 0 = ad from if_pos rfl] at hc
   have := join1 a1 x ad c0 w hc
   have e : tx (joinL (by_ a1) ([x].map by_)) = x := by simp [joinL, tx_by]
   rw [e]
   exact this
  | x :: y :: l, hr0, hc0, hg =>
   obtain ⟨ad, rfl, _⟩ := strings_at hr0 0 (by simp)
   have hr : ∀ (i : Nat) (z : ByteArray), (x :: y :: l)[i]? = some z → w.cell? (ad.add i) = some (.string z) := by
    intro i z hz
    obtain ⟨hi, hz⟩ := List.getElem?_eq_some_iff.1 hz
    obtain ⟨ad2, e, hc⟩ := strings_at hr0 i hi
    obtain rfl := Option.some.inj e
    rw [hc, hz]
   have := join2 a1 (x :: y :: l) _ ad c0 w rfl (by simp) hg.1 hc0 hg.2.1 hg.2.2 hr
   have e : outJ (by_ a1) (x :: y :: l) ((x :: y :: l).length - 1) = joinL (by_ a1) ((x :: y :: l).map by_) := by
    unfold outJ
    rw [List.take_of_length_le (by simp)]
   rw [e] at this
   exact this
 ·rw [if_neg hg] at h; cases h
end Go.Proofs.YtbboanfggaknjaaGreatDoor.X
namespace Go.Proofs.YtbboanfggaknjaaGreatDoor.X
open Go.RowKit Go.Proofs.YtbboanfggaknjaaGreatDoorW.PrintWords Go.Proofs.YtbboanfggaknjaaGreatDoorW.PrintLast Go.Proofs.YtbboanfggaknjaaGreatDoorW.PrintMore
attribute [local go_sem] max2_int min2_int max_two min_two max_three min_three max_four min_four
set_option linter.unusedVariables false
set_option linter.unusedSimpArgs false
def addr_Letters.j0 : Nat → Int → Bool → Option (ByteArray)
 | 0, _, _ => none
 | k + 1, x0, x3 => if x3 = true then (some (⟨#[]⟩ : ByteArray)) else (if x0 < 26 then (some (strOfNums (([(wrap64 (65 + x0)) % 256] : List Int)))) else (some (strOfNums (([(wrap64 ((wrap64 (65 + (wrap64 (Int.tdiv x0 26)))) - 1)) % 256, (wrap64 (65 + (Int.tmod x0 26))) % 256] : List Int)))))
def addr_Letters.f (k : Nat) (a0 : Int) : Option (ByteArray) := if a0 < 0 then (addr_Letters.j0 k a0 true) else (addr_Letters.j0 k a0 (decide (a0 ≥ 702)))
theorem addr_Letters.mono_l : ∀ k, (∀ y0 y1, LeO (addr_Letters.j0 k y0 y1) (addr_Letters.j0 (k + 1) y0 y1))
 | 0 => fun _ _ r h => by simp [addr_Letters.j0] at h
 | k + 1 => by
  have ih0 := addr_Letters.mono_l k
  ·intro y0 y1
   unfold addr_Letters.j0
   exact mo_
theorem addr_Letters.mono : ∀ a0 k, LeO (addr_Letters.f k a0) (addr_Letters.f (k + 1) a0) := by
 intro a0 k; have ih0 := addr_Letters.mono_l k
 unfold addr_Letters.f
 exact mo_
theorem addr_Letters.calls (k : Nat) (a0 : Int) (r : ByteArray) (w : World) (h : addr_Letters.f k a0 = some r) :
  Calls Tryz.prog 70 #[.int .i64 a0] w fun e w' => e = .returned (.string r) ∧ Below w.heap.size w w' := by
 have HB := A_ (Below.refl w.heap.size w)
 have H : (if a0 < 0 then (addr_Letters.j0 k a0 true) else (addr_Letters.j0 k a0 (decide (a0 ≥ 702)))) = some r := h
 clear h; have HC2 := A_ H; clear H
 go_enter Tryz.func70, Tryz.ntmps70
 go_upto_region 1 with (fail)
 go_cut [3] (fun v3 wc => ∃ (kq : Nat) (x3_1 : Bool), v3 = .bool x3_1 ∧ Aside0 (addr_Letters.j0 kq a0 x3_1 = some r) ∧ Aside0 (kq ≤ k) ∧ Aside0 (Below w.heap.size w wc))
 case first =>
  have H := HC2.out; clear HC2
  by_cases c3 : a0 < 0
  ·rw [if_pos c3] at H; have c3b0 := decide_eq_true c3; clear c3; (first | rw [c3b0] | (simp only [i64_w, i32_w]; rw [c3b0]) | skip)
   have H' := A_ H
   clear H
   go_wp2
   go_meet
   case rel => exact ⟨_, (true), sq_, H', le_, ⟨pbx HB⟩⟩
  ·rw [if_neg c3] at H; have c3b0 := decide_eq_false c3; clear c3; (first | rw [c3b0] | (simp only [i64_w, i32_w]; rw [c3b0]) | skip)
   have H' := A_ H
   clear H
   go_wp2
   go_meet
   case rel => exact ⟨_, (decide (a0 ≥ 702)), sq_, H', le_, ⟨pbx HB⟩⟩
 case rest =>
  clear HC2; obtain ⟨kq, x3_1, rfl, HA, HJ1, HB⟩ := hcut
  cases kq with
  | zero => exact absurd HA.out (by simp [addr_Letters.j0])
  | succ kj1 =>
   have H := HA.out; clear HA
   simp only [addr_Letters.j0] at H
   by_cases c4 : x3_1 = true
   ·subst c4
    replace H := it_ H; obtain rfl := Option.some.inj H
    go_wp2
    go_ret
    exact fi_ (pbx HB)
   ·replace c4 := Bool.eq_false_iff.mpr c4; subst c4
    replace H := ie_ H
    by_cases c5 : a0 < 26
    ·rw [if_pos c5] at H; have c5b0 := decide_eq_true c5; clear c5; obtain ⟨y101, hy101⟩ : ∃ y_ : List Int, y_ = (([(wrap64 (65 + a0)) % 256] : List Int)) := ⟨_, rfl⟩
     replace H : (some (strOfNums y101)) = some r := by first | (rw [hy101]; with_reducible exact H) | (have H2_ := (Option.bind_some _ _).symm.trans H; rw [hy101]; with_reducible exact H2_) | (have H2_ := (Option.bind_some _ _).symm.trans H; with_reducible exact H2_) | with_reducible exact H | (rw [hy101]; exact H) | exact H
     have Ny101 := A_ hy101; clear hy101; obtain rfl := Option.some.inj H
     go_wp2_with (first | ((with_reducible refine gd_ 16 ?_); refine Kd.R_lit (Kd.int .u8) _ 5 ?hg (N:=16) ?hd (xs := ([(wrap64 (65 + a0)) % 256] : List Int)) (inner := [.int .u8 ((wrap64 (65 + a0)) % 256)]) (ok := fun _ => True) (okp := fun _ => True) ?hr ?hp (fun _ hk => hk) trivial (Below.refl _ _) (Nat.le_refl _) (by simp) ?_; (case hd => rfl); (case hg => rfl); (case hr => first | (go_simp; done) | (go_simp; rfl)); (case hp => exact (Reps.one (show Kd.M (Kd.int .u8) _ _ _ ((wrap64 (65 + a0)) % 256) [.int .u8 ((wrap64 (65 + a0)) % 256)] from rfl) (Reps.none _ _))); intro v102 w6 ho7 hb hg_ hnew_; clear hg_ hnew_; (first | rw [← Ny101.out] at ho7 | (simp only [Int.reduceToNat] at ho7; rw [← Ny101.out] at ho7)); have HO103 := A_ (Kd.R_lower ho7 (below_size (pbx HB))); replace HB := bs_ HB hb; clear hb ho7; have hcv8 := own_string (P := Tryz.prog) Tryz.underlying66 Tryz.underlying5 Tryz.underlying9 (Kd.own_of_R HO103.out)))
     go_ret
     exact fi_ (pbx HB)
    ·rw [if_neg c5] at H; have c5b0 := decide_eq_false c5; clear c5; obtain ⟨y104, hy104⟩ : ∃ y_ : List Int, y_ = (([(wrap64 ((wrap64 (65 + (wrap64 (Int.tdiv a0 26)))) - 1)) % 256, (wrap64 (65 + (Int.tmod a0 26))) % 256] : List Int)) := ⟨_, rfl⟩
     replace H : (some (strOfNums y104)) = some r := by first | (rw [hy104]; with_reducible exact H) | (have H2_ := (Option.bind_some _ _).symm.trans H; rw [hy104]; with_reducible exact H2_) | (have H2_ := (Option.bind_some _ _).symm.trans H; with_reducible exact H2_) | with_reducible exact H | (rw [hy104]; exact H) | exact H
     have Ny104 := A_ hy104; clear hy104; obtain rfl := Option.some.inj H
     go_wp2_with (first | ((with_reducible refine gd_ 27 ?_); refine Kd.R_lit (Kd.int .u8) _ 5 ?hg (N:=27) ?hd (xs := ([(wrap64 ((wrap64 (65 + (wrap64 (Int.tdiv a0 26)))) - 1)) % 256, (wrap64 (65 + (Int.tmod a0 26))) % 256] : List Int)) (inner := [.int .u8 ((wrap64 ((wrap64 (65 + (wrap64 (Int.tdiv a0 26)))) - 1)) % 256), .int .u8 ((wrap64 (65 + (Int.tmod a0 26))) % 256)]) (ok := fun _ => True) (okp := fun _ => True) ?hr ?hp (fun _ hk => hk) trivial (Below.refl _ _) (Nat.le_refl _) (by simp) ?_; (case hd => rfl); (case hg => rfl); (case hr => first | (go_simp; done) | (go_simp; rfl)); (case hp => exact (Reps.one (show Kd.M (Kd.int .u8) _ _ _ ((wrap64 ((wrap64 (65 + (wrap64 (Int.tdiv a0 26)))) - 1)) % 256) [.int .u8 ((wrap64 ((wrap64 (65 + (wrap64 (Int.tdiv a0 26)))) - 1)) % 256)] from rfl) (Reps.one (show Kd.M (Kd.int .u8) _ _ _ ((wrap64 (65 + (Int.tmod a0 26))) % 256) [.int .u8 ((wrap64 (65 + (Int.tmod a0 26))) % 256)] from rfl) (Reps.none _ _)))); intro v105 w9 ho10 hb hg_ hnew_; clear hg_ hnew_; (first | rw [← Ny104.out] at ho10 | (simp only [Int.reduceToNat] at ho10; rw [← Ny104.out] at ho10)); have HO106 := A_ (Kd.R_lower ho10 (below_size (pbx HB))); replace HB := bs_ HB hb; clear hb ho10; have hcv11 := own_string (P := Tryz.prog) Tryz.underlying66 Tryz.underlying5 Tryz.underlying9 (Kd.own_of_R HO106.out)))
     go_ret
     exact fi_ (pbx HB)

def addr_Name.f (k : Nat) (a0_0 : Int) (a0_1 : Int) : Option (ByteArray) := (addr_May.f a0_0 a0_1).bind fun t102 => (if t102 = true then ((addr_Letters.f k a0_1).bind fun t103 => ((strconv_Itoa.f (wrap64 (a0_0 + 1))).bind fun t104 => (if t103.size + t104.size ≤ 9223372036854775807 then (some (t103 ++ t104)) else (none)))) else (some (⟨#[]⟩ : ByteArray)))
theorem addr_Name.mono : ∀ a0 a1 k, LeO (addr_Name.f k a0 a1) (addr_Name.f (k + 1) a0 a1) := by
 intro a0 a1 k
 unfold addr_Name.f
 have m0 := @addr_Letters.mono; exact mo_
def addr_Name.T3 : Bool × List (List Nat × List Nat) := (true, [([], []), ([0], [0]), ([1], [1]), ([], []), ([3], [3]), ([4], [4]), ([5, 2], [5]), ([2, 6], [2, 6]), ([7, 6, 0, 1, 2, 3, 4, 5, 6, 7], [7])])
def addr_Name.B3 : List Nat := [0, 1, 3, 0, 8, 24, 63, 127, 255]
theorem addr_Name.tab3 : rtab .any (opsOf Tryz.f44 3) = addr_Name.T3 := by kernel_rfl
theorem addr_Name.bits3 : waitsOk addr_Name.T3.2 addr_Name.B3 = true := by kernel_rfl
theorem addr_Name.calls (k : Nat) (a0_0 : Int) (a0_1 : Int) (r : ByteArray) (w : World) (hT : Aside0 (Tab w)) (h : addr_Name.f k a0_0 a0_1 = some r) :
  Calls Tryz.prog 44 #[.agg #[.int .i64 a0_0, .int .i64 a0_1]] w fun e w' => e = .returned (.string r) ∧ Below w.heap.size w w' := by
 have hu39 := Tryz.underlying39; have HB := A_ (Below.refl w.heap.size w)
 have H : ((addr_May.f a0_0 a0_1).bind fun t102 => (if t102 = true then ((addr_Letters.f k a0_1).bind fun t103 => ((strconv_Itoa.f (wrap64 (a0_0 + 1))).bind fun t104 => (if t103.size + t104.size ≤ 9223372036854775807 then (some (t103 ++ t104)) else (none)))) else (some (⟨#[]⟩ : ByteArray)))) = some r := h
 clear h; obtain ⟨t102, A2, H⟩ := bo_ H
 by_cases c3 : t102 = true
 ·subst c3
  obtain ⟨t103, A4, H⟩ := bo_ (it_ H); obtain ⟨t104, A5, H⟩ := bo_ H
  by_cases c6 : t103.size + t104.size ≤ 9223372036854775807
  ·rw [if_pos c6] at H; have c6b0 := eq_true c6; have c6b1 := decide_eq_true c6
   try have c6b2 : (9223372036854775807 < t103.size + t104.size) = False := eq_false (Nat.not_lt.2 c6)
   obtain rfl := Option.some.inj H
   go_enter Tryz.func44, Tryz.ntmps44
   try go_wp2_with (first | ((with_reducible refine gd_ 1 ?_); refine be_ (N:=1) (cs := #[.int .i64 a0_0, .int .i64 a0_1]) (t:=39) ?_; intro g1 hg w7 hbox hb; have B1 := A_ (hbox); have GW101 := hs_ HB hg; have GE101 := hs_ HB hg; replace HB := bs_ HB hb; clear hb hbox hg; have ⟨hcz8_0,hcz8_1,hfz8_0,hfz8_1⟩ := z2_ B1) | ((with_reducible refine gate_callee (f:=69) rfl ?_); refine gL_ (some 4) rfl rfl Tryz.func69 rfl #[.agg #[.int .i64 a0_0, .int .i64 a0_1]] rfl ?_; (with_reducible refine (addr_May.calls a0_0 a0_1 true _ A2.out).mono ?_); rintro e w9 ⟨rfl, hb⟩; refine ⟨_, rfl, ?_⟩; replace B1 := bb_ B1 hb; replace HB := bs_ HB hb; ))
   (try (rw [drewN_self w9]; generalize hq_ : World.drewN w9 _ = w9; have n0_ : Aside0 (w9.heap[g1]? = some (.cells #[.int .i64 a0_0, .int .i64 a0_1] 39 (0, 0))) := ⟨by rw [← hq_]; exact (pkx B1)⟩; have n1_ : Aside0 (Below w.heap.size w w9) := ⟨by rw [← hq_]; exact (pbx HB)⟩; clear B1 HB hq_; have B1 := n0_; have HB := n1_; clear n0_ n1_))
   replace B1 := A_ (blk_drew B1.out); replace HB := A_ (below_drew1 HB.out)
   refine start_ (n:=9) (S := fun w' => w'.cell? ⟨g1, 0, none⟩ = some (.int .i64 a0_0) ∧ w'.cell? ⟨g1, 1, none⟩ = some (.int .i64 a0_1)) (ds := []) #[F,F,F,F,F,F,F,F,F] (by kernel_rfl) rfl rfl ⟨bc_ B1 0 rfl, bc_ B1 1 rfl⟩ (fun hHeld => ?_); refine with_tabW addr_Name.tab3 addr_Name.bits3 (fun HT_ HW_ => ?_)
   generalize w9.drew = w10 at B1 HB hHeld ⊢; refine pure_ (i:=0) (N:=some 6) (v:=?_) (a':=?_) ⟨m_ 9 1⟩ rfl rfl (ao_ HT_) (fun _ _ _ h=>h) (Or.inl ⟨rfl, ?_⟩) ?_ ?_; rotate_left
   ·intro w'; go_simp; with_reducible rfl
   rotate_left
   ·simp only [q_, i64_w, i32_w]; rfl
   refine pure_ (i:=3) (N:=some 9) (v:=?_) (a':=?_) ⟨m_ 9 9⟩ rfl rfl (ao_ HT_) (fun _ _ _ h=>h) (Or.inl ⟨rfl, ?_⟩) ?_ ?_; rotate_left
   ·intro w'; go_simp; with_reducible rfl
   rotate_left
   ·simp only [q_, i64_w, i32_w]; rfl
   refine take_ (i:=1) (N:=some 7) (v:=?_) (a':=?_) ⟨m_ 9 11⟩ rfl rfl (tw_ HT_ HW_) (fun _ _ _ h=>h) (Or.inl ⟨rfl, ?_⟩) hHeld ?_ ?_; rotate_left
   ·rintro w' ⟨s0, s1⟩; go_simp; with_reducible rfl
   rotate_left
   ·simp only [q_, i64_w, i32_w]; rfl
   refine take_ (i:=4) (N:=some 10) (v:=?_) (a':=?_) ⟨m_ 9 27⟩ rfl rfl (tw_ HT_ HW_) (fun _ _ _ h=>h) (Or.inl ⟨rfl, ?_⟩) hHeld ?_ ?_; rotate_left
   ·rintro w' ⟨s0, s1⟩; go_simp; with_reducible rfl
   rotate_left
   ·simp only [q_, i64_w, i32_w]; rfl
   refine pure_ (i:=5) (N:=some 11) (v:=?_) (a':=?_) ⟨m_ 9 59⟩ rfl rfl (ao_ HT_) (fun _ _ _ h=>h) (Or.inl ⟨rfl, ?_⟩) ?_ ?_; rotate_left
   ·intro w'; go_simp; with_reducible rfl
   rotate_left
   ·simp only [q_, i64_w, i32_w]; rfl
   refine one_ (i:=2) (N:=some 8) ⟨m_ 9 63⟩ rfl rfl (oo_ HT_) (by decide) (fun K hK => ?_); refine goes_ Tryz.func70 (by kernel_rfl) rfl #[.int .i64 a0_1] (by rfl) rfl rfl ha_ ?_; with_reducible refine (addr_Letters.calls k a0_1 t103 _ A4.out).mono ?_; rintro e w11 ⟨rfl, hb⟩; refine ⟨_, rfl, ?_⟩
   replace B1 := bb_ B1 hb; replace HB := bs_ HB hb; (try clear hb); refine hK.out _ _ ⟨bc_ B1 0 rfl, bc_ B1 1 rfl⟩ (fun hHeld => ?_); clear hK K; refine norm_ (a':=?_) ?_ ?_; rotate_left
   ·show Act.put _ (some 8) _ = _; simp only [q_, i64_w, i32_w]; rfl
   refine one_ (i:=6) (N:=some 12) ⟨m_ 9 127⟩ rfl rfl (oo_ HT_) (by decide) (fun K hK => ?_); refine goes_ Tryz.func21 (by kernel_rfl) rfl #[.int .i64 (wrap64 (a0_0 + 1))] (by rfl) rfl rfl ha_ ?_; with_reducible refine (strconv_Itoa.calls (wrap64 (a0_0 + 1)) t104 _ (by refine tb_ ?_ hT; repeat' (first | exact pbx HB | exact Below.refl _ _ | assumption | refine below_set ?_ (Aside0.out ?_))) A5.out).mono ?_; rintro e w12 ⟨rfl, hb⟩; refine ⟨_, rfl, ?_⟩
   replace B1 := bb_ B1 hb; replace HB := bs_ HB hb; (try clear hb); refine hK.out _ _ ⟨bc_ B1 0 rfl, bc_ B1 1 rfl⟩ (fun hHeld => ?_); clear hK K; refine norm_ (a':=?_) ?_ ?_; rotate_left
   ·show Act.put _ (some 12) _ = _; simp only [q_, i64_w, i32_w]; rfl
   refine pure_ (i:=7) (N:=some 13) (v:=?_) (a':=?_) ⟨m_ 9 255⟩ rfl rfl (ao_ HT_) (fun _ _ _ h=>h) (Or.inl ⟨rfl, ?_⟩) ?_ ?_; rotate_left
   ·intro w'; go_simp; with_reducible rfl
   rotate_left
   ·simp only [q_, i64_w, i32_w]; rfl
   refine pure_ (i:=8) (N:=some 2) (v:=?_) (a':=?_) ⟨m_ 9 511⟩ rfl rfl (ao_ HT_) (fun _ _ _ h=>h) (Or.inl ⟨rfl, ?_⟩) ?_ ?_; rotate_left
   ·intro w'; go_simp; with_reducible rfl
   rotate_left
   ·simp only [q_, i64_w, i32_w]; rfl
   refine done_ (done_of HT_.out (by kernel_rfl)) ?_
   try go_wp2
   go_ret
   exact fi_ (pbx HB)
  ·rw [if_neg c6] at H
   exact absurd H (by simp)
 ·replace c3 := Bool.eq_false_iff.mpr c3; subst c3
  replace H := ie_ H; obtain rfl := Option.some.inj H
  go_enter Tryz.func44, Tryz.ntmps44
  go_wp2_with (first | ((with_reducible refine gd_ 1 ?_); refine be_ (N:=1) (cs := #[.int .i64 a0_0, .int .i64 a0_1]) (t:=39) ?_; intro g1 hg w13 hbox hb; have B1 := A_ (hbox); have GW101 := hs_ HB hg; have GE101 := hs_ HB hg; replace HB := bs_ HB hb; clear hb hbox hg; have ⟨hcz14_0,hcz14_1,hfz14_0,hfz14_1⟩ := z2_ B1) | ((with_reducible refine gate_callee (f:=69) rfl ?_); refine gL_ (some 4) rfl rfl Tryz.func69 rfl #[.agg #[.int .i64 a0_0, .int .i64 a0_1]] rfl ?_; (with_reducible refine (addr_May.calls a0_0 a0_1 false _ A2.out).mono ?_); rintro e w15 ⟨rfl, hb⟩; refine ⟨_, rfl, ?_⟩; replace B1 := bb_ B1 hb; replace HB := bs_ HB hb; ))
  go_ret
  exact fi_ (pbx HB)

end Go.Proofs.YtbboanfggaknjaaGreatDoor.X
namespace Go.Proofs.YtbboanfggaknjaaGreatDoor.X
open Go.RowKit Go.Proofs.YtbboanfggaknjaaGreatDoorW.PrintWords Go.Proofs.YtbboanfggaknjaaGreatDoorW.PrintLast Go.Proofs.YtbboanfggaknjaaGreatDoorW.PrintMore
attribute [local go_sem] max2_int min2_int max_two min_two max_three min_three max_four min_four
set_option linter.unusedVariables false
set_option linter.unusedSimpArgs false
attribute [local go_sem high] eqA39
def span_Text.j0 : Nat → Bool → Int → Int → Int → Int → Option (ByteArray)
 | 0, _, _, _, _, _ => none
 | k + 1, x3, x102000, x102001, x102002, x102003 => if x3 = true then (some (⟨#[]⟩ : ByteArray)) else (if (x102000 == x102002 && (x102001 == x102003)) = true then ((addr_Name.f k x102000 x102001).bind fun t103 => (some t103)) else ((addr_Name.f k x102000 x102001).bind fun t104 => (if t104.size + 1 ≤ 9223372036854775807 then ((addr_Name.f k x102002 x102003).bind fun t105 => (if (t104 ++ (⟨#[58]⟩ : ByteArray)).size + t105.size ≤ 9223372036854775807 then (some ((t104 ++ (⟨#[58]⟩ : ByteArray)) ++ t105)) else (none))) else (none))))
def span_Text.f (k : Nat) (a0_0 : Int) (a0_1 : Int) (a0_2 : Int) (a0_3 : Int) : Option (ByteArray) := (span_May.f a0_0 a0_1 a0_2 a0_3).bind fun t102 => (span_Text.j0 k (!t102) a0_0 a0_1 a0_2 a0_3)
theorem span_Text.mono_l : ∀ k, (∀ y0 y1 y2 y3 y4, LeO (span_Text.j0 k y0 y1 y2 y3 y4) (span_Text.j0 (k + 1) y0 y1 y2 y3 y4))
 | 0 => fun _ _ _ _ _ r h => by simp [span_Text.j0] at h
 | k + 1 => by
  have ih0 := span_Text.mono_l k
  ·intro y0 y1 y2 y3 y4
   unfold span_Text.j0
   have m0 := @addr_Name.mono; exact mo_
theorem span_Text.mono : ∀ a0 a1 a2 a3 k, LeO (span_Text.f k a0 a1 a2 a3) (span_Text.f (k + 1) a0 a1 a2 a3) := by
 intro a0 a1 a2 a3 k; have ih0 := span_Text.mono_l k
 unfold span_Text.f
 have m0 := @addr_Name.mono; exact mo_
def span_Text.T5 : Bool × List (List Nat × List Nat) := (true, [([], []), ([0], [0]), ([1], [1]), ([2], [2]), ([], []), ([4], [4]), ([5, 2], [5]), ([3, 6], [3, 6]), ([7, 6, 0, 1, 2, 3, 4, 5, 6, 7], [7])])
def span_Text.B5 : List Nat := [0, 1, 3, 7, 0, 16, 55, 127, 255]
theorem span_Text.tab5 : rtab .any (opsOf Tryz.f22 5) = span_Text.T5 := by kernel_rfl
theorem span_Text.bits5 : waitsOk span_Text.T5.2 span_Text.B5 = true := by kernel_rfl
theorem span_Text.calls (k : Nat) (a0_0 : Int) (a0_1 : Int) (a0_2 : Int) (a0_3 : Int) (r : ByteArray) (w : World) (hT : Aside0 (Tab w)) (h : span_Text.f k a0_0 a0_1 a0_2 a0_3 = some r) :
  Calls Tryz.prog 22 #[.agg #[.int .i64 a0_0, .int .i64 a0_1, .int .i64 a0_2, .int .i64 a0_3]] w fun e w' => e = .returned (.string r) ∧ Below w.heap.size w w' := by
 have hu55 := Tryz.underlying55; have hu39 := Tryz.underlying39; have HB := A_ (Below.refl w.heap.size w)
 have H : ((span_May.f a0_0 a0_1 a0_2 a0_3).bind fun t102 => (span_Text.j0 k (!t102) a0_0 a0_1 a0_2 a0_3)) = some r := h
 clear h; have HC2 := A_ H; clear H
 go_enter Tryz.func22, Tryz.ntmps22
 go_upto_region 1 with (first | ((with_reducible refine gd_ 1 ?_); refine be_ (N:=1) (cs := #[.int .i64 a0_0, .int .i64 a0_1, .int .i64 a0_2, .int .i64 a0_3]) (t:=55) ?_; intro g1 hg w3 hbox hb; have B1 := A_ (hbox); have GW101 := hs_ HB hg; have GE101 := hs_ HB hg; replace HB := bs_ HB hb; clear hb hbox hg))
 (try simp only [q_])
 go_cut [3] (fun v3 wc => ∃ (kq : Nat) (x3_1 : Bool), v3 = .bool x3_1 ∧ Aside0 (span_Text.j0 kq x3_1 a0_0 a0_1 a0_2 a0_3 = some r) ∧ Aside0 (kq ≤ k) ∧ Aside0 (wc.heap[g1]? = some (.cells #[.int .i64 a0_0, .int .i64 a0_1, .int .i64 a0_2, .int .i64 a0_3] 55 (0, 0))) ∧ Aside0 (Below w.heap.size w wc))
 case first =>
  have H := HC2.out; clear HC2; obtain ⟨t102, A4, H⟩ := bo_ H
  have H' := A_ H
  clear H
  have ⟨hcz5_0,hcz5_1,hcz5_2,hcz5_3,hfz5_0,hfz5_1,hfz5_2,hfz5_3⟩ := z4_ B1
  go_wp2_with (first | ((with_reducible refine gate_callee (f:=43) rfl ?_); refine gL_ (some 5) rfl rfl Tryz.func43 rfl #[.agg #[.int .i64 a0_0, .int .i64 a0_1, .int .i64 a0_2, .int .i64 a0_3]] rfl ?_; (with_reducible refine (span_May.calls a0_0 a0_1 a0_2 a0_3 t102 _ A4.out).mono ?_); rintro e w6 ⟨rfl, hb⟩; refine ⟨_, rfl, ?_⟩; replace B1 := bb_ B1 hb; replace HB := bs_ HB hb; (try clear hb); ))
  go_meet
  case rel => exact ⟨_, (!t102), (by first | rfl | (simp; done) | (simp [*]; done) | (cases t102 <;> simp; done)), H', le_, ⟨pkx B1⟩, ⟨pbx HB⟩⟩
 case rest =>
  clear HC2; obtain ⟨kq, x3_1, rfl, HA, HJ1, B1, HB⟩ := hcut
  cases kq with
  | zero => exact absurd HA.out (by simp [span_Text.j0])
  | succ kj1 =>
   have H := HA.out; clear HA
   simp only [span_Text.j0] at H
   by_cases c7 : x3_1 = true
   ·subst c7
    replace H := it_ H; obtain rfl := Option.some.inj H
    go_wp2
    go_ret
    exact fi_ (pbx HB)
   ·replace c7 := Bool.eq_false_iff.mpr c7; subst c7
    replace H := ie_ H
    by_cases c8 : (a0_0 == a0_2 && (a0_1 == a0_3)) = true
    ·rw [if_pos c8] at H
     have c8b0 : (a0_0 == a0_2 && (a0_1 == a0_3)) = true := c8
     (try (have c8b1 : decide (a0_0 = a0_2 && (a0_1 == a0_3)) = true := by simpa using c8)); (try (have c8b2 : (a0_0 == a0_2 && (a0_1 == a0_3)) = true := by simpa using c8))
     clear c8; obtain ⟨t103, A9, H⟩ := bo_ H; obtain rfl := Option.some.inj H
     have ⟨hcz10_0,hcz10_1,hcz10_2,hcz10_3,hfz10_0,hfz10_1,hfz10_2,hfz10_3⟩ := z4_ B1
     go_wp2_with (first | ((with_reducible refine gate_callee (f:=44) rfl ?_); refine gL_ (some 15) rfl rfl Tryz.func44 rfl #[.agg #[.int .i64 a0_0, .int .i64 a0_1]] rfl ?_; (with_reducible refine (addr_Name.calls kj1 a0_0 a0_1 t103 _ (by refine tb_ ?_ hT; repeat' (first | exact pbx HB | exact Below.refl _ _ | assumption | refine below_set ?_ (Aside0.out ?_))) A9.out).mono ?_); rintro e w11 ⟨rfl, hb⟩; refine ⟨_, rfl, ?_⟩; replace B1 := bb_ B1 hb; replace HB := bs_ HB hb; (try clear hb); ))
     go_ret
     exact fi_ (pbx HB)
    ·rw [if_neg c8] at H
     have c8b0 : (a0_0 == a0_2 && (a0_1 == a0_3)) = false := by simpa using c8
     (try (have c8b1 : decide (a0_0 = a0_2 && (a0_1 == a0_3)) = false := by simpa using c8)); (try (have c8b2 : (a0_0 == a0_2 && (a0_1 == a0_3)) = false := by simpa using c8)); (try (have c8b3 : ¬ (a0_0 = a0_2 && (a0_1 == a0_3)) := by simpa using c8))
     clear c8; obtain ⟨t104, A12, H⟩ := bo_ H
     by_cases c13 : t104.size + 1 ≤ 9223372036854775807
     ·rw [if_pos c13] at H; have c13b0 := eq_true c13; have c13b1 := decide_eq_true c13
      try have c13b2 : (9223372036854775807 < t104.size + 1) = False := eq_false (Nat.not_lt.2 c13)
      obtain ⟨t105, A14, H⟩ := bo_ H
      by_cases c15 : (t104 ++ (⟨#[58]⟩ : ByteArray)).size + t105.size ≤ 9223372036854775807
      ·rw [if_pos c15] at H; have c15b0 := eq_true c15; have c15b1 := decide_eq_true c15
       try have c15b2 : (9223372036854775807 < (t104 ++ (⟨#[58]⟩ : ByteArray)).size + t105.size) = False := eq_false (Nat.not_lt.2 c15)
       try have c15b2z : (9223372036854775807 < t104.size + 1 + t105.size) = False := by have h9_ := c15b2; rw [ByteArray.size_append] at h9_; exact h9_
       obtain rfl := Option.some.inj H
       have ⟨hcz16_0,hcz16_1,hcz16_2,hcz16_3,hfz16_0,hfz16_1,hfz16_2,hfz16_3⟩ := z4_ B1
       try go_wp2
       (try (rw [drewN_self wc]; generalize hq_ : World.drewN wc _ = wc; have n0_ : Aside0 (wc.heap[g1]? = some (.cells #[.int .i64 a0_0, .int .i64 a0_1, .int .i64 a0_2, .int .i64 a0_3] 55 (0, 0))) := ⟨by rw [← hq_]; exact (pkx B1)⟩; have n1_ : Aside0 (Below w.heap.size w wc) := ⟨by rw [← hq_]; exact (pbx HB)⟩; clear B1 HB hq_; have B1 := n0_; have HB := n1_; clear n0_ n1_))
       replace B1 := A_ (blk_drew B1.out); replace HB := A_ (below_drew1 HB.out)
       refine start_ (n:=9) (S := fun w' => w'.cell? ⟨g1, 0, none⟩ = some (.int .i64 a0_0) ∧ w'.cell? ⟨g1, 1, none⟩ = some (.int .i64 a0_1) ∧ w'.cell? ⟨g1, 2, none⟩ = some (.int .i64 a0_2) ∧ w'.cell? ⟨g1, 3, none⟩ = some (.int .i64 a0_3)) (ds := []) #[F,F,F,F,F,F,F,F,F] (by kernel_rfl) rfl rfl ⟨bc_ B1 0 rfl, bc_ B1 1 rfl, bc_ B1 2 rfl, bc_ B1 3 rfl⟩ (fun hHeld => ?_); refine with_tabW span_Text.tab5 span_Text.bits5 (fun HT_ HW_ => ?_)
       generalize wc.drew = w17 at B1 HB hHeld ⊢; refine pure_ (i:=0) (N:=some 16) (v:=?_) (a':=?_) ⟨m_ 9 1⟩ rfl rfl (ao_ HT_) (fun _ _ _ h=>h) (Or.inl ⟨rfl, ?_⟩) ?_ ?_; rotate_left
       ·intro w'; go_simp; with_reducible rfl
       rotate_left
       ·simp only [q_, i64_w, i32_w]; rfl
       refine pure_ (i:=4) (N:=some 20) (v:=?_) (a':=?_) ⟨m_ 9 17⟩ rfl rfl (ao_ HT_) (fun _ _ _ h=>h) (Or.inl ⟨rfl, ?_⟩) ?_ ?_; rotate_left
       ·intro w'; go_simp; with_reducible rfl
       rotate_left
       ·simp only [q_, i64_w, i32_w]; rfl
       refine take_ (i:=1) (N:=some 17) (v:=?_) (a':=?_) ⟨m_ 9 19⟩ rfl rfl (tw_ HT_ HW_) (fun _ _ _ h=>h) (Or.inl ⟨rfl, ?_⟩) hHeld ?_ ?_; rotate_left
       ·rintro w' ⟨s0, s1, s2, s3⟩; go_simp; with_reducible rfl
       rotate_left
       ·simp only [q_, i64_w, i32_w]; rfl
       refine take_ (i:=5) (N:=some 21) (v:=?_) (a':=?_) ⟨m_ 9 51⟩ rfl rfl (tw_ HT_ HW_) (fun _ _ _ h=>h) (Or.inl ⟨rfl, ?_⟩) hHeld ?_ ?_; rotate_left
       ·rintro w' ⟨s0, s1, s2, s3⟩; go_simp; with_reducible rfl
       rotate_left
       ·simp only [q_, i64_w, i32_w]; rfl
       refine one_ (i:=2) (N:=some 18) ⟨m_ 9 55⟩ rfl rfl (oo_ HT_) (by decide) (fun K hK => ?_); refine goes_ Tryz.func44 (by kernel_rfl) rfl #[.agg #[.int .i64 a0_0, .int .i64 a0_1]] (by rfl) rfl rfl ha_ ?_; with_reducible refine (addr_Name.calls kj1 a0_0 a0_1 t104 _ (by refine tb_ ?_ hT; repeat' (first | exact pbx HB | exact Below.refl _ _ | assumption | refine below_set ?_ (Aside0.out ?_))) A12.out).mono ?_; rintro e w18 ⟨rfl, hb⟩; refine ⟨_, rfl, ?_⟩
       replace B1 := bb_ B1 hb; replace HB := bs_ HB hb; (try clear hb); refine hK.out _ _ ⟨bc_ B1 0 rfl, bc_ B1 1 rfl, bc_ B1 2 rfl, bc_ B1 3 rfl⟩ (fun hHeld => ?_); clear hK K; refine norm_ (a':=?_) ?_ ?_; rotate_left
       ·show Act.put _ (some 18) _ = _; simp only [q_, i64_w, i32_w]; rfl
       refine pure_ (i:=3) (N:=some 19) (v:=?_) (a':=?_) ⟨m_ 9 63⟩ rfl rfl (ao_ HT_) (fun _ _ _ h=>h) (Or.inl ⟨rfl, ?_⟩) ?_ ?_; rotate_left
       ·intro w'; go_simp; with_reducible rfl
       rotate_left
       ·simp only [q_, i64_w, i32_w]; rfl
       refine one_ (i:=6) (N:=some 22) ⟨m_ 9 127⟩ rfl rfl (oo_ HT_) (by decide) (fun K hK => ?_); refine goes_ Tryz.func44 (by kernel_rfl) rfl #[.agg #[.int .i64 a0_2, .int .i64 a0_3]] (by rfl) rfl rfl ha_ ?_; with_reducible refine (addr_Name.calls kj1 a0_2 a0_3 t105 _ (by refine tb_ ?_ hT; repeat' (first | exact pbx HB | exact Below.refl _ _ | assumption | refine below_set ?_ (Aside0.out ?_))) A14.out).mono ?_; rintro e w19 ⟨rfl, hb⟩; refine ⟨_, rfl, ?_⟩
       replace B1 := bb_ B1 hb; replace HB := bs_ HB hb; (try clear hb); refine hK.out _ _ ⟨bc_ B1 0 rfl, bc_ B1 1 rfl, bc_ B1 2 rfl, bc_ B1 3 rfl⟩ (fun hHeld => ?_); clear hK K; refine norm_ (a':=?_) ?_ ?_; rotate_left
       ·show Act.put _ (some 22) _ = _; simp only [q_, i64_w, i32_w]; rfl
       refine pure_ (i:=7) (N:=some 23) (v:=?_) (a':=?_) ⟨m_ 9 255⟩ rfl rfl (ao_ HT_) (fun _ _ _ h=>h) (Or.inl ⟨rfl, ?_⟩) ?_ ?_; rotate_left
       ·intro w'; go_simp; with_reducible rfl
       rotate_left
       ·simp only [q_, i64_w, i32_w]; rfl
       refine pure_ (i:=8) (N:=some 2) (v:=?_) (a':=?_) ⟨m_ 9 511⟩ rfl rfl (ao_ HT_) (fun _ _ _ h=>h) (Or.inl ⟨rfl, ?_⟩) ?_ ?_; rotate_left
       ·intro w'; go_simp; with_reducible rfl
       rotate_left
       ·simp only [q_, i64_w, i32_w]; rfl
       refine done_ (done_of HT_.out (by kernel_rfl)) ?_
       try go_wp2
       go_ret
       exact fi_ (pbx HB)
      ·rw [if_neg c15] at H
       exact absurd H (by simp)
     ·rw [if_neg c13] at H
      exact absurd H (by simp)

end Go.Proofs.YtbboanfggaknjaaGreatDoor.X
/- The contract of math/bits.TrailingZeros64: where the table is laid. -/
set_option linter.unusedVariables false
namespace Go.Proofs.YtbboanfggaknjaaGreatDoor.X
open Go.RowKit Go.Proofs.YtbboanfggaknjaaGreatDoorW.PrintWords Go.Proofs.YtbboanfggaknjaaGreatDoorW.PrintLast Go.Proofs.YtbboanfggaknjaaGreatDoorW.PrintMore
def bits_TrailingZeros64.f (a0 : Int) : Option Int := if 0 ≤ a0 ∧ a0 < 18446744073709551616 then some ((Lib.ctz 64 a0.toNat : Nat) : Int) else none
theorem bru_at : ∀ k, k < 64 → bru64.getD k 0 = ((Lib.deBruijn64tab.getD k 0 : Nat) : Int) := by decide +kernel
theorem bits_TrailingZeros64.core (x k idx : Nat) (w : World) (hx0 : ((x : Int) == 0) = false)
  (key : IntKind.u64.wrap (bits BinOp.and IntKind.u64 (x : Int) (IntKind.u64.wrap (-(x : Int))) * 285870213051353865) / 288230376151711744 = (idx : Int))
  (hi : idx < 64) (hk : k < 64) (hcell : w.cell? ⟨2, idx, none⟩ = some (.int .u8 k)) :
  Calls Tryz.prog 93 #[.int .u64 x] w fun e w' => e = .returned (.int .i64 k) ∧ w' = w := by
 go_enter Tryz.func93, Tryz.ntmps93
 go_wp2_with (simp only [key])
 go_ret
 exact ⟨rfl, rfl⟩
theorem bits_TrailingZeros64.zero (w : World) :
  Calls Tryz.prog 93 #[.int .u64 0] w fun e w' => e = .returned (.int .i64 64) ∧ w' = w := by
 go_enter Tryz.func93, Tryz.ntmps93
 go_wp2
 go_ret
 exact ⟨rfl, rfl⟩
theorem bits_TrailingZeros64.calls (a0 : Int) (r : Int) (w : World) (hT : Aside0 (Tab w)) (h : bits_TrailingZeros64.f a0 = some r) :
  Calls Tryz.prog 93 #[.int .u64 a0] w fun e w' => e = .returned (.int .i64 r) ∧ Drawn0 w w' := by
 unfold bits_TrailingZeros64.f at h
 by_cases hs : 0 ≤ a0 ∧ a0 < 18446744073709551616
 ·rw [if_pos hs] at h
  obtain rfl := Option.some.inj h
  obtain ⟨x, rfl⟩ : ∃ x : Nat, a0 = (x : Int) := ⟨a0.toNat, by omega⟩
  have hx : x < 18446744073709551616 := by omega
  rw [Int.toNat_natCast]
  by_cases hx0 : x = 0
  ·subst hx0
   refine (bits_TrailingZeros64.zero w).mono ?_
   rintro e w' ⟨rfl, rfl⟩
   exact ⟨rfl, Drawn0.refl _⟩
  ·obtain ⟨hlow, hk⟩ := Lib.lowest_bit 64 x hx0 hx
   obtain ⟨hi, htab⟩ := Lib.deBruijn64_at _ hk
   have hcell := hT.out.bru.cell (g := 2) (by kernel_rfl) _ (show _ < bru64.length from hi)
   rw [bru_at _ hi, htab] at hcell
   refine (bits_TrailingZeros64.core x _ _ w (by simp; omega) (tz64_key x _ hx hx0 hlow) hi hk hcell).mono ?_
   rintro e w' ⟨rfl, rfl⟩
   exact ⟨rfl, Drawn0.refl _⟩
 ·rw [if_neg hs] at h
  cases h
end Go.Proofs.YtbboanfggaknjaaGreatDoor.X
namespace Go.Proofs.YtbboanfggaknjaaGreatDoor.X
open Go.RowKit Go.Proofs.YtbboanfggaknjaaGreatDoorW.PrintWords Go.Proofs.YtbboanfggaknjaaGreatDoorW.PrintLast Go.Proofs.YtbboanfggaknjaaGreatDoorW.PrintMore
attribute [local go_sem] max2_int min2_int max_two min_two max_three min_three max_four min_four
set_option linter.unusedVariables false
set_option linter.unusedSimpArgs false
def cats_List.l0 : Nat → Int → List Int → Option (List Int)
 | 0, _, _ => none
 | k + 1, x0, x3 => if x0 = 0 then (some x3) else ((bits_TrailingZeros64.f x0).bind fun t101 => (if x3.length < 17592186044416 then (cats_List.l0 k (Go.bits .and .u64 x0 (IntKind.u64.wrap (x0 - 1))) (x3 ++ [t101])) else (none)))
def cats_List.f (k : Nat) (a0 : Int) : Option (List Int) := cats_List.l0 k a0 ([] : List Int)
theorem cats_List.mono_l : ∀ k, (∀ y0 y1, LeO (cats_List.l0 k y0 y1) (cats_List.l0 (k + 1) y0 y1))
 | 0 => fun _ _ r h => by simp [cats_List.l0] at h
 | k + 1 => by
  have ih0 := cats_List.mono_l k
  ·intro y0 y1
   unfold cats_List.l0
   exact mo_
theorem cats_List.mono : ∀ a0 k, LeO (cats_List.f k a0) (cats_List.f (k + 1) a0) := by
 intro a0 k; have ih0 := cats_List.mono_l k
 unfold cats_List.f
 exact mo_
theorem cats_List.calls (k : Nat) (a0 : Int) (r : List Int) (w : World) (hT : Aside0 (Tab w)) (h : cats_List.f k a0 = some r) :
  Calls Tryz.prog 71 #[.int .u64 a0] w fun e w' => ∃ v0_ : Value, e = .returned (v0_) ∧ Kd.R (Kd.int .i64) 3 w' w.heap.size (fun _ => True) v0_ r ∧ Below w.heap.size w w' := by
 have HB := A_ (Below.refl w.heap.size w)
 have H : (cats_List.l0 k a0 ([] : List Int)) = some r := h
 clear h
 have H' := A_ H
 clear H
 go_enter Tryz.func71, Tryz.ntmps71
 go_wp2
 go_loopg [0, 3] k (fun kq v0 v3 w' => ∃ (x0_1 : Int) (x3_1 : List Int), v0 = .int .u64 x0_1 ∧ Aside0 (cats_List.l0 kq x0_1 x3_1 = some r) ∧ Aside0 (kq ≤ k) ∧ Aside0 (Kd.R (Kd.int .i64) 3 w' w.heap.size (fun _ => True) v3 x3_1) ∧ Aside0 (Below w.heap.size w w'))
 case atStart => exact ⟨(a0), (([] : List Int)), sq_, H', ⟨Nat.le_refl _⟩, ⟨by first | exact Kd.R_nil _ _ _ _ _ | exact Kd.N_nil _ _ _ _ _ | exact Kd.V_nil _ _ _ _ _ | exact Kd.Q_nil _ _ _ _ _ | exact Kd.S_nil _ _ _ _ _⟩, ⟨pbx HB⟩⟩
 case round =>
  clear H'; obtain ⟨x0_1, x3_1, rfl, HA, HK1, HO_3, HB⟩ := hrel
  cases gk with
  | zero => exact absurd HA.out (by simp [cats_List.l0])
  | succ k1 =>
   have H := HA.out; clear HA
   simp only [cats_List.l0] at H
   by_cases c2 : x0_1 = 0
   ·rw [if_pos c2] at H; have ⟨c2b0,c2b1⟩ := e1_ c2; clear c2; obtain rfl := Option.some.inj H
    go_wp2
    go_ret
    exact ⟨_, by first | rfl | (simp [errW_none, errW_some] <;> rfl) | (simp [*, errW_none, errW_some] <;> rfl), ra_ HO_3.out, pbx HB⟩
   ·rw [if_neg c2] at H; have ⟨c2b0,c2b1⟩ := e0_ c2; obtain ⟨t101, A3, H⟩ := bo_ H
    by_cases c4 : x3_1.length < 17592186044416
    ·rw [if_pos c4] at H; have LMc4 := A_ c4; clear c4; obtain ⟨y102, hy102⟩ : ∃ y_ : List Int, y_ = (x3_1 ++ [t101]) := ⟨_, rfl⟩
     replace H : (cats_List.l0 k1 (Go.bits .and .u64 x0_1 (IntKind.u64.wrap (x0_1 - 1))) y102) = some r := by first | (rw [hy102]; with_reducible exact H) | (have H2_ := (Option.bind_some _ _).symm.trans H; rw [hy102]; with_reducible exact H2_) | (have H2_ := (Option.bind_some _ _).symm.trans H; with_reducible exact H2_) | with_reducible exact H | (rw [hy102]; exact H) | exact H
     have Ny102 := A_ hy102; clear hy102
     have H' := A_ H
     clear H
     go_wp2_with (first | ((with_reducible refine gate_callee (f:=93) rfl ?_); refine gL_ (some 8) rfl rfl Tryz.func93 rfl #[.int .u64 x0_1] rfl ?_; (with_reducible refine (bits_TrailingZeros64.calls x0_1 t101 _ (by refine tb_ ?_ hT; repeat' (first | exact pbx HB | exact Below.refl _ _ | assumption | refine below_set ?_ (Aside0.out ?_))) A3.out).mono ?_); rintro e w' ⟨rfl, ⟨nd, rfl⟩⟩; refine ⟨_, rfl, ?_⟩) | ((with_reducible refine gate_builtin (b := .append) (xs := #[.tmp 6, .tmp 9]) rfl ?_); at_builtin; refine Kd.R_append (Kd.int .i64) (w0 := w) w.heap.size rfl (.tmp 6) (.tmp 9) 128 3 (.int .i64 0) 8 rfl Tryz.underlying128 info3 rfl (by decide) (by omega) u3 x3_1 t101 [.int .i64 t101] (fun _ => True) (fun _ => False) rfl rfl ?aP (fun _ hk => hk.elim) ?aF ?aO ?aB ?aS ?aL ?_; (case aP => exact rfl); (case aB => exact (pbx HB)); (case aF => exact (fun _ _ => trivial)); (case aO => exact (ra_ HO_3.out)); (case aS => exact (below_size (pbx HB))); (case aL => have := LMc4.out; omega); intro v103 w5 ho hb hg hat; rw [← Ny102.out] at ho; have HO104 := A_ (ho); replace HB := A_ (hb); clear HO_3; clear ho hb hg hat))
     go_roundg k1
     case measure => have := HK1.out; omega
     case rel => exact ⟨(Go.bits .and .u64 x0_1 (IntKind.u64.wrap (x0_1 - 1))), (y102), sq_, H', ⟨by have := HK1.out; omega⟩, ⟨ra_ HO104.out⟩, ⟨pbx HB⟩⟩
    ·rw [if_neg c4] at H
     exact absurd H (by simp)

end Go.Proofs.YtbboanfggaknjaaGreatDoor.X
/- The contract of cats.Text: its categories, told through strings.Builder. -/
set_option linter.unusedVariables false
namespace Go.Proofs.YtbboanfggaknjaaGreatDoor.X
open Go.RowKit Go.Shelf Go.Proofs.YtbboanfggaknjaaGreatDoorW.PrintWords Go.Proofs.YtbboanfggaknjaaGreatDoorW.PrintLast Go.Proofs.YtbboanfggaknjaaGreatDoorW.PrintMore
def texG : Nat → List Int → List UInt8
 | _, [] => []
 | i, c :: r => (if i = 0 then [] else [44]) ++ (Lib.decDigits c.toNat ++ texG (i + 1) r)
def cats_Text.f (k : Nat) (a0 : Int) : Option ByteArray := (cats_List.f k a0).bind fun l => if l.length ≤ 1000 ∧ (∀ c ∈ l, 0 ≤ c ∧ c < 100) then some ⟨(texG 0 l).toArray⟩ else none
theorem cats_Text.mono : ∀ a0 k, LeO (cats_Text.f k a0) (cats_Text.f (k + 1) a0) := fun a0 k => LeO.bind (cats_List.mono a0 k) (fun _ => LeO.refl _)
theorem dec_len (n : Nat) (h : n < 100) : (Lib.decDigits n).length ≤ 2 := by
 rw [Lib.decDigits]
 split
 ·simp
 ·rw [Lib.decDigits, dif_pos (by omega)]; simp
set_option maxRecDepth 1000000 in
theorem cats_Text.calls (k : Nat) (a0 : Int) (r : ByteArray) (w : World) (hT : Aside0 (Tab w)) (h : cats_Text.f k a0 = some r) :
  Calls Tryz.prog 47 #[.int .u64 a0] w fun e w' => e = .returned (.string r) ∧ Below w.heap.size w w' := by
 unfold cats_Text.f at h
 obtain ⟨l, hl, h⟩ := Option.bind_eq_some_iff.1 h
 by_cases hs : l.length ≤ 1000 ∧ (∀ c ∈ l, 0 ≤ c ∧ c < 100)
 rotate_left
 ·rw [if_neg hs] at h; cases h
 rw [if_pos hs] at h
 obtain rfl := Option.some.inj h
 clear h
 obtain ⟨hn, hc⟩ := hs
 have hb0 : Below w.heap.size w (w.alloc (.cells #[.pointer none, .slice none 0 0] 68)) := (Below.refl _ w).alloc (Nat.le_refl _) _
 have hT1 : Aside0 (Tab (w.alloc (.cells #[.pointer none, .slice none 0 0] 68))) := tb_ hb0 hT
 have hnew : (w.alloc (.cells #[.pointer none, .slice none 0 0] 68)).heap[w.heap.size]? = some (.cells #[.pointer none, .slice none 0 0] 68 (0, 0)) := by
  show (w.heap.push _)[w.heap.size]? = some _
  simp
 have hsz : (w.alloc (.cells #[.pointer none, .slice none 0 0] 68)).heap.size = w.heap.size + 1 := by simp
 go_enter Tryz.func47, Tryz.ntmps47
 go_wp2_with (go_at_call 71; refine (cats_List.calls k a0 l _ hT1 hl).mono ?_; rintro e w1 ⟨v, rfl, hR, hb1⟩; obtain ⟨A, cp, rfl, hrd⟩ := Kd.R_reads hR; obtain ⟨inner, hown⟩ := Kd.R_own hR)
 have hbk : w1.heap[w.heap.size]? = some (.cells #[.pointer none, .slice none 0 0] 68 (0, 0)) := (hb1.block _ (by rw [hsz]; omega)).trans hnew
 have hI0 : Lib.IsBuilderF 68 5 w.heap.size w.heap.size (Lib.byteCells []) w1 := Or.inl ⟨Nat.le_refl _, .slice none 0 0, hbk, ⟨rfl, Or.inl ⟨rfl, rfl⟩⟩, by simp [Value.ownBlock]⟩
 have hbw1 : Below w.heap.size w w1 := hb0.trans (hb1.mono (by rw [hsz]; omega))
 have hs1 : w.heap.size + 1 ≤ w1.heap.size := by have := hb1.size; rw [hsz] at this; exact this
 -- what the row's block is, if there is one
 have hrow : ∀ i : Nat, i < l.length → ∃ g cur, A = some ⟨g, 0, none⟩ ∧ w.heap.size + 1 ≤ g ∧ w1.heap[g]? = some (.cells cur 3 (0, 0)) ∧ w1.cell? ⟨g, i, none⟩ = some (.int .i64 (l.getD i 0)) := by
  intro i hi
  obtain ⟨ad, c, hA, hcl, hcr, hcell⟩ := ReadsRow.get_ hrd.2 0 (i : Int) (by omega) (by omega)
  rcases hown.2 with ⟨_, h0⟩ | ⟨g, cap, cur, hv, hg1, hg2, _⟩
  ·omega
  ·injection hv with hv1 hv2 hv3
   subst hv1
   injection hA with hA
   subst hA
   refine ⟨g, cur, rfl, by rw [hsz] at hg1; exact hg1, hg2, ?_⟩
   have hce : c = [.int .i64 (l.getD (Int.toNat (i : Int)) 0)] := hcr
   have := hcell 0 (.int .i64 (l.getD (Int.toNat (i : Int)) 0)) (by rw [hce]; rfl)
   rw [Int.toNat_natCast] at this
   have e : (⟨g, 0, none⟩ : Addr).add (i * (Kd.int .i64).sz + 0) = ⟨g, i, none⟩ := by
    simp [Addr.add, Kd.int, Kd.scalar]
    try exact fun h => h.symm
   rw [e] at this
   exact this
 have HROW := Aside0.mk hrow
 clear hrow hown hrd hR hnew hbk hT1 hb1 hb0
 have HB1 := Aside0.mk hbw1
 have HI0 := Aside0.mk hI0
 clear hbw1 hI0
 go_wp2
 go_loopg [9] (l.length + 1) (fun kq v9 wr => ∃ (i : Nat) (acc : List UInt8), v9 = .int .i64 (i : Int) ∧ Aside0 (i + kq = l.length + 1 ∧ i ≤ l.length) ∧ Aside0 (Lib.IsBuilderF 68 5 w.heap.size w.heap.size (Lib.byteCells acc) wr) ∧ Aside0 (Below w.heap.size w wr) ∧ Aside0 (Lib.OthersKept 5 (some w.heap.size) w1 wr) ∧ Aside0 (acc ++ texG i (l.drop i) = texG 0 l) ∧ Aside0 (acc.length ≤ 3 * i))
 case atStart => exact ⟨0, [], rfl, ⟨by omega, by omega⟩, HI0, HB1, ⟨Lib.OthersKept.refl _ _ _⟩, ⟨rfl⟩, ⟨by simp⟩⟩
 case round =>
  obtain ⟨i, acc, rfl, HQ, HI, HB, HK, HA, HL⟩ := hrel
  have hq := HQ.out
  cases gk with
  | zero =>
   exfalso
   have := HL.out
   omega
  | succ k1 =>
   by_cases hi : i < l.length
   ·have hd : decide ((i : Int) < (l.length : Int)) = true := decide_eq_true (by omega)
    obtain ⟨g, cur, hA, hg1, hg2, hcell⟩ := HROW.out i hi
    subst hA
    have hgk : wr.heap[g]? = some (.cells cur 3 (0, 0)) := HK.out g _ hg2 (by intro e; injection e with e; omega) (by intro c fz e; injection e with e1 e2 e3; exact absurd e2 (by decide))
    have hcw : wr.cell? ⟨g, i, none⟩ = some (.int .i64 (l.getD i 0)) := by rw [World.cell?_of_block (w := w1) (w' := wr) (a := ⟨g, i, none⟩) (by show wr.heap[g]? = w1.heap[g]?; rw [hgk, hg2])]; exact hcell
    obtain ⟨c, hce, hc1, hc2⟩ : ∃ c : Nat, l.getD i 0 = (c : Int) ∧ c < 100 ∧ l.drop i = (c : Int) :: l.drop (i + 1) := by
     have e : l.getD i 0 = l[i] := by rw [List.getD_eq_getElem?_getD, List.getElem?_eq_getElem hi]; rfl
     have := hc l[i] (List.getElem_mem hi)
     refine ⟨l[i].toNat, by rw [e]; omega, by omega, ?_⟩
     rw [List.drop_eq_getElem_cons hi]
     congr 1
     omega
    rw [hce] at hcw
    have hdl := dec_len c hc1
    have hal := HL.out
    have hwz : w.heap.size ≤ wr.heap.size := HB.out.size
    have hacc := HA.out
    rw [hc2, texG, Int.toNat_natCast] at hacc
    by_cases h0 : i = 0
    ·subst h0
     have hd2 : decide (((0 : Nat) : Int) > 0) = false := by decide
     go_wp2_with (first
      | (go_at_call 21; refine (Tryz.strconv_Itoa_small c hc1 _).mono ?_; rintro e w2 ⟨rfl, rfl⟩)
      | (go_at_call 18; refine (bld_string_k w.heap.size w.heap.size _ ⟨(Lib.decDigits c).toArray⟩ _ (by exact HI.out) (by rw [Lib.byteCells_length]; have e1 : (⟨(Lib.decDigits c).toArray⟩ : ByteArray).size = (Lib.decDigits c).length := rfl; rw [e1]; omega) (by exact hwz)).mono ?_; rintro e w3 ⟨rfl, h3, hb3, hk3⟩))
     go_roundg k1
     case measure => omega
     case rel =>
      refine ⟨1, acc ++ Lib.decDigits c, rfl, ⟨by omega, by omega⟩, ⟨Or.inr ?_⟩, ⟨HB.out.trans hb3⟩, ⟨HK.out.trans hk3⟩, ⟨?_⟩, ⟨?_⟩⟩
      ·rw [Lib.byteCells_append]; exact h3
      ·rw [← hacc]; simp
      ·rw [List.length_append]; omega
    ·have hd2 : decide ((i : Int) > 0) = true := decide_eq_true (by omega)
     go_wp2_with (first
      | (go_at_call 20; refine (bld_byte_k w.heap.size w.heap.size _ 44 _ (by exact HI.out) (by rw [Lib.byteCells_length]; omega) (by exact hwz)).mono ?_; rintro e w2 ⟨rfl, h2, hb2, hk2⟩)
      | (go_at_call 21; refine (Tryz.strconv_Itoa_small c hc1 _).mono ?_; rintro e w2_ ⟨rfl, rfl⟩)
      | (go_at_call 18; refine (bld_string_k w.heap.size w.heap.size (Lib.byteCells (acc ++ [44])) ⟨(Lib.decDigits c).toArray⟩ _ (by rw [Lib.byteCells_append]; exact Or.inr h2) (by rw [Lib.byteCells_length, List.length_append]; have e1 : (⟨(Lib.decDigits c).toArray⟩ : ByteArray).size = (Lib.decDigits c).length := rfl; rw [e1]; simp; omega) (by exact Nat.le_trans hwz hb2.size)).mono ?_; rintro e w3 ⟨rfl, h3, hb3, hk3⟩))
     go_roundg k1
     case measure => omega
     case rel =>
      refine ⟨i + 1, acc ++ [44] ++ Lib.decDigits c, by go_num, ⟨by omega, by omega⟩, ⟨Or.inr ?_⟩, ⟨(HB.out.trans hb2).trans hb3⟩, ⟨(HK.out.trans hk2).trans hk3⟩, ⟨?_⟩, ⟨?_⟩⟩
      ·rw [Lib.byteCells_append]; exact h3
      ·rw [← hacc, if_neg h0]; simp
      ·rw [List.length_append, List.length_append]; simp; omega
   ·have hd : decide ((i : Int) < (l.length : Int)) = false := decide_eq_false (by omega)
    have hwz : w.heap.size ≤ wr.heap.size := HB.out.size
    have hacc := HA.out
    rw [List.drop_eq_nil_of_le (by omega), texG, List.append_nil] at hacc
    subst hacc
    go_wp2_with (go_at_call 24; refine (Tryz.Builder_String_any_k w.heap.size w.heap.size _ _ (by exact HI.out) (by exact hwz)).mono ?_; rintro e w2 ⟨rfl, _, hb2, _⟩)
    go_ret
    exact ⟨rfl, HB.out.trans hb2⟩
end Go.Proofs.YtbboanfggaknjaaGreatDoor.X
namespace Go.Proofs.YtbboanfggaknjaaGreatDoor.X
open Go.RowKit Go.Proofs.YtbboanfggaknjaaGreatDoorW.PrintWords Go.Proofs.YtbboanfggaknjaaGreatDoorW.PrintLast Go.Proofs.YtbboanfggaknjaaGreatDoorW.PrintMore
attribute [local go_sem] max2_int min2_int max_two min_two max_three min_three max_four min_four
set_option linter.unusedVariables false
set_option linter.unusedSimpArgs false
attribute [local go_sem high] eqA58
def label_Text.j0 : Nat → Bool → Int → Int → Option (ByteArray)
 | 0, _, _, _ => none
 | k + 1, x7, x102000, x102001 => if x7 = true then (some (⟨#[116, 111, 112]⟩ : ByteArray)) else (if x102001 = 0 then ((strconv_Itoa.f x102000).bind fun t105 => (some t105)) else ((strconv_Itoa.f x102000).bind fun t106 => (if t106.size + 1 ≤ 9223372036854775807 then ((cats_Text.f k x102001).bind fun t107 => (if (t106 ++ (⟨#[58]⟩ : ByteArray)).size + t107.size ≤ 9223372036854775807 then (some ((t106 ++ (⟨#[58]⟩ : ByteArray)) ++ t107)) else (none))) else (none))))
def label_Text.f (k : Nat) (a0_0 : Int) (a0_1 : Int) : Option (ByteArray) := (label_May.f a0_0 a0_1).bind fun t102 => (if t102 = true then ((label_Top.f).bind fun bt103 => (label_Text.j0 k (a0_0 == bt103.1 && (a0_1 == bt103.2)) a0_0 a0_1)) else (some (⟨#[]⟩ : ByteArray)))
theorem label_Text.mono_l : ∀ k, (∀ y0 y1 y2, LeO (label_Text.j0 k y0 y1 y2) (label_Text.j0 (k + 1) y0 y1 y2))
 | 0 => fun _ _ _ r h => by simp [label_Text.j0] at h
 | k + 1 => by
  have ih0 := label_Text.mono_l k
  ·intro y0 y1 y2
   unfold label_Text.j0
   have m0 := @cats_Text.mono; exact mo_
theorem label_Text.mono : ∀ a0 a1 k, LeO (label_Text.f k a0 a1) (label_Text.f (k + 1) a0 a1) := by
 intro a0 a1 k; have ih0 := label_Text.mono_l k
 unfold label_Text.f
 have m0 := @cats_Text.mono; exact mo_
def label_Text.T7 : Bool × List (List Nat × List Nat) := (true, [([], []), ([0], [0]), ([1], [1]), ([2], [2]), ([], []), ([4], [4]), ([5, 2], [5]), ([3, 6], [3, 6]), ([7, 6, 0, 1, 2, 3, 4, 5, 6, 7], [7])])
def label_Text.B7 : List Nat := [0, 1, 3, 7, 0, 16, 55, 127, 255]
theorem label_Text.tab7 : rtab .any (opsOf Tryz.f23 7) = label_Text.T7 := by kernel_rfl
theorem label_Text.bits7 : waitsOk label_Text.T7.2 label_Text.B7 = true := by kernel_rfl
theorem label_Text.calls (k : Nat) (a0_0 : Int) (a0_1 : Int) (r : ByteArray) (w : World) (hT : Aside0 (Tab w)) (h : label_Text.f k a0_0 a0_1 = some r) :
  Calls Tryz.prog 23 #[.agg #[.int .i64 a0_0, .int .u64 a0_1]] w fun e w' => e = .returned (.string r) ∧ Below w.heap.size w w' := by
 have hu58 := Tryz.underlying58; have HB := A_ (Below.refl w.heap.size w)
 have H : ((label_May.f a0_0 a0_1).bind fun t102 => (if t102 = true then ((label_Top.f).bind fun bt103 => (label_Text.j0 k (a0_0 == bt103.1 && (a0_1 == bt103.2)) a0_0 a0_1)) else (some (⟨#[]⟩ : ByteArray)))) = some r := h
 clear h; obtain ⟨t102, A2, H⟩ := bo_ H
 by_cases c3 : t102 = true
 ·subst c3
  replace H := it_ H; have HC4 := A_ H; clear H
  go_enter Tryz.func23, Tryz.ntmps23
  go_upto_region 3 with (first | ((with_reducible refine gd_ 1 ?_); refine be_ (N:=1) (cs := #[.int .i64 a0_0, .int .u64 a0_1]) (t:=58) ?_; intro g1 hg w5 hbox hb; have B1 := A_ (hbox); have GW101 := hs_ HB hg; have GE101 := hs_ HB hg; replace HB := bs_ HB hb; clear hb hbox hg; have ⟨hcz6_0,hcz6_1,hfz6_0,hfz6_1⟩ := z2_ B1) | ((with_reducible refine gate_callee (f:=45) rfl ?_); refine gL_ (some 5) rfl rfl Tryz.func45 rfl #[.agg #[.int .i64 a0_0, .int .u64 a0_1]] rfl ?_; (with_reducible refine (label_May.calls a0_0 a0_1 true _ A2.out).mono ?_); rintro e w7 ⟨rfl, hb⟩; refine ⟨_, rfl, ?_⟩; replace B1 := bb_ B1 hb; replace HB := bs_ HB hb; ))
  (try simp only [q_])
  go_cut [7] (fun v7 wc => ∃ (kq : Nat) (x7_3 : Bool), v7 = .bool x7_3 ∧ Aside0 (label_Text.j0 kq x7_3 a0_0 a0_1 = some r) ∧ Aside0 (kq ≤ k) ∧ Aside0 (wc.heap[g1]? = some (.cells #[.int .i64 a0_0, .int .u64 a0_1] 58 (0, 0))) ∧ Aside0 (Below w.heap.size w wc))
  case first =>
   have H := HC4.out; clear HC4; obtain ⟨⟨t103, t104⟩, A8, H⟩ := bo_ H; dsimp only at H
   have H' := A_ H
   clear H
   try go_wp2
   (try (rw [drewN_self w7]; generalize hq_ : World.drewN w7 _ = w7; have n0_ : Aside0 (w7.heap[g1]? = some (.cells #[.int .i64 a0_0, .int .u64 a0_1] 58 (0, 0))) := ⟨by rw [← hq_]; exact (pkx B1)⟩; have n1_ : Aside0 (Below w.heap.size w w7) := ⟨by rw [← hq_]; exact (pbx HB)⟩; clear B1 HB hq_; have B1 := n0_; have HB := n1_; clear n0_ n1_))
   replace B1 := A_ (blk_drew B1.out); replace HB := A_ (below_drew1 HB.out)
   refine start_ (n:=4) (S := fun w' => w'.cell? ⟨g1, 0, none⟩ = some (.int .i64 a0_0) ∧ w'.cell? ⟨g1, 1, none⟩ = some (.int .u64 a0_1)) (ds := []) #[F,F,F,F] (by kernel_rfl) rfl rfl ⟨bc_ B1 0 rfl, bc_ B1 1 rfl⟩ (fun hHeld => ?_)
   generalize w7.drew = w9 at B1 HB hHeld ⊢; refine take_ (i:=0) (N:=some 8) (v:=?_) (a':=?_) ⟨m_ 4 1⟩ rfl rfl (by kernel_rfl) (fun _ _ _ h=>h) (Or.inl ⟨rfl, ?_⟩) hHeld ?_ ?_; rotate_left
   ·rintro w' ⟨s0, s1⟩; go_simp; with_reducible rfl
   rotate_left
   ·simp only [q_, i64_w, i32_w]; rfl
   refine one_ (i:=1) (N:=some 9) ⟨m_ 4 3⟩ rfl rfl (by kernel_rfl) (by decide) (fun K hK => ?_); refine goes_ Tryz.func46 (by kernel_rfl) rfl #[] (by rfl) rfl rfl ha_ ?_; with_reducible refine (label_Top.calls  t103 t104 _ A8.out).mono ?_; rintro e w10 ⟨rfl, hb⟩; refine ⟨_, rfl, ?_⟩
   replace B1 := bb_ B1 hb; replace HB := bs_ HB hb; (try clear hb); refine hK.out _ _ ⟨bc_ B1 0 rfl, bc_ B1 1 rfl⟩ (fun hHeld => ?_); clear hK K; refine norm_ (a':=?_) ?_ ?_; rotate_left
   ·show Act.put _ (some 9) _ = _; simp only [q_, i64_w, i32_w]; rfl
   refine pure_ (i:=2) (N:=some 10) (v:=?_) (a':=?_) ⟨m_ 4 7⟩ rfl rfl (by kernel_rfl) (fun _ _ _ h=>h) (Or.inl ⟨rfl, ?_⟩) ?_ ?_; rotate_left
   ·intro w'; go_simp; with_reducible rfl
   rotate_left
   ·simp only [q_, i64_w, i32_w]; rfl
   refine pure_ (i:=3) (N:=some 7) (v:=?_) (a':=?_) ⟨m_ 4 15⟩ rfl rfl (by kernel_rfl) (fun _ _ _ h=>h) (Or.inl ⟨rfl, ?_⟩) ?_ ?_; rotate_left
   ·intro w'; go_simp; with_reducible rfl
   rotate_left
   ·simp only [q_, i64_w, i32_w]; rfl
   refine done_ (by kernel_rfl) ?_
   try go_wp2
   go_meet
   case rel => exact ⟨_, ((a0_0 == t103 && (a0_1 == t104))), (by first | rfl | (simp; done) | (simp [*]; done) | (cases t103 <;> simp; done) | (cases t104 <;> simp; done)), H', le_, ⟨pkx B1⟩, ⟨pbx HB⟩⟩
  case rest =>
   clear HC4; (try clear c3); (try clear hcz6_0); (try clear hcz6_1); (try clear hfz6_0); (try clear hfz6_1); obtain ⟨kq, x7_3, rfl, HA, HJ3, B1, HB⟩ := hcut
   cases kq with
   | zero => exact absurd HA.out (by simp [label_Text.j0])
   | succ kj3 =>
    have H := HA.out; clear HA
    simp only [label_Text.j0] at H
    by_cases c11 : x7_3 = true
    ·subst c11
     replace H := it_ H; obtain rfl := Option.some.inj H
     go_wp2
     go_ret
     exact fi_ (pbx HB)
    ·replace c11 := Bool.eq_false_iff.mpr c11; subst c11
     replace H := ie_ H
     by_cases c12 : a0_1 = 0
     ·rw [if_pos c12] at H; have ⟨c12b0,c12b1⟩ := e1_ c12; clear c12; obtain ⟨t105, A13, H⟩ := bo_ H; obtain rfl := Option.some.inj H
      have ⟨hcz14_0,hcz14_1,hfz14_0,hfz14_1⟩ := z2_ B1
      go_wp2_with (first | ((with_reducible refine gate_callee (f:=21) rfl ?_); refine gL_ (some 17) rfl rfl Tryz.func21 rfl #[.int .i64 a0_0] rfl ?_; (with_reducible refine (strconv_Itoa.calls a0_0 t105 _ (by refine tb_ ?_ hT; repeat' (first | exact pbx HB | exact Below.refl _ _ | assumption | refine below_set ?_ (Aside0.out ?_))) A13.out).mono ?_); rintro e w15 ⟨rfl, hb⟩; refine ⟨_, rfl, ?_⟩; replace B1 := bb_ B1 hb; replace HB := bs_ HB hb; (try clear hb); ))
      go_ret
      exact fi_ (pbx HB)
     ·rw [if_neg c12] at H; have ⟨c12b0,c12b1⟩ := e0_ c12; obtain ⟨t106, A16, H⟩ := bo_ H
      by_cases c17 : t106.size + 1 ≤ 9223372036854775807
      ·rw [if_pos c17] at H; have c17b0 := eq_true c17; have c17b1 := decide_eq_true c17
       try have c17b2 : (9223372036854775807 < t106.size + 1) = False := eq_false (Nat.not_lt.2 c17)
       obtain ⟨t107, A18, H⟩ := bo_ H
       by_cases c19 : (t106 ++ (⟨#[58]⟩ : ByteArray)).size + t107.size ≤ 9223372036854775807
       ·rw [if_pos c19] at H; have c19b0 := eq_true c19; have c19b1 := decide_eq_true c19
        try have c19b2 : (9223372036854775807 < (t106 ++ (⟨#[58]⟩ : ByteArray)).size + t107.size) = False := eq_false (Nat.not_lt.2 c19)
        try have c19b2z : (9223372036854775807 < t106.size + 1 + t107.size) = False := by have h9_ := c19b2; rw [ByteArray.size_append] at h9_; exact h9_
        obtain rfl := Option.some.inj H
        have ⟨hcz20_0,hcz20_1,hfz20_0,hfz20_1⟩ := z2_ B1
        try go_wp2
        (try (rw [drewN_self wc]; generalize hq_ : World.drewN wc _ = wc; have n0_ : Aside0 (wc.heap[g1]? = some (.cells #[.int .i64 a0_0, .int .u64 a0_1] 58 (0, 0))) := ⟨by rw [← hq_]; exact (pkx B1)⟩; have n1_ : Aside0 (Below w.heap.size w wc) := ⟨by rw [← hq_]; exact (pbx HB)⟩; clear B1 HB hq_; have B1 := n0_; have HB := n1_; clear n0_ n1_))
        replace B1 := A_ (blk_drew B1.out); replace HB := A_ (below_drew1 HB.out)
        refine start_ (n:=9) (S := fun w' => w'.cell? ⟨g1, 0, none⟩ = some (.int .i64 a0_0) ∧ w'.cell? ⟨g1, 1, none⟩ = some (.int .u64 a0_1)) (ds := []) #[F,F,F,F,F,F,F,F,F] (by kernel_rfl) rfl rfl ⟨bc_ B1 0 rfl, bc_ B1 1 rfl⟩ (fun hHeld => ?_); refine with_tabW label_Text.tab7 label_Text.bits7 (fun HT_ HW_ => ?_)
        generalize wc.drew = w21 at B1 HB hHeld ⊢; refine pure_ (i:=0) (N:=some 18) (v:=?_) (a':=?_) ⟨m_ 9 1⟩ rfl rfl (ao_ HT_) (fun _ _ _ h=>h) (Or.inl ⟨rfl, ?_⟩) ?_ ?_; rotate_left
        ·intro w'; go_simp; with_reducible rfl
        rotate_left
        ·simp only [q_, i64_w, i32_w]; rfl
        refine pure_ (i:=4) (N:=some 22) (v:=?_) (a':=?_) ⟨m_ 9 17⟩ rfl rfl (ao_ HT_) (fun _ _ _ h=>h) (Or.inl ⟨rfl, ?_⟩) ?_ ?_; rotate_left
        ·intro w'; go_simp; with_reducible rfl
        rotate_left
        ·simp only [q_, i64_w, i32_w]; rfl
        refine take_ (i:=1) (N:=some 19) (v:=?_) (a':=?_) ⟨m_ 9 19⟩ rfl rfl (tw_ HT_ HW_) (fun _ _ _ h=>h) (Or.inl ⟨rfl, ?_⟩) hHeld ?_ ?_; rotate_left
        ·rintro w' ⟨s0, s1⟩; go_simp; with_reducible rfl
        rotate_left
        ·simp only [q_, i64_w, i32_w]; rfl
        refine take_ (i:=5) (N:=some 23) (v:=?_) (a':=?_) ⟨m_ 9 51⟩ rfl rfl (tw_ HT_ HW_) (fun _ _ _ h=>h) (Or.inl ⟨rfl, ?_⟩) hHeld ?_ ?_; rotate_left
        ·rintro w' ⟨s0, s1⟩; go_simp; with_reducible rfl
        rotate_left
        ·simp only [q_, i64_w, i32_w]; rfl
        refine one_ (i:=2) (N:=some 20) ⟨m_ 9 55⟩ rfl rfl (oo_ HT_) (by decide) (fun K hK => ?_); refine goes_ Tryz.func21 (by kernel_rfl) rfl #[.int .i64 a0_0] (by rfl) rfl rfl ha_ ?_; with_reducible refine (strconv_Itoa.calls a0_0 t106 _ (by refine tb_ ?_ hT; repeat' (first | exact pbx HB | exact Below.refl _ _ | assumption | refine below_set ?_ (Aside0.out ?_))) A16.out).mono ?_; rintro e w22 ⟨rfl, hb⟩; refine ⟨_, rfl, ?_⟩
        replace B1 := bb_ B1 hb; replace HB := bs_ HB hb; (try clear hb); refine hK.out _ _ ⟨bc_ B1 0 rfl, bc_ B1 1 rfl⟩ (fun hHeld => ?_); clear hK K; refine norm_ (a':=?_) ?_ ?_; rotate_left
        ·show Act.put _ (some 20) _ = _; simp only [q_, i64_w, i32_w]; rfl
        refine pure_ (i:=3) (N:=some 21) (v:=?_) (a':=?_) ⟨m_ 9 63⟩ rfl rfl (ao_ HT_) (fun _ _ _ h=>h) (Or.inl ⟨rfl, ?_⟩) ?_ ?_; rotate_left
        ·intro w'; go_simp; with_reducible rfl
        rotate_left
        ·simp only [q_, i64_w, i32_w]; rfl
        refine one_ (i:=6) (N:=some 24) ⟨m_ 9 127⟩ rfl rfl (oo_ HT_) (by decide) (fun K hK => ?_); refine goes_ Tryz.func47 (by kernel_rfl) rfl #[.int .u64 a0_1] (by rfl) rfl rfl ha_ ?_; with_reducible refine (cats_Text.calls kj3 a0_1 t107 _ (by refine tb_ ?_ hT; repeat' (first | exact pbx HB | exact Below.refl _ _ | assumption | refine below_set ?_ (Aside0.out ?_))) A18.out).mono ?_; rintro e w23 ⟨rfl, hb⟩; refine ⟨_, rfl, ?_⟩
        replace B1 := bb_ B1 hb; replace HB := bs_ HB hb; (try clear hb); refine hK.out _ _ ⟨bc_ B1 0 rfl, bc_ B1 1 rfl⟩ (fun hHeld => ?_); clear hK K; refine norm_ (a':=?_) ?_ ?_; rotate_left
        ·show Act.put _ (some 24) _ = _; simp only [q_, i64_w, i32_w]; rfl
        refine pure_ (i:=7) (N:=some 25) (v:=?_) (a':=?_) ⟨m_ 9 255⟩ rfl rfl (ao_ HT_) (fun _ _ _ h=>h) (Or.inl ⟨rfl, ?_⟩) ?_ ?_; rotate_left
        ·intro w'; go_simp; with_reducible rfl
        rotate_left
        ·simp only [q_, i64_w, i32_w]; rfl
        refine pure_ (i:=8) (N:=some 2) (v:=?_) (a':=?_) ⟨m_ 9 511⟩ rfl rfl (ao_ HT_) (fun _ _ _ h=>h) (Or.inl ⟨rfl, ?_⟩) ?_ ?_; rotate_left
        ·intro w'; go_simp; with_reducible rfl
        rotate_left
        ·simp only [q_, i64_w, i32_w]; rfl
        refine done_ (done_of HT_.out (by kernel_rfl)) ?_
        try go_wp2
        go_ret
        exact fi_ (pbx HB)
       ·rw [if_neg c19] at H
        exact absurd H (by simp)
      ·rw [if_neg c17] at H
       exact absurd H (by simp)
 ·replace c3 := Bool.eq_false_iff.mpr c3; subst c3
  replace H := ie_ H; obtain rfl := Option.some.inj H
  go_enter Tryz.func23, Tryz.ntmps23
  go_wp2_with (first | ((with_reducible refine gd_ 1 ?_); refine be_ (N:=1) (cs := #[.int .i64 a0_0, .int .u64 a0_1]) (t:=58) ?_; intro g1 hg w24 hbox hb; have B1 := A_ (hbox); have GW101 := hs_ HB hg; have GE101 := hs_ HB hg; replace HB := bs_ HB hb; clear hb hbox hg; have ⟨hcz25_0,hcz25_1,hfz25_0,hfz25_1⟩ := z2_ B1) | ((with_reducible refine gate_callee (f:=45) rfl ?_); refine gL_ (some 5) rfl rfl Tryz.func45 rfl #[.agg #[.int .i64 a0_0, .int .u64 a0_1]] rfl ?_; (with_reducible refine (label_May.calls a0_0 a0_1 false _ A2.out).mono ?_); rintro e w26 ⟨rfl, hb⟩; refine ⟨_, rfl, ?_⟩; replace B1 := bb_ B1 hb; replace HB := bs_ HB hb; ))
  go_ret
  exact fi_ (pbx HB)

end Go.Proofs.YtbboanfggaknjaaGreatDoor.X
/- policy.Text: what it computes, and its closure 'line', walked. -/
set_option linter.unusedVariables false
set_option linter.unusedSimpArgs false
namespace Go.Proofs.YtbboanfggaknjaaGreatDoor.X
open Go.RowKit Go.Shelf Go.Proofs.YtbboanfggaknjaaGreatDoorW.PrintWords Go.Proofs.YtbboanfggaknjaaGreatDoorW.PrintLast Go.Proofs.YtbboanfggaknjaaGreatDoorW.PrintMore
def lineT (ws : List ByteArray) : List UInt8 := joinL [32] (ws.map by_) ++ [10]
def addL (acc : List UInt8) (ws : List ByteArray) : Option (List UInt8) :=
 if ws.length ≤ 10 ∧ sizesT ws ≤ 1000000 ∧ acc.length ≤ 1000000000 then some (acc ++ lineT ws) else none
def ptz (k : Nat) : List UInt8 → List S60 → Option (List UInt8)
 | acc, [] => some acc
 | acc, z :: l => (span_Text.f k z.f0.f0.f0 z.f0.f0.f1 z.f0.f1.f0 z.f0.f1.f1).bind fun a => (label_Text.f k z.f1.f0 z.f1.f1).bind fun b =>
  (addL acc [⟨#[122, 111, 110, 101]⟩, a, b]).bind fun o => ptz k o l
def ptu (k : Nat) : List UInt8 → List S62 → Option (List UInt8)
 | acc, [] => some acc
 | acc, z :: l => (label_Text.f k z.f1.f0 z.f1.f1).bind fun b => (addL acc [⟨#[117, 115, 101, 114]⟩, z.f0, b]).bind fun o => ptu k o l
def ptg (k : Nat) : List UInt8 → List S64 → Option (List UInt8)
 | acc, [] => some acc
 | acc, z :: l => (label_Text.f k z.f1.f0 z.f1.f1).bind fun a => (label_Text.f k z.f2.f0 z.f2.f1).bind fun b => (addL acc [⟨#[103, 114, 97, 110, 116]⟩, z.f0, a, b]).bind fun o => ptg k o l
def policy_Text.f (k : Nat) (r c : Int) (zs : List S60) (us : List S62) (gs : List S64) : Option ByteArray :=
 (policy_Wrong.f k r c zs us gs).bind fun e => if e.2 = 0 then
  (strconv_Itoa.f r).bind fun a => (strconv_Itoa.f c).bind fun b => (addL [] [⟨#[103, 114, 105, 100]⟩, a, b]).bind fun o =>
  (ptz k o zs).bind fun o => (ptu k o us).bind fun o => (ptg k o gs).bind fun o => some (tx o)
 else some ⟨#[]⟩
theorem ptz.mono (k : Nat) : ∀ l acc, LeO (ptz k acc l) (ptz (k + 1) acc l)
 | [], acc => LeO.refl _
 | z :: l, acc => LeO.bind (span_Text.mono _ _ _ _ _) fun _ => LeO.bind (label_Text.mono _ _ _) fun _ => LeO.bind (LeO.refl _) fun _ => ptz.mono k l _
theorem ptu.mono (k : Nat) : ∀ l acc, LeO (ptu k acc l) (ptu (k + 1) acc l)
 | [], acc => LeO.refl _
 | z :: l, acc => LeO.bind (label_Text.mono _ _ _) fun _ => LeO.bind (LeO.refl _) fun _ => ptu.mono k l _
theorem ptg.mono (k : Nat) : ∀ l acc, LeO (ptg k acc l) (ptg (k + 1) acc l)
 | [], acc => LeO.refl _
 | z :: l, acc => LeO.bind (label_Text.mono _ _ _) fun _ => LeO.bind (label_Text.mono _ _ _) fun _ => LeO.bind (LeO.refl _) fun _ => ptg.mono k l _
theorem bld_below {T e : TypeId} {B b : Nat} {p : Value} {bs : List Value} {W W' : World} (h : Lib.BuilderAtF T e B b p bs W) (hb : Below W.heap.size W W') : Lib.BuilderAtF T e B b p bs W' := by
 have hlt := h.lt
 obtain ⟨hB, v, hv, hown, hne⟩ := h
 exact ⟨hB, v, (hb.block b hlt).trans hv, hown.kept (row := none) ⟨hb.os, hb.tape, hb.output, hb.size, fun k hk _ => hb.block k hk⟩ (Classical.em _), hne⟩
theorem isbld_below {T e : TypeId} {B b : Nat} {bs : List Value} {W W' : World} (h : Lib.IsBuilderF T e B b bs W) (hb : Below W.heap.size W W') : Lib.IsBuilderF T e B b bs W' :=
 h.elim (fun x => .inl (bld_below x hb)) (fun x => .inr (bld_below x hb))
theorem joinL_len (l : List ByteArray) : (joinL [32] (l.map by_)).length ≤ sizesT l + l.length := by
 cases l with
 | nil => simp [joinL]
 | cons x xs =>
  have e : ∀ xs : List ByteArray, ((xs.map by_).flatMap fun y => [32] ++ y).length = sizesT xs + xs.length := by
   intro xs
   induction xs with
   | nil => rfl
   | cons y ys ih =>
    rw [List.map_cons, List.flatMap_cons, List.length_append, ih]
    have h1 : ([32] ++ by_ y).length = y.size + 1 := by rw [size_by, List.length_append]; simp; omega
    have h2 : sizesT (y :: ys) = y.size + sizesT ys := by simp [sizesT]
    rw [h1, h2, List.length_cons]
    omega
  rw [List.map_cons]
  unfold joinL
  rw [List.length_append, e xs, ← size_by]
  have h2 : sizesT (x :: xs) = x.size + sizesT xs := by simp [sizesT]
  rw [h2, List.length_cons]
  omega
theorem line_calls (B b : Nat) (acc o : List UInt8) (A : Option Addr) (cap : Nat) (ws : List ByteArray) (w : World) (hI : Aside0 (Lib.IsBuilderF 68 5 B b (Lib.byteCells acc) w)) (hB : Aside0 (B ≤ w.heap.size)) (hW : Aside0 (Kd.C Kd.string w A ws.length ws)) (hc : ws.length ≤ cap) (h : addL acc ws = some o) :
  Calls Tryz.prog 17 #[.slice A ws.length cap, .pointer (some ⟨b, 0, none⟩)] w fun e w' => e = .returned (.tuple #[]) ∧ Lib.IsBuilderF 68 5 B b (Lib.byteCells o) w' ∧ Below B w w' := by
 unfold addL at h
 by_cases hg : ws.length ≤ 10 ∧ sizesT ws ≤ 1000000 ∧ acc.length ≤ 1000000000
 rotate_left
 ·rw [if_neg hg] at h; cases h
 rw [if_pos hg] at h
 obtain rfl := Option.some.inj h
 have hl := joinL_len ws
 have HJ : Aside0 (strings_Join.f ws ⟨#[32]⟩ = some (tx (joinL [32] (ws.map by_)))) := ⟨if_pos ⟨by omega, by decide, by omega⟩⟩
 have HL : Aside0 ((joinL [32] (ws.map by_)).length ≤ 1000010) := ⟨by omega⟩
 have HA : Aside0 (acc.length ≤ 1000000000) := ⟨hg.2.2⟩
 have HC := Aside0.mk hc
 unfold lineT
 generalize joinL [32] (ws.map by_) = j at HJ HL ⊢
 clear hl hg h hc
 go_enter Tryz.func17, Tryz.ntmps17
 go_wp2_with (first
  | (go_at_call 19; (with_reducible refine (strings_Join.calls A cap ws ⟨#[32]⟩ (tx j) _ hW.out HC.out HJ.out).mono ?_); rintro e w1 ⟨rfl, hb⟩; have HI1 := Aside0.mk (isbld_below hI.out hb); have HB1 := Aside0.mk (hb.mono hB.out); clear hb)
  | (go_at_call 18; (with_reducible refine (bld_string_k B b (Lib.byteCells acc) (tx j) _ HI1.out ?hA ?hC).mono ?_); (case hA => rw [Lib.byteCells_length, size_by, by_tx]; have := HL.out; have := HA.out; omega); (case hC => exact Nat.le_trans hB.out HB1.out.size); rintro e w2 ⟨rfl, h2, hb2, hk2⟩; have HI2 := Aside0.mk h2; have HB2 := Aside0.mk (HB1.out.trans hb2); clear h2 hb2 hk2)
  | (go_at_call 20; (with_reducible refine (bld_byte_k B b (Lib.byteCells acc ++ Lib.strCells (tx j)) 10 _ ?hI ?hA ?hC).mono ?_); (case hI => exact Or.inr HI2.out); (case hA => rw [List.length_append, Lib.byteCells_length, Lib.strCells_length, size_by, by_tx]; have := HL.out; have := HA.out; omega); (case hC => exact Nat.le_trans hB.out HB2.out.size); rintro e w3 ⟨rfl, h3, hb3, hk3⟩; have HI3 := Aside0.mk h3; have HB3 := Aside0.mk (HB2.out.trans hb3); clear h3 hb3 hk3))
 go_end0
 refine ⟨rfl, Or.inr ?_, HB3.out⟩
 have h3 := HI3.out
 rw [Lib.byteCells_append, Lib.byteCells_append, ← List.append_assoc]
 exact h3
end Go.Proofs.YtbboanfggaknjaaGreatDoor.X
/- A policy's rows, as a world holds them. -/
set_option linter.unusedVariables false
set_option linter.unusedSimpArgs false
namespace Go.Proofs.YtbboanfggaknjaaGreatDoor.X
open Go.RowKit Go.Proofs.YtbboanfggaknjaaGreatDoorW.PrintWords Go.Proofs.YtbboanfggaknjaaGreatDoorW.PrintLast Go.Proofs.YtbboanfggaknjaaGreatDoorW.PrintMore
structure Rows7 (w : World) (A2 : Option Addr) (c2 : Nat) (zs : List S60) (A3 : Option Addr) (c3 : Nat) (us : List S62) (A4 : Option Addr) (c4 : Nat) (gs : List S64) : Prop where
 z : Kd.C k60 w A2 zs.length zs
 zl : zs.length ≤ c2
 u : Kd.C k62 w A3 us.length us
 ul : us.length ≤ c3
 g : Kd.C k64 w A4 gs.length gs
 gl : gs.length ≤ c4
theorem Rows7.below {w w1 : World} {A2 A3 A4 : Option Addr} {c2 c3 c4 : Nat} {zs : List S60} {us : List S62} {gs : List S64} (h : Aside0 (Rows7 w A2 c2 zs A3 c3 us A4 c4 gs)) (hb : Below w.heap.size w w1) : Aside0 (Rows7 w1 A2 c2 zs A3 c3 us A4 c4 gs) :=
 ⟨⟨Kd.C_below h.out.z hb, h.out.zl, Kd.C_below h.out.u hb, h.out.ul, Kd.C_below h.out.g hb, h.out.gl⟩⟩
end Go.Proofs.YtbboanfggaknjaaGreatDoor.X
/- policy.Text, walked. -/
set_option linter.unusedVariables false
set_option linter.unusedSimpArgs false
namespace Go.Proofs.YtbboanfggaknjaaGreatDoor.X
open Go.RowKit Go.Shelf Go.Proofs.YtbboanfggaknjaaGreatDoorW.PrintWords Go.Proofs.YtbboanfggaknjaaGreatDoorW.PrintLast Go.Proofs.YtbboanfggaknjaaGreatDoorW.PrintMore
structure AtB (b : Nat) (w0 w : World) (acc : List UInt8) : Prop where
 bl : Lib.IsBuilderF 68 5 b b (Lib.byteCells acc) w
 be : Below w0.heap.size w0 w
 eb : b = w0.heap.size
theorem AtB.step {b : Nat} {w0 w w1 : World} {acc : List UInt8} (h : AtB b w0 w acc) (hb : Below w.heap.size w w1) : AtB b w0 w1 acc := ⟨isbld_below h.bl hb, below_step h.be hb, h.eb⟩
theorem AtB.sz {b : Nat} {w0 w : World} {acc : List UInt8} (h : AtB b w0 w acc) : b ≤ w.heap.size := by rw [h.eb]; exact h.be.size
theorem AtB.line {b : Nat} {w0 w w1 : World} {acc o : List UInt8} (h : AtB b w0 w acc) (hl : Lib.IsBuilderF 68 5 b b (Lib.byteCells o) w1) (hb : Below b w w1) : AtB b w0 w1 o := ⟨hl, h.be.trans (by rw [← h.eb]; exact hb), h.eb⟩
theorem AtB.new (w0 : World) : AtB w0.heap.size w0 (w0.alloc (.cells #[.pointer none, .slice none 0 0] 68)) [] := ⟨Or.inl ⟨Nat.le_refl _, .slice none 0 0, blk_new w0 _, ⟨rfl, Or.inl ⟨rfl, rfl⟩⟩, by simp [Value.ownBlock]⟩, new_below w0 _, rfl⟩
theorem rd_get60 (xs : List S60) (i : Nat) (h : i < xs.length) : rd_T60 xs (i : Int) = xs[i] := by
 simp [rd_T60, List.getD_eq_getElem?_getD, h]
theorem rd_get62 (xs : List S62) (i : Nat) (h : i < xs.length) : rd_T62 xs (i : Int) = xs[i] := by
 simp [rd_T62, List.getD_eq_getElem?_getD, h]
theorem rd_get64 (xs : List S64) (i : Nat) (h : i < xs.length) : rd_T64 xs (i : Int) = xs[i] := by
 simp [rd_T64, List.getD_eq_getElem?_getD, h]
theorem cells6Z {W : World} {g : Nat} {t : TypeId} {a0 a1 a2 a3 a4 a5 : Value} (h : W.heap[g]? = some (.cells #[a0, a1, a2, a3, a4, a5] t (0, 0))) : W.cell? ⟨g, 0, none⟩ = some a0 ∧ W.cell? ⟨g, 1, none⟩ = some a1 ∧ W.cell? ⟨g, 2, none⟩ = some a2 ∧ W.cell? ⟨g, 3, none⟩ = some a3 ∧ W.cell? ⟨g, 4, none⟩ = some a4 ∧ W.cell? ⟨g, 5, none⟩ = some a5 := ⟨(blk_cell h 0).trans rfl, (blk_cell h 1).trans rfl, (blk_cell h 2).trans rfl, (blk_cell h 3).trans rfl, (blk_cell h 4).trans rfl, (blk_cell h 5).trans rfl⟩
theorem cells3Z {W : World} {g : Nat} {t : TypeId} {a0 a1 a2 : Value} (h : W.heap[g]? = some (.cells #[a0, a1, a2] t (0, 0))) : W.cell? ⟨g, 0, none⟩ = some a0 ∧ W.cell? ⟨g, 1, none⟩ = some a1 ∧ W.cell? ⟨g, 2, none⟩ = some a2 := ⟨(blk_cell h 0).trans rfl, (blk_cell h 1).trans rfl, (blk_cell h 2).trans rfl⟩
theorem cells5Z {W : World} {g : Nat} {t : TypeId} {a0 a1 a2 a3 a4 : Value} (h : W.heap[g]? = some (.cells #[a0, a1, a2, a3, a4] t (0, 0))) : W.cell? ⟨g, 0, none⟩ = some a0 ∧ W.cell? ⟨g, 1, none⟩ = some a1 ∧ W.cell? ⟨g, 2, none⟩ = some a2 ∧ W.cell? ⟨g, 3, none⟩ = some a3 ∧ W.cell? ⟨g, 4, none⟩ = some a4 := ⟨(blk_cell h 0).trans rfl, (blk_cell h 1).trans rfl, (blk_cell h 2).trans rfl, (blk_cell h 3).trans rfl, (blk_cell h 4).trans rfl⟩
theorem goesV_ {P : Program} {ops : Array Oper} {Q : Exit → Act → World → Prop} {oi : Oper} {N : Option Tmp} {a : Act} {w : World} {K : Act → World → Prop} {f : FuncId} {fn : Func} {t : Tmp} {aa : Array Operand} {ts : Array TypeId} (hf : P.funcs[f]? = some fn) (hname : (fn.name == "runtime.NumGoroutine") = false) (hb : fn.body.isSome = true) (args captured : Array Value)
  (hw : Region.wanted oi (yielded ops a.tmps) = true) (hN : oi.dst = N) (hop : oi.op = .call { callee := .value (.tmp t), args := aa, argTypes := ts }) (hv : a.eval (.tmp t) = .func (.func f) #[] captured) (hargs : aa.map a.eval ++ captured = args)
  (h : Calls P f args w fun e w' => ∃ v, e = .returned v ∧ K (a.put N v) w') : if Region.wanted oi (yielded ops a.tmps) = true then Oper.wp P oi a w K Q else K (a.put N undef) w := by
 refine call_ f args hw hN ?_ h
 have he := enters_ hf hname hb args w
 unfold execOp
 simp only [Act.eval] at hv hargs
 simp [hop, resolve, Deferred.ofValue, invoke, Act.eval, hv, hargs, he]
theorem policy_Text.calls (k : Nat) (a0_0 : Int) (a0_1 : Int) (A0_2 : Option Addr) (c0_2 : Nat) (l0_2 : List (S60)) (A0_3 : Option Addr) (c0_3 : Nat) (l0_3 : List (S62)) (A0_4 : Option Addr) (c0_4 : Nat) (l0_4 : List (S64)) (r : ByteArray) (w : World) (hT : Aside0 (Tab w)) (hr0_2 : Kd.C k60 w A0_2 l0_2.length l0_2) (hc0_2 : l0_2.length ≤ c0_2) (hr0_3 : Kd.C k62 w A0_3 l0_3.length l0_3) (hc0_3 : l0_3.length ≤ c0_3) (hr0_4 : Kd.C k64 w A0_4 l0_4.length l0_4) (hc0_4 : l0_4.length ≤ c0_4) (h : policy_Text.f k a0_0 a0_1 l0_2 l0_3 l0_4 = some r) :
  Calls Tryz.prog 8 #[.agg #[.int .i64 a0_0, .int .i64 a0_1, .slice A0_2 l0_2.length c0_2, .slice A0_3 l0_3.length c0_3, .slice A0_4 l0_4.length c0_4]] w fun e w' => e = .returned (.string r) ∧ Below w.heap.size w w' := by
 have hu26 := Tryz.underlying27
 have hu61 := Tryz.underlying60
 have hu65 := Tryz.underlying62
 have hu67 := Tryz.underlying64
 have hu56 := Tryz.underlying55
 have hu59 := Tryz.underlying58
 have HR : Aside0 (Rows7 w A0_2 c0_2 l0_2 A0_3 c0_3 l0_3 A0_4 c0_4 l0_4) := ⟨⟨hr0_2, hc0_2, hr0_3, hc0_3, hr0_4, hc0_4⟩⟩
 clear hr0_2 hc0_2 hr0_3 hc0_3 hr0_4 hc0_4
 obtain ⟨⟨e1, e2⟩, E1, H⟩ := Option.bind_eq_some_iff.mp h
 have HE := Aside0.mk E1
 have HH := Aside0.mk H
 clear h E1 H
 go_enter Tryz.func8, Tryz.ntmps8
 go_upto_region 1 with fail
 have HP := Aside0.mk (blk_new w (.cells #[.int .i64 a0_0, .int .i64 a0_1, .slice A0_2 l0_2.length c0_2, .slice A0_3 l0_3.length c0_3, .slice A0_4 l0_4.length c0_4] 27))
 have HB := Aside0.mk (new_below w (.cells #[.int .i64 a0_0, .int .i64 a0_1, .slice A0_2 l0_2.length c0_2, .slice A0_3 l0_3.length c0_3, .slice A0_4 l0_4.length c0_4] 27))
 replace HR := Rows7.below HR HB.out
 replace hT := tb_ HB.out hT
 generalize w.alloc (.cells #[.int .i64 a0_0, .int .i64 a0_1, .slice A0_2 l0_2.length c0_2, .slice A0_3 l0_3.length c0_3, .slice A0_4 l0_4.length c0_4] 27) = w1 at HP HB HR hT ⊢
 generalize w.heap.size = g at HP ⊢
 obtain ⟨y0, y1, y2, y3, y4⟩ := cells5_ HP.out
 by_cases he : e2 = 0
 case neg =>
  have H := HH.out
  rw [if_neg he] at H
  obtain rfl := Option.some.inj H
  have d0 : (e2 == 0) = false := beq_eq_false_iff_ne.mpr he
  have d1 : (e2 != 0) = true := bne_iff_ne.mpr he
  clear he HH H
  go_wp2_with (go_at_call 13; (with_reducible refine (policy_Wrong.calls k a0_0 a0_1 A0_2 c0_2 l0_2 A0_3 c0_3 l0_3 A0_4 c0_4 l0_4 e1 e2 _ HR.out.z HR.out.zl HR.out.u HR.out.ul HR.out.g HR.out.gl HE.out).mono ?_); rintro e w6 ⟨rfl, hb⟩; replace HB := Aside0.mk (below_step HB.out hb); clear hb)
  go_ret
  exact ⟨rfl, HB.out⟩
 have H := HH.out
 rw [if_pos he] at H
 have d0 : (e2 == 0) = true := beq_iff_eq.mpr he
 have d1 : (e2 != 0) = false := bne_eq_false_iff_eq.mpr he
 obtain ⟨ta, T1, H⟩ := Option.bind_eq_some_iff.mp H
 obtain ⟨tb, T2, H⟩ := Option.bind_eq_some_iff.mp H
 obtain ⟨o0, O0, H⟩ := Option.bind_eq_some_iff.mp H
 obtain ⟨o1, O1, H⟩ := Option.bind_eq_some_iff.mp H
 obtain ⟨o2, O2, H⟩ := Option.bind_eq_some_iff.mp H
 obtain ⟨o3, O3, H⟩ := Option.bind_eq_some_iff.mp H
 obtain rfl := Option.some.inj H
 have HTA := Aside0.mk T1
 have HTB := Aside0.mk T2
 have HO0 := Aside0.mk O0
 have HO1 := Aside0.mk O1
 have HO2 := Aside0.mk O2
 have HO3 := Aside0.mk O3
 clear H HH T1 T2 O0 O1 O2 O3 he
 go_upto_region 4 with (go_at_call 13; (with_reducible refine (policy_Wrong.calls k a0_0 a0_1 A0_2 c0_2 l0_2 A0_3 c0_3 l0_3 A0_4 c0_4 l0_4 e1 e2 _ HR.out.z HR.out.zl HR.out.u HR.out.ul HR.out.g HR.out.gl HE.out).mono ?_); rintro e w6 ⟨rfl, hb⟩; replace HB := Aside0.mk (below_step HB.out hb); replace hT := tb_ hb hT; replace HP := Aside0.mk (blk_below HP.out hb); replace HR := Rows7.below HR hb; clear hb y0 y1 y2 y3 y4)
 go_upto_region 6 with fail
 clear d0 d1 HE
 have HT5 := hT
 have HAB := Aside0.mk (AtB.new w6)
 clear hT
 generalize w6.alloc (.cells #[.pointer none, .slice none 0 0] 68) = w2 at HAB ⊢
 generalize w6.heap.size = b at HAB ⊢
 generalize w6 = w5 at HAB HB HP HR HT5
 have HELD := HP.out.trans rfl
 replace HELD := cells5_ (blk_below HELD HAB.out.be)
 obtain ⟨y0, y1, _⟩ := HELD
 have HELD := And.intro y0 y1
 clear y0 y1
 have HAD : AtB b w5 w2.drew _ := HAB.out.step (pw_below_drewN (Below.refl _ w2) 1)
 replace HAB := Aside0.mk HAD
 clear HAD
 have hb0 : Below w2.heap.size w2 w2.drew := pw_below_drewN (Below.refl _ w2) 1
 refine start_ (n := 9) (S := fun w' => w'.cell? ⟨g, 0, none⟩ = some (.int .i64 a0_0) ∧ w'.cell? ⟨g, 1, none⟩ = some (.int .i64 a0_1)) (ds := [8]) #[false, false, false, false, false, false, false, false, false] (by kernel_rfl) rfl rfl (by have hHeld := HELD; exact ⟨cell_below hHeld.1 hb0, cell_below hHeld.2 hb0⟩) (fun hHeld => ?_)
 clear HELD hb0
 generalize w2.drew = w60 at HAB hHeld ⊢
 refine pure_ (i := 0) (N := some 21) (v := ?_) (a' := ?_) #[true, false, false, false, false, false, false, false, false] rfl rfl (by kernel_rfl) (fun _ _ _ h => h) (Or.inl ⟨by rfl, ?_⟩) ?_ ?_
 rotate_left
 ·intro w'; go_simp; with_reducible rfl
 rotate_left
 ·simp only [Act.put, List.setIfInBounds_toArray, List.set_cons_zero, List.set_cons_succ, i64_w, i32_w]; rfl
 refine pure_ (i := 1) (N := some 22) (v := ?_) (a' := ?_) #[true, true, false, false, false, false, false, false, false] rfl rfl (by kernel_rfl) (fun _ _ _ h => h) (Or.inl ⟨by rfl, ?_⟩) ?_ ?_
 rotate_left
 ·intro w'; go_simp; with_reducible rfl
 rotate_left
 ·simp only [Act.put, List.setIfInBounds_toArray, List.set_cons_zero, List.set_cons_succ, i64_w, i32_w]; rfl
 refine take_ (i := 2) (N := some 23) (v := ?_) (a' := ?_) #[true, true, true, false, false, false, false, false, false] rfl rfl (by kernel_rfl) (fun _ _ _ h => h) (Or.inl ⟨by rfl, ?_⟩) hHeld ?_ ?_
 rotate_left
 ·rintro w' ⟨s0_, s1_⟩; go_simp; with_reducible rfl
 rotate_left
 ·simp only [Act.put, List.setIfInBounds_toArray, List.set_cons_zero, List.set_cons_succ, i64_w, i32_w]; rfl
 refine pure_ (i := 4) (N := some 25) (v := ?_) (a' := ?_) #[true, true, true, false, true, false, false, false, false] rfl rfl (by kernel_rfl) (fun _ _ _ h => h) (Or.inl ⟨by rfl, ?_⟩) ?_ ?_
 rotate_left
 ·intro w'; go_simp; with_reducible rfl
 rotate_left
 ·simp only [Act.put, List.setIfInBounds_toArray, List.set_cons_zero, List.set_cons_succ, i64_w, i32_w]; rfl
 refine take_ (i := 5) (N := some 26) (v := ?_) (a' := ?_) #[true, true, true, false, true, true, false, false, false] rfl rfl (by kernel_rfl) (fun _ _ _ h => h) (Or.inl ⟨by rfl, ?_⟩) hHeld ?_ ?_
 rotate_left
 ·rintro w' ⟨s0_, s1_⟩; go_simp; with_reducible rfl
 rotate_left
 ·simp only [Act.put, List.setIfInBounds_toArray, List.set_cons_zero, List.set_cons_succ, i64_w, i32_w]; rfl
 refine one_ (i := 3) (N := some 24) #[true, true, true, true, true, true, false, false, false] rfl rfl (by kernel_rfl) (by decide) (fun K hK => ?_)
 refine goes_ Tryz.func21 (by kernel_rfl) rfl #[.int .i64 a0_0] (by rfl) rfl rfl (by (try simp only [List.map_toArray, List.map_cons, List.map_nil]); first | done | rfl) ?_
 have HTW := tb_ HAB.out.be HT5
 with_reducible refine (strconv_Itoa.calls a0_0 ta _ HTW HTA.out).mono ?_
 rintro e w61 ⟨rfl, hb⟩
 refine ⟨_, rfl, ?_⟩
 replace HAB := Aside0.mk (HAB.out.step hb)
 clear HTW
 refine hK.out _ _ ⟨cell_below hHeld.1 hb, cell_below hHeld.2 hb⟩ (fun hHeld => ?_)
 clear hK K hb
 refine norm_ (a' := ?_) ?_ ?_
 rotate_left
 ·show Act.put _ (some 24) _ = _
  simp only [Act.put, List.setIfInBounds_toArray, List.set_cons_zero, List.set_cons_succ, i64_w, i32_w]
  rfl
 refine one_ (i := 6) (N := some 27) #[true, true, true, true, true, true, true, false, false] rfl rfl (by kernel_rfl) (by decide) (fun K hK => ?_)
 refine goes_ Tryz.func21 (by kernel_rfl) rfl #[.int .i64 a0_1] (by rfl) rfl rfl (by (try simp only [List.map_toArray, List.map_cons, List.map_nil]); first | done | rfl) ?_
 have HTW := tb_ HAB.out.be HT5
 with_reducible refine (strconv_Itoa.calls a0_1 tb _ HTW HTB.out).mono ?_
 rintro e w62 ⟨rfl, hb⟩
 refine ⟨_, rfl, ?_⟩
 replace HAB := Aside0.mk (HAB.out.step hb)
 clear HTW
 refine hK.out _ _ ⟨cell_below hHeld.1 hb, cell_below hHeld.2 hb⟩ (fun hHeld => ?_)
 clear hK K hb
 refine norm_ (a' := ?_) ?_ ?_
 rotate_left
 ·show Act.put _ (some 27) _ = _
  simp only [Act.put, List.setIfInBounds_toArray, List.set_cons_zero, List.set_cons_succ, i64_w, i32_w]
  rfl
 refine one_ (i := 7) (N := some 28) #[true, true, true, true, true, true, true, true, false] rfl rfl (by kernel_rfl) (by decide) (fun K hK => ?_)
 refine value_ (w1 := w62.alloc (.cells #[.string ⟨#[103, 114, 105, 100]⟩, .string ta, .string tb] 9)) (v := .slice (some ⟨w62.heap.size, 0, none⟩) 3 3) (by rfl) rfl (by go_simp) ?_
 have hnb := new_below w62 (.cells #[.string ⟨#[103, 114, 105, 100]⟩, .string ta, .string tb] 9)
 have HWS : Aside0 (Kd.C Kd.string (w62.alloc (.cells #[.string ⟨#[103, 114, 105, 100]⟩, .string ta, .string tb] 9)) (some ⟨w62.heap.size, 0, none⟩) [⟨#[103, 114, 105, 100]⟩, ta, tb].length [⟨#[103, 114, 105, 100]⟩, ta, tb]) := ⟨words_of (strs_own w62 [⟨#[103, 114, 105, 100]⟩, ta, tb] (by simp))⟩
 replace HAB := Aside0.mk (HAB.out.step hnb)
 refine hK.out _ _ ⟨cell_below hHeld.1 hnb, cell_below hHeld.2 hnb⟩ (fun hHeld => ?_)
 clear hK K hnb hHeld
 generalize w62.alloc (.cells #[.string ⟨#[103, 114, 105, 100]⟩, .string ta, .string tb] 9) = w6b at HAB HWS ⊢
 generalize w62.heap.size = g6b at HWS ⊢
 refine norm_ (a' := ?_) ?_ ?_
 rotate_left
 ·show Act.put _ (some 28) _ = _
  simp only [Act.put, List.setIfInBounds_toArray, List.set_cons_zero, List.set_cons_succ, i64_w, i32_w]
  rfl
 refine last_ (i := 8) (N := some 29) #[true, true, true, true, true, true, true, true, true] rfl rfl (by kernel_rfl) (by decide) (fun K hK => ?_)
 refine goesV_ Tryz.func17 (by kernel_rfl) rfl #[.slice (some ⟨g6b, 0, none⟩) 3 3, .pointer (some ⟨b, 0, none⟩)] #[.pointer (some ⟨b, 0, none⟩)] (by rfl) rfl rfl (by rfl) (by simp only [List.map_toArray, List.map_cons, List.map_nil, List.append_toArray, List.cons_append, List.nil_append]; rfl) ?_
 have hL := line_calls b b [] o0 (some ⟨g6b, 0, none⟩) 3 [⟨#[103, 114, 105, 100]⟩, ta, tb] w6b ⟨HAB.out.bl⟩ ⟨HAB.out.sz⟩ HWS (Nat.le_refl _) HO0.out
 refine (show Calls Tryz.prog 17 #[.slice (some ⟨g6b, 0, none⟩) 3 3, .pointer (some ⟨b, 0, none⟩)] w6b _ from hL).mono ?_
 rintro e w6z ⟨rfl, hbl, hbb⟩
 refine ⟨_, rfl, ?_⟩
 replace HAB := Aside0.mk (HAB.out.line hbl hbb)
 clear hL hbl hbb HWS
 refine hK.out _ _ ?_
 clear hK K
 refine done_ (by kernel_rfl) ?_
 clear HTA HTB HO0
 obtain ⟨_, _, y2, _, _⟩ := cells5_ (blk_below HP.out HAB.out.be)
 go_upto_block 0 with fail
 go_cut [33] (fun v33 wc => Aside0 (AtB b w5 wc o1))
 case first =>
  clear y2
  go_wp2_with fail
  go_loopw [33] (fun v w' => ∃ (j : Nat) (acc : List UInt8), v = .int .i64 (j : Int) ∧ Aside0 (j ≤ l0_2.length) ∧ Aside0 (AtB b w5 w' acc) ∧ Aside0 (ptz k acc (l0_2.drop j) = some o1)) (fun v _ => l0_2.length - (intOf v).toNat)
  case atStart => exact ⟨0, _, rfl, ⟨Nat.zero_le _⟩, HAB, HO1⟩
  case round =>
   clear HAB
   obtain ⟨j, acc, rfl, HJ, HAB, HO⟩ := hrel
   by_cases hlt : j < l0_2.length
   ·have hd1 : decide (j < l0_2.length) = true := decide_eq_true hlt
    have hd2 : decide ((j : Int) < (l0_2.length : Int)) = true := decide_eq_true (by omega)
    have e1 : l0_2.drop j = rd_T60 l0_2 (j : Int) :: l0_2.drop (j + 1) := by
     rw [List.drop_eq_getElem_cons hlt, rd_get60 l0_2 j hlt]
    have H := HO.out
    rw [e1] at H
    clear e1 HO
    simp only [ptz] at H
    obtain ⟨ta, T1, H⟩ := Option.bind_eq_some_iff.mp H
    obtain ⟨tb, T2, H⟩ := Option.bind_eq_some_iff.mp H
    obtain ⟨oo, O0, H⟩ := Option.bind_eq_some_iff.mp H
    have HTA := Aside0.mk T1
    have HTB := Aside0.mk T2
    have HOO := Aside0.mk O0
    have HO := Aside0.mk H
    clear H T1 T2 O0
    obtain ⟨ad, rfl, q0, q1, q2, q3, q4, q5⟩ := at_T60 (Kd.C_below HR.out.z HAB.out.be) (j : Int) (by omega) (by omega)
    rw [Int.toNat_natCast] at q0 q1 q2 q3 q4 q5
    obtain ⟨z, hz⟩ : ∃ z, rd_T60 l0_2 (j : Int) = z := ⟨_, rfl⟩
    rw [hz] at q0 q1 q2 q3 q4 q5 HTA HTB
    clear hz
    have hj := HJ.out
    have hlen := (HR.out.z).2.1
    go_upto_region 10 with fail
    have HZ := Aside0.mk (blk_new wr (.cells #[.int .i64 z.f0.f0.f0, .int .i64 z.f0.f0.f1, .int .i64 z.f0.f1.f0, .int .i64 z.f0.f1.f1, .int .i64 z.f1.f0, .int .u64 z.f1.f1] 60))
    have hb := new_below wr (.cells #[.int .i64 z.f0.f0.f0, .int .i64 z.f0.f0.f1, .int .i64 z.f0.f1.f0, .int .i64 z.f0.f1.f1, .int .i64 z.f1.f0, .int .u64 z.f1.f1] 60)
    replace HAB := Aside0.mk (HAB.out.step hb)
    clear hb hlen hj hd1 hd2 q0 q1 q2 q3 q4 q5
    generalize wr.alloc (.cells #[.int .i64 z.f0.f0.f0, .int .i64 z.f0.f0.f1, .int .i64 z.f0.f1.f0, .int .i64 z.f0.f1.f1, .int .i64 z.f1.f0, .int .u64 z.f1.f1] 60) = w2 at HAB HZ ⊢
    generalize wr.heap.size = gz at HZ ⊢
    have HELD := cells6Z HZ.out
    clear HZ
    have HAD : AtB b w5 w2.drew _ := HAB.out.step (pw_below_drewN (Below.refl _ w2) 1)
    replace HAB := Aside0.mk HAD
    clear HAD
    have hb0 : Below w2.heap.size w2 w2.drew := pw_below_drewN (Below.refl _ w2) 1
    refine start_ (n := 9) (S := fun w' => w'.cell? ⟨gz, 0, none⟩ = some (.int .i64 z.f0.f0.f0) ∧ w'.cell? ⟨gz, 1, none⟩ = some (.int .i64 z.f0.f0.f1) ∧ w'.cell? ⟨gz, 2, none⟩ = some (.int .i64 z.f0.f1.f0) ∧ w'.cell? ⟨gz, 3, none⟩ = some (.int .i64 z.f0.f1.f1) ∧ w'.cell? ⟨gz, 4, none⟩ = some (.int .i64 z.f1.f0) ∧ w'.cell? ⟨gz, 5, none⟩ = some (.int .u64 z.f1.f1)) (ds := [8]) #[false, false, false, false, false, false, false, false, false] (by kernel_rfl) rfl rfl (by have hHeld := HELD; exact ⟨cell_below hHeld.1 hb0, cell_below hHeld.2.1 hb0, cell_below hHeld.2.2.1 hb0, cell_below hHeld.2.2.2.1 hb0, cell_below hHeld.2.2.2.2.1 hb0, cell_below hHeld.2.2.2.2.2 hb0⟩) (fun hHeld => ?_)
    clear HELD hb0
    generalize w2.drew = wz0 at HAB hHeld ⊢
    refine pure_ (i := 0) (N := some 37) (v := ?_) (a' := ?_) #[true, false, false, false, false, false, false, false, false] rfl rfl (by kernel_rfl) (fun _ _ _ h => h) (Or.inl ⟨by rfl, ?_⟩) ?_ ?_
    rotate_left
    ·intro w'; go_simp; with_reducible rfl
    rotate_left
    ·simp only [Act.put, List.setIfInBounds_toArray, List.set_cons_zero, List.set_cons_succ, i64_w, i32_w]; rfl
    refine pure_ (i := 1) (N := some 38) (v := ?_) (a' := ?_) #[true, true, false, false, false, false, false, false, false] rfl rfl (by kernel_rfl) (fun _ _ _ h => h) (Or.inl ⟨by rfl, ?_⟩) ?_ ?_
    rotate_left
    ·intro w'; go_simp; with_reducible rfl
    rotate_left
    ·simp only [Act.put, List.setIfInBounds_toArray, List.set_cons_zero, List.set_cons_succ, i64_w, i32_w]; rfl
    refine take_ (i := 2) (N := some 39) (v := ?_) (a' := ?_) #[true, true, true, false, false, false, false, false, false] rfl rfl (by kernel_rfl) (fun _ _ _ h => h) (Or.inl ⟨by rfl, ?_⟩) hHeld ?_ ?_
    rotate_left
    ·rintro w' ⟨s0_, s1_, s2_, s3_, s4_, s5_⟩; go_simp; with_reducible rfl
    rotate_left
    ·simp only [Act.put, List.setIfInBounds_toArray, List.set_cons_zero, List.set_cons_succ, i64_w, i32_w]; rfl
    refine pure_ (i := 4) (N := some 41) (v := ?_) (a' := ?_) #[true, true, true, false, true, false, false, false, false] rfl rfl (by kernel_rfl) (fun _ _ _ h => h) (Or.inl ⟨by rfl, ?_⟩) ?_ ?_
    rotate_left
    ·intro w'; go_simp; with_reducible rfl
    rotate_left
    ·simp only [Act.put, List.setIfInBounds_toArray, List.set_cons_zero, List.set_cons_succ, i64_w, i32_w]; rfl
    refine take_ (i := 5) (N := some 42) (v := ?_) (a' := ?_) #[true, true, true, false, true, true, false, false, false] rfl rfl (by kernel_rfl) (fun _ _ _ h => h) (Or.inl ⟨by rfl, ?_⟩) hHeld ?_ ?_
    rotate_left
    ·rintro w' ⟨s0_, s1_, s2_, s3_, s4_, s5_⟩; go_simp; with_reducible rfl
    rotate_left
    ·simp only [Act.put, List.setIfInBounds_toArray, List.set_cons_zero, List.set_cons_succ, i64_w, i32_w]; rfl
    refine one_ (i := 3) (N := some 40) #[true, true, true, true, true, true, false, false, false] rfl rfl (by kernel_rfl) (by decide) (fun K hK => ?_)
    refine goes_ Tryz.func22 (by kernel_rfl) rfl #[.agg #[.int .i64 z.f0.f0.f0, .int .i64 z.f0.f0.f1, .int .i64 z.f0.f1.f0, .int .i64 z.f0.f1.f1]] (by rfl) rfl rfl (by (try simp only [List.map_toArray, List.map_cons, List.map_nil]); first | done | rfl) ?_
    have HTW := tb_ HAB.out.be HT5
    with_reducible refine (span_Text.calls k z.f0.f0.f0 z.f0.f0.f1 z.f0.f1.f0 z.f0.f1.f1 ta _ HTW HTA.out).mono ?_
    rintro e wz1 ⟨rfl, hb⟩
    refine ⟨_, rfl, ?_⟩
    replace HAB := Aside0.mk (HAB.out.step hb)
    clear HTW
    refine hK.out _ _ ⟨cell_below hHeld.1 hb, cell_below hHeld.2.1 hb, cell_below hHeld.2.2.1 hb, cell_below hHeld.2.2.2.1 hb, cell_below hHeld.2.2.2.2.1 hb, cell_below hHeld.2.2.2.2.2 hb⟩ (fun hHeld => ?_)
    clear hK K hb
    refine norm_ (a' := ?_) ?_ ?_
    rotate_left
    ·show Act.put _ (some 40) _ = _
     simp only [Act.put, List.setIfInBounds_toArray, List.set_cons_zero, List.set_cons_succ, i64_w, i32_w]
     rfl
    refine one_ (i := 6) (N := some 43) #[true, true, true, true, true, true, true, false, false] rfl rfl (by kernel_rfl) (by decide) (fun K hK => ?_)
    refine goes_ Tryz.func23 (by kernel_rfl) rfl #[.agg #[.int .i64 z.f1.f0, .int .u64 z.f1.f1]] (by rfl) rfl rfl (by (try simp only [List.map_toArray, List.map_cons, List.map_nil]); first | done | rfl) ?_
    have HTW := tb_ HAB.out.be HT5
    with_reducible refine (label_Text.calls k z.f1.f0 z.f1.f1 tb _ HTW HTB.out).mono ?_
    rintro e wz2 ⟨rfl, hb⟩
    refine ⟨_, rfl, ?_⟩
    replace HAB := Aside0.mk (HAB.out.step hb)
    clear HTW
    refine hK.out _ _ ⟨cell_below hHeld.1 hb, cell_below hHeld.2.1 hb, cell_below hHeld.2.2.1 hb, cell_below hHeld.2.2.2.1 hb, cell_below hHeld.2.2.2.2.1 hb, cell_below hHeld.2.2.2.2.2 hb⟩ (fun hHeld => ?_)
    clear hK K hb
    refine norm_ (a' := ?_) ?_ ?_
    rotate_left
    ·show Act.put _ (some 43) _ = _
     simp only [Act.put, List.setIfInBounds_toArray, List.set_cons_zero, List.set_cons_succ, i64_w, i32_w]
     rfl
    refine one_ (i := 7) (N := some 44) #[true, true, true, true, true, true, true, true, false] rfl rfl (by kernel_rfl) (by decide) (fun K hK => ?_)
    refine value_ (w1 := wz2.alloc (.cells #[.string ⟨#[122, 111, 110, 101]⟩, .string ta, .string tb] 9)) (v := .slice (some ⟨wz2.heap.size, 0, none⟩) 3 3) (by rfl) rfl (by go_simp) ?_
    have hnb := new_below wz2 (.cells #[.string ⟨#[122, 111, 110, 101]⟩, .string ta, .string tb] 9)
    have HWS : Aside0 (Kd.C Kd.string (wz2.alloc (.cells #[.string ⟨#[122, 111, 110, 101]⟩, .string ta, .string tb] 9)) (some ⟨wz2.heap.size, 0, none⟩) [⟨#[122, 111, 110, 101]⟩, ta, tb].length [⟨#[122, 111, 110, 101]⟩, ta, tb]) := ⟨words_of (strs_own wz2 [⟨#[122, 111, 110, 101]⟩, ta, tb] (by simp))⟩
    replace HAB := Aside0.mk (HAB.out.step hnb)
    refine hK.out _ _ ⟨cell_below hHeld.1 hnb, cell_below hHeld.2.1 hnb, cell_below hHeld.2.2.1 hnb, cell_below hHeld.2.2.2.1 hnb, cell_below hHeld.2.2.2.2.1 hnb, cell_below hHeld.2.2.2.2.2 hnb⟩ (fun hHeld => ?_)
    clear hK K hnb hHeld
    generalize wz2.alloc (.cells #[.string ⟨#[122, 111, 110, 101]⟩, .string ta, .string tb] 9) = wzb at HAB HWS ⊢
    generalize wz2.heap.size = gzb at HWS ⊢
    refine norm_ (a' := ?_) ?_ ?_
    rotate_left
    ·show Act.put _ (some 44) _ = _
     simp only [Act.put, List.setIfInBounds_toArray, List.set_cons_zero, List.set_cons_succ, i64_w, i32_w]
     rfl
    refine last_ (i := 8) (N := some 45) #[true, true, true, true, true, true, true, true, true] rfl rfl (by kernel_rfl) (by decide) (fun K hK => ?_)
    refine goesV_ Tryz.func17 (by kernel_rfl) rfl #[.slice (some ⟨gzb, 0, none⟩) 3 3, .pointer (some ⟨b, 0, none⟩)] #[.pointer (some ⟨b, 0, none⟩)] (by rfl) rfl rfl (by rfl) (by simp only [List.map_toArray, List.map_cons, List.map_nil, List.append_toArray, List.cons_append, List.nil_append]; rfl) ?_
    have hL := line_calls b b acc oo (some ⟨gzb, 0, none⟩) 3 [⟨#[122, 111, 110, 101]⟩, ta, tb] wzb ⟨HAB.out.bl⟩ ⟨HAB.out.sz⟩ HWS (Nat.le_refl _) HOO.out
    refine (show Calls Tryz.prog 17 #[.slice (some ⟨gzb, 0, none⟩) 3 3, .pointer (some ⟨b, 0, none⟩)] wzb _ from hL).mono ?_
    rintro e wzz ⟨rfl, hbl, hbb⟩
    refine ⟨_, rfl, ?_⟩
    replace HAB := Aside0.mk (HAB.out.line hbl hbb)
    clear hL hbl hbb HWS
    refine hK.out _ _ ?_
    clear hK K
    refine done_ (by kernel_rfl) ?_
    have hlen := (HR.out.z).2.1
    go_wp2
    go_roundw
    case rel => exact ⟨j + 1, _, by go_num, ⟨by omega⟩, HAB, HO⟩
    case measure => simp [intOf]; omega
   ·have hd1 : decide (j < l0_2.length) = false := decide_eq_false hlt
    have hd2 : decide ((j : Int) < (l0_2.length : Int)) = false := decide_eq_false (by omega)
    have e1 : l0_2.drop j = [] := List.drop_eq_nil_of_le (by omega)
    have H := HO.out
    rw [e1] at H
    clear e1 HO
    simp only [ptz, Option.some.injEq] at H
    subst H
    go_wp2
    go_meet
    exact HAB
 case rest =>
  replace HAB := hcut
  clear hcut y2
  clear HO1
  obtain ⟨_, _, _, y2, _⟩ := cells5_ (blk_below HP.out HAB.out.be)
  go_upto_block 2 with fail
  go_cut [50] (fun v33 wc => Aside0 (AtB b w5 wc o2))
  case first =>
   clear y2
   go_wp2_with fail
   go_loopw [50] (fun v w' => ∃ (j : Nat) (acc : List UInt8), v = .int .i64 (j : Int) ∧ Aside0 (j ≤ l0_3.length) ∧ Aside0 (AtB b w5 w' acc) ∧ Aside0 (ptu k acc (l0_3.drop j) = some o2)) (fun v _ => l0_3.length - (intOf v).toNat)
   case atStart => exact ⟨0, _, rfl, ⟨Nat.zero_le _⟩, HAB, HO2⟩
   case round =>
    clear HAB
    obtain ⟨j, acc, rfl, HJ, HAB, HO⟩ := hrel
    by_cases hlt : j < l0_3.length
    ·have hd1 : decide (j < l0_3.length) = true := decide_eq_true hlt
     have hd2 : decide ((j : Int) < (l0_3.length : Int)) = true := decide_eq_true (by omega)
     have e1 : l0_3.drop j = rd_T62 l0_3 (j : Int) :: l0_3.drop (j + 1) := by
      rw [List.drop_eq_getElem_cons hlt, rd_get62 l0_3 j hlt]
     have H := HO.out
     rw [e1] at H
     clear e1 HO
     simp only [ptu] at H
     obtain ⟨tb, T2, H⟩ := Option.bind_eq_some_iff.mp H
     obtain ⟨oo, O0, H⟩ := Option.bind_eq_some_iff.mp H
     have HTB := Aside0.mk T2
     have HOO := Aside0.mk O0
     have HO := Aside0.mk H
     clear H T2 O0
     obtain ⟨ad, rfl, q0, q1, q2⟩ := at_T62 (Kd.C_below HR.out.u HAB.out.be) (j : Int) (by omega) (by omega)
     rw [Int.toNat_natCast] at q0 q1 q2
     obtain ⟨z, hz⟩ : ∃ z, rd_T62 l0_3 (j : Int) = z := ⟨_, rfl⟩
     rw [hz] at q0 q1 q2 HTB HOO
     clear hz
     have hj := HJ.out
     have hlen := (HR.out.u).2.1
     go_upto_region 15 with fail
     have HZ := Aside0.mk (blk_new wr (.cells #[.string z.f0, .int .i64 z.f1.f0, .int .u64 z.f1.f1] 62))
     have hb := new_below wr (.cells #[.string z.f0, .int .i64 z.f1.f0, .int .u64 z.f1.f1] 62)
     replace HAB := Aside0.mk (HAB.out.step hb)
     clear hb hlen hj hd1 hd2 q0 q1 q2
     generalize wr.alloc (.cells #[.string z.f0, .int .i64 z.f1.f0, .int .u64 z.f1.f1] 62) = w2 at HAB HZ ⊢
     generalize wr.heap.size = gz at HZ ⊢
     have HELD := cells3Z HZ.out
     clear HZ
     have HAD : AtB b w5 w2.drew _ := HAB.out.step (pw_below_drewN (Below.refl _ w2) 1)
     replace HAB := Aside0.mk HAD
     clear HAD
     have hb0 : Below w2.heap.size w2 w2.drew := pw_below_drewN (Below.refl _ w2) 1
     refine start_ (n := 8) (S := fun w' => w'.cell? ⟨gz, 0, none⟩ = some (.string z.f0) ∧ w'.cell? ⟨gz, 1, none⟩ = some (.int .i64 z.f1.f0) ∧ w'.cell? ⟨gz, 2, none⟩ = some (.int .u64 z.f1.f1)) (ds := [7]) #[false, false, false, false, false, false, false, false] (by kernel_rfl) rfl rfl (by have hHeld := HELD; exact ⟨cell_below hHeld.1 hb0, cell_below hHeld.2.1 hb0, cell_below hHeld.2.2 hb0⟩) (fun hHeld => ?_)
     clear HELD hb0
     generalize w2.drew = wu0 at HAB hHeld ⊢
     refine pure_ (i := 0) (N := some 54) (v := ?_) (a' := ?_) #[true, false, false, false, false, false, false, false] rfl rfl (by kernel_rfl) (fun _ _ _ h => h) (Or.inl ⟨by rfl, ?_⟩) ?_ ?_
     rotate_left
     ·intro w'; go_simp; with_reducible rfl
     rotate_left
     ·simp only [Act.put, List.setIfInBounds_toArray, List.set_cons_zero, List.set_cons_succ, i64_w, i32_w]; rfl
     refine pure_ (i := 1) (N := some 55) (v := ?_) (a' := ?_) #[true, true, false, false, false, false, false, false] rfl rfl (by kernel_rfl) (fun _ _ _ h => h) (Or.inl ⟨by rfl, ?_⟩) ?_ ?_
     rotate_left
     ·intro w'; go_simp; with_reducible rfl
     rotate_left
     ·simp only [Act.put, List.setIfInBounds_toArray, List.set_cons_zero, List.set_cons_succ, i64_w, i32_w]; rfl
     refine take_ (i := 2) (N := some 56) (v := ?_) (a' := ?_) #[true, true, true, false, false, false, false, false] rfl rfl (by kernel_rfl) (fun _ _ _ h => h) (Or.inl ⟨by rfl, ?_⟩) hHeld ?_ ?_
     rotate_left
     ·rintro w' ⟨s0_, s1_, s2_⟩; go_simp; with_reducible rfl
     rotate_left
     ·simp only [Act.put, List.setIfInBounds_toArray, List.set_cons_zero, List.set_cons_succ, i64_w, i32_w]; rfl
     refine pure_ (i := 3) (N := some 57) (v := ?_) (a' := ?_) #[true, true, true, true, false, false, false, false] rfl rfl (by kernel_rfl) (fun _ _ _ h => h) (Or.inl ⟨by rfl, ?_⟩) ?_ ?_
     rotate_left
     ·intro w'; go_simp; with_reducible rfl
     rotate_left
     ·simp only [Act.put, List.setIfInBounds_toArray, List.set_cons_zero, List.set_cons_succ, i64_w, i32_w]; rfl
     refine take_ (i := 4) (N := some 58) (v := ?_) (a' := ?_) #[true, true, true, true, true, false, false, false] rfl rfl (by kernel_rfl) (fun _ _ _ h => h) (Or.inl ⟨by rfl, ?_⟩) hHeld ?_ ?_
     rotate_left
     ·rintro w' ⟨s0_, s1_, s2_⟩; go_simp; with_reducible rfl
     rotate_left
     ·simp only [Act.put, List.setIfInBounds_toArray, List.set_cons_zero, List.set_cons_succ, i64_w, i32_w]; rfl
     refine one_ (i := 5) (N := some 59) #[true, true, true, true, true, true, false, false] rfl rfl (by kernel_rfl) (by decide) (fun K hK => ?_)
     refine goes_ Tryz.func23 (by kernel_rfl) rfl #[.agg #[.int .i64 z.f1.f0, .int .u64 z.f1.f1]] (by rfl) rfl rfl (by (try simp only [List.map_toArray, List.map_cons, List.map_nil]); first | done | rfl) ?_
     have HTW := tb_ HAB.out.be HT5
     with_reducible refine (label_Text.calls k z.f1.f0 z.f1.f1 tb _ HTW HTB.out).mono ?_
     rintro e wu1 ⟨rfl, hb⟩
     refine ⟨_, rfl, ?_⟩
     replace HAB := Aside0.mk (HAB.out.step hb)
     clear HTW
     refine hK.out _ _ ⟨cell_below hHeld.1 hb, cell_below hHeld.2.1 hb, cell_below hHeld.2.2 hb⟩ (fun hHeld => ?_)
     clear hK K hb
     refine norm_ (a' := ?_) ?_ ?_
     rotate_left
     ·show Act.put _ (some 59) _ = _
      simp only [Act.put, List.setIfInBounds_toArray, List.set_cons_zero, List.set_cons_succ, i64_w, i32_w]
      rfl
     refine one_ (i := 6) (N := some 60) #[true, true, true, true, true, true, true, false] rfl rfl (by kernel_rfl) (by decide) (fun K hK => ?_)
     refine value_ (w1 := wu1.alloc (.cells #[.string ⟨#[117, 115, 101, 114]⟩, .string z.f0, .string tb] 9)) (v := .slice (some ⟨wu1.heap.size, 0, none⟩) 3 3) (by rfl) rfl (by go_simp) ?_
     have hnb := new_below wu1 (.cells #[.string ⟨#[117, 115, 101, 114]⟩, .string z.f0, .string tb] 9)
     have HWS : Aside0 (Kd.C Kd.string (wu1.alloc (.cells #[.string ⟨#[117, 115, 101, 114]⟩, .string z.f0, .string tb] 9)) (some ⟨wu1.heap.size, 0, none⟩) [⟨#[117, 115, 101, 114]⟩, z.f0, tb].length [⟨#[117, 115, 101, 114]⟩, z.f0, tb]) := ⟨words_of (strs_own wu1 [⟨#[117, 115, 101, 114]⟩, z.f0, tb] (by simp))⟩
     replace HAB := Aside0.mk (HAB.out.step hnb)
     refine hK.out _ _ ⟨cell_below hHeld.1 hnb, cell_below hHeld.2.1 hnb, cell_below hHeld.2.2 hnb⟩ (fun hHeld => ?_)
     clear hK K hnb hHeld
     generalize wu1.alloc (.cells #[.string ⟨#[117, 115, 101, 114]⟩, .string z.f0, .string tb] 9) = wub at HAB HWS ⊢
     generalize wu1.heap.size = gub at HWS ⊢
     refine norm_ (a' := ?_) ?_ ?_
     rotate_left
     ·show Act.put _ (some 60) _ = _
      simp only [Act.put, List.setIfInBounds_toArray, List.set_cons_zero, List.set_cons_succ, i64_w, i32_w]
      rfl
     refine last_ (i := 7) (N := some 61) #[true, true, true, true, true, true, true, true] rfl rfl (by kernel_rfl) (by decide) (fun K hK => ?_)
     refine goesV_ Tryz.func17 (by kernel_rfl) rfl #[.slice (some ⟨gub, 0, none⟩) 3 3, .pointer (some ⟨b, 0, none⟩)] #[.pointer (some ⟨b, 0, none⟩)] (by rfl) rfl rfl (by rfl) (by simp only [List.map_toArray, List.map_cons, List.map_nil, List.append_toArray, List.cons_append, List.nil_append]; rfl) ?_
     have hL := line_calls b b acc oo (some ⟨gub, 0, none⟩) 3 [⟨#[117, 115, 101, 114]⟩, z.f0, tb] wub ⟨HAB.out.bl⟩ ⟨HAB.out.sz⟩ HWS (Nat.le_refl _) HOO.out
     refine (show Calls Tryz.prog 17 #[.slice (some ⟨gub, 0, none⟩) 3 3, .pointer (some ⟨b, 0, none⟩)] wub _ from hL).mono ?_
     rintro e wuz ⟨rfl, hbl, hbb⟩
     refine ⟨_, rfl, ?_⟩
     replace HAB := Aside0.mk (HAB.out.line hbl hbb)
     clear hL hbl hbb HWS
     refine hK.out _ _ ?_
     clear hK K
     refine done_ (by kernel_rfl) ?_
     have hlen := (HR.out.u).2.1
     go_wp2
     go_roundw
     case rel => exact ⟨j + 1, _, by go_num, ⟨by omega⟩, HAB, HO⟩
     case measure => simp [intOf]; omega
    ·have hd1 : decide (j < l0_3.length) = false := decide_eq_false hlt
     have hd2 : decide ((j : Int) < (l0_3.length : Int)) = false := decide_eq_false (by omega)
     have e1 : l0_3.drop j = [] := List.drop_eq_nil_of_le (by omega)
     have H := HO.out
     rw [e1] at H
     clear e1 HO
     simp only [ptu, Option.some.injEq] at H
     subst H
     go_wp2
     go_meet
     exact HAB
  case rest =>
   replace HAB := hcut
   clear hcut y2
   clear HO2
   obtain ⟨_, _, _, _, y2⟩ := cells5_ (blk_below HP.out HAB.out.be)
   go_upto_block 4 with fail
   go_cut [66] (fun v33 wc => Aside0 (AtB b w5 wc o3))
   case first =>
    clear y2
    go_wp2_with fail
    go_loopw [66] (fun v w' => ∃ (j : Nat) (acc : List UInt8), v = .int .i64 (j : Int) ∧ Aside0 (j ≤ l0_4.length) ∧ Aside0 (AtB b w5 w' acc) ∧ Aside0 (ptg k acc (l0_4.drop j) = some o3)) (fun v _ => l0_4.length - (intOf v).toNat)
    case atStart => exact ⟨0, _, rfl, ⟨Nat.zero_le _⟩, HAB, HO3⟩
    case round =>
     clear HAB
     obtain ⟨j, acc, rfl, HJ, HAB, HO⟩ := hrel
     by_cases hlt : j < l0_4.length
     ·have hd1 : decide (j < l0_4.length) = true := decide_eq_true hlt
      have hd2 : decide ((j : Int) < (l0_4.length : Int)) = true := decide_eq_true (by omega)
      have e1 : l0_4.drop j = rd_T64 l0_4 (j : Int) :: l0_4.drop (j + 1) := by
       rw [List.drop_eq_getElem_cons hlt, rd_get64 l0_4 j hlt]
      have H := HO.out
      rw [e1] at H
      clear e1 HO
      simp only [ptg] at H
      obtain ⟨ta, T1, H⟩ := Option.bind_eq_some_iff.mp H
      obtain ⟨tb, T2, H⟩ := Option.bind_eq_some_iff.mp H
      obtain ⟨oo, O0, H⟩ := Option.bind_eq_some_iff.mp H
      have HTA := Aside0.mk T1
      have HTB := Aside0.mk T2
      have HOO := Aside0.mk O0
      have HO := Aside0.mk H
      clear H T1 T2 O0
      obtain ⟨ad, rfl, q0, q1, q2, q3, q4⟩ := at_T64 (Kd.C_below HR.out.g HAB.out.be) (j : Int) (by omega) (by omega)
      rw [Int.toNat_natCast] at q0 q1 q2 q3 q4
      obtain ⟨z, hz⟩ : ∃ z, rd_T64 l0_4 (j : Int) = z := ⟨_, rfl⟩
      rw [hz] at q0 q1 q2 q3 q4 HTA HTB HOO
      clear hz
      have hj := HJ.out
      have hlen := (HR.out.g).2.1
      go_upto_region 20 with fail
      have HZ := Aside0.mk (blk_new wr (.cells #[.string z.f0, .int .i64 z.f1.f0, .int .u64 z.f1.f1, .int .i64 z.f2.f0, .int .u64 z.f2.f1] 64))
      have hb := new_below wr (.cells #[.string z.f0, .int .i64 z.f1.f0, .int .u64 z.f1.f1, .int .i64 z.f2.f0, .int .u64 z.f2.f1] 64)
      replace HAB := Aside0.mk (HAB.out.step hb)
      clear hb hlen hj hd1 hd2 q0 q1 q2 q3 q4
      generalize wr.alloc (.cells #[.string z.f0, .int .i64 z.f1.f0, .int .u64 z.f1.f1, .int .i64 z.f2.f0, .int .u64 z.f2.f1] 64) = w2 at HAB HZ ⊢
      generalize wr.heap.size = gz at HZ ⊢
      have HELD := cells5Z HZ.out
      clear HZ
      have HAD : AtB b w5 w2.drew _ := HAB.out.step (pw_below_drewN (Below.refl _ w2) 1)
      replace HAB := Aside0.mk HAD
      clear HAD
      have hb0 : Below w2.heap.size w2 w2.drew := pw_below_drewN (Below.refl _ w2) 1
      refine start_ (n := 11) (S := fun w' => w'.cell? ⟨gz, 0, none⟩ = some (.string z.f0) ∧ w'.cell? ⟨gz, 1, none⟩ = some (.int .i64 z.f1.f0) ∧ w'.cell? ⟨gz, 2, none⟩ = some (.int .u64 z.f1.f1) ∧ w'.cell? ⟨gz, 3, none⟩ = some (.int .i64 z.f2.f0) ∧ w'.cell? ⟨gz, 4, none⟩ = some (.int .u64 z.f2.f1)) (ds := [10]) #[false, false, false, false, false, false, false, false, false, false, false] (by kernel_rfl) rfl rfl (by have hHeld := HELD; exact ⟨cell_below hHeld.1 hb0, cell_below hHeld.2.1 hb0, cell_below hHeld.2.2.1 hb0, cell_below hHeld.2.2.2.1 hb0, cell_below hHeld.2.2.2.2 hb0⟩) (fun hHeld => ?_)
      clear HELD hb0
      generalize w2.drew = wg0 at HAB hHeld ⊢
      refine pure_ (i := 0) (N := some 70) (v := ?_) (a' := ?_) #[true, false, false, false, false, false, false, false, false, false, false] rfl rfl (by kernel_rfl) (fun _ _ _ h => h) (Or.inl ⟨by rfl, ?_⟩) ?_ ?_
      rotate_left
      ·intro w'; go_simp; with_reducible rfl
      rotate_left
      ·simp only [Act.put, List.setIfInBounds_toArray, List.set_cons_zero, List.set_cons_succ, i64_w, i32_w]; rfl
      refine pure_ (i := 1) (N := some 71) (v := ?_) (a' := ?_) #[true, true, false, false, false, false, false, false, false, false, false] rfl rfl (by kernel_rfl) (fun _ _ _ h => h) (Or.inl ⟨by rfl, ?_⟩) ?_ ?_
      rotate_left
      ·intro w'; go_simp; with_reducible rfl
      rotate_left
      ·simp only [Act.put, List.setIfInBounds_toArray, List.set_cons_zero, List.set_cons_succ, i64_w, i32_w]; rfl
      refine take_ (i := 2) (N := some 72) (v := ?_) (a' := ?_) #[true, true, true, false, false, false, false, false, false, false, false] rfl rfl (by kernel_rfl) (fun _ _ _ h => h) (Or.inl ⟨by rfl, ?_⟩) hHeld ?_ ?_
      rotate_left
      ·rintro w' ⟨s0_, s1_, s2_, s3_, s4_⟩; go_simp; with_reducible rfl
      rotate_left
      ·simp only [Act.put, List.setIfInBounds_toArray, List.set_cons_zero, List.set_cons_succ, i64_w, i32_w]; rfl
      refine pure_ (i := 3) (N := some 73) (v := ?_) (a' := ?_) #[true, true, true, true, false, false, false, false, false, false, false] rfl rfl (by kernel_rfl) (fun _ _ _ h => h) (Or.inl ⟨by rfl, ?_⟩) ?_ ?_
      rotate_left
      ·intro w'; go_simp; with_reducible rfl
      rotate_left
      ·simp only [Act.put, List.setIfInBounds_toArray, List.set_cons_zero, List.set_cons_succ, i64_w, i32_w]; rfl
      refine take_ (i := 4) (N := some 74) (v := ?_) (a' := ?_) #[true, true, true, true, true, false, false, false, false, false, false] rfl rfl (by kernel_rfl) (fun _ _ _ h => h) (Or.inl ⟨by rfl, ?_⟩) hHeld ?_ ?_
      rotate_left
      ·rintro w' ⟨s0_, s1_, s2_, s3_, s4_⟩; go_simp; with_reducible rfl
      rotate_left
      ·simp only [Act.put, List.setIfInBounds_toArray, List.set_cons_zero, List.set_cons_succ, i64_w, i32_w]; rfl
      refine pure_ (i := 6) (N := some 76) (v := ?_) (a' := ?_) #[true, true, true, true, true, false, true, false, false, false, false] rfl rfl (by kernel_rfl) (fun _ _ _ h => h) (Or.inl ⟨by rfl, ?_⟩) ?_ ?_
      rotate_left
      ·intro w'; go_simp; with_reducible rfl
      rotate_left
      ·simp only [Act.put, List.setIfInBounds_toArray, List.set_cons_zero, List.set_cons_succ, i64_w, i32_w]; rfl
      refine take_ (i := 7) (N := some 77) (v := ?_) (a' := ?_) #[true, true, true, true, true, false, true, true, false, false, false] rfl rfl (by kernel_rfl) (fun _ _ _ h => h) (Or.inl ⟨by rfl, ?_⟩) hHeld ?_ ?_
      rotate_left
      ·rintro w' ⟨s0_, s1_, s2_, s3_, s4_⟩; go_simp; with_reducible rfl
      rotate_left
      ·simp only [Act.put, List.setIfInBounds_toArray, List.set_cons_zero, List.set_cons_succ, i64_w, i32_w]; rfl
      refine one_ (i := 5) (N := some 75) #[true, true, true, true, true, true, true, true, false, false, false] rfl rfl (by kernel_rfl) (by decide) (fun K hK => ?_)
      refine goes_ Tryz.func23 (by kernel_rfl) rfl #[.agg #[.int .i64 z.f1.f0, .int .u64 z.f1.f1]] (by rfl) rfl rfl (by (try simp only [List.map_toArray, List.map_cons, List.map_nil]); first | done | rfl) ?_
      have HTW := tb_ HAB.out.be HT5
      with_reducible refine (label_Text.calls k z.f1.f0 z.f1.f1 ta _ HTW HTA.out).mono ?_
      rintro e wg1 ⟨rfl, hb⟩
      refine ⟨_, rfl, ?_⟩
      replace HAB := Aside0.mk (HAB.out.step hb)
      clear HTW
      refine hK.out _ _ ⟨cell_below hHeld.1 hb, cell_below hHeld.2.1 hb, cell_below hHeld.2.2.1 hb, cell_below hHeld.2.2.2.1 hb, cell_below hHeld.2.2.2.2 hb⟩ (fun hHeld => ?_)
      clear hK K hb
      refine norm_ (a' := ?_) ?_ ?_
      rotate_left
      ·show Act.put _ (some 75) _ = _
       simp only [Act.put, List.setIfInBounds_toArray, List.set_cons_zero, List.set_cons_succ, i64_w, i32_w]
       rfl
      refine one_ (i := 8) (N := some 78) #[true, true, true, true, true, true, true, true, true, false, false] rfl rfl (by kernel_rfl) (by decide) (fun K hK => ?_)
      refine goes_ Tryz.func23 (by kernel_rfl) rfl #[.agg #[.int .i64 z.f2.f0, .int .u64 z.f2.f1]] (by rfl) rfl rfl (by (try simp only [List.map_toArray, List.map_cons, List.map_nil]); first | done | rfl) ?_
      have HTW := tb_ HAB.out.be HT5
      with_reducible refine (label_Text.calls k z.f2.f0 z.f2.f1 tb _ HTW HTB.out).mono ?_
      rintro e wg2 ⟨rfl, hb⟩
      refine ⟨_, rfl, ?_⟩
      replace HAB := Aside0.mk (HAB.out.step hb)
      clear HTW
      refine hK.out _ _ ⟨cell_below hHeld.1 hb, cell_below hHeld.2.1 hb, cell_below hHeld.2.2.1 hb, cell_below hHeld.2.2.2.1 hb, cell_below hHeld.2.2.2.2 hb⟩ (fun hHeld => ?_)
      clear hK K hb
      refine norm_ (a' := ?_) ?_ ?_
      rotate_left
      ·show Act.put _ (some 78) _ = _
       simp only [Act.put, List.setIfInBounds_toArray, List.set_cons_zero, List.set_cons_succ, i64_w, i32_w]
       rfl
      refine one_ (i := 9) (N := some 79) #[true, true, true, true, true, true, true, true, true, true, false] rfl rfl (by kernel_rfl) (by decide) (fun K hK => ?_)
      refine value_ (w1 := wg2.alloc (.cells #[.string ⟨#[103, 114, 97, 110, 116]⟩, .string z.f0, .string ta, .string tb] 9)) (v := .slice (some ⟨wg2.heap.size, 0, none⟩) 4 4) (by rfl) rfl (by go_simp) ?_
      have hnb := new_below wg2 (.cells #[.string ⟨#[103, 114, 97, 110, 116]⟩, .string z.f0, .string ta, .string tb] 9)
      have HWS : Aside0 (Kd.C Kd.string (wg2.alloc (.cells #[.string ⟨#[103, 114, 97, 110, 116]⟩, .string z.f0, .string ta, .string tb] 9)) (some ⟨wg2.heap.size, 0, none⟩) [⟨#[103, 114, 97, 110, 116]⟩, z.f0, ta, tb].length [⟨#[103, 114, 97, 110, 116]⟩, z.f0, ta, tb]) := ⟨words_of (strs_own wg2 [⟨#[103, 114, 97, 110, 116]⟩, z.f0, ta, tb] (by simp))⟩
      replace HAB := Aside0.mk (HAB.out.step hnb)
      refine hK.out _ _ ⟨cell_below hHeld.1 hnb, cell_below hHeld.2.1 hnb, cell_below hHeld.2.2.1 hnb, cell_below hHeld.2.2.2.1 hnb, cell_below hHeld.2.2.2.2 hnb⟩ (fun hHeld => ?_)
      clear hK K hnb hHeld
      generalize wg2.alloc (.cells #[.string ⟨#[103, 114, 97, 110, 116]⟩, .string z.f0, .string ta, .string tb] 9) = wgb at HAB HWS ⊢
      generalize wg2.heap.size = ggb at HWS ⊢
      refine norm_ (a' := ?_) ?_ ?_
      rotate_left
      ·show Act.put _ (some 79) _ = _
       simp only [Act.put, List.setIfInBounds_toArray, List.set_cons_zero, List.set_cons_succ, i64_w, i32_w]
       rfl
      refine last_ (i := 10) (N := some 80) #[true, true, true, true, true, true, true, true, true, true, true] rfl rfl (by kernel_rfl) (by decide) (fun K hK => ?_)
      refine goesV_ Tryz.func17 (by kernel_rfl) rfl #[.slice (some ⟨ggb, 0, none⟩) 4 4, .pointer (some ⟨b, 0, none⟩)] #[.pointer (some ⟨b, 0, none⟩)] (by rfl) rfl rfl (by rfl) (by simp only [List.map_toArray, List.map_cons, List.map_nil, List.append_toArray, List.cons_append, List.nil_append]; rfl) ?_
      have hL := line_calls b b acc oo (some ⟨ggb, 0, none⟩) 4 [⟨#[103, 114, 97, 110, 116]⟩, z.f0, ta, tb] wgb ⟨HAB.out.bl⟩ ⟨HAB.out.sz⟩ HWS (Nat.le_refl _) HOO.out
      refine (show Calls Tryz.prog 17 #[.slice (some ⟨ggb, 0, none⟩) 4 4, .pointer (some ⟨b, 0, none⟩)] wgb _ from hL).mono ?_
      rintro e wgz ⟨rfl, hbl, hbb⟩
      refine ⟨_, rfl, ?_⟩
      replace HAB := Aside0.mk (HAB.out.line hbl hbb)
      clear hL hbl hbb HWS
      refine hK.out _ _ ?_
      clear hK K
      refine done_ (by kernel_rfl) ?_
      have hlen := (HR.out.g).2.1
      go_wp2
      go_roundw
      case rel => exact ⟨j + 1, _, by go_num, ⟨by omega⟩, HAB, HO⟩
      case measure => simp [intOf]; omega
     ·have hd1 : decide (j < l0_4.length) = false := decide_eq_false hlt
      have hd2 : decide ((j : Int) < (l0_4.length : Int)) = false := decide_eq_false (by omega)
      have e1 : l0_4.drop j = [] := List.drop_eq_nil_of_le (by omega)
      have H := HO.out
      rw [e1] at H
      clear e1 HO
      simp only [ptg, Option.some.injEq] at H
      subst H
      go_wp2
      go_meet
      exact HAB
   case rest =>
    replace HAB := hcut
    clear hcut y2
    clear HO3 HP HR HT5
    go_wp2_with (go_at_call 24; refine (Tryz.Builder_String_any_k b b o3 _ HAB.out.bl HAB.out.sz).mono ?_; rintro e w9 ⟨rfl, hbl, hbb, _⟩)
    go_ret
    exact ⟨rfl, below_step HB.out (HAB.out.line hbl hbb).be⟩
end Go.Proofs.YtbboanfggaknjaaGreatDoor.X
/- Operations of a region that may come up in any order, each walked once. -/
set_option linter.unusedVariables false
set_option linter.unusedSimpArgs false
namespace Go.Proofs.YtbboanfggaknjaaGreatDoor.X
open Go.RowKit Go.Proofs.YtbboanfggaknjaaGreatDoorW.PrintWords Go.Proofs.YtbboanfggaknjaaGreatDoorW.PrintLast Go.Proofs.YtbboanfggaknjaaGreatDoorW.PrintMore
def subs : List Nat → List (List Nat)
 | [] => [[]]
 | x :: xs => subs xs ++ (subs xs).map (x :: ·)
theorem filter_subs (b : Nat → Bool) : ∀ M : List Nat, M.filter b ∈ subs M
 | [] => by simp [subs]
 | x :: xs => by
  have h := filter_subs b xs
  unfold subs
  by_cases hx : b x = true
  ·rw [List.filter_cons_of_pos hx]
   exact List.mem_append_right _ (List.mem_map.2 ⟨_, h, rfl⟩)
  ·rw [List.filter_cons_of_neg hx]
   exact List.mem_append_left _ h
def mkL (base : List Bool) (M : List Nat) (b : Nat → Bool) : Array Bool := (base.mapIdx fun i x => x || (M.contains i && b i)).toArray
def ordB (md : Region.Mode) (ops : Array Oper) (ds : List Nat) (base : List Bool) (M : List Nat) : Bool :=
 (subs M).all fun D => (M.all fun i => D.contains i) || (Region.ready md ops (mkL base M D.contains) != [] && (Region.ready md ops (mkL base M D.contains)).all fun i => M.contains i && !D.contains i && !ds.contains i && decide (i < base.length) && decide (i < ops.size))
theorem mkL_congr (base : List Bool) (M : List Nat) (b b' : Nat → Bool) (h : ∀ i ∈ M, b i = b' i) : mkL base M b = mkL base M b' := by
 unfold mkL
 congr 1
 apply List.ext_getElem
 ·simp
 ·intro i h1 h2
  simp only [List.getElem_mapIdx]
  by_cases hi : M.contains i = true
  ·rw [hi, h i (by simpa using hi)]
  ·simp only [Bool.not_eq_true] at hi; rw [hi]; simp
theorem mkL_set (base : List Bool) (M : List Nat) (b : Nat → Bool) (i : Nat) (hi : i ∈ M) (hl : i < base.length) : (mkL base M b).setIfInBounds i true = mkL base M (fun j => j == i || b j) := by
 unfold mkL
 rw [List.setIfInBounds_toArray]
 congr 1
 apply List.ext_getElem
 ·simp
 ·intro j h1 h2
  rw [List.getElem_set]
  simp only [List.getElem_mapIdx]
  by_cases e : i = j
  ·subst e; simp [hi]
  ·have e2 : (j == i) = false := beq_eq_false_iff_ne.mpr (fun h => e h.symm)
   simp [e, e2]
theorem filter_less (M : List Nat) (hM : M.Nodup) (b : Nat → Bool) (i : Nat) (hi : i ∈ M) (hb : b i = false) : (M.filter fun j => !(j == i || b j)).length + 1 = (M.filter fun j => !b j).length := by
 induction M with
 | nil => cases hi
 | cons x xs ih =>
  obtain ⟨h1, h2⟩ := List.nodup_cons.1 hM
  by_cases e : x = i
  ·subst e
   have h3 : xs.filter (fun j => !(j == x || b j)) = xs.filter fun j => !b j := List.filter_congr (fun j hj => by
    have : ¬ j = x := fun e => h1 (e ▸ hj)
    simp [this])
   rw [List.filter_cons_of_neg (by simp), List.filter_cons_of_pos (by simp [hb]), h3]
   rfl
  ·have hi2 : i ∈ xs := by
    rcases List.mem_cons.1 hi with h | h
    ·exact absurd h.symm e
    ·exact h
   have h3 := ih h2 hi2
   by_cases hx : b x = true
   ·rw [List.filter_cons_of_neg (by simp [hx]), List.filter_cons_of_neg (by simp [hx])]
    exact h3
   ·rw [List.filter_cons_of_pos (by simp [hx, e]), List.filter_cons_of_pos (by simp [hx])]
    simp only [List.length_cons]
    omega
section
variable {P : Program} {md : Region.Mode} {ops : Array Oper} {Q : Exit → Act → World → Prop} {S : World → Prop} {ds : List Nat}
theorem all_ready {fuel : Nat} {listed : Array Bool} {a : Act} {w : World} : ∀ rs : List Nat, (∀ i ∈ rs, i ∉ ds ∧ ∃ o, ops[i]? = some o ∧ ∀ K : Act → World → Prop, Shut (∀ a' w', S w' → (S w' → wpAnyLast P md ops Q S ds fuel (listed.setIfInBounds i true) a' w') → K a' w') → if Region.wanted o (yielded ops a.tmps) = true then Oper.wp P o a w K Q else K (a.put o.dst undef) w) →
  AllReadyL P md ops Q S ds fuel listed a w rs
 | [], _ => AllReadyL.nil
 | i :: rs, h => by
  obtain ⟨h1, o, h2, h3⟩ := h i (by simp)
  exact AllReadyL.cons h2 h1 (fun K hK => h3 K hK) (all_ready rs (fun j hj => h j (List.mem_cons_of_mem _ hj)))
theorem free_ {base : List Bool} {M : List Nat} (f2 : Nat) (hM : M.Nodup) (hc : ordB md ops ds base M = true) (I : (Nat → Bool) → Act → World → Prop) (hS : ∀ b a w, I b a w → S w)
  (hstep : ∀ i, i ∈ M → ∀ (b : Nat → Bool) (a : Act) (w : World), b i = false → I b a w → ∀ o, ops[i]? = some o → ∀ K : Act → World → Prop, Shut (∀ a' w', I (fun j => j == i || b j) a' w' → K a' w') → if Region.wanted o (yielded ops a.tmps) = true then Oper.wp P o a w K Q else K (a.put o.dst undef) w)
  (hfin : ∀ b a w, (∀ i, i ∈ M → b i = true) → I b a w → wpAnyLast P md ops Q S ds f2 (mkL base M fun _ => true) a w) :
  ∀ (c : Nat) (b : Nat → Bool) (a : Act) (w : World), (M.filter fun j => !b j).length = c → I b a w → wpAnyLast P md ops Q S ds (f2 + c) (mkL base M b) a w
 | 0, b, a, w, hl, hI => by
  have hall : ∀ i, i ∈ M → b i = true := fun i hi => by
   have := List.filter_eq_nil_iff.1 (List.eq_nil_of_length_eq_zero hl) i hi
   simpa using this
  rw [mkL_congr base M b (fun _ => true) (fun i hi => hall i hi)]
  exact hfin b a w hall hI
 | c + 1, b, a, w, hl, hI => by
  have e : mkL base M b = mkL base M (M.filter b).contains := mkL_congr _ _ _ _ (fun i hi => by
   rw [Bool.eq_iff_iff]
   simp [hi])
  have h1 := List.all_eq_true.1 hc _ (filter_subs b M)
  simp only [Bool.or_eq_true, Bool.and_eq_true] at h1
  rw [← e] at h1
  rcases h1 with h1 | ⟨h1, h2⟩
  ·have : M.filter (fun j => !b j) = [] := List.filter_eq_nil_iff.2 (fun j hj => by
    have := List.all_eq_true.1 h1 j hj
    simp at this
    simp [this.2])
   rw [this] at hl
   cases hl
  ·refine wpAnyLast_ready (fuel := f2 + c) rfl (by simpa using h1) (all_ready _ (fun i hi => ?_))
   have h3 := List.all_eq_true.1 h2 i hi
   simp only [Bool.and_eq_true, decide_eq_true_eq, Bool.not_eq_true'] at h3
   obtain ⟨⟨⟨⟨h4, h5⟩, h6⟩, h7⟩, h8⟩ := h3
   have hi2 : i ∈ M := by simpa using h4
   have hb : b i = false := by
    cases hbi : b i with
    | false => rfl
    | true =>
     have : (M.filter b).contains i = true := by simp [hi2, hbi]
     rw [this] at h5
     cases h5
   refine ⟨by simpa using h6, ops[i], Array.getElem?_eq_getElem h8, fun K hK => ?_⟩
   refine hstep i hi2 b a w hb hI _ (Array.getElem?_eq_getElem h8) K (fun a' w' hI' => hK a' w' (hS _ _ _ hI') (fun _ => ?_))
   rw [mkL_set base M b i hi2 h7]
   exact free_ f2 hM hc I hS hstep hfin c _ a' w' (by have := filter_less M hM b i hi2 hb; omega) hI'
end
end Go.Proofs.YtbboanfggaknjaaGreatDoor.X
namespace Go.Proofs.YtbboanfggaknjaaGreatDoor.X
open Go.RowKit Go.Proofs.YtbboanfggaknjaaGreatDoorW.PrintWords Go.Proofs.YtbboanfggaknjaaGreatDoorW.PrintLast Go.Proofs.YtbboanfggaknjaaGreatDoorW.PrintMore
attribute [local go_sem] max2_int min2_int max_two min_two max_three min_three max_four min_four
set_option linter.unusedVariables false
set_option linter.unusedSimpArgs false
def oculusref07_Words.l0 : Nat → ByteArray → List ByteArray → Int → Int → Option (List ByteArray)
 | 0, _, _, _, _ => none
 | k + 1, x0, x3, x4, x5 => if x5 ≤ (x0.size : Int) then (if x5 = (x0.size : Int) then (if 0 ≤ x4 then (if x4 ≤ x5 then (if x3.length < 8796093022208 then (oculusref07_Words.l0 k x0 (x3 ++ [x0.extract (x4 : Int).toNat (x5 : Int).toNat]) (wrap64 (x5 + 1)) (wrap64 (x5 + 1))) else (none)) else (none)) else (none)) else (if 0 ≤ x5 then (if x5 < (x0.size : Int) then (if (bt x0 x5) = 32 then (if 0 ≤ x4 then (if x4 ≤ x5 then (if x3.length < 8796093022208 then (oculusref07_Words.l0 k x0 (x3 ++ [x0.extract (x4 : Int).toNat (x5 : Int).toNat]) (wrap64 (x5 + 1)) (wrap64 (x5 + 1))) else (none)) else (none)) else (none)) else (oculusref07_Words.l0 k x0 x3 x4 (wrap64 (x5 + 1)))) else (none)) else (none))) else (some x3)
def oculusref07_Words.f (k : Nat) (a0 : ByteArray) : Option (List ByteArray) := oculusref07_Words.l0 k a0 ([] : List ByteArray) 0 0
theorem oculusref07_Words.calls (k : Nat) (a0 : ByteArray) (r : List ByteArray) (w : World) (h : oculusref07_Words.f k a0 = some r) :
  Calls Tryz.prog 33 #[.string a0] w fun e w' => ∃ v0_ : Value, e = .returned (v0_) ∧ Kd.R Kd.string 9 w' w.heap.size (fun _ => True) v0_ r ∧ Below w.heap.size w w' := by
 have HB := A_ (Below.refl w.heap.size w)
 have H : (oculusref07_Words.l0 k a0 ([] : List ByteArray) 0 0) = some r := h
 clear h
 have H' := A_ H
 clear H
 go_enter Tryz.func33, Tryz.ntmps33
 go_wp2
 go_loopg [3, 4, 5] k (fun kq v3 v4 v5 w' => ∃ (x3_1 : List ByteArray) (x4_1 : Int) (x5_1 : Int), v4 = .int .i64 x4_1 ∧ v5 = .int .i64 x5_1 ∧ Aside0 (oculusref07_Words.l0 kq a0 x3_1 x4_1 x5_1 = some r) ∧ Aside0 (kq ≤ k) ∧ Aside0 (Kd.R Kd.string 9 w' w.heap.size (fun _ => True) v3 x3_1) ∧ Aside0 (Below w.heap.size w w'))
 case atStart => exact ⟨(([] : List ByteArray)), (0), (0), sq_, sq_, H', ⟨Nat.le_refl _⟩, ⟨by first | exact Kd.R_nil _ _ _ _ _ | exact Kd.N_nil _ _ _ _ _ | exact Kd.V_nil _ _ _ _ _ | exact Kd.Q_nil _ _ _ _ _ | exact Kd.S_nil _ _ _ _ _⟩, ⟨pbx HB⟩⟩
 case round =>
  clear H'; obtain ⟨x3_1, x4_1, x5_1, rfl, rfl, HA, HK1, HO_3, HB⟩ := hrel
  cases gk with
  | zero => exact absurd HA.out (by simp [oculusref07_Words.l0])
  | succ k1 =>
   have H := HA.out; clear HA
   simp only [oculusref07_Words.l0] at H
   by_cases c2 : x5_1 ≤ (a0.size : Int)
   ·rw [if_pos c2] at H; have c2b0 := decide_eq_true c2; clear c2
    by_cases c3 : x5_1 = (a0.size : Int)
    ·rw [if_pos c3] at H; have ⟨c3b0,c3b1⟩ := e1_ c3; clear c3
     by_cases c4 : 0 ≤ x4_1
     ·rw [if_pos c4] at H; have c4b0 := eq_true c4; have c4b1 := decide_eq_true c4; clear c4
      by_cases c5 : x4_1 ≤ x5_1
      ·rw [if_pos c5] at H; have c5b0 := eq_true c5; have c5b1 := decide_eq_true c5; clear c5; have c6b0 := eq_true (of_decide_eq_true as_ : x5_1 ≤ (a0.size : Int))
       by_cases c7 : x3_1.length < 8796093022208
       ·rw [if_pos c7] at H; have LMc7 := A_ c7; clear c7; obtain ⟨y101, hy101⟩ : ∃ y_ : List ByteArray, y_ = (x3_1 ++ [a0.extract (x4_1 : Int).toNat (x5_1 : Int).toNat]) := ⟨_, rfl⟩
        replace H : (oculusref07_Words.l0 k1 a0 y101 (wrap64 (x5_1 + 1)) (wrap64 (x5_1 + 1))) = some r := by first | (rw [hy101]; with_reducible exact H) | (have H2_ := (Option.bind_some _ _).symm.trans H; rw [hy101]; with_reducible exact H2_) | (have H2_ := (Option.bind_some _ _).symm.trans H; with_reducible exact H2_) | with_reducible exact H | (rw [hy101]; exact H) | exact H
        have Ny101 := A_ hy101; clear hy101
        have H' := A_ H
        clear H
        go_wp2_with (first | ((with_reducible refine gate_builtin (b := .append) (xs := #[.tmp 22, .tmp 27]) rfl ?_); at_builtin; refine Kd.R_append Kd.string (w0 := w) w.heap.size rfl (.tmp 22) (.tmp 27) 44 9 (.string ⟨#[]⟩) 16 rfl Tryz.underlying44 info9 rfl (by decide) (by omega) u3 x3_1 (a0.extract (x4_1 : Int).toNat (x5_1 : Int).toNat) [.string (a0.extract (x4_1 : Int).toNat (x5_1 : Int).toNat)] (fun _ => True) (fun _ => False) rfl rfl ?aP (fun _ hk => hk.elim) ?aF ?aO ?aB ?aS ?aL ?_; (case aP => exact rfl); (case aB => exact (pbx HB)); (case aF => exact (fun _ _ => trivial)); (case aO => exact (ra_ HO_3.out)); (case aS => exact (below_size (pbx HB))); (case aL => have := LMc7.out; omega); intro v102 w8 ho hb hg hat; rw [← Ny101.out] at ho; have HO103 := A_ (ho); replace HB := A_ (hb); clear HO_3; clear ho hb hg hat))
        go_roundg k1
        case measure => have := HK1.out; omega
        case rel => exact ⟨(y101), (wrap64 (x5_1 + 1)), (wrap64 (x5_1 + 1)), sq_, sq_, H', ⟨by have := HK1.out; omega⟩, ⟨ra_ HO103.out⟩, ⟨pbx HB⟩⟩
       ·rw [if_neg c7] at H
        exact absurd H (by simp)
      ·rw [if_neg c5] at H
       exact absurd H (by simp)
     ·rw [if_neg c4] at H
      exact absurd H (by simp)
    ·rw [if_neg c3] at H; have ⟨c3b0,c3b1⟩ := e0_ c3
     by_cases c9 : 0 ≤ x5_1
     ·rw [if_pos c9] at H; have c9b0 := decide_eq_true c9; clear c9
      by_cases c10 : x5_1 < (a0.size : Int)
      ·rw [if_pos c10] at H; have c10b0 := decide_eq_true c10; clear c10
       by_cases c12 : (bt a0 x5_1) = 32
       ·rw [if_pos c12] at H; have ⟨c12b0,c12b1⟩ := e1_ c12; clear c12
        by_cases c13 : 0 ≤ x4_1
        ·rw [if_pos c13] at H; have c13b0 := eq_true c13; have c13b1 := decide_eq_true c13; clear c13
         by_cases c14 : x4_1 ≤ x5_1
         ·rw [if_pos c14] at H; have c14b0 := eq_true c14; have c14b1 := decide_eq_true c14; clear c14; have c15b0 := eq_true (of_decide_eq_true as_ : x5_1 ≤ (a0.size : Int))
          by_cases c16 : x3_1.length < 8796093022208
          ·rw [if_pos c16] at H; have LMc16 := A_ c16; clear c16; obtain ⟨y104, hy104⟩ : ∃ y_ : List ByteArray, y_ = (x3_1 ++ [a0.extract (x4_1 : Int).toNat (x5_1 : Int).toNat]) := ⟨_, rfl⟩
           replace H : (oculusref07_Words.l0 k1 a0 y104 (wrap64 (x5_1 + 1)) (wrap64 (x5_1 + 1))) = some r := by first | (rw [hy104]; with_reducible exact H) | (have H2_ := (Option.bind_some _ _).symm.trans H; rw [hy104]; with_reducible exact H2_) | (have H2_ := (Option.bind_some _ _).symm.trans H; with_reducible exact H2_) | with_reducible exact H | (rw [hy104]; exact H) | exact H
           have Ny104 := A_ hy104; clear hy104
           have H' := A_ H
           clear H
           have p11 : 0 ≤ (x5_1 : Int) := of_decide_eq_true as_
           have q11 : x5_1 < (a0.size : Int) := of_decide_eq_true as_
           have hx11 := bt_at a0 x5_1; replace p11 := eq_true p11; replace q11 := eq_true q11
           go_wp2_with (first | ((with_reducible refine gate_builtin (b := .append) (xs := #[.tmp 22, .tmp 27]) rfl ?_); at_builtin; refine Kd.R_append Kd.string (w0 := w) w.heap.size rfl (.tmp 22) (.tmp 27) 44 9 (.string ⟨#[]⟩) 16 rfl Tryz.underlying44 info9 rfl (by decide) (by omega) u3 x3_1 (a0.extract (x4_1 : Int).toNat (x5_1 : Int).toNat) [.string (a0.extract (x4_1 : Int).toNat (x5_1 : Int).toNat)] (fun _ => True) (fun _ => False) rfl rfl ?aP (fun _ hk => hk.elim) ?aF ?aO ?aB ?aS ?aL ?_; (case aP => exact rfl); (case aB => exact (pbx HB)); (case aF => exact (fun _ _ => trivial)); (case aO => exact (ra_ HO_3.out)); (case aS => exact (below_size (pbx HB))); (case aL => have := LMc16.out; omega); intro v105 w17 ho hb hg hat; rw [← Ny104.out] at ho; have HO106 := A_ (ho); replace HB := A_ (hb); clear HO_3; clear ho hb hg hat))
           go_roundg k1
           case measure => have := HK1.out; omega
           case rel => exact ⟨(y104), (wrap64 (x5_1 + 1)), (wrap64 (x5_1 + 1)), sq_, sq_, H', ⟨by have := HK1.out; omega⟩, ⟨ra_ HO106.out⟩, ⟨pbx HB⟩⟩
          ·rw [if_neg c16] at H
           exact absurd H (by simp)
         ·rw [if_neg c14] at H
          exact absurd H (by simp)
        ·rw [if_neg c13] at H
         exact absurd H (by simp)
       ·rw [if_neg c12] at H; have ⟨c12b0,c12b1⟩ := e0_ c12
        have H' := A_ H
        clear H
        have p11 : 0 ≤ (x5_1 : Int) := of_decide_eq_true as_
        have q11 : x5_1 < (a0.size : Int) := of_decide_eq_true as_
        have hx11 := bt_at a0 x5_1; replace p11 := eq_true p11; replace q11 := eq_true q11
        go_wp2
        go_roundg k1
        case measure => have := HK1.out; omega
        case rel => exact ⟨(x3_1), (x4_1), (wrap64 (x5_1 + 1)), sq_, sq_, H', ⟨by have := HK1.out; omega⟩, ⟨ra_ HO_3.out⟩, ⟨pbx HB⟩⟩
      ·rw [if_neg c10] at H
       exact absurd H (by simp)
     ·rw [if_neg c9] at H
      exact absurd H (by simp)
   ·rw [if_neg c2] at H; have c2b0 := decide_eq_false c2; clear c2; obtain rfl := Option.some.inj H
    go_wp2
    go_ret
    exact ⟨_, by first | rfl | (simp [errW_none, errW_some] <;> rfl) | (simp [*, errW_none, errW_some] <;> rfl), ra_ HO_3.out, pbx HB⟩

def oculusref01_Digits.l0 : Nat → Int → ByteArray → Option (ByteArray)
 | 0, _, _ => none
 | k + 1, x0, x3 => if x0 > 0 then ((some (([(wrap64 (48 + (Int.tmod x0 10))) % 256] : List Int) : List Int)).bind fun y104 => (if (strOfNums y104).size + x3.size ≤ 9223372036854775807 then (oculusref01_Digits.l0 k (wrap64 (Int.tdiv x0 10)) ((strOfNums y104) ++ x3)) else (none))) else (some x3)
def oculusref01_Digits.f (k : Nat) (a0 : Int) : Option (ByteArray) := oculusref01_Digits.l0 k (wrap64 (Int.tdiv a0 10)) (strOfNums (([(wrap64 (48 + (Int.tmod a0 10))) % 256] : List Int)))
theorem oculusref01_Digits.calls (k : Nat) (a0 : Int) (r : ByteArray) (w : World) (h : oculusref01_Digits.f k a0 = some r) :
  Calls Tryz.prog 57 #[.int .i64 a0] w fun e w' => e = .returned (.string r) ∧ Below w.heap.size w w' := by
 have HB := A_ (Below.refl w.heap.size w)
 have H : (oculusref01_Digits.l0 k (wrap64 (Int.tdiv a0 10)) (strOfNums (([(wrap64 (48 + (Int.tmod a0 10))) % 256] : List Int)))) = some r := h
 clear h; obtain ⟨y101, hy101⟩ : ∃ y_ : List Int, y_ = (([(wrap64 (48 + (Int.tmod a0 10))) % 256] : List Int)) := ⟨_, rfl⟩
 replace H : (oculusref01_Digits.l0 k (wrap64 (Int.tdiv a0 10)) (strOfNums y101)) = some r := by first | (rw [hy101]; with_reducible exact H) | (have H2_ := (Option.bind_some _ _).symm.trans H; rw [hy101]; with_reducible exact H2_) | (have H2_ := (Option.bind_some _ _).symm.trans H; with_reducible exact H2_) | with_reducible exact H | (rw [hy101]; exact H) | exact H
 have Ny101 := A_ hy101; clear hy101
 have H' := A_ H
 clear H
 go_enter Tryz.func57, Tryz.ntmps57
 go_wp2_with (first | ((with_reducible refine gd_ 8 ?_); refine Kd.R_lit (Kd.int .u8) _ 5 ?hg (N:=8) ?hd (xs := ([(wrap64 (48 + (Int.tmod a0 10))) % 256] : List Int)) (inner := [.int .u8 ((wrap64 (48 + (Int.tmod a0 10))) % 256)]) (ok := fun _ => True) (okp := fun _ => True) ?hr ?hp (fun _ hk => hk) trivial (Below.refl _ _) (Nat.le_refl _) (by simp) ?_; (case hd => rfl); (case hg => rfl); (case hr => first | (go_simp; done) | (go_simp; rfl)); (case hp => exact (Reps.one (show Kd.M (Kd.int .u8) _ _ _ ((wrap64 (48 + (Int.tmod a0 10))) % 256) [.int .u8 ((wrap64 (48 + (Int.tmod a0 10))) % 256)] from rfl) (Reps.none _ _))); intro v102 w2 ho3 hb hg_ hnew_; clear hg_ hnew_; (first | rw [← Ny101.out] at ho3 | (simp only [Int.reduceToNat] at ho3; rw [← Ny101.out] at ho3)); have HO103 := A_ (Kd.R_lower ho3 (below_size (pbx HB))); replace HB := bs_ HB hb; clear hb ho3; have hcv4 := own_string (P := Tryz.prog) Tryz.underlying66 Tryz.underlying5 Tryz.underlying9 (Kd.own_of_R HO103.out)))
 go_loopg [0, 3] k (fun kq v0 v3 w' => ∃ (x0_1 : Int) (x3_1 : ByteArray), v0 = .int .i64 x0_1 ∧ v3 = .string x3_1 ∧ Aside0 (oculusref01_Digits.l0 kq x0_1 x3_1 = some r) ∧ Aside0 (kq ≤ k) ∧ Aside0 (Below w.heap.size w w'))
 case atStart => exact ⟨(wrap64 (Int.tdiv a0 10)), (strOfNums y101), sq_, sq_, H', ⟨Nat.le_refl _⟩, ⟨pbx HB⟩⟩
 case round =>
  clear H'; (try clear hcv4); obtain ⟨x0_1, x3_1, rfl, rfl, HA, HK1, HB⟩ := hrel
  cases gk with
  | zero => exact absurd HA.out (by simp [oculusref01_Digits.l0])
  | succ k1 =>
   have H := HA.out; clear HA
   simp only [oculusref01_Digits.l0] at H
   by_cases c5 : x0_1 > 0
   ·rw [if_pos c5] at H; have c5b0 := decide_eq_true c5; clear c5; obtain ⟨y104, hy104⟩ : ∃ y_ : List Int, y_ = (([(wrap64 (48 + (Int.tmod x0_1 10))) % 256] : List Int)) := ⟨_, rfl⟩
    replace H : (if (strOfNums y104).size + x3_1.size ≤ 9223372036854775807 then (oculusref01_Digits.l0 k1 (wrap64 (Int.tdiv x0_1 10)) ((strOfNums y104) ++ x3_1)) else (none)) = some r := by first | (rw [hy104]; with_reducible exact H) | (have H2_ := (Option.bind_some _ _).symm.trans H; rw [hy104]; with_reducible exact H2_) | (have H2_ := (Option.bind_some _ _).symm.trans H; with_reducible exact H2_) | with_reducible exact H | (rw [hy104]; exact H) | exact H
    have Ny104 := A_ hy104; clear hy104
    by_cases c6 : (strOfNums y104).size + x3_1.size ≤ 9223372036854775807
    ·rw [if_pos c6] at H; have c6b0 := eq_true c6; have c6b1 := decide_eq_true c6
     try have c6b2 : (9223372036854775807 < (strOfNums y104).size + x3_1.size) = False := eq_false (Nat.not_lt.2 c6)
     have H' := A_ H
     clear H
     go_wp2_with (first | ((with_reducible refine gd_ 20 ?_); refine Kd.R_lit (Kd.int .u8) _ 5 ?hg (N:=20) ?hd (xs := ([(wrap64 (48 + (Int.tmod x0_1 10))) % 256] : List Int)) (inner := [.int .u8 ((wrap64 (48 + (Int.tmod x0_1 10))) % 256)]) (ok := fun _ => True) (okp := fun _ => True) ?hr ?hp (fun _ hk => hk) trivial (Below.refl _ _) (Nat.le_refl _) (by simp) ?_; (case hd => rfl); (case hg => rfl); (case hr => first | (go_simp; done) | (go_simp; rfl)); (case hp => exact (Reps.one (show Kd.M (Kd.int .u8) _ _ _ ((wrap64 (48 + (Int.tmod x0_1 10))) % 256) [.int .u8 ((wrap64 (48 + (Int.tmod x0_1 10))) % 256)] from rfl) (Reps.none _ _))); intro v105 w7 ho8 hb hg_ hnew_; clear hg_ hnew_; (first | rw [← Ny104.out] at ho8 | (simp only [Int.reduceToNat] at ho8; rw [← Ny104.out] at ho8)); have HO106 := A_ (Kd.R_lower ho8 (below_size (pbx HB))); replace HB := bs_ HB hb; clear hb ho8; have hcv9 := own_string (P := Tryz.prog) Tryz.underlying66 Tryz.underlying5 Tryz.underlying9 (Kd.own_of_R HO106.out)))
     go_roundg k1
     case measure => have := HK1.out; omega
     case rel => exact ⟨(wrap64 (Int.tdiv x0_1 10)), ((strOfNums y104) ++ x3_1), sq_, sq_, H', ⟨by have := HK1.out; omega⟩, ⟨pbx HB⟩⟩
    ·rw [if_neg c6] at H
     exact absurd H (by simp)
   ·rw [if_neg c5] at H; have c5b0 := decide_eq_false c5; clear c5; obtain rfl := Option.some.inj H
    go_wp2
    go_ret
    exact fi_ (pbx HB)

def oculusref03_Number.l0 : Nat → ByteArray → Int → Option (Int × Bool)
 | 0, _, _ => none
 | k + 1, x0, x3 => if x3 ≤ 998 then ((oculusref01_Digits.f k (wrap64 (x3 + 1))).bind fun t102 => (if t102.toList = x0.toList then (some (x3, true)) else (oculusref03_Number.l0 k x0 (wrap64 (x3 + 1))))) else (some (0, false))
def oculusref03_Number.f (k : Nat) (a0 : ByteArray) : Option (Int × Bool) := oculusref03_Number.l0 k a0 0
theorem oculusref03_Number.calls (k : Nat) (a0 : ByteArray) (r1 : Int) (r2 : Bool) (w : World) (h : oculusref03_Number.f k a0 = some (r1, r2)) :
  Calls Tryz.prog 34 #[.string a0] w fun e w' => e = .returned (.agg #[.int .i64 r1, .bool r2]) ∧ Below w.heap.size w w' := by
 have hu91 := Tryz.underlying91; have HB := A_ (Below.refl w.heap.size w)
 have H : (oculusref03_Number.l0 k a0 0) = some (r1, r2) := h
 clear h
 have H' := A_ H
 clear H
 go_enter Tryz.func34, Tryz.ntmps34
 go_wp2_with (first | ((with_reducible refine gd_ 2 ?_); refine be_ (N:=2) (cs := #[.int .i64 0, .bool false]) (t:=91) ?_; intro g1 hg w2 hbox hb; have B1 := A_ (hbox); have GW101 := hs_ HB hg; have GE101 := hs_ HB hg; replace HB := bs_ HB hb; clear hb hbox hg))
 go_loopg [3] k (fun kq v3 w' => ∃ (x3_1 : Int) (x102000_1 : Int) (x102001_1 : Bool), v3 = .int .i64 x3_1 ∧ Aside0 (oculusref03_Number.l0 kq a0 x3_1 = some (r1, r2)) ∧ Aside0 (kq ≤ k) ∧ Aside0 (w'.heap[g1]? = some (.cells #[.int .i64 x102000_1, .bool x102001_1] 91 (0, 0))) ∧ Aside0 (Below w.heap.size w w'))
 case atStart => exact ⟨(0), (0), (false), sq_, H', ⟨Nat.le_refl _⟩, ⟨pkx B1⟩, ⟨pbx HB⟩⟩
 case round =>
  clear H'; obtain ⟨x3_1, x102000_1, x102001_1, rfl, HA, HK1, B1, HB⟩ := hrel
  cases gk with
  | zero => exact absurd HA.out (by simp [oculusref03_Number.l0])
  | succ k1 =>
   have H := HA.out; clear HA
   simp only [oculusref03_Number.l0] at H
   by_cases c3 : x3_1 ≤ 998
   ·rw [if_pos c3] at H; have c3b0 := decide_eq_true c3; clear c3; obtain ⟨t102, A4, H⟩ := bo_ H
    by_cases c5 : t102.toList = a0.toList
    ·rw [if_pos c5] at H; have ⟨c5b0,c5b1⟩ := e1_ c5; clear c5
     simp only [Option.some.injEq, Prod.mk.injEq] at H
     obtain ⟨rfl, rfl⟩ := H
     go_wp2_with (first | ((with_reducible refine gate_callee (f:=57) rfl ?_); refine gL_ (some 10) rfl rfl Tryz.func57 rfl #[.int .i64 (wrap64 (x3_1 + 1))] rfl ?_; (with_reducible refine (oculusref01_Digits.calls k1 (wrap64 (x3_1 + 1)) t102 _ A4.out).mono ?_); rintro e w6 ⟨rfl, hb⟩; refine ⟨_, rfl, ?_⟩; replace B1 := bb_ B1 hb; replace HB := bs_ HB hb; (try clear hb); have ⟨hcz7_0,hcz7_1,hfz7_0,hfz7_1⟩ := z2_ B1))
     refine bodyPost_ret (results_cell_row rfl _ _ g1 91 #[.int .i64 x3_1, .bool true] (0, 0) _ rfl (by refine pp_ (cs := #[.int .i64 x3_1, .bool x102001_1]) 1 ?_ rfl; refine blk_put (cs := #[.int .i64 x102000_1, .bool x102001_1]) ?_ 0 _ rfl; exact pkx B1) Tryz.underlying91 rfl (by kernel_rfl)) rfl ?_
     exact fi_ bl_
    ·rw [if_neg c5] at H; have ⟨c5b0,c5b1⟩ := e0_ c5
     have H' := A_ H
     clear H
     go_wp2_with (first | ((with_reducible refine gate_callee (f:=57) rfl ?_); refine gL_ (some 10) rfl rfl Tryz.func57 rfl #[.int .i64 (wrap64 (x3_1 + 1))] rfl ?_; (with_reducible refine (oculusref01_Digits.calls k1 (wrap64 (x3_1 + 1)) t102 _ A4.out).mono ?_); rintro e w8 ⟨rfl, hb⟩; refine ⟨_, rfl, ?_⟩; replace B1 := bb_ B1 hb; replace HB := bs_ HB hb; (try clear hb); ))
     go_roundg k1
     case measure => have := HK1.out; omega
     case rel => exact ⟨(wrap64 (x3_1 + 1)), (x102000_1), (x102001_1), sq_, H', ⟨by have := HK1.out; omega⟩, ⟨pkx B1⟩, ⟨pbx HB⟩⟩
   ·rw [if_neg c3] at H; have c3b0 := decide_eq_false c3; clear c3
    simp only [Option.some.injEq, Prod.mk.injEq] at H
    obtain ⟨rfl, rfl⟩ := H
    have ⟨hcz9_0,hcz9_1,hfz9_0,hfz9_1⟩ := z2_ B1
    go_wp2
    refine bodyPost_ret (results_cell_row rfl _ _ g1 91 #[.int .i64 0, .bool false] (0, 0) _ rfl (by refine pp_ (cs := #[.int .i64 0, .bool x102001_1]) 1 ?_ rfl; refine blk_put (cs := #[.int .i64 x102000_1, .bool x102001_1]) ?_ 0 _ rfl; exact pkx B1) Tryz.underlying91 rfl (by kernel_rfl)) rfl ?_
    exact fi_ bl_

end Go.Proofs.YtbboanfggaknjaaGreatDoor.X
