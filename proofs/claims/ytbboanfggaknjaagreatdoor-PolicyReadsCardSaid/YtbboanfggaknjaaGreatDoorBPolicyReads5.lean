/- Contracts of the functions that the law PolicyReads reaches, and what they answer (a session's own texts, joined; part 5). -/
import Derived.Test.YtbboanfggaknjaaGreatDoorBPolicyReads4
set_option maxHeartbeats 8000000
set_option maxRecDepth 100000
/- The reference's reading of one line: the a user, walked by hand. -/
set_option linter.unusedVariables false
set_option linter.unusedSimpArgs false
namespace Go.Proofs.YtbboanfggaknjaaGreatDoor.X
open Go.RowKit Go.Proofs.YtbboanfggaknjaaGreatDoorW.PrintWords Go.Proofs.YtbboanfggaknjaaGreatDoorW.PrintLast Go.Proofs.YtbboanfggaknjaaGreatDoorW.PrintMore
theorem line_user (k : Nat) (r c : Int) (vz vu vg : Value) (zs : List S60) (us : List S62) (gs : List S64) (s : ByteArray) (h : s.size ≠ 0) (h1 : bt s ((s.size : Int) - 1) = 10) (hl : s.size ≤ 100000) (ws : List ByteArray) (hw : oculusref07_Words.f k (cutLF s) = some ws) (n3 : ws.length = 3) (hg : (wrd ws 0).toList = [117, 115, 101, 114]) (l1 l2 : Int) (b1 : Bool) (A1 : oculusref02_Parse.f k (wrd ws 2) = some (l1, l2, b1)) (hlen : us.length ≤ 100000) (kd : Int) (hkd : Aside0 (kd = if b1 = true then 3 else 0)) (gx : Nat) (cx : Array Value) (w0 w : World) (hV : Aside0 (IsV gx cx w0 w vz vu vg zs us gs)) :
  Calls Tryz.prog 15 #[.agg #[.int .i64 r, .int .i64 c, vz, vu, vg], .string s] w fun en w' => Lin7 gx cx w0 w' en kd r c zs (us ++ [⟨wrd ws 1, ⟨l1, l2⟩⟩]) gs := by
 have HN := Aside0.mk n3
 have HG0 := Aside0.mk hg
 have HA1 := Aside0.mk A1
 have HLEN := Aside0.mk hlen
 clear A1 n3 hg hlen
 have hu58 := Tryz.underlying58
 have hu62 := Tryz.underlying62
 have hu := Tryz.underlying27
 obtain ⟨Az, cz, hh⟩ := Kd.R_slice hV.out.hz
 subst hh
 obtain ⟨Au, cu, hh⟩ := Kd.R_slice hV.out.hu
 subst hh
 obtain ⟨Ag, cg, hh⟩ := Kd.R_slice hV.out.hr
 subst hh
 go_enter Tryz.func15, Tryz.ntmps15
 go_upto_region 1 with fail
 have hsz : (w.alloc (.cells #[.int .i64 r, .int .i64 c, .slice Az zs.length cz, .slice Au us.length cu, .slice Ag gs.length cg] 27)).heap.size = w.heap.size + 1 := Array.size_push ..
 have hb := below_step (new_below w (.cells #[.int .i64 r, .int .i64 c, .slice Az zs.length cz, .slice Au us.length cu, .slice Ag gs.length cg] 27)) (new_below (w.alloc (.cells #[.int .i64 r, .int .i64 c, .slice Az zs.length cz, .slice Au us.length cu, .slice Ag gs.length cg] 27)) (.cells #[.int .i64 0, .int .i64 0, .slice none 0 0, .slice none 0 0, .slice none 0 0] 27))
 have hw0 : w0.heap.size ≤ w.heap.size := below_size hV.out.hB
 have HI : Aside0 (IsP w0 ((w.alloc (.cells #[.int .i64 r, .int .i64 c, .slice Az zs.length cz, .slice Au us.length cu, .slice Ag gs.length cg] 27)).alloc (.cells #[.int .i64 0, .int .i64 0, .slice none 0 0, .slice none 0 0, .slice none 0 0] 27)) w.heap.size r c (.slice Az zs.length cz) (.slice Au us.length cu) (.slice Ag gs.length cg) zs us gs) := ⟨blk_alloc (blk_new w (.cells #[.int .i64 r, .int .i64 c, .slice Az zs.length cz, .slice Au us.length cu, .slice Ag gs.length cg] 27)) (.cells #[.int .i64 0, .int .i64 0, .slice none 0 0, .slice none 0 0, .slice none 0 0] 27), hw0, Kd.R_below hV.out.hz hb, Kd.R_below hV.out.hu hb, Kd.R_below hV.out.hr hb, below_step hV.out.hB hb⟩
 have HZ := Aside0.mk (blk_new (w.alloc (.cells #[.int .i64 r, .int .i64 c, .slice Az zs.length cz, .slice Au us.length cu, .slice Ag gs.length cg] 27)) (.cells #[.int .i64 0, .int .i64 0, .slice none 0 0, .slice none 0 0, .slice none 0 0] 27))
 rw [hsz] at HZ
 obtain ⟨g, hg⟩ : ∃ g, w.heap.size = g := ⟨_, rfl⟩
 obtain ⟨g4, hg4⟩ : ∃ g4, w.heap.size + 1 = g4 := ⟨_, rfl⟩
 have HG4 : Aside0 (w0.heap.size ≤ g4) := ⟨by omega⟩
 have HN4 : Aside0 (g4 ≠ g) := ⟨by omega⟩
 rw [hg4] at HZ
 rw [hg] at HI
 rw [hg4, hg]
 have HY := Aside0.mk (blk_below hV.out.hx hb)
 have hlx := blk_lt hV.out.hx
 have HNY : Aside0 (gx ≠ g) := ⟨by omega⟩
 have HNY4 : Aside0 (gx ≠ g4) := ⟨by omega⟩
 clear hlx hsz hb hw0 hg hg4 hV
 generalize (w.alloc (.cells #[.int .i64 r, .int .i64 c, .slice Az zs.length cz, .slice Au us.length cu, .slice Ag gs.length cg] 27)).alloc (.cells #[.int .i64 0, .int .i64 0, .slice none 0 0, .slice none 0 0, .slice none 0 0] 27) = w1 at HI HZ HY ⊢
 have d0 : ((s.size : Int) == 0) = false := beq_eq_false_iff_ne.mpr (by omega)
 have hp : 1 ≤ s.size := by omega
 have hq : (1 ≤ (s.size : Int) ∧ (s.size : Int) - 1 < (s.size : Int)) = True := eq_true (by omega)
 have d1 := last_b s hp (bne_eq_false_iff_eq.mpr h1)
 have HWF := Aside0.mk hw
 clear h h1 hw
 go_upto_region 3 with fail
 clear d0 d1
 go_upto_region 4 with (go_at_call 33; (with_reducible refine (oculusref07_Words.calls k (s.extract 0 (s.size - 1)) ws _ HWF.out).mono ?_); rintro e w5 ⟨v6, rfl, hR, hb⟩; obtain ⟨A6, cap6, rfl⟩ := Kd.R_slice hR; replace HI := Aside0.mk (HI.out.below hb); replace HZ := Aside0.mk (blk_below HZ.out hb); replace HY := Aside0.mk (blk_below HY.out hb); have HW := Aside0.mk hR; clear hR hb)
 clear HWF hp hl
 have n3 := HN.out
 have hg := HG0.out
 obtain ⟨ad, rfl, hat⟩ := words_at (words_of HW.out) (by omega)
 have e0 : w5.cell? ad = some (.string (wrd ws 0)) := hat 0 (by omega)
 have e1 : w5.cell? ⟨ad.block, ad.off + 1, none⟩ = some (.string (wrd ws 1)) := hat 1 (by omega)
 have e2 : w5.cell? ⟨ad.block, ad.off + 2, none⟩ = some (.string (wrd ws 2)) := hat 2 (by omega)
 rw [n3] at HW ⊢
 have d3 : (((3 : Nat) : Int) == 3) = true := rfl
 have d4 : (((3 : Nat) : Int) == 4) = false := rfl
 have dt0 : ((wrd ws 0).toList == [103, 114, 105, 100]) = false := by rw [hg]; rfl
 have dt1 : ((wrd ws 0).toList == [122, 111, 110, 101]) = false := by rw [hg]; rfl
 have dt2 : ((wrd ws 0).toList == [117, 115, 101, 114]) = true := beq_iff_eq.mpr hg
 have dt3 : ((wrd ws 0).toList == [103, 114, 97, 110, 116]) = false := by rw [hg]; rfl
 clear hat n3 hg
 go_upto_region 16 with fail
 clear e0
 go_upto_region 17 with (go_at_call 36; (with_reducible refine (oculusref02_Parse.calls k (wrd ws 2) l1 l2 b1 _ HA1.out).mono ?_); rintro e w6 ⟨rfl, hb⟩; replace HI := Aside0.mk (HI.out.below hb); replace HZ := Aside0.mk (blk_below HZ.out hb); replace HY := Aside0.mk (blk_below HY.out hb); replace HW := Aside0.mk (Kd.R_below HW.out hb); clear hb e1 e2)
 have hb := new_below w6 (.cells #[.int .i64 l1, .int .u64 l2, .bool b1] 97)
 have H7 := Aside0.mk (blk_new w6 (.cells #[.int .i64 l1, .int .u64 l2, .bool b1] 97))
 replace HI := Aside0.mk (HI.out.below hb); replace HZ := Aside0.mk (blk_below HZ.out hb); replace HY := Aside0.mk (blk_below HY.out hb); replace HW := Aside0.mk (Kd.R_below HW.out hb)
 clear hb
 generalize w6.alloc (.cells #[.int .i64 l1, .int .u64 l2, .bool b1] 97) = w7 at HI HZ HY HW H7 ⊢
 generalize w6.heap.size = g7 at H7 ⊢
 have n7 : g7 ≠ g := blk_other H7.out HI.out.hP (by decide)
 have y3 : w7.cell? ⟨g, 3, none⟩ = some (.slice Au us.length cu) := (blk_cell HI.out.hP 3).trans rfl
 have e1 : w7.cell? ⟨ad.block, ad.off + 1, none⟩ = some (.string (wrd ws 1)) := word_R HW.out HN.out.symm 1 (by have := HN.out; omega)
 obtain ⟨⟨x0, x1, x2⟩, _⟩ := celg3 H7.out
 clear x2
 have hbd : Below w7.heap.size w7 w7.drew := pw_below_drewN (Below.refl _ w7) 1
 have hQ : w7.drew.cell? ⟨g, 3, none⟩ = some (.slice Au us.length cu) ∧ w7.drew.cell? ⟨ad.block, ad.off + 1, none⟩ = some (.string (wrd ws 1)) ∧ w7.drew.cell? ⟨g7, 0, none⟩ = some (.int .i64 l1) ∧ w7.drew.cell? ⟨g7, 1, none⟩ = some (.int .u64 l2) := ⟨cell_below y3 hbd, cell_below e1 hbd, cell_below x0 hbd, cell_below x1 hbd⟩
 refine start_ (n := 12) (S := fun w' => w'.cell? ⟨g, 3, none⟩ = some (.slice Au us.length cu) ∧ w'.cell? ⟨ad.block, ad.off + 1, none⟩ = some (.string (wrd ws 1)) ∧ w'.cell? ⟨g7, 0, none⟩ = some (.int .i64 l1) ∧ w'.cell? ⟨g7, 1, none⟩ = some (.int .u64 l2)) (ds := [11]) #[false, false, false, false, false, false, false, false, false, false, false, false] (by kernel_rfl) rfl rfl hQ (fun hHeld => ?_)
 clear hQ y3 e1 x0 x1
 replace HI := Aside0.mk (HI.out.below hbd)
 replace HZ := Aside0.mk (blk_below HZ.out hbd); replace HY := Aside0.mk (blk_below HY.out hbd)
 replace HW := Aside0.mk (Kd.R_below HW.out hbd)
 replace H7 := Aside0.mk (blk_below H7.out hbd)
 clear hbd
 generalize w7.drew = w9 at HI HZ HY HW H7 hHeld ⊢
 refine pure_ (i := 0) (N := some 111) (v := ?_) (a' := ?_) #[true, false, false, false, false, false, false, false, false, false, false, false] rfl rfl (by kernel_rfl) (fun _ _ _ h => h) (Or.inl ⟨by rfl, ?_⟩) ?_ ?_
 rotate_left
 ·intro w'; go_simp; with_reducible rfl
 rotate_left
 ·simp only [Act.put, List.setIfInBounds_toArray, List.set_cons_zero, List.set_cons_succ, i64_w, i32_w]; rfl
 refine take_ (i := 1) (N := some 112) (v := ?_) (a' := ?_) #[true, true, false, false, false, false, false, false, false, false, false, false] rfl rfl (by kernel_rfl) (fun _ _ _ h => h) (Or.inl ⟨by rfl, ?_⟩) hHeld ?_ ?_
 rotate_left
 ·rintro w' ⟨s0_, s1_, s2_, s3_⟩; go_simp; with_reducible rfl
 rotate_left
 ·simp only [Act.put, List.setIfInBounds_toArray, List.set_cons_zero, List.set_cons_succ, i64_w, i32_w]; rfl
 refine pure_ (i := 2) (N := some 113) (v := ?_) (a' := ?_) #[true, true, true, false, false, false, false, false, false, false, false, false] rfl rfl (by kernel_rfl) (fun _ _ _ h => h) (Or.inl ⟨by rfl, ?_⟩) ?_ ?_
 rotate_left
 ·intro w'; go_simp; with_reducible rfl
 rotate_left
 ·simp only [Act.put, List.setIfInBounds_toArray, List.set_cons_zero, List.set_cons_succ, i64_w, i32_w]; rfl
 refine pure_ (i := 3) (N := some 114) (v := ?_) (a' := ?_) #[true, true, true, true, false, false, false, false, false, false, false, false] rfl rfl (by kernel_rfl) (fun _ _ _ h => h) (Or.inl ⟨by rfl, ?_⟩) ?_ ?_
 rotate_left
 ·intro w'; go_simp; with_reducible rfl
 rotate_left
 ·simp only [Act.put, List.setIfInBounds_toArray, List.set_cons_zero, List.set_cons_succ, i64_w, i32_w]; rfl
 refine take_ (i := 4) (N := some 115) (v := ?_) (a' := ?_) #[true, true, true, true, true, false, false, false, false, false, false, false] rfl rfl (by kernel_rfl) (fun _ _ _ h => h) (Or.inl ⟨by rfl, ?_⟩) hHeld ?_ ?_
 rotate_left
 ·rintro w' ⟨s0_, s1_, s2_, s3_⟩; go_simp; with_reducible rfl
 rotate_left
 ·simp only [Act.put, List.setIfInBounds_toArray, List.set_cons_zero, List.set_cons_succ, i64_w, i32_w]; rfl
 refine pure_ (i := 5) (N := some 116) (v := ?_) (a' := ?_) #[true, true, true, true, true, true, false, false, false, false, false, false] rfl rfl (by kernel_rfl) (fun _ _ _ h => h) (Or.inl ⟨by rfl, ?_⟩) ?_ ?_
 rotate_left
 ·intro w'; go_simp; with_reducible rfl
 rotate_left
 ·simp only [Act.put, List.setIfInBounds_toArray, List.set_cons_zero, List.set_cons_succ, i64_w, i32_w]; rfl
 refine take_ (i := 6) (N := some 117) (v := ?_) (a' := ?_) #[true, true, true, true, true, true, true, false, false, false, false, false] rfl rfl (by kernel_rfl) (fun _ _ _ h => h) (Or.inl ⟨by rfl, ?_⟩) hHeld ?_ ?_
 rotate_left
 ·rintro w' ⟨s0_, s1_, s2_, s3_⟩; go_simp; with_reducible rfl
 rotate_left
 ·simp only [Act.put, List.setIfInBounds_toArray, List.set_cons_zero, List.set_cons_succ, i64_w, i32_w]; rfl
 refine pure_ (i := 7) (N := some 118) (v := ?_) (a' := ?_) #[true, true, true, true, true, true, true, true, false, false, false, false] rfl rfl (by kernel_rfl) (fun _ _ _ h => h) (Or.inl ⟨by rfl, ?_⟩) ?_ ?_
 rotate_left
 ·intro w'; go_simp; with_reducible rfl
 rotate_left
 ·simp only [Act.put, List.setIfInBounds_toArray, List.set_cons_zero, List.set_cons_succ, i64_w, i32_w]; rfl
 refine one_ (i := 8) (N := some 119) #[true, true, true, true, true, true, true, true, true, false, false, false] rfl rfl (by kernel_rfl) (by decide) (fun K hK => ?_)
 refine value_ (w1 := w9.alloc (.cells #[.string (wrd ws 1), .int .i64 l1, .int .u64 l2] 62)) (v := .slice (some ⟨w9.heap.size, 0, none⟩) 1 1) (by rfl) rfl (by go_simp) ?_
 have hnb := new_below w9 (.cells #[.string (wrd ws 1), .int .i64 l1, .int .u64 l2] 62)
 obtain ⟨s0_, s1_, s2_, s3_⟩ := hHeld
 refine hK.out _ _ ⟨cell_below s0_ hnb, cell_below s1_ hnb, cell_below s2_ hnb, cell_below s3_ hnb⟩ (fun hHeld => ?_)
 clear hK K hnb
 refine norm_ (a' := ?_) ?_ ?_
 rotate_left
 ·show Act.put _ (some 119) _ = _
  simp only [Act.put, List.setIfInBounds_toArray, List.set_cons_zero, List.set_cons_succ, i64_w, i32_w]
  rfl
 refine one_ (i := 9) (N := some 120) #[true, true, true, true, true, true, true, true, true, true, false, false] rfl rfl (by kernel_rfl) (by decide) (fun K hK => ?_)
 refine Kd.R_append_step k62 (w0 := w0) w0.heap.size (by rfl) (.tmp 112) (.tmp 119) 24 62 (.agg #[.string ⟨#[]⟩, .int .i64 0, .int .u64 0]) 32 rfl Tryz.underlying24 info62 rfl (by decide) (by omega) (.slice Au us.length cu) us ⟨wrd ws 1, ⟨l1, l2⟩⟩ [.string (wrd ws 1), .int .i64 l1, .int .u64 l2] (fun _ => True) (fun _ => False) rfl rfl (k62_mkM _ _ _ _) (fun _ hk => hk.elim) (fun _ _ => trivial) HI.out.hu HI.out.hB (below_size HI.out.hB) (by have := HLEN.out; omega) ?_
 intro v9 w10 ho hb hg hat
 obtain ⟨Av, cv, rfl⟩ := Kd.R_slice ho
 have p1 := P_grown HI.out.hP HI.out.hu (by decide) hg
 replace H7 := Aside0.mk (P_grownT H7.out HI.out.hu (by decide) hg)
 replace HZ := Aside0.mk (P_grownT HZ.out HI.out.hu (by decide) hg); replace HY := Aside0.mk (P_grownT HY.out HI.out.hu (by decide) hg)
 replace HW := Aside0.mk (Kd.R_mono (Kd.R_grown (R_apart HI.out.hu HW.out (by decide)) hg (fun k hk => hk.2)) (fun _ _ => trivial))
 replace HI := Aside0.mk (HI.out.user ho hb hg)
 have y2 : w10.cell? ⟨g, 3, none⟩ = some (.slice Au us.length cu) := (blk_cell p1 3).trans rfl
 have f2 := blk_frozen p1 3
 have HP1 := Aside0.mk p1
 refine hK.out _ _ ⟨y2, word_R HW.out HN.out.symm 1 (by have := HN.out; omega), (celg3 H7.out).1.1, (celg3 H7.out).1.2.1⟩ (fun hHeld => ?_)
 clear hK K ho hb hg hat p1
 refine norm_ (a' := ?_) ?_ ?_
 rotate_left
 ·show Act.put _ (some 120) _ = _
  simp only [Act.put, List.setIfInBounds_toArray, List.set_cons_zero, List.set_cons_succ, i64_w, i32_w]
  rfl
 refine pure_ (i := 10) (N := some 121) (v := ?_) (a' := ?_) #[true, true, true, true, true, true, true, true, true, true, true, false] rfl rfl (by kernel_rfl) (fun _ _ _ h => h) (Or.inl ⟨by rfl, ?_⟩) ?_ ?_
 rotate_left
 ·intro w'; go_simp; with_reducible rfl
 rotate_left
 ·simp only [Act.put, List.setIfInBounds_toArray, List.set_cons_zero, List.set_cons_succ, i64_w, i32_w]; rfl
 refine last_ (i := 11) (N := none) #[true, true, true, true, true, true, true, true, true, true, true, true] rfl rfl (by kernel_rfl) (by decide) (fun K hK => ?_)
 refine skip_ (w1 := ?_) (by rfl) rfl ?_ ?_
 rotate_left
 ·go_simp; rfl
 refine hK.out _ _ ?_
 clear hK K y2 f2 hHeld
 refine done_ (by kernel_rfl) ?_
 go_upto_region 18 with fail
 replace H7 := Aside0.mk (blk_far (p := ⟨g, 3, none⟩) H7.out n7 (.slice Av (us.length + 1) cv))
 replace HZ := Aside0.mk (blk_far (p := ⟨g, 3, none⟩) HZ.out HN4.out (.slice Av (us.length + 1) cv)); replace HY := Aside0.mk (blk_far (p := ⟨g, 3, none⟩) HY.out HNY.out (.slice Av (us.length + 1) cv))
 replace HW := Aside0.mk (Kd.R_set HW.out HP1.out ne27_9 3 (.slice Av (us.length + 1) cv))
 have hi := HI.out
 simp only [List.length_append, List.length_cons, List.length_nil, Nat.zero_add] at hi
 replace HI := Aside0.mk hi
 clear hi HP1 n7
 generalize w10.setCell ⟨g, 3, none⟩ (.slice Av (us.length + 1) cv) = w8 at H7 HZ HY HW HI ⊢
 obtain ⟨⟨x0, x1, x2⟩, _⟩ := celg3 H7.out
 have e0 : w8.cell? ad = some (.string (wrd ws 0)) := word_R HW.out HN.out.symm 0 (by have := HN.out; omega)
 clear HW HN H7
 cases b1 with
 | true =>
  have h9 := hkd.out
  rw [if_pos rfl] at h9
  subst h9
  obtain ⟨y0, y1, y2, y3, y4⟩ := cells5_ HI.out.hP
  obtain ⟨z0, z1, z2, z3, z4⟩ := cells5_ HZ.out
  have f0 := blk_frozen HZ.out 0
  have f1 := blk_frozen HZ.out 1
  have f2 := blk_frozen HZ.out 2
  have f3 := blk_frozen HZ.out 3
  have f4 := blk_frozen HZ.out 4
  go_wp2
  refine bodyPost_ret (results_ct rfl _ _ g4 27 _ (0, 0) _ rfl (put5_ HZ.out _ _ _ _ _) hu rfl (by kernel_rfl)) rfl ?_
  exact ⟨_, _, _, rfl, lin_end HI.out HZ.out HG4.out HY.out HNY4.out _ _ _ _ _⟩
 | false =>
  have h9 := hkd.out
  rw [if_neg (by simp)] at h9
  subst h9
  obtain ⟨y0, y1, y2, y3, y4⟩ := cells5_ HI.out.hP
  obtain ⟨z0, z1, z2, z3, z4⟩ := cells5_ HZ.out
  have f0 := blk_frozen HZ.out 0
  have f1 := blk_frozen HZ.out 1
  have f2 := blk_frozen HZ.out 2
  have f3 := blk_frozen HZ.out 3
  have f4 := blk_frozen HZ.out 4
  go_wp2
  refine bodyPost_ret (results_ct rfl _ _ g4 27 _ (0, 0) _ rfl (put5_ HZ.out _ _ _ _ _) hu rfl (by kernel_rfl)) rfl ?_
  exact ⟨_, _, _, rfl, lin_end HI.out HZ.out HG4.out HY.out HNY4.out _ _ _ _ _⟩
end Go.Proofs.YtbboanfggaknjaaGreatDoor.X
/- The reference's reading of one line: the a grant, and all of them, walked by hand. -/
set_option linter.unusedVariables false
set_option linter.unusedSimpArgs false
namespace Go.Proofs.YtbboanfggaknjaaGreatDoor.X
open Go.RowKit Go.Proofs.YtbboanfggaknjaaGreatDoorW.PrintWords Go.Proofs.YtbboanfggaknjaaGreatDoorW.PrintLast Go.Proofs.YtbboanfggaknjaaGreatDoorW.PrintMore
theorem line_grant (k : Nat) (r c : Int) (vz vu vg : Value) (zs : List S60) (us : List S62) (gs : List S64) (s : ByteArray) (h : s.size ≠ 0) (h1 : bt s ((s.size : Int) - 1) = 10) (hl : s.size ≤ 100000) (ws : List ByteArray) (hw : oculusref07_Words.f k (cutLF s) = some ws) (n3 : ws.length = 4) (hg : (wrd ws 0).toList = [103, 114, 97, 110, 116]) (l1 l2 l3 l4 : Int) (b1 b2 : Bool) (A1 : oculusref02_Parse.f k (wrd ws 2) = some (l1, l2, b1)) (A2 : oculusref02_Parse.f k (wrd ws 3) = some (l3, l4, b2)) (hlen : gs.length ≤ 100000) (kd : Int) (hkd : Aside0 (kd = if b1 = true ∧ b2 = true then 4 else 0)) (gx : Nat) (cx : Array Value) (w0 w : World) (hV : Aside0 (IsV gx cx w0 w vz vu vg zs us gs)) :
  Calls Tryz.prog 15 #[.agg #[.int .i64 r, .int .i64 c, vz, vu, vg], .string s] w fun en w' => Lin7 gx cx w0 w' en kd r c zs us (gs ++ [⟨wrd ws 1, ⟨l1, l2⟩, ⟨l3, l4⟩⟩]) := by
 have HN := Aside0.mk n3
 have HG0 := Aside0.mk hg
 have HA1 := Aside0.mk A1
 have HA2 := Aside0.mk A2
 have HLEN := Aside0.mk hlen
 clear A1 A2 n3 hg hlen
 have hu58 := Tryz.underlying58
 have hu64 := Tryz.underlying64
 have hu := Tryz.underlying27
 obtain ⟨Az, cz, hh⟩ := Kd.R_slice hV.out.hz
 subst hh
 obtain ⟨Au, cu, hh⟩ := Kd.R_slice hV.out.hu
 subst hh
 obtain ⟨Ag, cg, hh⟩ := Kd.R_slice hV.out.hr
 subst hh
 go_enter Tryz.func15, Tryz.ntmps15
 go_upto_region 1 with fail
 have hsz : (w.alloc (.cells #[.int .i64 r, .int .i64 c, .slice Az zs.length cz, .slice Au us.length cu, .slice Ag gs.length cg] 27)).heap.size = w.heap.size + 1 := Array.size_push ..
 have hb := below_step (new_below w (.cells #[.int .i64 r, .int .i64 c, .slice Az zs.length cz, .slice Au us.length cu, .slice Ag gs.length cg] 27)) (new_below (w.alloc (.cells #[.int .i64 r, .int .i64 c, .slice Az zs.length cz, .slice Au us.length cu, .slice Ag gs.length cg] 27)) (.cells #[.int .i64 0, .int .i64 0, .slice none 0 0, .slice none 0 0, .slice none 0 0] 27))
 have hw0 : w0.heap.size ≤ w.heap.size := below_size hV.out.hB
 have HI : Aside0 (IsP w0 ((w.alloc (.cells #[.int .i64 r, .int .i64 c, .slice Az zs.length cz, .slice Au us.length cu, .slice Ag gs.length cg] 27)).alloc (.cells #[.int .i64 0, .int .i64 0, .slice none 0 0, .slice none 0 0, .slice none 0 0] 27)) w.heap.size r c (.slice Az zs.length cz) (.slice Au us.length cu) (.slice Ag gs.length cg) zs us gs) := ⟨blk_alloc (blk_new w (.cells #[.int .i64 r, .int .i64 c, .slice Az zs.length cz, .slice Au us.length cu, .slice Ag gs.length cg] 27)) (.cells #[.int .i64 0, .int .i64 0, .slice none 0 0, .slice none 0 0, .slice none 0 0] 27), hw0, Kd.R_below hV.out.hz hb, Kd.R_below hV.out.hu hb, Kd.R_below hV.out.hr hb, below_step hV.out.hB hb⟩
 have HZ := Aside0.mk (blk_new (w.alloc (.cells #[.int .i64 r, .int .i64 c, .slice Az zs.length cz, .slice Au us.length cu, .slice Ag gs.length cg] 27)) (.cells #[.int .i64 0, .int .i64 0, .slice none 0 0, .slice none 0 0, .slice none 0 0] 27))
 rw [hsz] at HZ
 obtain ⟨g, hg⟩ : ∃ g, w.heap.size = g := ⟨_, rfl⟩
 obtain ⟨g4, hg4⟩ : ∃ g4, w.heap.size + 1 = g4 := ⟨_, rfl⟩
 have HG4 : Aside0 (w0.heap.size ≤ g4) := ⟨by omega⟩
 have HN4 : Aside0 (g4 ≠ g) := ⟨by omega⟩
 rw [hg4] at HZ
 rw [hg] at HI
 rw [hg4, hg]
 have HY := Aside0.mk (blk_below hV.out.hx hb)
 have hlx := blk_lt hV.out.hx
 have HNY : Aside0 (gx ≠ g) := ⟨by omega⟩
 have HNY4 : Aside0 (gx ≠ g4) := ⟨by omega⟩
 clear hlx hsz hb hw0 hg hg4 hV
 generalize (w.alloc (.cells #[.int .i64 r, .int .i64 c, .slice Az zs.length cz, .slice Au us.length cu, .slice Ag gs.length cg] 27)).alloc (.cells #[.int .i64 0, .int .i64 0, .slice none 0 0, .slice none 0 0, .slice none 0 0] 27) = w1 at HI HZ HY ⊢
 have d0 : ((s.size : Int) == 0) = false := beq_eq_false_iff_ne.mpr (by omega)
 have hp : 1 ≤ s.size := by omega
 have hq : (1 ≤ (s.size : Int) ∧ (s.size : Int) - 1 < (s.size : Int)) = True := eq_true (by omega)
 have d1 := last_b s hp (bne_eq_false_iff_eq.mpr h1)
 have HWF := Aside0.mk hw
 clear h h1 hw
 go_upto_region 3 with fail
 clear d0 d1
 go_upto_region 4 with (go_at_call 33; (with_reducible refine (oculusref07_Words.calls k (s.extract 0 (s.size - 1)) ws _ HWF.out).mono ?_); rintro e w5 ⟨v6, rfl, hR, hb⟩; obtain ⟨A6, cap6, rfl⟩ := Kd.R_slice hR; replace HI := Aside0.mk (HI.out.below hb); replace HZ := Aside0.mk (blk_below HZ.out hb); replace HY := Aside0.mk (blk_below HY.out hb); have HW := Aside0.mk hR; clear hR hb)
 clear HWF hp hl
 have n3 := HN.out
 have hg := HG0.out
 obtain ⟨ad, rfl, hat⟩ := words_at (words_of HW.out) (by omega)
 have e0 : w5.cell? ad = some (.string (wrd ws 0)) := hat 0 (by omega)
 have e1 : w5.cell? ⟨ad.block, ad.off + 1, none⟩ = some (.string (wrd ws 1)) := hat 1 (by omega)
 have e2 : w5.cell? ⟨ad.block, ad.off + 2, none⟩ = some (.string (wrd ws 2)) := hat 2 (by omega)
 have e3 : w5.cell? ⟨ad.block, ad.off + 3, none⟩ = some (.string (wrd ws 3)) := hat 3 (by omega)
 rw [n3] at HW ⊢
 have d3 : (((4 : Nat) : Int) == 3) = false := rfl
 have d4 : (((4 : Nat) : Int) == 4) = true := rfl
 have dt0 : ((wrd ws 0).toList == [103, 114, 105, 100]) = false := by rw [hg]; rfl
 have dt1 : ((wrd ws 0).toList == [122, 111, 110, 101]) = false := by rw [hg]; rfl
 have dt2 : ((wrd ws 0).toList == [117, 115, 101, 114]) = false := by rw [hg]; rfl
 have dt3 : ((wrd ws 0).toList == [103, 114, 97, 110, 116]) = true := beq_iff_eq.mpr hg
 clear hat n3 hg
 go_upto_region 21 with fail
 have eA := e2
 have eB := e3
 clear e0 e1 e2 e3
 go_cut [12, 13] (fun v7 v8 wx => ∃ g7 g8, v7 = .pointer (some ⟨g7, 0, none⟩) ∧ v8 = .pointer (some ⟨g8, 0, none⟩) ∧ Aside0 (wx.heap[g7]? = some (.cells #[.int .i64 l1, .int .u64 l2, .bool b1] 97 (0, 0))) ∧ Aside0 (wx.heap[g8]? = some (.cells #[.int .i64 l3, .int .u64 l4, .bool b2] 97 (0, 0))) ∧ Aside0 (Below w5.heap.size w5 wx))
 case first =>
  have hbd : Below w5.heap.size w5 w5.drew := pw_below_drewN (Below.refl _ w5) 1
  have hQ : w5.drew.cell? ⟨ad.block, ad.off + 2, none⟩ = some (.string (wrd ws 2)) ∧ w5.drew.cell? ⟨ad.block, ad.off + 3, none⟩ = some (.string (wrd ws 3)) := ⟨cell_below eA hbd, cell_below eB hbd⟩
  refine start_ (n := 12) (S := fun w' => w'.cell? ⟨ad.block, ad.off + 2, none⟩ = some (.string (wrd ws 2)) ∧ w'.cell? ⟨ad.block, ad.off + 3, none⟩ = some (.string (wrd ws 3))) (ds := [10, 11]) #[false, false, false, false, false, false, false, false, false, false, false, false] (by kernel_rfl) rfl rfl hQ (fun hHeld => ?_)
  clear hQ
  have HBD := Aside0.mk hbd
  clear hbd eA eB
  generalize w5.drew = w9 at HBD hHeld ⊢
  refine pure_ (i := 0) (N := some 134) (v := ?_) (a' := ?_) #[true, false, false, false, false, false, false, false, false, false, false, false] rfl rfl (by kernel_rfl) (fun _ _ _ h => h) (Or.inl ⟨by rfl, ?_⟩) ?_ ?_
  rotate_left
  ·intro w'; go_simp; with_reducible rfl
  rotate_left
  ·simp only [Act.put, List.setIfInBounds_toArray, List.set_cons_zero, List.set_cons_succ, i64_w, i32_w]; rfl
  refine pure_ (i := 1) (N := some 135) (v := ?_) (a' := ?_) #[true, true, false, false, false, false, false, false, false, false, false, false] rfl rfl (by kernel_rfl) (fun _ _ _ h => h) (Or.inl ⟨by rfl, ?_⟩) ?_ ?_
  rotate_left
  ·intro w'; go_simp; with_reducible rfl
  rotate_left
  ·simp only [Act.put, List.setIfInBounds_toArray, List.set_cons_zero, List.set_cons_succ, i64_w, i32_w]; rfl
  refine take_ (i := 2) (N := some 136) (v := ?_) (a' := ?_) #[true, true, true, false, false, false, false, false, false, false, false, false] rfl rfl (by kernel_rfl) (fun _ _ _ h => h) (Or.inl ⟨by rfl, ?_⟩) hHeld ?_ ?_
  rotate_left
  ·rintro w' ⟨s0_, s1_⟩; go_simp; with_reducible rfl
  rotate_left
  ·simp only [Act.put, List.setIfInBounds_toArray, List.set_cons_zero, List.set_cons_succ, i64_w, i32_w]; rfl
  refine pure_ (i := 4) (N := some 138) (v := ?_) (a' := ?_) #[true, true, true, false, true, false, false, false, false, false, false, false] rfl rfl (by kernel_rfl) (fun _ _ _ h => h) (Or.inl ⟨by rfl, ?_⟩) ?_ ?_
  rotate_left
  ·intro w'; go_simp; with_reducible rfl
  rotate_left
  ·simp only [Act.put, List.setIfInBounds_toArray, List.set_cons_zero, List.set_cons_succ, i64_w, i32_w]; rfl
  refine pure_ (i := 5) (N := some 139) (v := ?_) (a' := ?_) #[true, true, true, false, true, true, false, false, false, false, false, false] rfl rfl (by kernel_rfl) (fun _ _ _ h => h) (Or.inl ⟨by rfl, ?_⟩) ?_ ?_
  rotate_left
  ·intro w'; go_simp; with_reducible rfl
  rotate_left
  ·simp only [Act.put, List.setIfInBounds_toArray, List.set_cons_zero, List.set_cons_succ, i64_w, i32_w]; rfl
  refine take_ (i := 6) (N := some 140) (v := ?_) (a' := ?_) #[true, true, true, false, true, true, true, false, false, false, false, false] rfl rfl (by kernel_rfl) (fun _ _ _ h => h) (Or.inl ⟨by rfl, ?_⟩) hHeld ?_ ?_
  rotate_left
  ·rintro w' ⟨s0_, s1_⟩; go_simp; with_reducible rfl
  rotate_left
  ·simp only [Act.put, List.setIfInBounds_toArray, List.set_cons_zero, List.set_cons_succ, i64_w, i32_w]; rfl
  generalize haf : Act.mk _ _ = af
  refine free_ (base := [true, true, true, false, true, true, true, false, false, false, false, false]) (M := [3, 7, 8, 9]) 2 (by decide) (by kernel_rfl) (fun b a' w' => ∃ vA vB v7 v8, a' = (((af.put (some 137) vA).put (some 141) vB).put (some 12) v7).put (some 13) v8 ∧ (b 3 = true → vA = .agg #[.int .i64 l1, .int .u64 l2, .bool b1]) ∧ (b 7 = true → vB = .agg #[.int .i64 l3, .int .u64 l4, .bool b2]) ∧ (b 8 = true → ALg w9 w' #[.int .i64 0, .int .u64 0, .bool false] 97 v7) ∧ (b 9 = true → ALg w9 w' #[.int .i64 0, .int .u64 0, .bool false] 97 v8) ∧ (b 8 = true → b 9 = true → v7 ≠ v8) ∧ Below w9.heap.size w9 w') (fun _ _ _ hI => by obtain ⟨_, _, _, _, _, _, _, _, _, _, hB⟩ := hI; exact ⟨cell_below hHeld.1 hB, cell_below hHeld.2 hB⟩) ?_ ?_ 4 (fun _ => false) _ _ rfl ?_
  ·intro i hi b a' w' hb hI o ho K hK
   obtain ⟨vA, vB, v7, v8, ha, h3, h7, h8, h9, hne, hB⟩ := hI
   simp only [List.mem_cons, List.not_mem_nil, or_false] at hi
   subst haf
   simp only [Act.put, List.setIfInBounds_toArray, List.set_cons_zero, List.set_cons_succ] at ha
   subst ha
   rcases hi with rfl | rfl | rfl | rfl
   ·cases ho
    refine goes_ Tryz.func36 (by kernel_rfl) rfl #[.string (wrd ws 2)] (by rfl) rfl rfl (by (try simp only [List.map_toArray, List.map_cons, List.map_nil]); first | done | rfl) ?_
    with_reducible refine (oculusref02_Parse.calls k (wrd ws 2) l1 l2 b1 _ HA1.out).mono ?_
    rintro e w5 ⟨rfl, hb5⟩
    exact ⟨_, rfl, hK _ _ ⟨_, vB, v7, v8, by simp only [Act.put, List.setIfInBounds_toArray, List.set_cons_zero, List.set_cons_succ]; rfl, fun _ => rfl, fun h => h7 (by simpa using h), fun h => (h8 (by simpa using h)).below hb5, fun h => (h9 (by simpa using h)).below hb5, hne, below_then hB hB.size hb5⟩⟩
   ·cases ho
    refine goes_ Tryz.func36 (by kernel_rfl) rfl #[.string (wrd ws 3)] (by rfl) rfl rfl (by (try simp only [List.map_toArray, List.map_cons, List.map_nil]); first | done | rfl) ?_
    with_reducible refine (oculusref02_Parse.calls k (wrd ws 3) l3 l4 b2 _ HA2.out).mono ?_
    rintro e w5 ⟨rfl, hb5⟩
    exact ⟨_, rfl, hK _ _ ⟨vA, _, v7, v8, by simp only [Act.put, List.setIfInBounds_toArray, List.set_cons_zero, List.set_cons_succ]; rfl, fun h => h3 (by simpa using h), fun _ => rfl, fun h => (h8 (by simpa using h)).below hb5, fun h => (h9 (by simpa using h)).below hb5, hne, below_then hB hB.size hb5⟩⟩
   ·cases ho
    refine box_step ?hg (N := 12) ?hd (cs := #[.int .i64 0, .int .u64 0, .bool false]) (t := 97) ?hr ?_
    (case hd => rfl)
    (case hg => rfl)
    (case hr => first | (go_simp; done) | (go_simp; rfl))
    intro g hg wb hbox hb5
    refine hK _ _ ⟨vA, vB, _, v8, by simp only [Act.put, List.setIfInBounds_toArray, List.set_cons_zero, List.set_cons_succ]; rfl, fun h => h3 (by simpa using h), fun h => h7 (by simpa using h), fun _ => ALg.new hg hB hbox, fun h => (h9 (by simpa using h)).below hb5, fun _ h => ((h9 (by simpa using h)).ne hg).symm, below_then hB hB.size hb5⟩
   ·cases ho
    refine box_step ?hg (N := 13) ?hd (cs := #[.int .i64 0, .int .u64 0, .bool false]) (t := 97) ?hr ?_
    (case hd => rfl)
    (case hg => rfl)
    (case hr => first | (go_simp; done) | (go_simp; rfl))
    intro g hg wb hbox hb5
    refine hK _ _ ⟨vA, vB, v7, _, by simp only [Act.put, List.setIfInBounds_toArray, List.set_cons_zero, List.set_cons_succ]; rfl, fun h => h3 (by simpa using h), fun h => h7 (by simpa using h), fun h => (h8 (by simpa using h)).below hb5, fun _ => ALg.new hg hB hbox, fun h _ => (h8 (by simpa using h)).ne hg, below_then hB hB.size hb5⟩
  ·intro b a' w' hall hI
   obtain ⟨vA, vB, v7, v8, ha, h3, h7, h8, h9, hne, hB⟩ := hI
   obtain rfl := h3 (hall 3 (by simp))
   obtain rfl := h7 (hall 7 (by simp))
   have hn := hne (hall 8 (by simp)) (hall 9 (by simp))
   obtain ⟨g7, rfl, k7, m7⟩ := h8 (hall 8 (by simp))
   obtain ⟨g8, rfl, k8, m8⟩ := h9 (hall 9 (by simp))
   subst haf
   simp only [Act.put, List.setIfInBounds_toArray, List.set_cons_zero, List.set_cons_succ] at ha
   subst ha
   clear h3 h7 h8 h9 hne hall
   have hg : g7 ≠ g8 := fun e => hn (by rw [e])
   have hg' := Ne.symm hg
   obtain ⟨⟨a0_, a1_, a2_⟩, fa0_, fa1_, fa2_⟩ := celg3 m7
   obtain ⟨⟨b0_, b1_, b2_⟩, fb0_, fb1_, fb2_⟩ := celg3 m8
   have M7 := Aside0.mk m7
   have M8 := Aside0.mk m8
   have MB := Aside0.mk (below_step HBD.out hB)
   have MG := Aside0.mk (And.intro (Nat.le_trans (below_size HBD.out) k7) (Nat.le_trans (below_size HBD.out) k8))
   clear m7 m8 hB k7 k8 hn
   refine last_ (i := 10) (N := none) #[true, true, true, true, true, true, true, true, true, true, true, false] rfl rfl (by kernel_rfl) (by decide) (fun K hK => ?_)
   refine skip_ (w1 := ?_) (by rfl) rfl ?_ ?_
   rotate_left
   ·go_simp; rfl
   refine hK.out _ _ ?_
   clear hK K
   refine last_ (i := 11) (N := none) #[true, true, true, true, true, true, true, true, true, true, true, true] rfl rfl (by kernel_rfl) (by decide) (fun K hK => ?_)
   refine skip_ (w1 := ?_) (by rfl) rfl ?_ ?_
   rotate_left
   ·go_simp; rfl
   refine hK.out _ _ ?_
   clear hK K
   refine done_ (by kernel_rfl) ?_
   go_wp2_with fail
   go_meet
   exact ⟨g7, g8, rfl, rfl, ⟨farg3 (putg3 M7.out _ _ _) hg _ _ _⟩, ⟨putg3 (farg3 M8.out hg' _ _ _) _ _ _⟩, ⟨belg3 (belg3 MB.out MG.out.1 _ _ _) MG.out.2 _ _ _⟩⟩
  ·exact ⟨_, _, _, _, by subst haf; simp only [Act.put, List.setIfInBounds_toArray, List.set_cons_zero, List.set_cons_succ]; rfl, by simp, by simp, by simp, by simp, by simp, Below.refl _ _⟩
 case rest =>
  obtain ⟨g7, g8, rfl, rfl, H7, H8, HX⟩ := hcut
  replace HI := Aside0.mk (HI.out.below HX.out)
  replace HZ := Aside0.mk (blk_below HZ.out HX.out); replace HY := Aside0.mk (blk_below HY.out HX.out)
  replace HW := Aside0.mk (Kd.R_below HW.out HX.out)
  have n7 : g7 ≠ g := blk_other H7.out HI.out.hP (by decide)
  have n8 : g8 ≠ g := blk_other H8.out HI.out.hP (by decide)
  clear eA eB HX
  obtain ⟨⟨x0, x1, x2⟩, _⟩ := celg3 H7.out
  obtain ⟨⟨v0, v1, v2⟩, _⟩ := celg3 H8.out
  have y4 : wc.cell? ⟨g, 4, none⟩ = some (.slice Ag gs.length cg) := (blk_cell HI.out.hP 4).trans rfl
  have e1 : wc.cell? ⟨ad.block, ad.off + 1, none⟩ = some (.string (wrd ws 1)) := word_R HW.out HN.out.symm 1 (by have := HN.out; omega)
  clear x2 v2
  go_upto_region 22 with fail
  have hbd : Below wc.heap.size wc wc.drew := pw_below_drewN (Below.refl _ wc) 1
  have hQ : wc.drew.cell? ⟨g, 4, none⟩ = some (.slice Ag gs.length cg) ∧ wc.drew.cell? ⟨ad.block, ad.off + 1, none⟩ = some (.string (wrd ws 1)) ∧ wc.drew.cell? ⟨g7, 0, none⟩ = some (.int .i64 l1) ∧ wc.drew.cell? ⟨g7, 1, none⟩ = some (.int .u64 l2) ∧ wc.drew.cell? ⟨g8, 0, none⟩ = some (.int .i64 l3) ∧ wc.drew.cell? ⟨g8, 1, none⟩ = some (.int .u64 l4) := ⟨cell_below y4 hbd, cell_below e1 hbd, cell_below x0 hbd, cell_below x1 hbd, cell_below v0 hbd, cell_below v1 hbd⟩
  refine start_ (n := 14) (S := fun w' => w'.cell? ⟨g, 4, none⟩ = some (.slice Ag gs.length cg) ∧ w'.cell? ⟨ad.block, ad.off + 1, none⟩ = some (.string (wrd ws 1)) ∧ w'.cell? ⟨g7, 0, none⟩ = some (.int .i64 l1) ∧ w'.cell? ⟨g7, 1, none⟩ = some (.int .u64 l2) ∧ w'.cell? ⟨g8, 0, none⟩ = some (.int .i64 l3) ∧ w'.cell? ⟨g8, 1, none⟩ = some (.int .u64 l4)) (ds := [13]) #[false, false, false, false, false, false, false, false, false, false, false, false, false, false] (by kernel_rfl) rfl rfl hQ (fun hHeld => ?_)
  clear hQ y4 e1 x0 x1 v0 v1
  replace HI := Aside0.mk (HI.out.below hbd)
  replace HZ := Aside0.mk (blk_below HZ.out hbd); replace HY := Aside0.mk (blk_below HY.out hbd)
  replace HW := Aside0.mk (Kd.R_below HW.out hbd)
  replace H7 := Aside0.mk (blk_below H7.out hbd)
  replace H8 := Aside0.mk (blk_below H8.out hbd)
  clear hbd
  generalize wc.drew = w9 at HI HZ HY HW H7 H8 hHeld ⊢
  refine pure_ (i := 0) (N := some 142) (v := ?_) (a' := ?_) #[true, false, false, false, false, false, false, false, false, false, false, false, false, false] rfl rfl (by kernel_rfl) (fun _ _ _ h => h) (Or.inl ⟨by rfl, ?_⟩) ?_ ?_
  rotate_left
  ·intro w'; go_simp; with_reducible rfl
  rotate_left
  ·simp only [Act.put, List.setIfInBounds_toArray, List.set_cons_zero, List.set_cons_succ, i64_w, i32_w]; rfl
  refine take_ (i := 1) (N := some 143) (v := ?_) (a' := ?_) #[true, true, false, false, false, false, false, false, false, false, false, false, false, false] rfl rfl (by kernel_rfl) (fun _ _ _ h => h) (Or.inl ⟨by rfl, ?_⟩) hHeld ?_ ?_
  rotate_left
  ·rintro w' ⟨s0_, s1_, s2_, s3_, s4_, s5_⟩; go_simp; with_reducible rfl
  rotate_left
  ·simp only [Act.put, List.setIfInBounds_toArray, List.set_cons_zero, List.set_cons_succ, i64_w, i32_w]; rfl
  refine pure_ (i := 2) (N := some 144) (v := ?_) (a' := ?_) #[true, true, true, false, false, false, false, false, false, false, false, false, false, false] rfl rfl (by kernel_rfl) (fun _ _ _ h => h) (Or.inl ⟨by rfl, ?_⟩) ?_ ?_
  rotate_left
  ·intro w'; go_simp; with_reducible rfl
  rotate_left
  ·simp only [Act.put, List.setIfInBounds_toArray, List.set_cons_zero, List.set_cons_succ, i64_w, i32_w]; rfl
  refine pure_ (i := 3) (N := some 145) (v := ?_) (a' := ?_) #[true, true, true, true, false, false, false, false, false, false, false, false, false, false] rfl rfl (by kernel_rfl) (fun _ _ _ h => h) (Or.inl ⟨by rfl, ?_⟩) ?_ ?_
  rotate_left
  ·intro w'; go_simp; with_reducible rfl
  rotate_left
  ·simp only [Act.put, List.setIfInBounds_toArray, List.set_cons_zero, List.set_cons_succ, i64_w, i32_w]; rfl
  refine take_ (i := 4) (N := some 146) (v := ?_) (a' := ?_) #[true, true, true, true, true, false, false, false, false, false, false, false, false, false] rfl rfl (by kernel_rfl) (fun _ _ _ h => h) (Or.inl ⟨by rfl, ?_⟩) hHeld ?_ ?_
  rotate_left
  ·rintro w' ⟨s0_, s1_, s2_, s3_, s4_, s5_⟩; go_simp; with_reducible rfl
  rotate_left
  ·simp only [Act.put, List.setIfInBounds_toArray, List.set_cons_zero, List.set_cons_succ, i64_w, i32_w]; rfl
  refine pure_ (i := 5) (N := some 147) (v := ?_) (a' := ?_) #[true, true, true, true, true, true, false, false, false, false, false, false, false, false] rfl rfl (by kernel_rfl) (fun _ _ _ h => h) (Or.inl ⟨by rfl, ?_⟩) ?_ ?_
  rotate_left
  ·intro w'; go_simp; with_reducible rfl
  rotate_left
  ·simp only [Act.put, List.setIfInBounds_toArray, List.set_cons_zero, List.set_cons_succ, i64_w, i32_w]; rfl
  refine take_ (i := 6) (N := some 148) (v := ?_) (a' := ?_) #[true, true, true, true, true, true, true, false, false, false, false, false, false, false] rfl rfl (by kernel_rfl) (fun _ _ _ h => h) (Or.inl ⟨by rfl, ?_⟩) hHeld ?_ ?_
  rotate_left
  ·rintro w' ⟨s0_, s1_, s2_, s3_, s4_, s5_⟩; go_simp; with_reducible rfl
  rotate_left
  ·simp only [Act.put, List.setIfInBounds_toArray, List.set_cons_zero, List.set_cons_succ, i64_w, i32_w]; rfl
  refine pure_ (i := 7) (N := some 149) (v := ?_) (a' := ?_) #[true, true, true, true, true, true, true, true, false, false, false, false, false, false] rfl rfl (by kernel_rfl) (fun _ _ _ h => h) (Or.inl ⟨by rfl, ?_⟩) ?_ ?_
  rotate_left
  ·intro w'; go_simp; with_reducible rfl
  rotate_left
  ·simp only [Act.put, List.setIfInBounds_toArray, List.set_cons_zero, List.set_cons_succ, i64_w, i32_w]; rfl
  refine take_ (i := 8) (N := some 150) (v := ?_) (a' := ?_) #[true, true, true, true, true, true, true, true, true, false, false, false, false, false] rfl rfl (by kernel_rfl) (fun _ _ _ h => h) (Or.inl ⟨by rfl, ?_⟩) hHeld ?_ ?_
  rotate_left
  ·rintro w' ⟨s0_, s1_, s2_, s3_, s4_, s5_⟩; go_simp; with_reducible rfl
  rotate_left
  ·simp only [Act.put, List.setIfInBounds_toArray, List.set_cons_zero, List.set_cons_succ, i64_w, i32_w]; rfl
  refine pure_ (i := 9) (N := some 151) (v := ?_) (a' := ?_) #[true, true, true, true, true, true, true, true, true, true, false, false, false, false] rfl rfl (by kernel_rfl) (fun _ _ _ h => h) (Or.inl ⟨by rfl, ?_⟩) ?_ ?_
  rotate_left
  ·intro w'; go_simp; with_reducible rfl
  rotate_left
  ·simp only [Act.put, List.setIfInBounds_toArray, List.set_cons_zero, List.set_cons_succ, i64_w, i32_w]; rfl
  refine one_ (i := 10) (N := some 152) #[true, true, true, true, true, true, true, true, true, true, true, false, false, false] rfl rfl (by kernel_rfl) (by decide) (fun K hK => ?_)
  refine value_ (w1 := w9.alloc (.cells #[.string (wrd ws 1), .int .i64 l1, .int .u64 l2, .int .i64 l3, .int .u64 l4] 64)) (v := .slice (some ⟨w9.heap.size, 0, none⟩) 1 1) (by rfl) rfl (by go_simp) ?_
  have hnb := new_below w9 (.cells #[.string (wrd ws 1), .int .i64 l1, .int .u64 l2, .int .i64 l3, .int .u64 l4] 64)
  obtain ⟨s0_, s1_, s2_, s3_, s4_, s5_⟩ := hHeld
  refine hK.out _ _ ⟨cell_below s0_ hnb, cell_below s1_ hnb, cell_below s2_ hnb, cell_below s3_ hnb, cell_below s4_ hnb, cell_below s5_ hnb⟩ (fun hHeld => ?_)
  clear hK K hnb
  refine norm_ (a' := ?_) ?_ ?_
  rotate_left
  ·show Act.put _ (some 152) _ = _
   simp only [Act.put, List.setIfInBounds_toArray, List.set_cons_zero, List.set_cons_succ, i64_w, i32_w]
   rfl
  refine one_ (i := 11) (N := some 153) #[true, true, true, true, true, true, true, true, true, true, true, true, false, false] rfl rfl (by kernel_rfl) (by decide) (fun K hK => ?_)
  refine Kd.R_append_step k64 (w0 := w0) w0.heap.size (by rfl) (.tmp 143) (.tmp 152) 25 64 (.agg #[.string ⟨#[]⟩, .int .i64 0, .int .u64 0, .int .i64 0, .int .u64 0]) 48 rfl Tryz.underlying25 info67 rfl (by decide) (by omega) (.slice Ag gs.length cg) gs ⟨wrd ws 1, ⟨l1, l2⟩, ⟨l3, l4⟩⟩ [.string (wrd ws 1), .int .i64 l1, .int .u64 l2, .int .i64 l3, .int .u64 l4] (fun _ => True) (fun _ => False) rfl rfl (k64_mkM _ _ _ _) (fun _ hk => hk.elim) (fun _ _ => trivial) HI.out.hr HI.out.hB (below_size HI.out.hB) (by have := HLEN.out; omega) ?_
  intro v9 w10 ho hb hg hat
  obtain ⟨Av, cv, rfl⟩ := Kd.R_slice ho
  have p1 := P_grown HI.out.hP HI.out.hr (by decide) hg
  replace H7 := Aside0.mk (P_grownT H7.out HI.out.hr (by decide) hg)
  replace H8 := Aside0.mk (P_grownT H8.out HI.out.hr (by decide) hg)
  replace HZ := Aside0.mk (P_grownT HZ.out HI.out.hr (by decide) hg); replace HY := Aside0.mk (P_grownT HY.out HI.out.hr (by decide) hg)
  replace HW := Aside0.mk (Kd.R_mono (Kd.R_grown (R_apart HI.out.hr HW.out (by decide)) hg (fun k hk => hk.2)) (fun _ _ => trivial))
  replace HI := Aside0.mk (HI.out.grant ho hb hg)
  have y2 : w10.cell? ⟨g, 4, none⟩ = some (.slice Ag gs.length cg) := (blk_cell p1 4).trans rfl
  have f2 := blk_frozen p1 4
  have HP1 := Aside0.mk p1
  refine hK.out _ _ ⟨y2, word_R HW.out HN.out.symm 1 (by have := HN.out; omega), (celg3 H7.out).1.1, (celg3 H7.out).1.2.1, (celg3 H8.out).1.1, (celg3 H8.out).1.2.1⟩ (fun hHeld => ?_)
  clear hK K ho hb hg hat p1
  refine norm_ (a' := ?_) ?_ ?_
  rotate_left
  ·show Act.put _ (some 153) _ = _
   simp only [Act.put, List.setIfInBounds_toArray, List.set_cons_zero, List.set_cons_succ, i64_w, i32_w]
   rfl
  refine pure_ (i := 12) (N := some 154) (v := ?_) (a' := ?_) #[true, true, true, true, true, true, true, true, true, true, true, true, true, false] rfl rfl (by kernel_rfl) (fun _ _ _ h => h) (Or.inl ⟨by rfl, ?_⟩) ?_ ?_
  rotate_left
  ·intro w'; go_simp; with_reducible rfl
  rotate_left
  ·simp only [Act.put, List.setIfInBounds_toArray, List.set_cons_zero, List.set_cons_succ, i64_w, i32_w]; rfl
  refine last_ (i := 13) (N := none) #[true, true, true, true, true, true, true, true, true, true, true, true, true, true] rfl rfl (by kernel_rfl) (by decide) (fun K hK => ?_)
  refine skip_ (w1 := ?_) (by rfl) rfl ?_ ?_
  rotate_left
  ·go_simp; rfl
  refine hK.out _ _ ?_
  clear hK K y2 f2 hHeld
  refine done_ (by kernel_rfl) ?_
  go_upto_region 23 with fail
  replace H7 := Aside0.mk (blk_far (p := ⟨g, 4, none⟩) H7.out n7 (.slice Av (gs.length + 1) cv))
  replace H8 := Aside0.mk (blk_far (p := ⟨g, 4, none⟩) H8.out n8 (.slice Av (gs.length + 1) cv))
  replace HZ := Aside0.mk (blk_far (p := ⟨g, 4, none⟩) HZ.out HN4.out (.slice Av (gs.length + 1) cv)); replace HY := Aside0.mk (blk_far (p := ⟨g, 4, none⟩) HY.out HNY.out (.slice Av (gs.length + 1) cv))
  replace HW := Aside0.mk (Kd.R_set HW.out HP1.out ne27_9 4 (.slice Av (gs.length + 1) cv))
  have hi := HI.out
  simp only [List.length_append, List.length_cons, List.length_nil, Nat.zero_add] at hi
  replace HI := Aside0.mk hi
  clear hi HP1 n7 n8
  generalize w10.setCell ⟨g, 4, none⟩ (.slice Av (gs.length + 1) cv) = w8 at H7 H8 HZ HY HW HI ⊢
  obtain ⟨⟨x0, x1, x2⟩, _⟩ := celg3 H7.out
  obtain ⟨⟨v0, v1, v2⟩, _⟩ := celg3 H8.out
  have e0 : w8.cell? ad = some (.string (wrd ws 0)) := word_R HW.out HN.out.symm 0 (by have := HN.out; omega)
  clear HW HN H7 H8
  by_cases hb : b1 = true ∧ b2 = true
  ·have h9 := hkd.out
   rw [if_pos hb] at h9
   subst h9
   obtain ⟨rfl, rfl⟩ := hb
   obtain ⟨y0, y1, y2, y3, y4⟩ := cells5_ HI.out.hP
   obtain ⟨z0, z1, z2, z3, z4⟩ := cells5_ HZ.out
   have f0 := blk_frozen HZ.out 0
   have f1 := blk_frozen HZ.out 1
   have f2 := blk_frozen HZ.out 2
   have f3 := blk_frozen HZ.out 3
   have f4 := blk_frozen HZ.out 4
   go_wp2
   refine bodyPost_ret (results_ct rfl _ _ g4 27 _ (0, 0) _ rfl (put5_ HZ.out _ _ _ _ _) hu rfl (by kernel_rfl)) rfl ?_
   exact ⟨_, _, _, rfl, lin_end HI.out HZ.out HG4.out HY.out HNY4.out _ _ _ _ _⟩
  ·have h9 := hkd.out
   rw [if_neg hb] at h9
   subst h9
   have d9 : (b1 && b2) = false := by revert hb; cases b1 <;> cases b2 <;> simp
   clear hb
   cases b1
   all_goals (try (cases b2))
   all_goals (try (simp at d9; done))
   all_goals
    obtain ⟨y0, y1, y2, y3, y4⟩ := cells5_ HI.out.hP
    obtain ⟨z0, z1, z2, z3, z4⟩ := cells5_ HZ.out
    have f0 := blk_frozen HZ.out 0
    have f1 := blk_frozen HZ.out 1
    have f2 := blk_frozen HZ.out 2
    have f3 := blk_frozen HZ.out 3
    have f4 := blk_frozen HZ.out 4
    go_wp2
    refine bodyPost_ret (results_ct rfl _ _ g4 27 _ (0, 0) _ rfl (put5_ HZ.out _ _ _ _ _) hu rfl (by kernel_rfl)) rfl ?_
    exact ⟨_, _, _, rfl, lin_end HI.out HZ.out HG4.out HY.out HNY4.out _ _ _ _ _⟩
theorem oculusref07_line.calls (k : Nat) (r c : Int) (vz vu vg : Value) (zs : List S60) (us : List S62) (gs : List S64) (s : ByteArray) (hl : s.size ≤ 100000) (kd r1 c1 : Int) (zs1 : List S60) (us1 : List S62) (gs1 : List S64) (gx : Nat) (cx : Array Value) (w0 w : World) (hV : Aside0 (IsV gx cx w0 w vz vu vg zs us gs)) (h : oculusref07_line.f k r c zs us gs s = some (kd, r1, c1, zs1, us1, gs1)) :
  Calls Tryz.prog 15 #[.agg #[.int .i64 r, .int .i64 c, vz, vu, vg], .string s] w fun en w' => Lin7 gx cx w0 w' en kd r1 c1 zs1 us1 gs1 := by
 unfold oculusref07_line.f at h
 by_cases hn : noLF s
 ·rw [if_pos hn] at h
  simp only [Option.some.injEq, Prod.mk.injEq] at h
  obtain ⟨rfl, rfl, rfl, rfl, rfl, rfl⟩ := h
  by_cases h0 : s.size = 0
  ·exact line_no0 k r c vz vu vg zs us gs s h0 gx cx w0 w hV
  ·exact line_no1 k r c vz vu vg zs us gs s h0 (hn.resolve_left h0) hl gx cx w0 w hV
 rw [if_neg hn] at h
 have h0 : s.size ≠ 0 := fun e => hn (Or.inl e)
 have h1 : bt s ((s.size : Int) - 1) = 10 := Classical.byContradiction fun e => hn (Or.inr e)
 obtain ⟨ws, hw, h⟩ := Option.bind_eq_some_iff.mp h
 by_cases k1 : ws.length = 3 ∧ (wrd ws 0).toList = [103, 114, 105, 100]
 ·rw [if_pos k1] at h
  obtain ⟨⟨m1, b1⟩, A1, h⟩ := Option.bind_eq_some_iff.mp h
  obtain ⟨⟨m2, b2⟩, A2, h⟩ := Option.bind_eq_some_iff.mp h
  simp only [Option.some.injEq, Prod.mk.injEq] at h
  obtain ⟨hk, rfl, rfl, rfl, rfl, rfl⟩ := h
  exact line_grid k r c vz vu vg zs us gs s h0 h1 hl ws hw k1.1 k1.2 m1 m2 b1 b2 A1 A2 kd ⟨hk.symm⟩ gx cx w0 w hV
 rw [if_neg k1] at h
 by_cases k2 : ws.length = 3 ∧ (wrd ws 0).toList = [122, 111, 110, 101]
 ·rw [if_pos k2] at h
  obtain ⟨⟨s1, s2, s3, s4, b1⟩, A1, h⟩ := Option.bind_eq_some_iff.mp h
  obtain ⟨⟨l1, l2, b2⟩, A2, h⟩ := Option.bind_eq_some_iff.mp h
  by_cases hlen : zs.length ≤ 100000
  case neg => rw [if_neg hlen] at h; cases h
  rw [if_pos hlen] at h
  simp only [Option.some.injEq, Prod.mk.injEq] at h
  obtain ⟨hk, rfl, rfl, rfl, rfl, rfl⟩ := h
  exact line_zone k r c vz vu vg zs us gs s h0 h1 hl ws hw k2.1 k2.2 s1 s2 s3 s4 l1 l2 b1 b2 A1 A2 hlen kd ⟨hk.symm⟩ gx cx w0 w hV
 rw [if_neg k2] at h
 by_cases k3 : ws.length = 3 ∧ (wrd ws 0).toList = [117, 115, 101, 114]
 ·rw [if_pos k3] at h
  obtain ⟨⟨l1, l2, b1⟩, A1, h⟩ := Option.bind_eq_some_iff.mp h
  by_cases hlen : us.length ≤ 100000
  case neg => rw [if_neg hlen] at h; cases h
  rw [if_pos hlen] at h
  simp only [Option.some.injEq, Prod.mk.injEq] at h
  obtain ⟨hk, rfl, rfl, rfl, rfl, rfl⟩ := h
  exact line_user k r c vz vu vg zs us gs s h0 h1 hl ws hw k3.1 k3.2 l1 l2 b1 A1 hlen kd ⟨hk.symm⟩ gx cx w0 w hV
 rw [if_neg k3] at h
 by_cases k4 : ws.length = 4 ∧ (wrd ws 0).toList = [103, 114, 97, 110, 116]
 ·rw [if_pos k4] at h
  obtain ⟨⟨l1, l2, b1⟩, A1, h⟩ := Option.bind_eq_some_iff.mp h
  obtain ⟨⟨l3, l4, b2⟩, A2, h⟩ := Option.bind_eq_some_iff.mp h
  by_cases hlen : gs.length ≤ 100000
  case neg => rw [if_neg hlen] at h; cases h
  rw [if_pos hlen] at h
  simp only [Option.some.injEq, Prod.mk.injEq] at h
  obtain ⟨hk, rfl, rfl, rfl, rfl, rfl⟩ := h
  exact line_grant k r c vz vu vg zs us gs s h0 h1 hl ws hw k4.1 k4.2 l1 l2 l3 l4 b1 b2 A1 A2 hlen kd ⟨hk.symm⟩ gx cx w0 w hV
 rw [if_neg k4] at h
 simp only [Option.some.injEq, Prod.mk.injEq] at h
 obtain ⟨rfl, rfl, rfl, rfl, rfl, rfl⟩ := h
 exact line_none k r c vz vu vg zs us gs s h0 h1 hl ws hw k1 k2 k3 k4 gx cx w0 w hV
end Go.Proofs.YtbboanfggaknjaaGreatDoor.X
namespace Go.Proofs.YtbboanfggaknjaaGreatDoor.X
open Go.RowKit Go.Proofs.YtbboanfggaknjaaGreatDoorW.PrintWords Go.Proofs.YtbboanfggaknjaaGreatDoorW.PrintLast Go.Proofs.YtbboanfggaknjaaGreatDoorW.PrintMore
attribute [local go_sem] max2_int min2_int max_two min_two max_three min_three max_four min_four
set_option linter.unusedVariables false
set_option linter.unusedSimpArgs false
def oculusref07_Lines.l0 : Nat → ByteArray → List ByteArray → Int → Int → Option (List ByteArray)
 | 0, _, _, _, _ => none
 | k + 1, x0, x3, x4, x5 => if x5 < (x0.size : Int) then (if 0 ≤ x5 then (if (bt x0 x5) = 10 then (if 0 ≤ x4 then (if x4 ≤ (wrap64 (x5 + 1)) then (if (wrap64 (x5 + 1)) ≤ (x0.size : Int) then (if x3.length < 8796093022208 then (oculusref07_Lines.l0 k x0 (x3 ++ [x0.extract (x4 : Int).toNat ((wrap64 (x5 + 1)) : Int).toNat]) (wrap64 (x5 + 1)) (wrap64 (x5 + 1))) else (none)) else (none)) else (none)) else (none)) else (oculusref07_Lines.l0 k x0 x3 x4 (wrap64 (x5 + 1)))) else (none)) else (if x4 < (x0.size : Int) then (if 0 ≤ x4 then (if x4 ≤ (x0.size : Int) then (if x3.length < 8796093022208 then (some (x3 ++ [x0.extract (x4 : Int).toNat x0.size])) else (none)) else (none)) else (none)) else (if (x0.size : Int) = 0 then (if 0 ≤ x4 then (if x4 ≤ (x0.size : Int) then (if x3.length < 8796093022208 then (some (x3 ++ [x0.extract (x4 : Int).toNat x0.size])) else (none)) else (none)) else (none)) else (some x3)))
def oculusref07_Lines.f (k : Nat) (a0 : ByteArray) : Option (List ByteArray) := oculusref07_Lines.l0 k a0 ([] : List ByteArray) 0 0
theorem oculusref07_Lines.calls (k : Nat) (a0 : ByteArray) (r : List ByteArray) (w : World) (h : oculusref07_Lines.f k a0 = some r) :
  Calls Tryz.prog 14 #[.string a0] w fun e w' => ∃ v0_ : Value, e = .returned (v0_) ∧ Kd.R Kd.string 9 w' w.heap.size (fun _ => True) v0_ r ∧ Below w.heap.size w w' := by
 have HB := A_ (Below.refl w.heap.size w)
 have H : (oculusref07_Lines.l0 k a0 ([] : List ByteArray) 0 0) = some r := h
 clear h
 have H' := A_ H
 clear H
 go_enter Tryz.func14, Tryz.ntmps14
 go_wp2
 go_loopg [3, 4, 5] k (fun kq v3 v4 v5 w' => ∃ (x3_1 : List ByteArray) (x4_1 : Int) (x5_1 : Int), v4 = .int .i64 x4_1 ∧ v5 = .int .i64 x5_1 ∧ Aside0 (oculusref07_Lines.l0 kq a0 x3_1 x4_1 x5_1 = some r) ∧ Aside0 (kq ≤ k) ∧ Aside0 (Kd.R Kd.string 9 w' w.heap.size (fun _ => True) v3 x3_1) ∧ Aside0 (Below w.heap.size w w'))
 case atStart => exact ⟨(([] : List ByteArray)), (0), (0), sq_, sq_, H', ⟨Nat.le_refl _⟩, ⟨by first | exact Kd.R_nil _ _ _ _ _ | exact Kd.N_nil _ _ _ _ _ | exact Kd.V_nil _ _ _ _ _ | exact Kd.Q_nil _ _ _ _ _ | exact Kd.S_nil _ _ _ _ _⟩, ⟨pbx HB⟩⟩
 case round =>
  clear H'; obtain ⟨x3_1, x4_1, x5_1, rfl, rfl, HA, HK1, HO_3, HB⟩ := hrel
  cases gk with
  | zero => exact absurd HA.out (by simp [oculusref07_Lines.l0])
  | succ k1 =>
   have H := HA.out; clear HA
   simp only [oculusref07_Lines.l0] at H
   by_cases c2 : x5_1 < (a0.size : Int)
   ·rw [if_pos c2] at H; have c2b0 := decide_eq_true c2; clear c2
    by_cases c3 : 0 ≤ x5_1
    ·rw [if_pos c3] at H; have c3b0 := decide_eq_true c3; clear c3
     by_cases c5 : (bt a0 x5_1) = 10
     ·rw [if_pos c5] at H; have ⟨c5b0,c5b1⟩ := e1_ c5; clear c5
      by_cases c6 : 0 ≤ x4_1
      ·rw [if_pos c6] at H; have c6b0 := eq_true c6; have c6b1 := decide_eq_true c6; clear c6
       by_cases c7 : x4_1 ≤ (wrap64 (x5_1 + 1))
       ·rw [if_pos c7] at H; have c7b0 := eq_true c7; have c7b1 := decide_eq_true c7
        by_cases c8 : (wrap64 (x5_1 + 1)) ≤ (a0.size : Int)
        ·rw [if_pos c8] at H; have c8b0 := eq_true c8; have c8b1 := decide_eq_true c8
         by_cases c9 : x3_1.length < 8796093022208
         ·rw [if_pos c9] at H; have LMc9 := A_ c9; clear c9; obtain ⟨y101, hy101⟩ : ∃ y_ : List ByteArray, y_ = (x3_1 ++ [a0.extract (x4_1 : Int).toNat ((wrap64 (x5_1 + 1)) : Int).toNat]) := ⟨_, rfl⟩
          replace H : (oculusref07_Lines.l0 k1 a0 y101 (wrap64 (x5_1 + 1)) (wrap64 (x5_1 + 1))) = some r := by first | (rw [hy101]; with_reducible exact H) | (have H2_ := (Option.bind_some _ _).symm.trans H; rw [hy101]; with_reducible exact H2_) | (have H2_ := (Option.bind_some _ _).symm.trans H; with_reducible exact H2_) | with_reducible exact H | (rw [hy101]; exact H) | exact H
          have Ny101 := A_ hy101; clear hy101
          have H' := A_ H
          clear H
          have p4 : 0 ≤ (x5_1 : Int) := of_decide_eq_true as_
          have q4 : x5_1 < (a0.size : Int) := of_decide_eq_true as_
          have hx4 := bt_at a0 x5_1; replace p4 := eq_true p4; replace q4 := eq_true q4
          go_wp2_with (first | ((with_reducible refine gate_builtin (b := .append) (xs := #[.tmp 16, .tmp 22]) rfl ?_); (try (refine gate_guard (by rfl) ?_; dsimp only)); at_builtin; refine Kd.R_append Kd.string (w0 := w) w.heap.size rfl (.tmp 16) (.tmp 22) 44 9 (.string ⟨#[]⟩) 16 rfl Tryz.underlying44 info9 rfl (by decide) (by omega) u3 x3_1 (a0.extract (x4_1 : Int).toNat ((wrap64 (x5_1 + 1)) : Int).toNat) [.string (a0.extract (x4_1 : Int).toNat ((wrap64 (x5_1 + 1)) : Int).toNat)] (fun _ => True) (fun _ => False) rfl rfl ?aP (fun _ hk => hk.elim) ?aF ?aO ?aB ?aS ?aL ?_; (case aP => exact rfl); (case aB => exact (pbx HB)); (case aF => exact (fun _ _ => trivial)); (case aO => exact (ra_ HO_3.out)); (case aS => exact (below_size (pbx HB))); (case aL => have := LMc9.out; omega); intro v102 w10 ho hb hg hat; rw [← Ny101.out] at ho; have HO103 := A_ (ho); replace HB := A_ (hb); clear HO_3; clear ho hb hg hat))
          go_roundg k1
          case measure => have := HK1.out; omega
          case rel => exact ⟨(y101), (wrap64 (x5_1 + 1)), (wrap64 (x5_1 + 1)), sq_, sq_, H', ⟨by have := HK1.out; omega⟩, ⟨ra_ HO103.out⟩, ⟨pbx HB⟩⟩
         ·rw [if_neg c9] at H
          exact absurd H (by simp)
        ·rw [if_neg c8] at H
         exact absurd H (by simp)
       ·rw [if_neg c7] at H
        exact absurd H (by simp)
      ·rw [if_neg c6] at H
       exact absurd H (by simp)
     ·rw [if_neg c5] at H; have ⟨c5b0,c5b1⟩ := e0_ c5
      have H' := A_ H
      clear H
      have p4 : 0 ≤ (x5_1 : Int) := of_decide_eq_true as_
      have q4 : x5_1 < (a0.size : Int) := of_decide_eq_true as_
      have hx4 := bt_at a0 x5_1; replace p4 := eq_true p4; replace q4 := eq_true q4
      go_wp2
      go_roundg k1
      case measure => have := HK1.out; omega
      case rel => exact ⟨(x3_1), (x4_1), (wrap64 (x5_1 + 1)), sq_, sq_, H', ⟨by have := HK1.out; omega⟩, ⟨ra_ HO_3.out⟩, ⟨pbx HB⟩⟩
    ·rw [if_neg c3] at H
     exact absurd H (by simp)
   ·rw [if_neg c2] at H; have c2b0 := decide_eq_false c2; clear c2
    by_cases c11 : x4_1 < (a0.size : Int)
    ·rw [if_pos c11] at H; have c11b0 := decide_eq_true c11; clear c11
     by_cases c12 : 0 ≤ x4_1
     ·rw [if_pos c12] at H; have c12b0 := eq_true c12; have c12b1 := decide_eq_true c12; clear c12
      by_cases c13 : x4_1 ≤ (a0.size : Int)
      ·rw [if_pos c13] at H; have c13b0 := eq_true c13; have c13b1 := decide_eq_true c13; clear c13
       by_cases c14 : x3_1.length < 8796093022208
       ·rw [if_pos c14] at H; have LMc14 := A_ c14; clear c14; obtain ⟨y104, hy104⟩ : ∃ y_ : List ByteArray, y_ = (x3_1 ++ [a0.extract (x4_1 : Int).toNat a0.size]) := ⟨_, rfl⟩
        replace H : (some y104) = some r := by first | (rw [hy104]; with_reducible exact H) | (have H2_ := (Option.bind_some _ _).symm.trans H; rw [hy104]; with_reducible exact H2_) | (have H2_ := (Option.bind_some _ _).symm.trans H; with_reducible exact H2_) | with_reducible exact H | (rw [hy104]; exact H) | exact H
        have Ny104 := A_ hy104; clear hy104; obtain rfl := Option.some.inj H
        go_wp2_with (first | ((with_reducible refine gate_builtin (b := .append) (xs := #[.tmp 35, .tmp 39]) rfl ?_); (try (refine gate_guard (by rfl) ?_; dsimp only)); at_builtin; refine Kd.R_append Kd.string (w0 := w) w.heap.size rfl (.tmp 35) (.tmp 39) 44 9 (.string ⟨#[]⟩) 16 rfl Tryz.underlying44 info9 rfl (by decide) (by omega) u3 x3_1 (a0.extract (x4_1 : Int).toNat a0.size) [.string (a0.extract (x4_1 : Int).toNat a0.size)] (fun _ => True) (fun _ => False) rfl rfl ?aP (fun _ hk => hk.elim) ?aF ?aO ?aB ?aS ?aL ?_; (case aP => exact rfl); (case aB => exact (pbx HB)); (case aF => exact (fun _ _ => trivial)); (case aO => exact (ra_ HO_3.out)); (case aS => exact (below_size (pbx HB))); (case aL => have := LMc14.out; omega); intro v105 w15 ho hb hg hat; rw [← Ny104.out] at ho; have HO106 := A_ (ho); replace HB := A_ (hb); clear HO_3; clear ho hb hg hat))
        go_ret
        exact ⟨_, by first | rfl | (simp [errW_none, errW_some] <;> rfl) | (simp [*, errW_none, errW_some] <;> rfl), ra_ HO106.out, pbx HB⟩
       ·rw [if_neg c14] at H
        exact absurd H (by simp)
      ·rw [if_neg c13] at H
       exact absurd H (by simp)
     ·rw [if_neg c12] at H
      exact absurd H (by simp)
    ·rw [if_neg c11] at H; have c11b0 := decide_eq_false c11; clear c11
     by_cases c16 : (a0.size : Int) = 0
     ·rw [if_pos c16] at H; have ⟨c16b0,c16b1⟩ := e1_ c16; clear c16
      by_cases c17 : 0 ≤ x4_1
      ·rw [if_pos c17] at H; have c17b0 := eq_true c17; have c17b1 := decide_eq_true c17; clear c17
       by_cases c18 : x4_1 ≤ (a0.size : Int)
       ·rw [if_pos c18] at H; have c18b0 := eq_true c18; have c18b1 := decide_eq_true c18; clear c18
        by_cases c19 : x3_1.length < 8796093022208
        ·rw [if_pos c19] at H; have LMc19 := A_ c19; clear c19; obtain ⟨y107, hy107⟩ : ∃ y_ : List ByteArray, y_ = (x3_1 ++ [a0.extract (x4_1 : Int).toNat a0.size]) := ⟨_, rfl⟩
         replace H : (some y107) = some r := by first | (rw [hy107]; with_reducible exact H) | (have H2_ := (Option.bind_some _ _).symm.trans H; rw [hy107]; with_reducible exact H2_) | (have H2_ := (Option.bind_some _ _).symm.trans H; with_reducible exact H2_) | with_reducible exact H | (rw [hy107]; exact H) | exact H
         have Ny107 := A_ hy107; clear hy107; obtain rfl := Option.some.inj H
         go_wp2_with (first | ((with_reducible refine gate_builtin (b := .append) (xs := #[.tmp 35, .tmp 39]) rfl ?_); (try (refine gate_guard (by rfl) ?_; dsimp only)); at_builtin; refine Kd.R_append Kd.string (w0 := w) w.heap.size rfl (.tmp 35) (.tmp 39) 44 9 (.string ⟨#[]⟩) 16 rfl Tryz.underlying44 info9 rfl (by decide) (by omega) u3 x3_1 (a0.extract (x4_1 : Int).toNat a0.size) [.string (a0.extract (x4_1 : Int).toNat a0.size)] (fun _ => True) (fun _ => False) rfl rfl ?aP (fun _ hk => hk.elim) ?aF ?aO ?aB ?aS ?aL ?_; (case aP => exact rfl); (case aB => exact (pbx HB)); (case aF => exact (fun _ _ => trivial)); (case aO => exact (ra_ HO_3.out)); (case aS => exact (below_size (pbx HB))); (case aL => have := LMc19.out; omega); intro v108 w20 ho hb hg hat; rw [← Ny107.out] at ho; have HO109 := A_ (ho); replace HB := A_ (hb); clear HO_3; clear ho hb hg hat))
         go_ret
         exact ⟨_, by first | rfl | (simp [errW_none, errW_some] <;> rfl) | (simp [*, errW_none, errW_some] <;> rfl), ra_ HO109.out, pbx HB⟩
        ·rw [if_neg c19] at H
         exact absurd H (by simp)
       ·rw [if_neg c18] at H
        exact absurd H (by simp)
      ·rw [if_neg c17] at H
       exact absurd H (by simp)
     ·rw [if_neg c16] at H; have ⟨c16b0,c16b1⟩ := e0_ c16; obtain rfl := Option.some.inj H
      go_wp2
      go_ret
      exact ⟨_, by first | rfl | (simp [errW_none, errW_some] <;> rfl) | (simp [*, errW_none, errW_some] <;> rfl), ra_ HO_3.out, pbx HB⟩

def oculusref03_May.f (a0_0 : Int) (a0_1 : Int) : Option (Bool) := if a0_0 ≥ 0 then (if a0_0 ≤ 998 then (if a0_1 ≥ 0 then (some (decide (a0_1 ≤ 701))) else (some false)) else (some false)) else (some false)
theorem oculusref03_May.calls (a0_0 : Int) (a0_1 : Int) (r : Bool) (w : World) (h : oculusref03_May.f a0_0 a0_1 = some r) :
  Calls Tryz.prog 86 #[.agg #[.int .i64 a0_0, .int .i64 a0_1]] w fun e w' => e = .returned (.bool r) ∧ Below w.heap.size w w' := by
 have hu39 := Tryz.underlying39; have HB := A_ (Below.refl w.heap.size w)
 have H : (if a0_0 ≥ 0 then (if a0_0 ≤ 998 then (if a0_1 ≥ 0 then (some (decide (a0_1 ≤ 701))) else (some false)) else (some false)) else (some false)) = some r := h
 clear h
 by_cases c2 : a0_0 ≥ 0
 ·rw [if_pos c2] at H; have c2b0 := decide_eq_true c2; clear c2
  by_cases c3 : a0_0 ≤ 998
  ·rw [if_pos c3] at H; have c3b0 := decide_eq_true c3; clear c3
   by_cases c4 : a0_1 ≥ 0
   ·rw [if_pos c4] at H; have c4b0 := decide_eq_true c4; clear c4; obtain rfl := Option.some.inj H
    go_enter Tryz.func86, Tryz.ntmps86
    go_wp2_with (first | ((with_reducible refine gd_ 1 ?_); refine be_ (N:=1) (cs := #[.int .i64 a0_0, .int .i64 a0_1]) (t:=39) ?_; intro g1 hg w5 hbox hb; have B1 := A_ (hbox); replace HB := bs_ HB hb; clear hb hbox hg; have hcz6_0 : w5.cell? ⟨g1, 0, none⟩ = some (.int .i64 a0_0) := bc_ B1 0 rfl; have hcz6_1 : w5.cell? ⟨g1, 1, none⟩ = some (.int .i64 a0_1) := bc_ B1 1 rfl))
    go_ret
    exact fi_ (pbx HB)
   ·rw [if_neg c4] at H; have c4b0 := decide_eq_false c4; clear c4; obtain rfl := Option.some.inj H
    go_enter Tryz.func86, Tryz.ntmps86
    go_wp2_with (first | ((with_reducible refine gd_ 1 ?_); refine be_ (N:=1) (cs := #[.int .i64 a0_0, .int .i64 a0_1]) (t:=39) ?_; intro g1 hg w7 hbox hb; have B1 := A_ (hbox); replace HB := bs_ HB hb; clear hb hbox hg; have hcz8_0 : w7.cell? ⟨g1, 0, none⟩ = some (.int .i64 a0_0) := bc_ B1 0 rfl; have hcz8_1 : w7.cell? ⟨g1, 1, none⟩ = some (.int .i64 a0_1) := bc_ B1 1 rfl))
    go_ret
    exact fi_ (pbx HB)
  ·rw [if_neg c3] at H; have c3b0 := decide_eq_false c3; clear c3; obtain rfl := Option.some.inj H
   go_enter Tryz.func86, Tryz.ntmps86
   go_wp2_with (first | ((with_reducible refine gd_ 1 ?_); refine be_ (N:=1) (cs := #[.int .i64 a0_0, .int .i64 a0_1]) (t:=39) ?_; intro g1 hg w9 hbox hb; have B1 := A_ (hbox); replace HB := bs_ HB hb; clear hb hbox hg; have hcz10_0 : w9.cell? ⟨g1, 0, none⟩ = some (.int .i64 a0_0) := bc_ B1 0 rfl; have hcz10_1 : w9.cell? ⟨g1, 1, none⟩ = some (.int .i64 a0_1) := bc_ B1 1 rfl))
   go_ret
   exact fi_ (pbx HB)
 ·rw [if_neg c2] at H; have c2b0 := decide_eq_false c2; clear c2; obtain rfl := Option.some.inj H
  go_enter Tryz.func86, Tryz.ntmps86
  go_wp2_with (first | ((with_reducible refine gd_ 1 ?_); refine be_ (N:=1) (cs := #[.int .i64 a0_0, .int .i64 a0_1]) (t:=39) ?_; intro g1 hg w11 hbox hb; have B1 := A_ (hbox); replace HB := bs_ HB hb; clear hb hbox hg; have hcz12_0 : w11.cell? ⟨g1, 0, none⟩ = some (.int .i64 a0_0) := bc_ B1 0 rfl; have hcz12_1 : w11.cell? ⟨g1, 1, none⟩ = some (.int .i64 a0_1) := bc_ B1 1 rfl))
  go_ret
  exact fi_ (pbx HB)

def oculusref04_May.f (a0_0 : Int) (a0_1 : Int) (a0_2 : Int) (a0_3 : Int) : Option (Bool) := (oculusref03_May.f a0_0 a0_1).bind fun t102 => (if t102 = true then ((oculusref03_May.f a0_2 a0_3).bind fun t103 => (some t103)) else (some false))
theorem oculusref04_May.calls (a0_0 : Int) (a0_1 : Int) (a0_2 : Int) (a0_3 : Int) (r : Bool) (w : World) (h : oculusref04_May.f a0_0 a0_1 a0_2 a0_3 = some r) :
  Calls Tryz.prog 62 #[.agg #[.int .i64 a0_0, .int .i64 a0_1, .int .i64 a0_2, .int .i64 a0_3]] w fun e w' => e = .returned (.bool r) ∧ Below w.heap.size w w' := by
 have hu55 := Tryz.underlying55; have hu39 := Tryz.underlying39; have HB := A_ (Below.refl w.heap.size w)
 have H : ((oculusref03_May.f a0_0 a0_1).bind fun t102 => (if t102 = true then ((oculusref03_May.f a0_2 a0_3).bind fun t103 => (some t103)) else (some false))) = some r := h
 clear h; obtain ⟨t102, A2, H⟩ := bo_ H
 by_cases c3 : t102 = true
 ·subst c3
  obtain ⟨t103, A4, H⟩ := bo_ (it_ H); obtain rfl := Option.some.inj H
  go_enter Tryz.func62, Tryz.ntmps62
  go_wp2_with (first | ((with_reducible refine gd_ 1 ?_); refine be_ (N:=1) (cs := #[.int .i64 a0_0, .int .i64 a0_1, .int .i64 a0_2, .int .i64 a0_3]) (t:=55) ?_; intro g1 hg w5 hbox hb; have B1 := A_ (hbox); replace HB := bs_ HB hb; clear hb hbox hg; have hcz6_0 : w5.cell? ⟨g1, 0, none⟩ = some (.int .i64 a0_0) := bc_ B1 0 rfl; have hcz6_1 : w5.cell? ⟨g1, 1, none⟩ = some (.int .i64 a0_1) := bc_ B1 1 rfl; have hcz6_2 : w5.cell? ⟨g1, 2, none⟩ = some (.int .i64 a0_2) := bc_ B1 2 rfl; have hcz6_3 : w5.cell? ⟨g1, 3, none⟩ = some (.int .i64 a0_3) := bc_ B1 3 rfl) | ((with_reducible refine gate_callee (f:=86) rfl ?_); refine gL_ (some 5) rfl rfl Tryz.func86 rfl #[.agg #[.int .i64 a0_0, .int .i64 a0_1]] rfl ?_; (with_reducible refine (oculusref03_May.calls a0_0 a0_1 true _ A2.out).mono ?_); rintro e w7 ⟨rfl, hb⟩; refine ⟨_, rfl, ?_⟩; replace B1 := bb_ B1 hb; replace HB := bs_ HB hb; have hcz8_0 : w7.cell? ⟨g1, 0, none⟩ = some (.int .i64 a0_0) := bc_ B1 0 rfl; have hcz8_1 : w7.cell? ⟨g1, 1, none⟩ = some (.int .i64 a0_1) := bc_ B1 1 rfl; have hcz8_2 : w7.cell? ⟨g1, 2, none⟩ = some (.int .i64 a0_2) := bc_ B1 2 rfl; have hcz8_3 : w7.cell? ⟨g1, 3, none⟩ = some (.int .i64 a0_3) := bc_ B1 3 rfl) | (go_at_call 86; (with_reducible refine (oculusref03_May.calls a0_2 a0_3 t103 _ A4.out).mono ?_); rintro e w9 ⟨rfl, hb⟩; replace B1 := bb_ B1 hb; replace HB := bs_ HB hb; ))
  go_ret
  exact fi_ (pbx HB)
 ·replace c3 := Bool.eq_false_iff.mpr c3; subst c3
  replace H := ie_ H; obtain rfl := Option.some.inj H
  go_enter Tryz.func62, Tryz.ntmps62
  go_wp2_with (first | ((with_reducible refine gd_ 1 ?_); refine be_ (N:=1) (cs := #[.int .i64 a0_0, .int .i64 a0_1, .int .i64 a0_2, .int .i64 a0_3]) (t:=55) ?_; intro g1 hg w10 hbox hb; have B1 := A_ (hbox); replace HB := bs_ HB hb; clear hb hbox hg; have hcz11_0 : w10.cell? ⟨g1, 0, none⟩ = some (.int .i64 a0_0) := bc_ B1 0 rfl; have hcz11_1 : w10.cell? ⟨g1, 1, none⟩ = some (.int .i64 a0_1) := bc_ B1 1 rfl; have hcz11_2 : w10.cell? ⟨g1, 2, none⟩ = some (.int .i64 a0_2) := bc_ B1 2 rfl; have hcz11_3 : w10.cell? ⟨g1, 3, none⟩ = some (.int .i64 a0_3) := bc_ B1 3 rfl) | ((with_reducible refine gate_callee (f:=86) rfl ?_); refine gL_ (some 5) rfl rfl Tryz.func86 rfl #[.agg #[.int .i64 a0_0, .int .i64 a0_1]] rfl ?_; (with_reducible refine (oculusref03_May.calls a0_0 a0_1 false _ A2.out).mono ?_); rintro e w12 ⟨rfl, hb⟩; refine ⟨_, rfl, ?_⟩; replace B1 := bb_ B1 hb; replace HB := bs_ HB hb; ))
  go_ret
  exact fi_ (pbx HB)

mutual
def oculusref05_Wrong.l0 : Nat → List (S60) → Int → Int → Int → Option (Int × Int)
 | 0, _, _, _, _ => none
 | k + 1, x0, x1, x2, x7 => if x7 < (x0.length : Int) then (if 0 ≤ x7 then (if x7 > 31 then (some (x7, 10)) else ((oculusref04_May.f ((rd_T60 x0 x7).f0.f0.f0) ((rd_T60 x0 x7).f0.f0.f1) ((rd_T60 x0 x7).f0.f1.f0) ((rd_T60 x0 x7).f0.f1.f1)).bind fun t104 => (if t104 = true then (if ((rd_T60 x0 x7).f0.f0.f0) > ((rd_T60 x0 x7).f0.f1.f0) then (oculusref05_Wrong.j1 k x0 x1 x2 x7 true ((rd_T60 x0 x7).f0.f0.f0) ((rd_T60 x0 x7).f0.f0.f1) ((rd_T60 x0 x7).f0.f1.f0) ((rd_T60 x0 x7).f0.f1.f1) ((rd_T60 x0 x7).f1.f0) ((rd_T60 x0 x7).f1.f1)) else (oculusref05_Wrong.j1 k x0 x1 x2 x7 (decide (((rd_T60 x0 x7).f0.f0.f1) > ((rd_T60 x0 x7).f0.f1.f1))) ((rd_T60 x0 x7).f0.f0.f0) ((rd_T60 x0 x7).f0.f0.f1) ((rd_T60 x0 x7).f0.f1.f0) ((rd_T60 x0 x7).f0.f1.f1) ((rd_T60 x0 x7).f1.f0) ((rd_T60 x0 x7).f1.f1))) else (oculusref05_Wrong.j1 k x0 x1 x2 x7 true ((rd_T60 x0 x7).f0.f0.f0) ((rd_T60 x0 x7).f0.f0.f1) ((rd_T60 x0 x7).f0.f1.f0) ((rd_T60 x0 x7).f0.f1.f1) ((rd_T60 x0 x7).f1.f0) ((rd_T60 x0 x7).f1.f1))))) else (none)) else (some (0, 0))
def oculusref05_Wrong.j1 : Nat → List (S60) → Int → Int → Int → Bool → Int → Int → Int → Int → Int → Int → Option (Int × Int)
 | 0, _, _, _, _, _, _, _, _, _, _, _ => none
 | k + 1, x0, x1, x2, x7, x48, x104000, x104001, x104002, x104003, x104004, x104005 => if x48 = true then (some (x7, 1)) else (if x104002 ≥ x1 then (oculusref05_Wrong.j2 k x0 x1 x2 x7 true x104000 x104001 x104002 x104003 x104004 x104005) else (oculusref05_Wrong.j2 k x0 x1 x2 x7 (decide (x104003 ≥ x2)) x104000 x104001 x104002 x104003 x104004 x104005))
def oculusref05_Wrong.j2 : Nat → List (S60) → Int → Int → Int → Bool → Int → Int → Int → Int → Int → Int → Option (Int × Int)
 | 0, _, _, _, _, _, _, _, _, _, _, _ => none
 | k + 1, x0, x1, x2, x7, x64, x104000, x104001, x104002, x104003, x104004, x104005 => if x64 = true then (some (x7, 2)) else (if x104004 < 0 then (some (x7, 7)) else (if x104004 > 15 then (some (x7, 7)) else (oculusref05_Wrong.l0 k x0 x1 x2 (wrap64 (x7 + 1)))))
end
def oculusref05_Wrong.f (k : Nat) (l0 : List (S60)) (a1 : Int) (a2 : Int) : Option (Int × Int) := oculusref05_Wrong.l0 k l0 a1 a2 0
theorem oculusref05_Wrong.calls (k : Nat) (A0 : Option Addr) (c0 : Nat) (l0 : List (S60)) (a1 : Int) (a2 : Int) (r1 : Int) (r2 : Int) (w : World) (hr0 : Kd.C k60 w A0 l0.length l0) (hc0 : l0.length ≤ c0) (h : oculusref05_Wrong.f k l0 a1 a2 = some (r1, r2)) :
  Calls Tryz.prog 37 #[.slice A0 l0.length c0, .int .i64 a1, .int .i64 a2] w fun e w' => e = .returned (.agg #[.int .i64 r1, .int .i64 r2]) ∧ Below w.heap.size w w' := by
 have hu52 := Tryz.underlying52; have hu60 := Tryz.underlying60; have hu55 := Tryz.underlying55; have HR0 := A_ hr0; have HC0 := A_ hc0; clear hr0 hc0; have HB := A_ (Below.refl w.heap.size w)
 have H : (oculusref05_Wrong.l0 k l0 a1 a2 0) = some (r1, r2) := h
 clear h
 have H' := A_ H
 clear H
 go_enter Tryz.func37, Tryz.ntmps37
 go_wp2_with (first | ((with_reducible refine gd_ 6 ?_); refine be_ (N:=6) (cs := #[.int .i64 0, .int .i64 0]) (t:=52) ?_; intro g1 hg w4 hbox hb; have B1 := A_ (hbox); have GW101 := hs_ HB hg; have GE101 := hs_ HB hg; replace HB := bs_ HB hb; clear hb hbox hg))
 go_loopg [7] k (fun kq v7 w' => ∃ (x7_1 : Int) (x102000_1 : Int) (x102001_1 : Int), v7 = .int .i64 x7_1 ∧ Aside0 (oculusref05_Wrong.l0 kq l0 a1 a2 x7_1 = some (r1, r2)) ∧ Aside0 (kq ≤ k) ∧ Aside0 (w'.heap[g1]? = some (.cells #[.int .i64 x102000_1, .int .i64 x102001_1] 52 (0, 0))) ∧ Aside0 (Below w.heap.size w w'))
 case atStart => exact ⟨(0), (0), (0), sq_, H', ⟨Nat.le_refl _⟩, ⟨pkx B1⟩, ⟨pbx HB⟩⟩
 case round =>
  clear H'; obtain ⟨x7_1, x102000_1, x102001_1, rfl, HA, HK1, B1, HB⟩ := hrel
  cases gk with
  | zero => exact absurd HA.out (by simp [oculusref05_Wrong.l0])
  | succ k1 =>
   have H := HA.out; clear HA
   simp only [oculusref05_Wrong.l0] at H
   by_cases c5 : x7_1 < (l0.length : Int)
   ·rw [if_pos c5] at H; have c5b0 := decide_eq_true c5; clear c5
    by_cases c6 : 0 ≤ x7_1
    ·rw [if_pos c6] at H; have c6b0 := decide_eq_true c6; clear c6
     by_cases c7 : x7_1 > 31
     ·rw [if_pos c7] at H; have c7b0 := decide_eq_true c7; clear c7
      simp only [Option.some.injEq, Prod.mk.injEq] at H
      obtain ⟨rfl, rfl⟩ := H
      have p102 : 0 ≤ (x7_1 : Int) := of_decide_eq_true as_
      have q102 : x7_1 < (l0.length : Int) := of_decide_eq_true as_
      obtain ⟨ad102, e102, hx102_0, hx102_1, hx102_2, hx102_3, hx102_4, hx102_5⟩ := at_T60 HR0.out x7_1 p102 q102
      cases e102
      replace hx102_0 := (HB.out.cell (World.block_lt_of_cell? w _ hx102_0)).trans hx102_0; replace hx102_1 := (HB.out.cell (World.block_lt_of_cell? w _ hx102_1)).trans hx102_1; replace hx102_2 := (HB.out.cell (World.block_lt_of_cell? w _ hx102_2)).trans hx102_2; replace hx102_3 := (HB.out.cell (World.block_lt_of_cell? w _ hx102_3)).trans hx102_3; replace hx102_4 := (HB.out.cell (World.block_lt_of_cell? w _ hx102_4)).trans hx102_4; replace hx102_5 := (HB.out.cell (World.block_lt_of_cell? w _ hx102_5)).trans hx102_5; replace p102 := eq_true p102; replace q102 := eq_true q102
      go_wp2_with (first | ((with_reducible refine gd_ 8 ?_); refine be_ (N:=8) (cs := #[.int .i64 0, .int .i64 0, .int .i64 0, .int .i64 0, .int .i64 0, .int .u64 0]) (t:=60) ?_; intro g3 hg w8 hbox hb; have B3 := A_ (hbox); have GW103 := hs_ HB hg; have GE103 := hs_ HB hg; have N13 := hl_ B1 hg; have N31 := hr_ B1 hg; replace B1 := bb_ B1 hb; replace HB := bs_ HB hb; clear hb hbox hg; have hnb9 := N31.out; have hnc9 := N13.out; have ⟨hcz10_0,hcz10_1,hcz10_2,hcz10_3,hcz10_4,hcz10_5,hfz10_0,hfz10_1,hfz10_2,hfz10_3,hfz10_4,hfz10_5⟩ := z6_ B3; have ⟨hcz11_0,hcz11_1,hfz11_0,hfz11_1⟩ := z2_ B1))
      refine bodyPost_ret (results_cell_row rfl _ _ g1 52 #[.int .i64 x7_1, .int .i64 10] (0, 0) _ rfl (by refine pp_ (cs := #[.int .i64 x7_1, .int .i64 x102001_1]) 1 ?_ rfl; refine blk_put (cs := #[.int .i64 x102000_1, .int .i64 x102001_1]) ?_ 0 _ rfl; (iterate 6 refine pf_ ?_ N13.out); exact pkx B1) Tryz.underlying52 rfl (by kernel_rfl)) rfl ?_
      exact fi_ bl_
     ·rw [if_neg c7] at H; have c7b0 := decide_eq_false c7; clear c7; have HC12 := A_ H; clear H
      have p102 : 0 ≤ (x7_1 : Int) := of_decide_eq_true as_
      have q102 : x7_1 < (l0.length : Int) := of_decide_eq_true as_
      obtain ⟨ad102, e102, hx102_0, hx102_1, hx102_2, hx102_3, hx102_4, hx102_5⟩ := at_T60 HR0.out x7_1 p102 q102
      cases e102
      replace hx102_0 := (HB.out.cell (World.block_lt_of_cell? w _ hx102_0)).trans hx102_0; replace hx102_1 := (HB.out.cell (World.block_lt_of_cell? w _ hx102_1)).trans hx102_1; replace hx102_2 := (HB.out.cell (World.block_lt_of_cell? w _ hx102_2)).trans hx102_2; replace hx102_3 := (HB.out.cell (World.block_lt_of_cell? w _ hx102_3)).trans hx102_3; replace hx102_4 := (HB.out.cell (World.block_lt_of_cell? w _ hx102_4)).trans hx102_4; replace hx102_5 := (HB.out.cell (World.block_lt_of_cell? w _ hx102_5)).trans hx102_5; replace p102 := eq_true p102; replace q102 := eq_true q102
      go_upto_region 7 with (first | ((with_reducible refine gd_ 8 ?_); refine be_ (N:=8) (cs := #[.int .i64 0, .int .i64 0, .int .i64 0, .int .i64 0, .int .i64 0, .int .u64 0]) (t:=60) ?_; intro g3 hg w13 hbox hb; have B3 := A_ (hbox); have GW103 := hs_ HB hg; have GE103 := hs_ HB hg; have N13 := hl_ B1 hg; have N31 := hr_ B1 hg; replace B1 := bb_ B1 hb; replace HB := bs_ HB hb; clear hb hbox hg; have hnb14 := N31.out; have hnc14 := N13.out; have ⟨hcz15_0,hcz15_1,hcz15_2,hcz15_3,hcz15_4,hcz15_5,hfz15_0,hfz15_1,hfz15_2,hfz15_3,hfz15_4,hfz15_5⟩ := z6_ B3))
      (try simp only [q_])
      go_cut [48] (fun v48 wc => ∃ (kq : Nat) (x48_11 : Bool), v48 = .bool x48_11 ∧ Aside0 (oculusref05_Wrong.j1 kq l0 a1 a2 x7_1 x48_11 ((rd_T60 l0 x7_1).f0.f0.f0) ((rd_T60 l0 x7_1).f0.f0.f1) ((rd_T60 l0 x7_1).f0.f1.f0) ((rd_T60 l0 x7_1).f0.f1.f1) ((rd_T60 l0 x7_1).f1.f0) ((rd_T60 l0 x7_1).f1.f1) = some (r1, r2)) ∧ Aside0 (kq ≤ k1) ∧ Aside0 (wc.heap[g1]? = some (.cells #[.int .i64 x102000_1, .int .i64 x102001_1] 52 (0, 0))) ∧ Aside0 (wc.heap[g3]? = some (.cells #[.int .i64 ((rd_T60 l0 x7_1).f0.f0.f0), .int .i64 ((rd_T60 l0 x7_1).f0.f0.f1), .int .i64 ((rd_T60 l0 x7_1).f0.f1.f0), .int .i64 ((rd_T60 l0 x7_1).f0.f1.f1), .int .i64 ((rd_T60 l0 x7_1).f1.f0), .int .u64 ((rd_T60 l0 x7_1).f1.f1)] 60 (0, 0))) ∧ Aside0 (Below w.heap.size w wc))
      case first =>
       have H := HC12.out; clear HC12; obtain ⟨t104, A16, H⟩ := bo_ H
       by_cases c17 : t104 = true
       ·subst c17
        replace H := it_ H
        by_cases c18 : ((rd_T60 l0 x7_1).f0.f0.f0) > ((rd_T60 l0 x7_1).f0.f1.f0)
        ·rw [if_pos c18] at H; have c18b0 := decide_eq_true c18; clear c18; (first | rw [c18b0] | (simp only [i64_w, i32_w]; rw [c18b0]) | skip)
         have H' := A_ H
         clear H; have hnb19 := N31.out; have hnc19 := N13.out
         have ⟨hcz20_0,hcz20_1,hcz20_2,hcz20_3,hcz20_4,hcz20_5,hfz20_0,hfz20_1,hfz20_2,hfz20_3,hfz20_4,hfz20_5⟩ := z6_ B3
         go_wp2_with (first | ((with_reducible refine gate_callee (f:=62) rfl ?_); refine gL_ (some 25) rfl rfl Tryz.func62 rfl #[.agg #[.int .i64 ((rd_T60 l0 x7_1).f0.f0.f0), .int .i64 ((rd_T60 l0 x7_1).f0.f0.f1), .int .i64 ((rd_T60 l0 x7_1).f0.f1.f0), .int .i64 ((rd_T60 l0 x7_1).f0.f1.f1)]] rfl ?_; (with_reducible refine (oculusref04_May.calls ((rd_T60 l0 x7_1).f0.f0.f0) ((rd_T60 l0 x7_1).f0.f0.f1) ((rd_T60 l0 x7_1).f0.f1.f0) ((rd_T60 l0 x7_1).f0.f1.f1) true _ A16.out).mono ?_); rintro e w21 ⟨rfl, hb⟩; refine ⟨_, rfl, ?_⟩; replace B1 := A_ (blk_below (g:=g1) (o := .cells #[.int .i64 x102000_1, .int .i64 x102001_1] 52 (0, 0)) (by (iterate 6 refine pf_ ?_ N13.out); exact pkx B1) hb); replace B3 := A_ (blk_below (g:=g3) (o := .cells #[.int .i64 ((rd_T60 l0 x7_1).f0.f0.f0), .int .i64 ((rd_T60 l0 x7_1).f0.f0.f1), .int .i64 ((rd_T60 l0 x7_1).f0.f1.f0), .int .i64 ((rd_T60 l0 x7_1).f0.f1.f1), .int .i64 ((rd_T60 l0 x7_1).f1.f0), .int .u64 ((rd_T60 l0 x7_1).f1.f1)] 60 (0, 0)) (by refine pp_ (cs := #[.int .i64 ((rd_T60 l0 x7_1).f0.f0.f0), .int .i64 ((rd_T60 l0 x7_1).f0.f0.f1), .int .i64 ((rd_T60 l0 x7_1).f0.f1.f0), .int .i64 ((rd_T60 l0 x7_1).f0.f1.f1), .int .i64 ((rd_T60 l0 x7_1).f1.f0), .int .u64 0]) 5 ?_ rfl; refine blk_put (cs := #[.int .i64 ((rd_T60 l0 x7_1).f0.f0.f0), .int .i64 ((rd_T60 l0 x7_1).f0.f0.f1), .int .i64 ((rd_T60 l0 x7_1).f0.f1.f0), .int .i64 ((rd_T60 l0 x7_1).f0.f1.f1), .int .i64 0, .int .u64 0]) ?_ 4 _ rfl; refine blk_put (cs := #[.int .i64 ((rd_T60 l0 x7_1).f0.f0.f0), .int .i64 ((rd_T60 l0 x7_1).f0.f0.f1), .int .i64 ((rd_T60 l0 x7_1).f0.f1.f0), .int .i64 0, .int .i64 0, .int .u64 0]) ?_ 3 _ rfl; refine blk_put (cs := #[.int .i64 ((rd_T60 l0 x7_1).f0.f0.f0), .int .i64 ((rd_T60 l0 x7_1).f0.f0.f1), .int .i64 0, .int .i64 0, .int .i64 0, .int .u64 0]) ?_ 2 _ rfl; refine blk_put (cs := #[.int .i64 ((rd_T60 l0 x7_1).f0.f0.f0), .int .i64 0, .int .i64 0, .int .i64 0, .int .i64 0, .int .u64 0]) ?_ 1 _ rfl; refine blk_put (cs := #[.int .i64 0, .int .i64 0, .int .i64 0, .int .i64 0, .int .i64 0, .int .u64 0]) ?_ 0 _ rfl; exact pkx B3) hb); replace HB := A_ (below_step (by repeat (first | (with_reducible first | exact HB.out | apply below_alloc | apply pw_below_drewN | apply below_drew1 | refine below_set ?_ GE101.out | refine below_set ?_ GE103.out) | exact HB.out)) hb); (try clear hb); have ⟨hcz22_0,hcz22_1,hcz22_2,hcz22_3,hcz22_4,hcz22_5,hfz22_0,hfz22_1,hfz22_2,hfz22_3,hfz22_4,hfz22_5⟩ := z6_ B3))
         go_meet
         case rel => exact ⟨_, (true), sq_, H', ⟨by have := HK1.out; first | omega | exact Nat.le_refl _⟩, ⟨pkx B1⟩, ⟨pkx B3⟩, ⟨pbx HB⟩⟩
        ·rw [if_neg c18] at H; have c18b0 := decide_eq_false c18; clear c18; (first | rw [c18b0] | (simp only [i64_w, i32_w]; rw [c18b0]) | skip)
         have H' := A_ H
         clear H; have hnb23 := N31.out; have hnc23 := N13.out
         have ⟨hcz24_0,hcz24_1,hcz24_2,hcz24_3,hcz24_4,hcz24_5,hfz24_0,hfz24_1,hfz24_2,hfz24_3,hfz24_4,hfz24_5⟩ := z6_ B3
         go_wp2_with (first | ((with_reducible refine gate_callee (f:=62) rfl ?_); refine gL_ (some 25) rfl rfl Tryz.func62 rfl #[.agg #[.int .i64 ((rd_T60 l0 x7_1).f0.f0.f0), .int .i64 ((rd_T60 l0 x7_1).f0.f0.f1), .int .i64 ((rd_T60 l0 x7_1).f0.f1.f0), .int .i64 ((rd_T60 l0 x7_1).f0.f1.f1)]] rfl ?_; (with_reducible refine (oculusref04_May.calls ((rd_T60 l0 x7_1).f0.f0.f0) ((rd_T60 l0 x7_1).f0.f0.f1) ((rd_T60 l0 x7_1).f0.f1.f0) ((rd_T60 l0 x7_1).f0.f1.f1) true _ A16.out).mono ?_); rintro e w25 ⟨rfl, hb⟩; refine ⟨_, rfl, ?_⟩; replace B1 := A_ (blk_below (g:=g1) (o := .cells #[.int .i64 x102000_1, .int .i64 x102001_1] 52 (0, 0)) (by (iterate 6 refine pf_ ?_ N13.out); exact pkx B1) hb); replace B3 := A_ (blk_below (g:=g3) (o := .cells #[.int .i64 ((rd_T60 l0 x7_1).f0.f0.f0), .int .i64 ((rd_T60 l0 x7_1).f0.f0.f1), .int .i64 ((rd_T60 l0 x7_1).f0.f1.f0), .int .i64 ((rd_T60 l0 x7_1).f0.f1.f1), .int .i64 ((rd_T60 l0 x7_1).f1.f0), .int .u64 ((rd_T60 l0 x7_1).f1.f1)] 60 (0, 0)) (by refine pp_ (cs := #[.int .i64 ((rd_T60 l0 x7_1).f0.f0.f0), .int .i64 ((rd_T60 l0 x7_1).f0.f0.f1), .int .i64 ((rd_T60 l0 x7_1).f0.f1.f0), .int .i64 ((rd_T60 l0 x7_1).f0.f1.f1), .int .i64 ((rd_T60 l0 x7_1).f1.f0), .int .u64 0]) 5 ?_ rfl; refine blk_put (cs := #[.int .i64 ((rd_T60 l0 x7_1).f0.f0.f0), .int .i64 ((rd_T60 l0 x7_1).f0.f0.f1), .int .i64 ((rd_T60 l0 x7_1).f0.f1.f0), .int .i64 ((rd_T60 l0 x7_1).f0.f1.f1), .int .i64 0, .int .u64 0]) ?_ 4 _ rfl; refine blk_put (cs := #[.int .i64 ((rd_T60 l0 x7_1).f0.f0.f0), .int .i64 ((rd_T60 l0 x7_1).f0.f0.f1), .int .i64 ((rd_T60 l0 x7_1).f0.f1.f0), .int .i64 0, .int .i64 0, .int .u64 0]) ?_ 3 _ rfl; refine blk_put (cs := #[.int .i64 ((rd_T60 l0 x7_1).f0.f0.f0), .int .i64 ((rd_T60 l0 x7_1).f0.f0.f1), .int .i64 0, .int .i64 0, .int .i64 0, .int .u64 0]) ?_ 2 _ rfl; refine blk_put (cs := #[.int .i64 ((rd_T60 l0 x7_1).f0.f0.f0), .int .i64 0, .int .i64 0, .int .i64 0, .int .i64 0, .int .u64 0]) ?_ 1 _ rfl; refine blk_put (cs := #[.int .i64 0, .int .i64 0, .int .i64 0, .int .i64 0, .int .i64 0, .int .u64 0]) ?_ 0 _ rfl; exact pkx B3) hb); replace HB := A_ (below_step (by repeat (first | (with_reducible first | exact HB.out | apply below_alloc | apply pw_below_drewN | apply below_drew1 | refine below_set ?_ GE101.out | refine below_set ?_ GE103.out) | exact HB.out)) hb); (try clear hb); have ⟨hcz26_0,hcz26_1,hcz26_2,hcz26_3,hcz26_4,hcz26_5,hfz26_0,hfz26_1,hfz26_2,hfz26_3,hfz26_4,hfz26_5⟩ := z6_ B3))
         go_meet
         case rel => exact ⟨_, (decide (((rd_T60 l0 x7_1).f0.f0.f1) > ((rd_T60 l0 x7_1).f0.f1.f1))), sq_, H', ⟨by have := HK1.out; first | omega | exact Nat.le_refl _⟩, ⟨pkx B1⟩, ⟨pkx B3⟩, ⟨pbx HB⟩⟩
       ·replace c17 := Bool.eq_false_iff.mpr c17; subst c17
        replace H := ie_ H
        have H' := A_ H
        clear H; have hnb27 := N31.out; have hnc27 := N13.out
        have ⟨hcz28_0,hcz28_1,hcz28_2,hcz28_3,hcz28_4,hcz28_5,hfz28_0,hfz28_1,hfz28_2,hfz28_3,hfz28_4,hfz28_5⟩ := z6_ B3
        go_wp2_with (first | ((with_reducible refine gate_callee (f:=62) rfl ?_); refine gL_ (some 25) rfl rfl Tryz.func62 rfl #[.agg #[.int .i64 ((rd_T60 l0 x7_1).f0.f0.f0), .int .i64 ((rd_T60 l0 x7_1).f0.f0.f1), .int .i64 ((rd_T60 l0 x7_1).f0.f1.f0), .int .i64 ((rd_T60 l0 x7_1).f0.f1.f1)]] rfl ?_; (with_reducible refine (oculusref04_May.calls ((rd_T60 l0 x7_1).f0.f0.f0) ((rd_T60 l0 x7_1).f0.f0.f1) ((rd_T60 l0 x7_1).f0.f1.f0) ((rd_T60 l0 x7_1).f0.f1.f1) false _ A16.out).mono ?_); rintro e w29 ⟨rfl, hb⟩; refine ⟨_, rfl, ?_⟩; replace B1 := A_ (blk_below (g:=g1) (o := .cells #[.int .i64 x102000_1, .int .i64 x102001_1] 52 (0, 0)) (by (iterate 6 refine pf_ ?_ N13.out); exact pkx B1) hb); replace B3 := A_ (blk_below (g:=g3) (o := .cells #[.int .i64 ((rd_T60 l0 x7_1).f0.f0.f0), .int .i64 ((rd_T60 l0 x7_1).f0.f0.f1), .int .i64 ((rd_T60 l0 x7_1).f0.f1.f0), .int .i64 ((rd_T60 l0 x7_1).f0.f1.f1), .int .i64 ((rd_T60 l0 x7_1).f1.f0), .int .u64 ((rd_T60 l0 x7_1).f1.f1)] 60 (0, 0)) (by refine pp_ (cs := #[.int .i64 ((rd_T60 l0 x7_1).f0.f0.f0), .int .i64 ((rd_T60 l0 x7_1).f0.f0.f1), .int .i64 ((rd_T60 l0 x7_1).f0.f1.f0), .int .i64 ((rd_T60 l0 x7_1).f0.f1.f1), .int .i64 ((rd_T60 l0 x7_1).f1.f0), .int .u64 0]) 5 ?_ rfl; refine blk_put (cs := #[.int .i64 ((rd_T60 l0 x7_1).f0.f0.f0), .int .i64 ((rd_T60 l0 x7_1).f0.f0.f1), .int .i64 ((rd_T60 l0 x7_1).f0.f1.f0), .int .i64 ((rd_T60 l0 x7_1).f0.f1.f1), .int .i64 0, .int .u64 0]) ?_ 4 _ rfl; refine blk_put (cs := #[.int .i64 ((rd_T60 l0 x7_1).f0.f0.f0), .int .i64 ((rd_T60 l0 x7_1).f0.f0.f1), .int .i64 ((rd_T60 l0 x7_1).f0.f1.f0), .int .i64 0, .int .i64 0, .int .u64 0]) ?_ 3 _ rfl; refine blk_put (cs := #[.int .i64 ((rd_T60 l0 x7_1).f0.f0.f0), .int .i64 ((rd_T60 l0 x7_1).f0.f0.f1), .int .i64 0, .int .i64 0, .int .i64 0, .int .u64 0]) ?_ 2 _ rfl; refine blk_put (cs := #[.int .i64 ((rd_T60 l0 x7_1).f0.f0.f0), .int .i64 0, .int .i64 0, .int .i64 0, .int .i64 0, .int .u64 0]) ?_ 1 _ rfl; refine blk_put (cs := #[.int .i64 0, .int .i64 0, .int .i64 0, .int .i64 0, .int .i64 0, .int .u64 0]) ?_ 0 _ rfl; exact pkx B3) hb); replace HB := A_ (below_step (by repeat (first | (with_reducible first | exact HB.out | apply below_alloc | apply pw_below_drewN | apply below_drew1 | refine below_set ?_ GE101.out | refine below_set ?_ GE103.out) | exact HB.out)) hb); (try clear hb); ))
        go_meet
        case rel => exact ⟨_, (true), sq_, H', ⟨by have := HK1.out; first | omega | exact Nat.le_refl _⟩, ⟨pkx B1⟩, ⟨pkx B3⟩, ⟨pbx HB⟩⟩
      case rest =>
       clear HC12; (try clear c5); (try clear c5b0); (try clear c6); (try clear c6b0); (try clear c7); (try clear c7b0); (try clear hcz15_0); (try clear hcz15_1); (try clear hcz15_2); (try clear hcz15_3); (try clear hcz15_4); (try clear hcz15_5); (try clear hfz15_0); (try clear hfz15_1); (try clear hfz15_2); (try clear hfz15_3); (try clear hfz15_4); (try clear hfz15_5)
       (try clear hx102_0); (try clear hx102_1); (try clear hx102_2); (try clear hx102_3); (try clear hx102_4); (try clear hx102_5); (try clear p102); (try clear q102); obtain ⟨kq, x48_11, rfl, HA, HJ11, B1, B3, HB⟩ := hcut
       cases kq with
       | zero => exact absurd HA.out (by simp [oculusref05_Wrong.j1])
       | succ kj11 =>
        have H := HA.out; clear HA
        simp only [oculusref05_Wrong.j1] at H
        by_cases c30 : x48_11 = true
        ·subst c30
         replace H := it_ H
         simp only [Option.some.injEq, Prod.mk.injEq] at H
         obtain ⟨rfl, rfl⟩ := H; have hnb31 := N13.out; have hnc31 := N31.out
         have ⟨hcz32_0,hcz32_1,hfz32_0,hfz32_1⟩ := z2_ B1
         go_wp2
         refine bodyPost_ret (results_cell_row rfl _ _ g1 52 #[.int .i64 x7_1, .int .i64 1] (0, 0) _ rfl (by refine pp_ (cs := #[.int .i64 x7_1, .int .i64 x102001_1]) 1 ?_ rfl; refine blk_put (cs := #[.int .i64 x102000_1, .int .i64 x102001_1]) ?_ 0 _ rfl; exact pkx B1) Tryz.underlying52 rfl (by kernel_rfl)) rfl ?_
         exact fi_ bl_
        ·replace c30 := Bool.eq_false_iff.mpr c30; subst c30
         replace H := ie_ H; have HC33 := A_ H; clear H
         go_upto_region 9 with (fail)
         go_cut [64] (fun v64 wc => ∃ (kq : Nat) (x64_32 : Bool), v64 = .bool x64_32 ∧ Aside0 (oculusref05_Wrong.j2 kq l0 a1 a2 x7_1 x64_32 ((rd_T60 l0 x7_1).f0.f0.f0) ((rd_T60 l0 x7_1).f0.f0.f1) ((rd_T60 l0 x7_1).f0.f1.f0) ((rd_T60 l0 x7_1).f0.f1.f1) ((rd_T60 l0 x7_1).f1.f0) ((rd_T60 l0 x7_1).f1.f1) = some (r1, r2)) ∧ Aside0 (kq ≤ kj11) ∧ Aside0 (wc.heap[g1]? = some (.cells #[.int .i64 x102000_1, .int .i64 x102001_1] 52 (0, 0))) ∧ Aside0 (wc.heap[g3]? = some (.cells #[.int .i64 ((rd_T60 l0 x7_1).f0.f0.f0), .int .i64 ((rd_T60 l0 x7_1).f0.f0.f1), .int .i64 ((rd_T60 l0 x7_1).f0.f1.f0), .int .i64 ((rd_T60 l0 x7_1).f0.f1.f1), .int .i64 ((rd_T60 l0 x7_1).f1.f0), .int .u64 ((rd_T60 l0 x7_1).f1.f1)] 60 (0, 0))) ∧ Aside0 (Below w.heap.size w wc))
         case first =>
          have H := HC33.out; clear HC33
          by_cases c34 : ((rd_T60 l0 x7_1).f0.f1.f0) ≥ a1
          ·rw [if_pos c34] at H; have c34b0 := decide_eq_true c34; clear c34; (first | rw [c34b0] | (simp only [i64_w, i32_w]; rw [c34b0]) | skip)
           have H' := A_ H
           clear H; have hnb35 := N31.out; have hnc35 := N13.out
           have ⟨hcz36_0,hcz36_1,hcz36_2,hcz36_3,hcz36_4,hcz36_5,hfz36_0,hfz36_1,hfz36_2,hfz36_3,hfz36_4,hfz36_5⟩ := z6_ B3
           go_wp2
           go_meet
           case rel => exact ⟨_, (true), sq_, H', ⟨by have := HK1.out; have := HJ11.out; first | omega | exact Nat.le_refl _⟩, ⟨pkx B1⟩, ⟨pkx B3⟩, ⟨pbx HB⟩⟩
          ·rw [if_neg c34] at H; have c34b0 := decide_eq_false c34; clear c34; (first | rw [c34b0] | (simp only [i64_w, i32_w]; rw [c34b0]) | skip)
           have H' := A_ H
           clear H; have hnb37 := N31.out; have hnc37 := N13.out
           have ⟨hcz38_0,hcz38_1,hcz38_2,hcz38_3,hcz38_4,hcz38_5,hfz38_0,hfz38_1,hfz38_2,hfz38_3,hfz38_4,hfz38_5⟩ := z6_ B3
           go_wp2
           go_meet
           case rel => exact ⟨_, (decide (((rd_T60 l0 x7_1).f0.f1.f1) ≥ a2)), sq_, H', ⟨by have := HK1.out; have := HJ11.out; first | omega | exact Nat.le_refl _⟩, ⟨pkx B1⟩, ⟨pkx B3⟩, ⟨pbx HB⟩⟩
         case rest =>
          clear HC33; (try clear c5); (try clear c5b0); (try clear c6); (try clear c6b0); (try clear c7); (try clear c7b0); (try clear c30); (try clear hcz15_0); (try clear hcz15_1); (try clear hcz15_2); (try clear hcz15_3); (try clear hcz15_4); (try clear hcz15_5)
          (try clear hfz15_0); (try clear hfz15_1); (try clear hfz15_2); (try clear hfz15_3); (try clear hfz15_4); (try clear hfz15_5)
          (try clear hx102_0); (try clear hx102_1); (try clear hx102_2); (try clear hx102_3); (try clear hx102_4); (try clear hx102_5); (try clear p102); (try clear q102); obtain ⟨kq, x64_32, rfl, HA, HJ32, B1, B3, HB⟩ := hcut
          cases kq with
          | zero => exact absurd HA.out (by simp [oculusref05_Wrong.j2])
          | succ kj32 =>
           have H := HA.out; clear HA
           simp only [oculusref05_Wrong.j2] at H
           by_cases c39 : x64_32 = true
           ·subst c39
            replace H := it_ H
            simp only [Option.some.injEq, Prod.mk.injEq] at H
            obtain ⟨rfl, rfl⟩ := H; have hnb40 := N13.out; have hnc40 := N31.out
            have ⟨hcz41_0,hcz41_1,hfz41_0,hfz41_1⟩ := z2_ B1
            go_wp2
            refine bodyPost_ret (results_cell_row rfl _ _ g1 52 #[.int .i64 x7_1, .int .i64 2] (0, 0) _ rfl (by refine pp_ (cs := #[.int .i64 x7_1, .int .i64 x102001_1]) 1 ?_ rfl; refine blk_put (cs := #[.int .i64 x102000_1, .int .i64 x102001_1]) ?_ 0 _ rfl; exact pkx B1) Tryz.underlying52 rfl (by kernel_rfl)) rfl ?_
            exact fi_ bl_
           ·replace c39 := Bool.eq_false_iff.mpr c39; subst c39
            replace H := ie_ H
            by_cases c42 : ((rd_T60 l0 x7_1).f1.f0) < 0
            ·rw [if_pos c42] at H; have c42b0 := decide_eq_true c42; clear c42
             simp only [Option.some.injEq, Prod.mk.injEq] at H
             obtain ⟨rfl, rfl⟩ := H; have hnb43 := N31.out; have hnc43 := N13.out
             have ⟨hcz44_0,hcz44_1,hcz44_2,hcz44_3,hcz44_4,hcz44_5,hfz44_0,hfz44_1,hfz44_2,hfz44_3,hfz44_4,hfz44_5⟩ := z6_ B3
             have ⟨hcz45_0,hcz45_1,hfz45_0,hfz45_1⟩ := z2_ B1
             go_wp2
             refine bodyPost_ret (results_cell_row rfl _ _ g1 52 #[.int .i64 x7_1, .int .i64 7] (0, 0) _ rfl (by refine pp_ (cs := #[.int .i64 x7_1, .int .i64 x102001_1]) 1 ?_ rfl; refine blk_put (cs := #[.int .i64 x102000_1, .int .i64 x102001_1]) ?_ 0 _ rfl; exact pkx B1) Tryz.underlying52 rfl (by kernel_rfl)) rfl ?_
             exact fi_ bl_
            ·rw [if_neg c42] at H; have c42b0 := decide_eq_false c42; clear c42
             by_cases c46 : ((rd_T60 l0 x7_1).f1.f0) > 15
             ·rw [if_pos c46] at H; have c46b0 := decide_eq_true c46; clear c46
              simp only [Option.some.injEq, Prod.mk.injEq] at H
              obtain ⟨rfl, rfl⟩ := H; have hnb47 := N31.out; have hnc47 := N13.out
              have ⟨hcz48_0,hcz48_1,hcz48_2,hcz48_3,hcz48_4,hcz48_5,hfz48_0,hfz48_1,hfz48_2,hfz48_3,hfz48_4,hfz48_5⟩ := z6_ B3
              have ⟨hcz49_0,hcz49_1,hfz49_0,hfz49_1⟩ := z2_ B1
              go_wp2
              refine bodyPost_ret (results_cell_row rfl _ _ g1 52 #[.int .i64 x7_1, .int .i64 7] (0, 0) _ rfl (by refine pp_ (cs := #[.int .i64 x7_1, .int .i64 x102001_1]) 1 ?_ rfl; refine blk_put (cs := #[.int .i64 x102000_1, .int .i64 x102001_1]) ?_ 0 _ rfl; exact pkx B1) Tryz.underlying52 rfl (by kernel_rfl)) rfl ?_
              exact fi_ bl_
             ·rw [if_neg c46] at H; have c46b0 := decide_eq_false c46; clear c46
              have H' := A_ H
              clear H; have hnb50 := N31.out; have hnc50 := N13.out
              have ⟨hcz51_0,hcz51_1,hcz51_2,hcz51_3,hcz51_4,hcz51_5,hfz51_0,hfz51_1,hfz51_2,hfz51_3,hfz51_4,hfz51_5⟩ := z6_ B3
              go_wp2
              go_roundg kj32
              case measure => have := HK1.out; have := HJ11.out; have := HJ32.out; omega
              case rel => exact ⟨(wrap64 (x7_1 + 1)), (x102000_1), (x102001_1), sq_, H', ⟨by have := HK1.out; have := HJ11.out; have := HJ32.out; omega⟩, ⟨pkx B1⟩, ⟨pbx HB⟩⟩
    ·rw [if_neg c6] at H
     exact absurd H (by simp)
   ·rw [if_neg c5] at H; have c5b0 := decide_eq_false c5; clear c5
    simp only [Option.some.injEq, Prod.mk.injEq] at H
    obtain ⟨rfl, rfl⟩ := H
    have ⟨hcz52_0,hcz52_1,hfz52_0,hfz52_1⟩ := z2_ B1
    go_wp2
    refine bodyPost_ret (results_cell_row rfl _ _ g1 52 #[.int .i64 0, .int .i64 0] (0, 0) _ rfl (by refine pp_ (cs := #[.int .i64 0, .int .i64 x102001_1]) 1 ?_ rfl; refine blk_put (cs := #[.int .i64 x102000_1, .int .i64 x102001_1]) ?_ 0 _ rfl; exact pkx B1) Tryz.underlying52 rfl (by kernel_rfl)) rfl ?_
    exact fi_ bl_

def oculusref06_may.f (a0_0 : Int) (a0_1 : Int) : Option (Bool) := if a0_0 ≥ 0 then (some (decide (a0_0 ≤ 15))) else (some false)
theorem oculusref06_may.calls (a0_0 : Int) (a0_1 : Int) (r : Bool) (w : World) (h : oculusref06_may.f a0_0 a0_1 = some r) :
  Calls Tryz.prog 63 #[.agg #[.int .i64 a0_0, .int .u64 a0_1]] w fun e w' => e = .returned (.bool r) ∧ Below w.heap.size w w' := by
 have hu58 := Tryz.underlying58; have HB := A_ (Below.refl w.heap.size w)
 have H : (if a0_0 ≥ 0 then (some (decide (a0_0 ≤ 15))) else (some false)) = some r := h
 clear h
 by_cases c2 : a0_0 ≥ 0
 ·rw [if_pos c2] at H; have c2b0 := decide_eq_true c2; clear c2; obtain rfl := Option.some.inj H
  go_enter Tryz.func63, Tryz.ntmps63
  go_wp2_with (first | ((with_reducible refine gd_ 1 ?_); refine be_ (N:=1) (cs := #[.int .i64 a0_0, .int .u64 a0_1]) (t:=58) ?_; intro g1 hg w3 hbox hb; have B1 := A_ (hbox); replace HB := bs_ HB hb; clear hb hbox hg; have hcz4_0 : w3.cell? ⟨g1, 0, none⟩ = some (.int .i64 a0_0) := bc_ B1 0 rfl; have hcz4_1 : w3.cell? ⟨g1, 1, none⟩ = some (.int .u64 a0_1) := bc_ B1 1 rfl))
  go_ret
  exact fi_ (pbx HB)
 ·rw [if_neg c2] at H; have c2b0 := decide_eq_false c2; clear c2; obtain rfl := Option.some.inj H
  go_enter Tryz.func63, Tryz.ntmps63
  go_wp2_with (first | ((with_reducible refine gd_ 1 ?_); refine be_ (N:=1) (cs := #[.int .i64 a0_0, .int .u64 a0_1]) (t:=58) ?_; intro g1 hg w5 hbox hb; have B1 := A_ (hbox); replace HB := bs_ HB hb; clear hb hbox hg; have hcz6_0 : w5.cell? ⟨g1, 0, none⟩ = some (.int .i64 a0_0) := bc_ B1 0 rfl; have hcz6_1 : w5.cell? ⟨g1, 1, none⟩ = some (.int .u64 a0_1) := bc_ B1 1 rfl))
  go_ret
  exact fi_ (pbx HB)

def oculusref06_Find.l0 : Nat → List (S62) → ByteArray → Int → Option (Int)
 | 0, _, _, _ => none
 | k + 1, x0, x1, x5 => if x5 < (x0.length : Int) then (if 0 ≤ x5 then (if ((rd_T62 x0 x5).f0).toList = x1.toList then (some x5) else (oculusref06_Find.l0 k x0 x1 (wrap64 (x5 + 1)))) else (none)) else (some (-1))
def oculusref06_Find.f (k : Nat) (l0 : List (S62)) (a1 : ByteArray) : Option (Int) := oculusref06_Find.l0 k l0 a1 0
theorem oculusref06_Find.calls (k : Nat) (A0 : Option Addr) (c0 : Nat) (l0 : List (S62)) (a1 : ByteArray) (r : Int) (w : World) (hr0 : Kd.C k62 w A0 l0.length l0) (hc0 : l0.length ≤ c0) (h : oculusref06_Find.f k l0 a1 = some r) :
  Calls Tryz.prog 64 #[.slice A0 l0.length c0, .string a1] w fun e w' => e = .returned (.int .i64 r) ∧ Drawn0 w w' := by
 have HR0 := A_ hr0; have HC0 := A_ hc0; clear hr0 hc0
 have H : (oculusref06_Find.l0 k l0 a1 0) = some r := h
 clear h
 have H' := A_ H
 clear H
 go_enter Tryz.func64, Tryz.ntmps64
 go_wp2
 go_loopg [5] k (fun kq v5 w' => ∃ (x5_1 : Int), v5 = .int .i64 x5_1 ∧ Aside0 (oculusref06_Find.l0 kq l0 a1 x5_1 = some r) ∧ Aside0 (kq ≤ k) ∧ Drawn0 w w')
 case atStart => exact ⟨(0), sq_, H', ⟨Nat.le_refl _⟩, dr_⟩
 case round =>
  clear H'; obtain ⟨x5_1, rfl, HA, HK1, ⟨m1, rfl⟩⟩ := hrel
  cases gk with
  | zero => exact absurd HA.out (by simp [oculusref06_Find.l0])
  | succ k1 =>
   have H := HA.out; clear HA
   simp only [oculusref06_Find.l0] at H
   by_cases c3 : x5_1 < (l0.length : Int)
   ·rw [if_pos c3] at H; have c3b0 := decide_eq_true c3; clear c3
    by_cases c4 : 0 ≤ x5_1
    ·rw [if_pos c4] at H; have c4b0 := decide_eq_true c4; clear c4
     by_cases c5 : ((rd_T62 l0 x5_1).f0).toList = a1.toList
     ·rw [if_pos c5] at H; have ⟨c5b0,c5b1⟩ := e1_ c5; clear c5; obtain rfl := Option.some.inj H
      have p101 : 0 ≤ (x5_1 : Int) := of_decide_eq_true as_
      have q101 : x5_1 < (l0.length : Int) := of_decide_eq_true as_
      obtain ⟨ad101, e101, hx101_0, hx101_1, hx101_2⟩ := at_T62 HR0.out x5_1 p101 q101
      cases e101
      replace p101 := eq_true p101; replace q101 := eq_true q101
      go_wp2
      go_ret
      exact ⟨by first | rfl | (simp; done) | (simp [*]; done), dr_⟩
     ·rw [if_neg c5] at H; have ⟨c5b0,c5b1⟩ := e0_ c5
      have H' := A_ H
      clear H
      have p101 : 0 ≤ (x5_1 : Int) := of_decide_eq_true as_
      have q101 : x5_1 < (l0.length : Int) := of_decide_eq_true as_
      obtain ⟨ad101, e101, hx101_0, hx101_1, hx101_2⟩ := at_T62 HR0.out x5_1 p101 q101
      cases e101
      replace p101 := eq_true p101; replace q101 := eq_true q101
      go_wp2
      go_roundg k1
      case measure => have := HK1.out; omega
      case rel => exact ⟨(wrap64 (x5_1 + 1)), sq_, H', ⟨by have := HK1.out; omega⟩, dr_⟩
    ·rw [if_neg c4] at H
     exact absurd H (by simp)
   ·rw [if_neg c3] at H; have c3b0 := decide_eq_false c3; clear c3; obtain rfl := Option.some.inj H
    go_wp2
    go_ret
    exact ⟨by first | rfl | (simp; done) | (simp [*]; done), dr_⟩

def oculusref06_letter.f (a0 : Int) : Option (Bool) := if a0 ≥ 97 then (some (decide (a0 ≤ 122))) else (some false)
theorem oculusref06_letter.calls (a0 : Int) (r : Bool) (w : World) (h : oculusref06_letter.f a0 = some r) :
  Calls Tryz.prog 87 #[.int .u8 a0] w fun e w' => e = .returned (.bool r) ∧ Drawn0 w w' := by
 have H : (if a0 ≥ 97 then (some (decide (a0 ≤ 122))) else (some false)) = some r := h
 clear h
 by_cases c2 : a0 ≥ 97
 ·rw [if_pos c2] at H; have c2b0 := decide_eq_true c2; clear c2; obtain rfl := Option.some.inj H
  go_enter Tryz.func87, Tryz.ntmps87
  go_wp2
  go_ret
  exact ⟨by first | rfl | (simp; done) | (simp [*]; done), dr_⟩
 ·rw [if_neg c2] at H; have c2b0 := decide_eq_false c2; clear c2; obtain rfl := Option.some.inj H
  go_enter Tryz.func87, Tryz.ntmps87
  go_wp2
  go_ret
  exact ⟨by first | rfl | (simp; done) | (simp [*]; done), dr_⟩

mutual
def oculusref06_Name.j0 : Nat → ByteArray → Bool → Option (Bool)
 | 0, _, _ => none
 | k + 1, x0, x17 => if x17 = true then (some false) else (oculusref06_Name.l0 k x0 0)
def oculusref06_Name.l0 : Nat → ByteArray → Int → Option (Bool)
 | 0, _, _ => none
 | k + 1, x0, x3 => if x3 < (x0.size : Int) then (if 0 ≤ x3 then ((oculusref06_letter.f (bt x0 x3)).bind fun t102 => (if t102 = true then (oculusref06_Name.l0 k x0 (wrap64 (x3 + 1))) else (if (bt x0 x3) ≥ 48 then (if ((bt x0 x3) ≤ 57) then (oculusref06_Name.l0 k x0 (wrap64 (x3 + 1))) else (some false)) else (some false)))) else (none)) else (some true)
end
def oculusref06_Name.f (k : Nat) (a0 : ByteArray) : Option (Bool) := if (a0.size : Int) < 1 then (oculusref06_Name.j0 k a0 true) else (if (a0.size : Int) > 16 then (oculusref06_Name.j0 k a0 true) else (if 0 < (a0.size : Int) then ((oculusref06_letter.f (bt a0 0)).bind fun t101 => (oculusref06_Name.j0 k a0 (!t101))) else (none)))
theorem oculusref06_Name.calls (k : Nat) (a0 : ByteArray) (r : Bool) (w : World) (h : oculusref06_Name.f k a0 = some r) :
  Calls Tryz.prog 65 #[.string a0] w fun e w' => e = .returned (.bool r) ∧ Drawn0 w w' := by
 have H : (if (a0.size : Int) < 1 then (oculusref06_Name.j0 k a0 true) else (if (a0.size : Int) > 16 then (oculusref06_Name.j0 k a0 true) else (if 0 < (a0.size : Int) then ((oculusref06_letter.f (bt a0 0)).bind fun t101 => (oculusref06_Name.j0 k a0 (!t101))) else (none)))) = some r := h
 clear h; have HC2 := A_ H; clear H
 go_enter Tryz.func65, Tryz.ntmps65
 go_upto_region 1 with (fail)
 go_cut [17] (fun v17 wc => ∃ (kq : Nat) (x17_1 : Bool), v17 = .bool x17_1 ∧ Aside0 (oculusref06_Name.j0 kq a0 x17_1 = some r) ∧ Aside0 (kq ≤ k) ∧ Drawn0 w wc)
 case first =>
  have H := HC2.out; clear HC2
  by_cases c3 : (a0.size : Int) < 1
  ·rw [if_pos c3] at H; have c3b0 := decide_eq_true c3; have c3b1 : decide (a0.size < 1) = true := decide_eq_true (by omega); clear c3; (first | rw [c3b0] | (simp only [i64_w, i32_w]; rw [c3b0]) | skip)
   have H' := A_ H
   clear H
   go_wp2
   go_meet
   case rel => exact ⟨_, (true), sq_, H', le_, dr_⟩
  ·rw [if_neg c3] at H; have c3b0 := decide_eq_false c3; have c3b1 : decide (a0.size < 1) = false := decide_eq_false (by omega); clear c3; (first | rw [c3b0] | (simp only [i64_w, i32_w]; rw [c3b0]) | skip)
   by_cases c4 : (a0.size : Int) > 16
   ·rw [if_pos c4] at H; have c4b0 := decide_eq_true c4; have c4b1 : decide (16 < a0.size) = true := decide_eq_true (by omega); clear c4
    have H' := A_ H
    clear H
    go_wp2
    go_meet
    case rel => exact ⟨_, (true), sq_, H', le_, dr_⟩
   ·rw [if_neg c4] at H; have c4b0 := decide_eq_false c4; have c4b1 : decide (16 < a0.size) = false := decide_eq_false (by omega); clear c4
    by_cases c5 : 0 < (a0.size : Int)
    ·rw [if_pos c5] at H; have c5b0 := decide_eq_true c5; have c5b1 : decide (0 < a0.size) = true := decide_eq_true (by omega); clear c5; obtain ⟨t101, A7, H⟩ := bo_ H
     have H' := A_ H
     clear H
     have p6 : 0 ≤ (0 : Int) := (by omega)
     have q6 : 0 < a0.size := (by have : (0 : Int) < (a0.size : Int) := of_decide_eq_true as_; omega)
     have hx6 : ∀ h : 0 < a0.size, ((a0[0]'h).toNat : Int) = bt a0 0 := bt_at a0 0
     clear p6; have qi6 : (0 < (a0.size : Int)) = True := eq_true (of_decide_eq_true as_); replace q6 := eq_true q6
     go_wp2_with (first | (go_at_call 87; (with_reducible refine (oculusref06_letter.calls (bt a0 0) t101 _ A7.out).mono ?_); rintro e w' ⟨rfl, ⟨nd, rfl⟩⟩))
     go_meet
     case rel => exact ⟨_, (!t101), (by first | rfl | (simp; done) | (simp [*]; done) | (cases t101 <;> simp; done)), H', le_, dr_⟩
    ·rw [if_neg c5] at H
     exact absurd H (by simp)
 case rest =>
  clear HC2; obtain ⟨kq, x17_1, rfl, HA, HJ1, ⟨mc1, rfl⟩⟩ := hcut
  cases kq with
  | zero => exact absurd HA.out (by simp [oculusref06_Name.j0])
  | succ kj1 =>
   have H := HA.out; clear HA
   simp only [oculusref06_Name.j0] at H
   by_cases c8 : x17_1 = true
   ·subst c8
    replace H := it_ H; obtain rfl := Option.some.inj H
    go_wp2
    go_ret
    exact ⟨by first | rfl | (simp; done) | (simp [*]; done), dr_⟩
   ·replace c8 := Bool.eq_false_iff.mpr c8; subst c8
    replace H := ie_ H
    have H' := A_ H
    clear H
    go_wp2
    go_loopg [3] kj1 (fun kq v3 w' => ∃ (x3_2 : Int), v3 = .int .i64 x3_2 ∧ Aside0 (oculusref06_Name.l0 kq a0 x3_2 = some r) ∧ Aside0 (kq ≤ kj1) ∧ Drawn0 w w')
    case atStart => exact ⟨(0), sq_, H', ⟨Nat.le_refl _⟩, dr_⟩
    case round =>
     clear H'; (try clear c8); obtain ⟨x3_2, rfl, HA, HK2, ⟨m2, rfl⟩⟩ := hrel
     cases gk with
     | zero => exact absurd HA.out (by simp [oculusref06_Name.l0])
     | succ k2 =>
      have H := HA.out; clear HA
      simp only [oculusref06_Name.l0] at H
      by_cases c9 : x3_2 < (a0.size : Int)
      ·rw [if_pos c9] at H; have c9b0 := decide_eq_true c9; clear c9
       by_cases c10 : 0 ≤ x3_2
       ·rw [if_pos c10] at H; have c10b0 := decide_eq_true c10; clear c10; obtain ⟨t102, A12, H⟩ := bo_ H
        by_cases c13 : t102 = true
        ·subst c13
         replace H := it_ H
         have H' := A_ H
         clear H
         have p11 : 0 ≤ (x3_2 : Int) := of_decide_eq_true as_
         have q11 : x3_2 < (a0.size : Int) := of_decide_eq_true as_
         have hx11 := bt_at a0 x3_2; replace p11 := eq_true p11; replace q11 := eq_true q11
         go_wp2_with (first | ((with_reducible refine gate_callee (f:=87) rfl ?_); refine gL_ (some 27) rfl rfl Tryz.func87 rfl #[.int .u8 (bt a0 x3_2)] rfl ?_; (with_reducible refine (oculusref06_letter.calls (bt a0 x3_2) true _ A12.out).mono ?_); rintro e w' ⟨rfl, ⟨nd, rfl⟩⟩; refine ⟨_, rfl, ?_⟩))
         go_roundg k2
         case measure => have := HJ1.out; have := HK2.out; omega
         case rel => exact ⟨(wrap64 (x3_2 + 1)), sq_, H', ⟨by have := HJ1.out; have := HK2.out; omega⟩, dr_⟩
        ·replace c13 := Bool.eq_false_iff.mpr c13; subst c13
         replace H := ie_ H
         by_cases c15 : (bt a0 x3_2) ≥ 48
         ·rw [if_pos c15] at H; have c15b0 := decide_eq_true c15; clear c15
          by_cases c17 : ((bt a0 x3_2) ≤ 57)
          ·rw [if_pos c17] at H; have c17b0 := decide_eq_true c17; clear c17
           have H' := A_ H
           clear H
           have p11 : 0 ≤ (x3_2 : Int) := of_decide_eq_true as_
           have q11 : x3_2 < (a0.size : Int) := of_decide_eq_true as_
           have hx11 := bt_at a0 x3_2; replace p11 := eq_true p11; replace q11 := eq_true q11
           go_wp2_with (first | ((with_reducible refine gate_callee (f:=87) rfl ?_); refine gL_ (some 27) rfl rfl Tryz.func87 rfl #[.int .u8 (bt a0 x3_2)] rfl ?_; (with_reducible refine (oculusref06_letter.calls (bt a0 x3_2) false _ A12.out).mono ?_); rintro e w' ⟨rfl, ⟨nd, rfl⟩⟩; refine ⟨_, rfl, ?_⟩; have p14 : 0 ≤ (x3_2 : Int) := of_decide_eq_true as_; have q14 : x3_2 < (a0.size : Int) := of_decide_eq_true as_; have hx14 := bt_at a0 x3_2; replace p14 := eq_true p14; replace q14 := eq_true q14; have p16 : 0 ≤ (x3_2 : Int) := of_decide_eq_true as_; have q16 : x3_2 < (a0.size : Int) := of_decide_eq_true as_; have hx16 := bt_at a0 x3_2; replace p16 := eq_true p16; replace q16 := eq_true q16))
           go_roundg k2
           case measure => have := HJ1.out; have := HK2.out; omega
           case rel => exact ⟨(wrap64 (x3_2 + 1)), sq_, H', ⟨by have := HJ1.out; have := HK2.out; omega⟩, dr_⟩
          ·rw [if_neg c17] at H; have c17b0 := decide_eq_false c17; clear c17; obtain rfl := Option.some.inj H
           have p11 : 0 ≤ (x3_2 : Int) := of_decide_eq_true as_
           have q11 : x3_2 < (a0.size : Int) := of_decide_eq_true as_
           have hx11 := bt_at a0 x3_2; replace p11 := eq_true p11; replace q11 := eq_true q11
           go_wp2_with (first | ((with_reducible refine gate_callee (f:=87) rfl ?_); refine gL_ (some 27) rfl rfl Tryz.func87 rfl #[.int .u8 (bt a0 x3_2)] rfl ?_; (with_reducible refine (oculusref06_letter.calls (bt a0 x3_2) false _ A12.out).mono ?_); rintro e w' ⟨rfl, ⟨nd, rfl⟩⟩; refine ⟨_, rfl, ?_⟩; have p14 : 0 ≤ (x3_2 : Int) := of_decide_eq_true as_; have q14 : x3_2 < (a0.size : Int) := of_decide_eq_true as_; have hx14 := bt_at a0 x3_2; replace p14 := eq_true p14; replace q14 := eq_true q14; have p16 : 0 ≤ (x3_2 : Int) := of_decide_eq_true as_; have q16 : x3_2 < (a0.size : Int) := of_decide_eq_true as_; have hx16 := bt_at a0 x3_2; replace p16 := eq_true p16; replace q16 := eq_true q16))
           go_ret
           exact ⟨by first | rfl | (simp; done) | (simp [*]; done), dr_⟩
         ·rw [if_neg c15] at H; have c15b0 := decide_eq_false c15; clear c15; obtain rfl := Option.some.inj H
          have p11 : 0 ≤ (x3_2 : Int) := of_decide_eq_true as_
          have q11 : x3_2 < (a0.size : Int) := of_decide_eq_true as_
          have hx11 := bt_at a0 x3_2; replace p11 := eq_true p11; replace q11 := eq_true q11
          go_wp2_with (first | ((with_reducible refine gate_callee (f:=87) rfl ?_); refine gL_ (some 27) rfl rfl Tryz.func87 rfl #[.int .u8 (bt a0 x3_2)] rfl ?_; (with_reducible refine (oculusref06_letter.calls (bt a0 x3_2) false _ A12.out).mono ?_); rintro e w' ⟨rfl, ⟨nd, rfl⟩⟩; refine ⟨_, rfl, ?_⟩; have p14 : 0 ≤ (x3_2 : Int) := of_decide_eq_true as_; have q14 : x3_2 < (a0.size : Int) := of_decide_eq_true as_; have hx14 := bt_at a0 x3_2; replace p14 := eq_true p14; replace q14 := eq_true q14))
          go_ret
          exact ⟨by first | rfl | (simp; done) | (simp [*]; done), dr_⟩
       ·rw [if_neg c10] at H
        exact absurd H (by simp)
      ·rw [if_neg c9] at H; have c9b0 := decide_eq_false c9; clear c9; obtain rfl := Option.some.inj H
       go_wp2
       go_ret
       exact ⟨by first | rfl | (simp; done) | (simp [*]; done), dr_⟩

mutual
def oculusref06_Users.l0 : Nat → List (S62) → Int → Option (Int × Int)
 | 0, _, _ => none
 | k + 1, x0, x3 => if x3 < (x0.length : Int) then (if 0 ≤ x3 then ((oculusref06_may.f ((rd_T62 x0 x3).f1.f0) ((rd_T62 x0 x3).f1.f1)).bind fun t103 => (if t103 = true then (oculusref06_Users.j1 k x0 x3 0) else (oculusref06_Users.j1 k x0 x3 7))) else (none)) else (some (0, 0))
def oculusref06_Users.j1 : Nat → List (S62) → Int → Int → Option (Int × Int)
 | 0, _, _, _ => none
 | k + 1, x0, x3, x4 => if 0 ≤ x3 then (if x3 < (x0.length : Int) then ((oculusref06_Find.f k x0 ((rd_T62 x0 x3).f0)).bind fun t105 => (if t105 = x3 then (oculusref06_Users.j2 k x0 x3 x4) else (oculusref06_Users.j2 k x0 x3 8))) else (none)) else (none)
def oculusref06_Users.j2 : Nat → List (S62) → Int → Int → Option (Int × Int)
 | 0, _, _, _ => none
 | k + 1, x0, x3, x4 => if 0 ≤ x3 then (if x3 < (x0.length : Int) then ((oculusref06_Name.f k ((rd_T62 x0 x3).f0)).bind fun t107 => (if t107 = true then (oculusref06_Users.j3 k x0 x3 x4) else (oculusref06_Users.j3 k x0 x3 1))) else (none)) else (none)
def oculusref06_Users.j3 : Nat → List (S62) → Int → Int → Option (Int × Int)
 | 0, _, _, _ => none
 | k + 1, x0, x3, x4 => if x3 > 15 then (some (x3, 10)) else (if x4 = 0 then (oculusref06_Users.l0 k x0 (wrap64 (x3 + 1))) else (some (x3, x4)))
end
def oculusref06_Users.f (k : Nat) (l0 : List (S62)) : Option (Int × Int) := oculusref06_Users.l0 k l0 0
theorem oculusref06_Users.calls (k : Nat) (A0 : Option Addr) (c0 : Nat) (l0 : List (S62)) (r1 : Int) (r2 : Int) (w : World) (hr0 : Kd.C k62 w A0 l0.length l0) (hc0 : l0.length ≤ c0) (h : oculusref06_Users.f k l0 = some (r1, r2)) :
  Calls Tryz.prog 38 #[.slice A0 l0.length c0] w fun e w' => e = .returned (.agg #[.int .i64 r1, .int .i64 r2]) ∧ Below w.heap.size w w' := by
 have hu52 := Tryz.underlying52; have hu58 := Tryz.underlying58; have HR0 := A_ hr0; have HC0 := A_ hc0; clear hr0 hc0; have HB := A_ (Below.refl w.heap.size w)
 have H : (oculusref06_Users.l0 k l0 0) = some (r1, r2) := h
 clear h
 have H' := A_ H
 clear H
 go_enter Tryz.func38, Tryz.ntmps38
 go_wp2_with (first | ((with_reducible refine gd_ 2 ?_); refine be_ (N:=2) (cs := #[.int .i64 0, .int .i64 0]) (t:=52) ?_; intro g1 hg w2 hbox hb; have B1 := A_ (hbox); have GW101 := hs_ HB hg; have GE101 := hs_ HB hg; replace HB := bs_ HB hb; clear hb hbox hg))
 go_loopg [3] k (fun kq v3 w' => ∃ (x3_1 : Int) (x102000_1 : Int) (x102001_1 : Int), v3 = .int .i64 x3_1 ∧ Aside0 (oculusref06_Users.l0 kq l0 x3_1 = some (r1, r2)) ∧ Aside0 (kq ≤ k) ∧ Aside0 (w'.heap[g1]? = some (.cells #[.int .i64 x102000_1, .int .i64 x102001_1] 52 (0, 0))) ∧ Aside0 (Below w.heap.size w w'))
 case atStart => exact ⟨(0), (0), (0), sq_, H', ⟨Nat.le_refl _⟩, ⟨pkx B1⟩, ⟨pbx HB⟩⟩
 case round =>
  clear H'; obtain ⟨x3_1, x102000_1, x102001_1, rfl, HA, HK1, B1, HB⟩ := hrel
  cases gk with
  | zero => exact absurd HA.out (by simp [oculusref06_Users.l0])
  | succ k1 =>
   have H := HA.out; clear HA
   simp only [oculusref06_Users.l0] at H
   by_cases c3 : x3_1 < (l0.length : Int)
   ·rw [if_pos c3] at H; have c3b0 := decide_eq_true c3; clear c3
    by_cases c4 : 0 ≤ x3_1
    ·rw [if_pos c4] at H; have c4b0 := decide_eq_true c4; clear c4; obtain ⟨t103, A5, H⟩ := bo_ H; have HC6 := A_ H; clear H
     have p102 : 0 ≤ (x3_1 : Int) := of_decide_eq_true as_
     have q102 : x3_1 < (l0.length : Int) := of_decide_eq_true as_
     obtain ⟨ad102, e102, hx102_0, hx102_1, hx102_2⟩ := at_T62 HR0.out x3_1 p102 q102
     cases e102
     replace hx102_0 := (HB.out.cell (World.block_lt_of_cell? w _ hx102_0)).trans hx102_0; replace hx102_1 := (HB.out.cell (World.block_lt_of_cell? w _ hx102_1)).trans hx102_1; replace hx102_2 := (HB.out.cell (World.block_lt_of_cell? w _ hx102_2)).trans hx102_2; replace p102 := eq_true p102; replace q102 := eq_true q102
     go_upto_if 17 with (first | ((with_reducible refine gate_callee (f:=63) rfl ?_); refine gL_ (some 16) rfl rfl Tryz.func63 rfl #[.agg #[.int .i64 ((rd_T62 l0 x3_1).f1.f0), .int .u64 ((rd_T62 l0 x3_1).f1.f1)]] rfl ?_; (with_reducible refine (oculusref06_may.calls ((rd_T62 l0 x3_1).f1.f0) ((rd_T62 l0 x3_1).f1.f1) t103 _ A5.out).mono ?_); rintro e w7 ⟨rfl, hb⟩; refine ⟨_, rfl, ?_⟩; replace B1 := bb_ B1 hb; replace HB := bs_ HB hb; (try clear hb); ))
     (try simp only [q_])
     go_cut [4] (fun v4 wc => ∃ (kq : Nat) (x4_5 : Int), v4 = .int .i64 x4_5 ∧ Aside0 (oculusref06_Users.j1 kq l0 x3_1 x4_5 = some (r1, r2)) ∧ Aside0 (kq ≤ k1) ∧ Aside0 (wc.heap[g1]? = some (.cells #[.int .i64 x102000_1, .int .i64 x102001_1] 52 (0, 0))) ∧ Aside0 (Below w.heap.size w wc))
     case first =>
      have H := HC6.out; clear HC6
      by_cases c8 : t103 = true
      ·subst c8
       replace H := it_ H
       have H' := A_ H
       clear H
       go_wp2
       go_meet
       case rel => exact ⟨_, (0), sq_, H', ⟨by have := HK1.out; first | omega | exact Nat.le_refl _⟩, ⟨pkx B1⟩, ⟨pbx HB⟩⟩
      ·replace c8 := Bool.eq_false_iff.mpr c8; subst c8
       replace H := ie_ H
       have H' := A_ H
       clear H
       go_wp2
       go_meet
       case rel => exact ⟨_, (7), sq_, H', ⟨by have := HK1.out; first | omega | exact Nat.le_refl _⟩, ⟨pkx B1⟩, ⟨pbx HB⟩⟩
     case rest =>
      clear HC6; (try clear c3); (try clear c3b0); (try clear c4); (try clear c4b0); (try clear hx102_0); (try clear hx102_1); (try clear hx102_2); (try clear p102); (try clear q102); obtain ⟨kq, x4_5, rfl, HA, HJ5, B1, HB⟩ := hcut
      cases kq with
      | zero => exact absurd HA.out (by simp [oculusref06_Users.j1])
      | succ kj5 =>
       have H := HA.out; clear HA
       simp only [oculusref06_Users.j1] at H
       by_cases c9 : 0 ≤ x3_1
       ·rw [if_pos c9] at H; have c9b0 := decide_eq_true c9; clear c9
        by_cases c10 : x3_1 < (l0.length : Int)
        ·rw [if_pos c10] at H; have c10b0 := decide_eq_true c10; clear c10; obtain ⟨t105, A11, H⟩ := bo_ H; have HC12 := A_ H; clear H
         have p104 : 0 ≤ (x3_1 : Int) := of_decide_eq_true as_
         have q104 : x3_1 < (l0.length : Int) := of_decide_eq_true as_
         obtain ⟨ad104, e104, hx104_0, hx104_1, hx104_2⟩ := at_T62 HR0.out x3_1 p104 q104; obtain rfl : ad102 = ad104 := (by injection e104); replace hx104_0 := (HB.out.cell (World.block_lt_of_cell? w _ hx104_0)).trans hx104_0; replace hx104_1 := (HB.out.cell (World.block_lt_of_cell? w _ hx104_1)).trans hx104_1; replace hx104_2 := (HB.out.cell (World.block_lt_of_cell? w _ hx104_2)).trans hx104_2; replace p104 := eq_true p104; replace q104 := eq_true q104
         go_upto_if 26 with (first | ((with_reducible refine gate_callee (f:=64) rfl ?_); refine gL_ (some 24) rfl rfl Tryz.func64 rfl #[.slice (some ad102) l0.length c0, .string ((rd_T62 l0 x3_1).f0)] rfl ?_; (with_reducible refine (oculusref06_Find.calls kj5 _ _ l0 ((rd_T62 l0 x3_1).f0) t105 _ ?side1 ?side2 A11.out).mono ?_); (case side1 => exact ca_ (Kd.C_below HR0.out HB.out)); (case side2 => exact HC0.out); rintro e w' ⟨rfl, ⟨nd, rfl⟩⟩; refine ⟨_, rfl, ?_⟩))
         (try simp only [q_])
         go_cut [4] (fun v4 wc => ∃ (kq : Nat) (x4_11 : Int), v4 = .int .i64 x4_11 ∧ Aside0 (oculusref06_Users.j2 kq l0 x3_1 x4_11 = some (r1, r2)) ∧ Aside0 (kq ≤ kj5) ∧ Aside0 (wc.heap[g1]? = some (.cells #[.int .i64 x102000_1, .int .i64 x102001_1] 52 (0, 0))) ∧ Aside0 (Below w.heap.size w wc))
         case first =>
          have H := HC12.out; clear HC12
          by_cases c13 : t105 = x3_1
          ·rw [if_pos c13] at H; have ⟨c13b0,c13b1⟩ := e1_ c13; clear c13; (first | rw [c13b0] | (simp only [i64_w, i32_w]; rw [c13b0]) | skip)
           have H' := A_ H
           clear H
           go_wp2
           go_meet
           case rel => exact ⟨_, (x4_5), sq_, H', ⟨by have := HK1.out; have := HJ5.out; first | omega | exact Nat.le_refl _⟩, ⟨pkx B1⟩, ⟨pbx HB⟩⟩
          ·rw [if_neg c13] at H; have ⟨c13b0,c13b1⟩ := e0_ c13; (first | rw [c13b0] | (simp only [i64_w, i32_w]; rw [c13b0]) | skip)
           have H' := A_ H
           clear H
           go_wp2
           go_meet
           case rel => exact ⟨_, (8), sq_, H', ⟨by have := HK1.out; have := HJ5.out; first | omega | exact Nat.le_refl _⟩, ⟨pkx B1⟩, ⟨pbx HB⟩⟩
         case rest =>
          clear HC12; (try clear c3); (try clear c3b0); (try clear c4); (try clear c4b0); (try clear c9); (try clear c9b0); (try clear c10); (try clear c10b0); (try clear hx102_0); (try clear hx102_1); (try clear hx102_2); (try clear hx104_0); (try clear hx104_1); (try clear hx104_2); (try clear p102); (try clear p104); (try clear q102); (try clear q104); obtain ⟨kq, x4_11, rfl, HA, HJ11, B1, HB⟩ := hcut
          cases kq with
          | zero => exact absurd HA.out (by simp [oculusref06_Users.j2])
          | succ kj11 =>
           have H := HA.out; clear HA
           simp only [oculusref06_Users.j2] at H
           by_cases c14 : 0 ≤ x3_1
           ·rw [if_pos c14] at H; have c14b0 := decide_eq_true c14; clear c14
            by_cases c15 : x3_1 < (l0.length : Int)
            ·rw [if_pos c15] at H; have c15b0 := decide_eq_true c15; clear c15; obtain ⟨t107, A16, H⟩ := bo_ H; have HC17 := A_ H; clear H
             have p106 : 0 ≤ (x3_1 : Int) := of_decide_eq_true as_
             have q106 : x3_1 < (l0.length : Int) := of_decide_eq_true as_
             obtain ⟨ad106, e106, hx106_0, hx106_1, hx106_2⟩ := at_T62 HR0.out x3_1 p106 q106; obtain rfl : ad102 = ad106 := (by injection e106); replace hx106_0 := (HB.out.cell (World.block_lt_of_cell? w _ hx106_0)).trans hx106_0; replace hx106_1 := (HB.out.cell (World.block_lt_of_cell? w _ hx106_1)).trans hx106_1; replace hx106_2 := (HB.out.cell (World.block_lt_of_cell? w _ hx106_2)).trans hx106_2; replace p106 := eq_true p106; replace q106 := eq_true q106
             go_upto_if 33 with (first | ((with_reducible refine gate_callee (f:=65) rfl ?_); refine gL_ (some 32) rfl rfl Tryz.func65 rfl #[.string ((rd_T62 l0 x3_1).f0)] rfl ?_; (with_reducible refine (oculusref06_Name.calls kj11 ((rd_T62 l0 x3_1).f0) t107 _ A16.out).mono ?_); rintro e w' ⟨rfl, ⟨nd, rfl⟩⟩; refine ⟨_, rfl, ?_⟩))
             (try simp only [q_])
             go_cut [4] (fun v4 wc => ∃ (kq : Nat) (x4_16 : Int), v4 = .int .i64 x4_16 ∧ Aside0 (oculusref06_Users.j3 kq l0 x3_1 x4_16 = some (r1, r2)) ∧ Aside0 (kq ≤ kj11) ∧ Aside0 (wc.heap[g1]? = some (.cells #[.int .i64 x102000_1, .int .i64 x102001_1] 52 (0, 0))) ∧ Aside0 (Below w.heap.size w wc))
             case first =>
              have H := HC17.out; clear HC17
              by_cases c18 : t107 = true
              ·subst c18
               replace H := it_ H
               have H' := A_ H
               clear H
               go_wp2
               go_meet
               case rel => exact ⟨_, (x4_11), sq_, H', ⟨by have := HK1.out; have := HJ5.out; have := HJ11.out; first | omega | exact Nat.le_refl _⟩, ⟨pkx B1⟩, ⟨pbx HB⟩⟩
              ·replace c18 := Bool.eq_false_iff.mpr c18; subst c18
               replace H := ie_ H
               have H' := A_ H
               clear H
               go_wp2
               go_meet
               case rel => exact ⟨_, (1), sq_, H', ⟨by have := HK1.out; have := HJ5.out; have := HJ11.out; first | omega | exact Nat.le_refl _⟩, ⟨pkx B1⟩, ⟨pbx HB⟩⟩
             case rest =>
              clear HC17; (try clear c3); (try clear c3b0); (try clear c4); (try clear c4b0); (try clear c9); (try clear c9b0); (try clear c10); (try clear c10b0); (try clear c14); (try clear c14b0); (try clear c15); (try clear c15b0); (try clear hx102_0); (try clear hx102_1); (try clear hx102_2); (try clear hx104_0); (try clear hx104_1); (try clear hx104_2); (try clear hx106_0); (try clear hx106_1); (try clear hx106_2); (try clear p102); (try clear p104); (try clear p106); (try clear q102); (try clear q104); (try clear q106); obtain ⟨kq, x4_16, rfl, HA, HJ16, B1, HB⟩ := hcut
              cases kq with
              | zero => exact absurd HA.out (by simp [oculusref06_Users.j3])
              | succ kj16 =>
               have H := HA.out; clear HA
               simp only [oculusref06_Users.j3] at H
               by_cases c19 : x3_1 > 15
               ·rw [if_pos c19] at H; have c19b0 := decide_eq_true c19; clear c19
                simp only [Option.some.injEq, Prod.mk.injEq] at H
                obtain ⟨rfl, rfl⟩ := H
                have ⟨hcz20_0,hcz20_1,hfz20_0,hfz20_1⟩ := z2_ B1
                go_wp2
                refine bodyPost_ret (results_cell_row rfl _ _ g1 52 #[.int .i64 x3_1, .int .i64 10] (0, 0) _ rfl (by refine pp_ (cs := #[.int .i64 x3_1, .int .i64 x102001_1]) 1 ?_ rfl; refine blk_put (cs := #[.int .i64 x102000_1, .int .i64 x102001_1]) ?_ 0 _ rfl; exact pkx B1) Tryz.underlying52 rfl (by kernel_rfl)) rfl ?_
                exact fi_ bl_
               ·rw [if_neg c19] at H; have c19b0 := decide_eq_false c19; clear c19
                by_cases c21 : x4_16 = 0
                ·rw [if_pos c21] at H; have ⟨c21b0,c21b1⟩ := e1_ c21; clear c21
                 have H' := A_ H
                 clear H
                 go_wp2
                 go_roundg kj16
                 case measure => have := HK1.out; have := HJ5.out; have := HJ11.out; have := HJ16.out; omega
                 case rel => exact ⟨(wrap64 (x3_1 + 1)), (x102000_1), (x102001_1), sq_, H', ⟨by have := HK1.out; have := HJ5.out; have := HJ11.out; have := HJ16.out; omega⟩, ⟨pkx B1⟩, ⟨pbx HB⟩⟩
                ·rw [if_neg c21] at H; have ⟨c21b0,c21b1⟩ := e0_ c21
                 simp only [Option.some.injEq, Prod.mk.injEq] at H
                 obtain ⟨rfl, rfl⟩ := H
                 have ⟨hcz22_0,hcz22_1,hfz22_0,hfz22_1⟩ := z2_ B1
                 go_wp2
                 refine bodyPost_ret (results_cell_row rfl _ _ g1 52 #[.int .i64 x3_1, .int .i64 x4_16] (0, 0) _ rfl (by refine pp_ (cs := #[.int .i64 x3_1, .int .i64 x102001_1]) 1 ?_ rfl; refine blk_put (cs := #[.int .i64 x102000_1, .int .i64 x102001_1]) ?_ 0 _ rfl; exact pkx B1) Tryz.underlying52 rfl (by kernel_rfl)) rfl ?_
                 exact fi_ bl_
            ·rw [if_neg c15] at H
             exact absurd H (by simp)
           ·rw [if_neg c14] at H
            exact absurd H (by simp)
        ·rw [if_neg c10] at H
         exact absurd H (by simp)
       ·rw [if_neg c9] at H
        exact absurd H (by simp)
    ·rw [if_neg c4] at H
     exact absurd H (by simp)
   ·rw [if_neg c3] at H; have c3b0 := decide_eq_false c3; clear c3
    simp only [Option.some.injEq, Prod.mk.injEq] at H
    obtain ⟨rfl, rfl⟩ := H
    have ⟨hcz23_0,hcz23_1,hfz23_0,hfz23_1⟩ := z2_ B1
    go_wp2
    refine bodyPost_ret (results_cell_row rfl _ _ g1 52 #[.int .i64 0, .int .i64 0] (0, 0) _ rfl (by refine pp_ (cs := #[.int .i64 0, .int .i64 x102001_1]) 1 ?_ rfl; refine blk_put (cs := #[.int .i64 x102000_1, .int .i64 x102001_1]) ?_ 0 _ rfl; exact pkx B1) Tryz.underlying52 rfl (by kernel_rfl)) rfl ?_
    exact fi_ bl_

mutual
def oculusref06_Grants.l0 : Nat → List (S64) → List (S62) → Int → Option (Int × Int)
 | 0, _, _, _ => none
 | k + 1, x0, x1, x5 => if x5 < (x0.length : Int) then (if 0 ≤ x5 then ((oculusref06_may.f ((rd_T64 x0 x5).f1.f0) ((rd_T64 x0 x5).f1.f1)).bind fun t103 => (if t103 = true then ((oculusref06_may.f ((rd_T64 x0 x5).f2.f0) ((rd_T64 x0 x5).f2.f1)).bind fun t105 => (oculusref06_Grants.j1 k x0 x1 x5 0 (!t105))) else (oculusref06_Grants.j1 k x0 x1 x5 0 true))) else (none)) else (some (0, 0))
def oculusref06_Grants.j1 : Nat → List (S64) → List (S62) → Int → Int → Bool → Option (Int × Int)
 | 0, _, _, _, _, _ => none
 | k + 1, x0, x1, x5, x6, x28 => if x28 = true then (oculusref06_Grants.j2 k x0 x1 x5 7) else (oculusref06_Grants.j2 k x0 x1 x5 x6)
def oculusref06_Grants.j2 : Nat → List (S64) → List (S62) → Int → Int → Option (Int × Int)
 | 0, _, _, _, _ => none
 | k + 1, x0, x1, x5, x6 => if 0 ≤ x5 then (if x5 < (x0.length : Int) then ((oculusref06_Find.f k x1 ((rd_T64 x0 x5).f0)).bind fun t107 => (if t107 < 0 then (oculusref06_Grants.j3 k x0 x1 x5 11) else (oculusref06_Grants.j3 k x0 x1 x5 x6))) else (none)) else (none)
def oculusref06_Grants.j3 : Nat → List (S64) → List (S62) → Int → Int → Option (Int × Int)
 | 0, _, _, _, _ => none
 | k + 1, x0, x1, x5, x6 => if x5 > 31 then (some (x5, 10)) else (if x6 = 0 then (oculusref06_Grants.l0 k x0 x1 (wrap64 (x5 + 1))) else (some (x5, x6)))
end
def oculusref06_Grants.f (k : Nat) (l0 : List (S64)) (l1 : List (S62)) : Option (Int × Int) := oculusref06_Grants.l0 k l0 l1 0
theorem oculusref06_Grants.calls (k : Nat) (A0 : Option Addr) (c0 : Nat) (l0 : List (S64)) (A1 : Option Addr) (c1 : Nat) (l1 : List (S62)) (r1 : Int) (r2 : Int) (w : World) (hr0 : Kd.C k64 w A0 l0.length l0) (hc0 : l0.length ≤ c0) (hr1 : Kd.C k62 w A1 l1.length l1) (hc1 : l1.length ≤ c1) (h : oculusref06_Grants.f k l0 l1 = some (r1, r2)) :
  Calls Tryz.prog 39 #[.slice A0 l0.length c0, .slice A1 l1.length c1] w fun e w' => e = .returned (.agg #[.int .i64 r1, .int .i64 r2]) ∧ Below w.heap.size w w' := by
 have hu52 := Tryz.underlying52; have hu58 := Tryz.underlying58; have HR0 := A_ hr0; have HC0 := A_ hc0; clear hr0 hc0; have HR1 := A_ hr1; have HC1 := A_ hc1; clear hr1 hc1; have HB := A_ (Below.refl w.heap.size w)
 have H : (oculusref06_Grants.l0 k l0 l1 0) = some (r1, r2) := h
 clear h
 have H' := A_ H
 clear H
 go_enter Tryz.func39, Tryz.ntmps39
 go_wp2_with (first | ((with_reducible refine gd_ 4 ?_); refine be_ (N:=4) (cs := #[.int .i64 0, .int .i64 0]) (t:=52) ?_; intro g1 hg w3 hbox hb; have B1 := A_ (hbox); have GW101 := hs_ HB hg; have GE101 := hs_ HB hg; replace HB := bs_ HB hb; clear hb hbox hg))
 go_loopg [5] k (fun kq v5 w' => ∃ (x5_1 : Int) (x102000_1 : Int) (x102001_1 : Int), v5 = .int .i64 x5_1 ∧ Aside0 (oculusref06_Grants.l0 kq l0 l1 x5_1 = some (r1, r2)) ∧ Aside0 (kq ≤ k) ∧ Aside0 (w'.heap[g1]? = some (.cells #[.int .i64 x102000_1, .int .i64 x102001_1] 52 (0, 0))) ∧ Aside0 (Below w.heap.size w w'))
 case atStart => exact ⟨(0), (0), (0), sq_, H', ⟨Nat.le_refl _⟩, ⟨pkx B1⟩, ⟨pbx HB⟩⟩
 case round =>
  clear H'; obtain ⟨x5_1, x102000_1, x102001_1, rfl, HA, HK1, B1, HB⟩ := hrel
  cases gk with
  | zero => exact absurd HA.out (by simp [oculusref06_Grants.l0])
  | succ k1 =>
   have H := HA.out; clear HA
   simp only [oculusref06_Grants.l0] at H
   by_cases c4 : x5_1 < (l0.length : Int)
   ·rw [if_pos c4] at H; have c4b0 := decide_eq_true c4; clear c4; have HC5 := A_ H; clear H
    go_upto_region 5 with (fail)
    go_cut [28] (fun v28 wc => ∃ (kq : Nat) (x28_4 : Bool), v28 = .bool x28_4 ∧ Aside0 (oculusref06_Grants.j1 kq l0 l1 x5_1 0 x28_4 = some (r1, r2)) ∧ Aside0 (kq ≤ k1) ∧ Aside0 (wc.heap[g1]? = some (.cells #[.int .i64 x102000_1, .int .i64 x102001_1] 52 (0, 0))) ∧ Aside0 (Below w.heap.size w wc))
    case first =>
     have H := HC5.out; clear HC5
     by_cases c6 : 0 ≤ x5_1
     ·rw [if_pos c6] at H; have c6b0 := decide_eq_true c6; clear c6; (first | rw [c6b0] | (simp only [i64_w, i32_w]; rw [c6b0]) | skip)
      obtain ⟨t103, A7, H⟩ := bo_ H
      by_cases c8 : t103 = true
      ·subst c8
       obtain ⟨t105, A9, H⟩ := bo_ (it_ H)
       have H' := A_ H
       clear H
       have p102 : 0 ≤ (x5_1 : Int) := of_decide_eq_true as_
       have q102 : x5_1 < (l0.length : Int) := of_decide_eq_true as_
       obtain ⟨ad102, e102, hx102_0, hx102_1, hx102_2, hx102_3, hx102_4⟩ := at_T64 HR0.out x5_1 p102 q102
       cases e102
       replace hx102_0 := (HB.out.cell (World.block_lt_of_cell? w _ hx102_0)).trans hx102_0; replace hx102_1 := (HB.out.cell (World.block_lt_of_cell? w _ hx102_1)).trans hx102_1; replace hx102_2 := (HB.out.cell (World.block_lt_of_cell? w _ hx102_2)).trans hx102_2; replace hx102_3 := (HB.out.cell (World.block_lt_of_cell? w _ hx102_3)).trans hx102_3; replace hx102_4 := (HB.out.cell (World.block_lt_of_cell? w _ hx102_4)).trans hx102_4; replace p102 := eq_true p102; replace q102 := eq_true q102
       go_wp2_with (first | ((with_reducible refine gate_callee (f:=63) rfl ?_); refine gL_ (some 18) rfl rfl Tryz.func63 rfl #[.agg #[.int .i64 ((rd_T64 l0 x5_1).f1.f0), .int .u64 ((rd_T64 l0 x5_1).f1.f1)]] rfl ?_; (with_reducible refine (oculusref06_may.calls ((rd_T64 l0 x5_1).f1.f0) ((rd_T64 l0 x5_1).f1.f1) true _ A7.out).mono ?_); rintro e w10 ⟨rfl, hb⟩; refine ⟨_, rfl, ?_⟩; replace B1 := bb_ B1 hb; replace HB := bs_ HB hb; (try clear hb); have p104 : 0 ≤ (x5_1 : Int) := of_decide_eq_true as_; have q104 : x5_1 < (l0.length : Int) := of_decide_eq_true as_; obtain ⟨ad104, e104, hx104_0, hx104_1, hx104_2, hx104_3, hx104_4⟩ := at_T64 HR0.out x5_1 p104 q104; obtain rfl : ad102 = ad104 := (by injection e104); replace hx104_0 := (HB.out.cell (World.block_lt_of_cell? w _ hx104_0)).trans hx104_0; replace hx104_1 := (HB.out.cell (World.block_lt_of_cell? w _ hx104_1)).trans hx104_1; replace hx104_2 := (HB.out.cell (World.block_lt_of_cell? w _ hx104_2)).trans hx104_2; replace hx104_3 := (HB.out.cell (World.block_lt_of_cell? w _ hx104_3)).trans hx104_3; replace hx104_4 := (HB.out.cell (World.block_lt_of_cell? w _ hx104_4)).trans hx104_4; replace p104 := eq_true p104; replace q104 := eq_true q104) | (go_at_call 63; (with_reducible refine (oculusref06_may.calls ((rd_T64 l0 x5_1).f2.f0) ((rd_T64 l0 x5_1).f2.f1) t105 _ A9.out).mono ?_); rintro e w11 ⟨rfl, hb⟩; replace B1 := bb_ B1 hb; replace HB := bs_ HB hb; (try clear hb); ))
       go_meet
       case rel => exact ⟨_, (!t105), (by first | rfl | (simp; done) | (simp [*]; done) | (cases t105 <;> simp; done)), H', ⟨by have := HK1.out; first | omega | exact Nat.le_refl _⟩, ⟨pkx B1⟩, ⟨pbx HB⟩⟩
      ·replace c8 := Bool.eq_false_iff.mpr c8; subst c8
       replace H := ie_ H
       have H' := A_ H
       clear H
       have p102 : 0 ≤ (x5_1 : Int) := of_decide_eq_true as_
       have q102 : x5_1 < (l0.length : Int) := of_decide_eq_true as_
       obtain ⟨ad102, e102, hx102_0, hx102_1, hx102_2, hx102_3, hx102_4⟩ := at_T64 HR0.out x5_1 p102 q102
       cases e102
       replace hx102_0 := (HB.out.cell (World.block_lt_of_cell? w _ hx102_0)).trans hx102_0; replace hx102_1 := (HB.out.cell (World.block_lt_of_cell? w _ hx102_1)).trans hx102_1; replace hx102_2 := (HB.out.cell (World.block_lt_of_cell? w _ hx102_2)).trans hx102_2; replace hx102_3 := (HB.out.cell (World.block_lt_of_cell? w _ hx102_3)).trans hx102_3; replace hx102_4 := (HB.out.cell (World.block_lt_of_cell? w _ hx102_4)).trans hx102_4; replace p102 := eq_true p102; replace q102 := eq_true q102
       go_wp2_with (first | ((with_reducible refine gate_callee (f:=63) rfl ?_); refine gL_ (some 18) rfl rfl Tryz.func63 rfl #[.agg #[.int .i64 ((rd_T64 l0 x5_1).f1.f0), .int .u64 ((rd_T64 l0 x5_1).f1.f1)]] rfl ?_; (with_reducible refine (oculusref06_may.calls ((rd_T64 l0 x5_1).f1.f0) ((rd_T64 l0 x5_1).f1.f1) false _ A7.out).mono ?_); rintro e w12 ⟨rfl, hb⟩; refine ⟨_, rfl, ?_⟩; replace B1 := bb_ B1 hb; replace HB := bs_ HB hb; (try clear hb); ))
       go_meet
       case rel => exact ⟨_, (true), sq_, H', ⟨by have := HK1.out; first | omega | exact Nat.le_refl _⟩, ⟨pkx B1⟩, ⟨pbx HB⟩⟩
     ·rw [if_neg c6] at H
      exact absurd H (by simp)
    case rest =>
     clear HC5; (try clear c4); (try clear c4b0); obtain ⟨kq, x28_4, rfl, HA, HJ4, B1, HB⟩ := hcut
     cases kq with
     | zero => exact absurd HA.out (by simp [oculusref06_Grants.j1])
     | succ kj4 =>
      have H := HA.out; clear HA
      simp only [oculusref06_Grants.j1] at H
      have HC13 := A_ H; clear H
      go_upto_if 28 with (fail)
      go_cut [6] (fun v6 wc => ∃ (kq : Nat) (x6_12 : Int), v6 = .int .i64 x6_12 ∧ Aside0 (oculusref06_Grants.j2 kq l0 l1 x5_1 x6_12 = some (r1, r2)) ∧ Aside0 (kq ≤ kj4) ∧ Aside0 (wc.heap[g1]? = some (.cells #[.int .i64 x102000_1, .int .i64 x102001_1] 52 (0, 0))) ∧ Aside0 (Below w.heap.size w wc))
      case first =>
       have H := HC13.out; clear HC13
       by_cases c14 : x28_4 = true
       ·subst c14
        replace H := it_ H
        have H' := A_ H
        clear H
        go_wp2
        go_meet
        case rel => exact ⟨_, (7), sq_, H', ⟨by have := HK1.out; have := HJ4.out; first | omega | exact Nat.le_refl _⟩, ⟨pkx B1⟩, ⟨pbx HB⟩⟩
       ·replace c14 := Bool.eq_false_iff.mpr c14; subst c14
        replace H := ie_ H
        have H' := A_ H
        clear H
        go_wp2
        go_meet
        case rel => exact ⟨_, (0), sq_, H', ⟨by have := HK1.out; have := HJ4.out; first | omega | exact Nat.le_refl _⟩, ⟨pkx B1⟩, ⟨pbx HB⟩⟩
      case rest =>
       clear HC13; (try clear c4); (try clear c4b0); obtain ⟨kq, x6_12, rfl, HA, HJ12, B1, HB⟩ := hcut
       cases kq with
       | zero => exact absurd HA.out (by simp [oculusref06_Grants.j2])
       | succ kj12 =>
        have H := HA.out; clear HA
        simp only [oculusref06_Grants.j2] at H
        by_cases c15 : 0 ≤ x5_1
        ·rw [if_pos c15] at H; have c15b0 := decide_eq_true c15; clear c15
         by_cases c16 : x5_1 < (l0.length : Int)
         ·rw [if_pos c16] at H; have c16b0 := decide_eq_true c16; clear c16; obtain ⟨t107, A17, H⟩ := bo_ H; have HC18 := A_ H; clear H
          have p106 : 0 ≤ (x5_1 : Int) := of_decide_eq_true as_
          have q106 : x5_1 < (l0.length : Int) := of_decide_eq_true as_
          obtain ⟨ad106, e106, hx106_0, hx106_1, hx106_2, hx106_3, hx106_4⟩ := at_T64 HR0.out x5_1 p106 q106
          cases e106
          replace hx106_0 := (HB.out.cell (World.block_lt_of_cell? w _ hx106_0)).trans hx106_0; replace hx106_1 := (HB.out.cell (World.block_lt_of_cell? w _ hx106_1)).trans hx106_1; replace hx106_2 := (HB.out.cell (World.block_lt_of_cell? w _ hx106_2)).trans hx106_2; replace hx106_3 := (HB.out.cell (World.block_lt_of_cell? w _ hx106_3)).trans hx106_3; replace hx106_4 := (HB.out.cell (World.block_lt_of_cell? w _ hx106_4)).trans hx106_4; replace p106 := eq_true p106; replace q106 := eq_true q106
          go_upto_if 36 with (first | ((with_reducible refine gate_callee (f:=64) rfl ?_); refine gL_ (some 35) rfl rfl Tryz.func64 rfl #[.slice A1 l1.length c1, .string ((rd_T64 l0 x5_1).f0)] rfl ?_; (with_reducible refine (oculusref06_Find.calls kj12 _ _ l1 ((rd_T64 l0 x5_1).f0) t107 _ ?side1 ?side2 A17.out).mono ?_); (case side1 => exact ca_ (Kd.C_below HR1.out HB.out)); (case side2 => exact HC1.out); rintro e w' ⟨rfl, ⟨nd, rfl⟩⟩; refine ⟨_, rfl, ?_⟩))
          (try simp only [q_])
          go_cut [6] (fun v6 wc => ∃ (kq : Nat) (x6_17 : Int), v6 = .int .i64 x6_17 ∧ Aside0 (oculusref06_Grants.j3 kq l0 l1 x5_1 x6_17 = some (r1, r2)) ∧ Aside0 (kq ≤ kj12) ∧ Aside0 (wc.heap[g1]? = some (.cells #[.int .i64 x102000_1, .int .i64 x102001_1] 52 (0, 0))) ∧ Aside0 (Below w.heap.size w wc))
          case first =>
           have H := HC18.out; clear HC18
           by_cases c19 : t107 < 0
           ·rw [if_pos c19] at H; have c19b0 := decide_eq_true c19; clear c19; (first | rw [c19b0] | (simp only [i64_w, i32_w]; rw [c19b0]) | skip)
            have H' := A_ H
            clear H
            go_wp2
            go_meet
            case rel => exact ⟨_, (11), sq_, H', ⟨by have := HK1.out; have := HJ4.out; have := HJ12.out; first | omega | exact Nat.le_refl _⟩, ⟨pkx B1⟩, ⟨pbx HB⟩⟩
           ·rw [if_neg c19] at H; have c19b0 := decide_eq_false c19; clear c19; (first | rw [c19b0] | (simp only [i64_w, i32_w]; rw [c19b0]) | skip)
            have H' := A_ H
            clear H
            go_wp2
            go_meet
            case rel => exact ⟨_, (x6_12), sq_, H', ⟨by have := HK1.out; have := HJ4.out; have := HJ12.out; first | omega | exact Nat.le_refl _⟩, ⟨pkx B1⟩, ⟨pbx HB⟩⟩
          case rest =>
           clear HC18; (try clear c1); (try clear c4); (try clear c4b0); (try clear c15); (try clear c15b0); (try clear c16); (try clear c16b0); (try clear hx106_0); (try clear hx106_1); (try clear hx106_2); (try clear hx106_3); (try clear hx106_4); (try clear p106); (try clear q106); obtain ⟨kq, x6_17, rfl, HA, HJ17, B1, HB⟩ := hcut
           cases kq with
           | zero => exact absurd HA.out (by simp [oculusref06_Grants.j3])
           | succ kj17 =>
            have H := HA.out; clear HA
            simp only [oculusref06_Grants.j3] at H
            by_cases c20 : x5_1 > 31
            ·rw [if_pos c20] at H; have c20b0 := decide_eq_true c20; clear c20
             simp only [Option.some.injEq, Prod.mk.injEq] at H
             obtain ⟨rfl, rfl⟩ := H
             have ⟨hcz21_0,hcz21_1,hfz21_0,hfz21_1⟩ := z2_ B1
             go_wp2
             refine bodyPost_ret (results_cell_row rfl _ _ g1 52 #[.int .i64 x5_1, .int .i64 10] (0, 0) _ rfl (by refine pp_ (cs := #[.int .i64 x5_1, .int .i64 x102001_1]) 1 ?_ rfl; refine blk_put (cs := #[.int .i64 x102000_1, .int .i64 x102001_1]) ?_ 0 _ rfl; exact pkx B1) Tryz.underlying52 rfl (by kernel_rfl)) rfl ?_
             exact fi_ bl_
            ·rw [if_neg c20] at H; have c20b0 := decide_eq_false c20; clear c20
             by_cases c22 : x6_17 = 0
             ·rw [if_pos c22] at H; have ⟨c22b0,c22b1⟩ := e1_ c22; clear c22
              have H' := A_ H
              clear H
              go_wp2
              go_roundg kj17
              case measure => have := HK1.out; have := HJ4.out; have := HJ12.out; have := HJ17.out; omega
              case rel => exact ⟨(wrap64 (x5_1 + 1)), (x102000_1), (x102001_1), sq_, H', ⟨by have := HK1.out; have := HJ4.out; have := HJ12.out; have := HJ17.out; omega⟩, ⟨pkx B1⟩, ⟨pbx HB⟩⟩
             ·rw [if_neg c22] at H; have ⟨c22b0,c22b1⟩ := e0_ c22
              simp only [Option.some.injEq, Prod.mk.injEq] at H
              obtain ⟨rfl, rfl⟩ := H
              have ⟨hcz23_0,hcz23_1,hfz23_0,hfz23_1⟩ := z2_ B1
              go_wp2
              refine bodyPost_ret (results_cell_row rfl _ _ g1 52 #[.int .i64 x5_1, .int .i64 x6_17] (0, 0) _ rfl (by refine pp_ (cs := #[.int .i64 x5_1, .int .i64 x102001_1]) 1 ?_ rfl; refine blk_put (cs := #[.int .i64 x102000_1, .int .i64 x102001_1]) ?_ 0 _ rfl; exact pkx B1) Tryz.underlying52 rfl (by kernel_rfl)) rfl ?_
              exact fi_ bl_
         ·rw [if_neg c16] at H
          exact absurd H (by simp)
        ·rw [if_neg c15] at H
         exact absurd H (by simp)
   ·rw [if_neg c4] at H; have c4b0 := decide_eq_false c4; clear c4
    simp only [Option.some.injEq, Prod.mk.injEq] at H
    obtain ⟨rfl, rfl⟩ := H
    have ⟨hcz24_0,hcz24_1,hfz24_0,hfz24_1⟩ := z2_ B1
    go_wp2
    refine bodyPost_ret (results_cell_row rfl _ _ g1 52 #[.int .i64 0, .int .i64 0] (0, 0) _ rfl (by refine pp_ (cs := #[.int .i64 0, .int .i64 x102001_1]) 1 ?_ rfl; refine blk_put (cs := #[.int .i64 x102000_1, .int .i64 x102001_1]) ?_ 0 _ rfl; exact pkx B1) Tryz.underlying52 rfl (by kernel_rfl)) rfl ?_
    exact fi_ bl_

def oculusref07_Wrong.j0 : Nat → Bool → Int → Int → List (S60) → List (S62) → List (S64) → Option (Int × Int)
 | 0, _, _, _, _, _, _ => none
 | k + 1, x31, x102000, x102001, x102002, x102003, x102004 => if x31 = true then (some (1, 2)) else ((oculusref05_Wrong.f k x102002 x102000 x102001).bind fun bt103 => ((oculusref06_Users.f k x102003).bind fun bt106 => ((oculusref06_Grants.f k x102004 x102003).bind fun bt109 => (if bt103.2 = 0 then (if bt106.2 = 0 then (if bt109.2 = 0 then (some (0, 0)) else (some (wrap64 ((wrap64 ((wrap64 (2 + (x102002.length : Int))) + (x102003.length : Int))) + bt109.1), bt109.2))) else (some (wrap64 ((wrap64 (2 + (x102002.length : Int))) + bt106.1), bt106.2))) else (some (wrap64 (2 + bt103.1), bt103.2))))))
def oculusref07_Wrong.f (k : Nat) (a0_0 : Int) (a0_1 : Int) (l0_2 : List (S60)) (l0_3 : List (S62)) (l0_4 : List (S64)) : Option (Int × Int) := if a0_0 < 1 then (oculusref07_Wrong.j0 k true a0_0 a0_1 l0_2 l0_3 l0_4) else (if a0_0 > 999 then (oculusref07_Wrong.j0 k true a0_0 a0_1 l0_2 l0_3 l0_4) else (if a0_1 < 1 then (oculusref07_Wrong.j0 k true a0_0 a0_1 l0_2 l0_3 l0_4) else (if a0_1 > 702 then (oculusref07_Wrong.j0 k true a0_0 a0_1 l0_2 l0_3 l0_4) else (oculusref07_Wrong.j0 k (decide ((wrap64 (a0_0 * a0_1)) > 400)) a0_0 a0_1 l0_2 l0_3 l0_4))))
theorem oculusref07_Wrong.calls (k : Nat) (a0_0 : Int) (a0_1 : Int) (A0_2 : Option Addr) (c0_2 : Nat) (l0_2 : List (S60)) (A0_3 : Option Addr) (c0_3 : Nat) (l0_3 : List (S62)) (A0_4 : Option Addr) (c0_4 : Nat) (l0_4 : List (S64)) (r1 : Int) (r2 : Int) (w : World) (hr0_2 : Kd.C k60 w A0_2 l0_2.length l0_2) (hc0_2 : l0_2.length ≤ c0_2) (hr0_3 : Kd.C k62 w A0_3 l0_3.length l0_3) (hc0_3 : l0_3.length ≤ c0_3) (hr0_4 : Kd.C k64 w A0_4 l0_4.length l0_4) (hc0_4 : l0_4.length ≤ c0_4) (h : oculusref07_Wrong.f k a0_0 a0_1 l0_2 l0_3 l0_4 = some (r1, r2)) :
  Calls Tryz.prog 16 #[.agg #[.int .i64 a0_0, .int .i64 a0_1, .slice A0_2 l0_2.length c0_2, .slice A0_3 l0_3.length c0_3, .slice A0_4 l0_4.length c0_4]] w fun e w' => e = .returned (.agg #[.int .i64 r1, .int .i64 r2]) ∧ Below w.heap.size w w' := by
 have hu27 := Tryz.underlying27; have hu52 := Tryz.underlying52; have HR0_2 := A_ hr0_2; have HC0_2 := A_ hc0_2; clear hr0_2 hc0_2; have HR0_3 := A_ hr0_3; have HC0_3 := A_ hc0_3; clear hr0_3 hc0_3; have HR0_4 := A_ hr0_4; have HC0_4 := A_ hc0_4; clear hr0_4 hc0_4; have HB := A_ (Below.refl w.heap.size w)
 have H : (if a0_0 < 1 then (oculusref07_Wrong.j0 k true a0_0 a0_1 l0_2 l0_3 l0_4) else (if a0_0 > 999 then (oculusref07_Wrong.j0 k true a0_0 a0_1 l0_2 l0_3 l0_4) else (if a0_1 < 1 then (oculusref07_Wrong.j0 k true a0_0 a0_1 l0_2 l0_3 l0_4) else (if a0_1 > 702 then (oculusref07_Wrong.j0 k true a0_0 a0_1 l0_2 l0_3 l0_4) else (oculusref07_Wrong.j0 k (decide ((wrap64 (a0_0 * a0_1)) > 400)) a0_0 a0_1 l0_2 l0_3 l0_4))))) = some (r1, r2) := h
 clear h; have HC2 := A_ H; clear H
 go_enter Tryz.func16, Tryz.ntmps16
 go_upto_region 1 with (first | ((with_reducible refine gd_ 1 ?_); refine be_ (N:=1) (cs := #[.int .i64 a0_0, .int .i64 a0_1, .slice A0_2 l0_2.length c0_2, .slice A0_3 l0_3.length c0_3, .slice A0_4 l0_4.length c0_4]) (t:=27) ?_; intro g1 hg w3 hbox hb; have B1 := A_ (hbox); have GW101 := hs_ HB hg; have GE101 := hs_ HB hg; replace HB := bs_ HB hb; clear hb hbox hg) | ((with_reducible refine gd_ 2 ?_); refine be_ (N:=2) (cs := #[.int .i64 0, .int .i64 0]) (t:=52) ?_; intro g2 hg w4 hbox hb; have B2 := A_ (hbox); have GW102 := hs_ HB hg; have GE102 := hs_ HB hg; have N12 := hl_ B1 hg; have N21 := hr_ B1 hg; replace B1 := bb_ B1 hb; replace HB := bs_ HB hb; clear hb hbox hg))
 (try simp only [q_])
 go_cut [31] (fun v31 wc => ∃ (kq : Nat) (x31_1 : Bool), v31 = .bool x31_1 ∧ Aside0 (oculusref07_Wrong.j0 kq x31_1 a0_0 a0_1 l0_2 l0_3 l0_4 = some (r1, r2)) ∧ Aside0 (kq ≤ k) ∧ Aside0 (wc.heap[g1]? = some (.cells #[.int .i64 a0_0, .int .i64 a0_1, (.slice A0_2 l0_2.length c0_2), (.slice A0_3 l0_3.length c0_3), (.slice A0_4 l0_4.length c0_4)] 27 (0, 0))) ∧ Aside0 (wc.heap[g2]? = some (.cells #[.int .i64 0, .int .i64 0] 52 (0, 0))) ∧ Aside0 (Below w.heap.size w wc))
 case first =>
  have H := HC2.out; clear HC2
  by_cases c5 : a0_0 < 1
  ·rw [if_pos c5] at H; have c5b0 := decide_eq_true c5; clear c5; (first | rw [c5b0] | (simp only [i64_w, i32_w]; rw [c5b0]) | skip)
   have H' := A_ H
   clear H; have hnb6 := N12.out; have hnc6 := N21.out
   have ⟨hcz7_0,hcz7_1,hcz7_2,hcz7_3,hcz7_4,hfz7_0,hfz7_1,hfz7_2,hfz7_3,hfz7_4⟩ := z5_ B1
   go_wp2
   go_meet
   case rel => exact ⟨_, (true), sq_, H', le_, ⟨pkx B1⟩, ⟨pkx B2⟩, ⟨pbx HB⟩⟩
  ·rw [if_neg c5] at H; have c5b0 := decide_eq_false c5; clear c5; (first | rw [c5b0] | (simp only [i64_w, i32_w]; rw [c5b0]) | skip)
   by_cases c8 : a0_0 > 999
   ·rw [if_pos c8] at H; have c8b0 := decide_eq_true c8; clear c8
    have H' := A_ H
    clear H; have hnb9 := N12.out; have hnc9 := N21.out
    have ⟨hcz10_0,hcz10_1,hcz10_2,hcz10_3,hcz10_4,hfz10_0,hfz10_1,hfz10_2,hfz10_3,hfz10_4⟩ := z5_ B1
    go_wp2
    go_meet
    case rel => exact ⟨_, (true), sq_, H', le_, ⟨pkx B1⟩, ⟨pkx B2⟩, ⟨pbx HB⟩⟩
   ·rw [if_neg c8] at H; have c8b0 := decide_eq_false c8; clear c8
    by_cases c11 : a0_1 < 1
    ·rw [if_pos c11] at H; have c11b0 := decide_eq_true c11; clear c11
     have H' := A_ H
     clear H; have hnb12 := N12.out; have hnc12 := N21.out
     have ⟨hcz13_0,hcz13_1,hcz13_2,hcz13_3,hcz13_4,hfz13_0,hfz13_1,hfz13_2,hfz13_3,hfz13_4⟩ := z5_ B1
     go_wp2
     go_meet
     case rel => exact ⟨_, (true), sq_, H', le_, ⟨pkx B1⟩, ⟨pkx B2⟩, ⟨pbx HB⟩⟩
    ·rw [if_neg c11] at H; have c11b0 := decide_eq_false c11; clear c11
     by_cases c14 : a0_1 > 702
     ·rw [if_pos c14] at H; have c14b0 := decide_eq_true c14; clear c14
      have H' := A_ H
      clear H; have hnb15 := N12.out; have hnc15 := N21.out
      have ⟨hcz16_0,hcz16_1,hcz16_2,hcz16_3,hcz16_4,hfz16_0,hfz16_1,hfz16_2,hfz16_3,hfz16_4⟩ := z5_ B1
      go_wp2
      go_meet
      case rel => exact ⟨_, (true), sq_, H', le_, ⟨pkx B1⟩, ⟨pkx B2⟩, ⟨pbx HB⟩⟩
     ·rw [if_neg c14] at H; have c14b0 := decide_eq_false c14; clear c14
      have H' := A_ H
      clear H; have hnb17 := N12.out; have hnc17 := N21.out
      have ⟨hcz18_0,hcz18_1,hcz18_2,hcz18_3,hcz18_4,hfz18_0,hfz18_1,hfz18_2,hfz18_3,hfz18_4⟩ := z5_ B1
      go_wp2
      go_meet
      case rel => exact ⟨_, (decide ((wrap64 (a0_0 * a0_1)) > 400)), sq_, H', le_, ⟨pkx B1⟩, ⟨pkx B2⟩, ⟨pbx HB⟩⟩
 case rest =>
  clear HC2
  obtain ⟨kq, x31_1, rfl, HA, HJ1, B1, B2, HB⟩ := hcut
  cases kq with
  | zero => exact absurd HA.out (by simp [oculusref07_Wrong.j0])
  | succ kj1 =>
   have H := HA.out; clear HA
   simp only [oculusref07_Wrong.j0] at H
   by_cases c19 : x31_1 = true
   ·subst c19
    replace H := it_ H
    simp only [Option.some.injEq, Prod.mk.injEq] at H
    obtain ⟨rfl, rfl⟩ := H; have hnb20 := N21.out; have hnc20 := N12.out
    have ⟨hcz21_0,hcz21_1,hfz21_0,hfz21_1⟩ := z2_ B2
    go_wp2
    refine bodyPost_ret (results_cell_row rfl _ _ g2 52 #[.int .i64 1, .int .i64 2] (0, 0) _ rfl (by refine pp_ (cs := #[.int .i64 1, .int .i64 0]) 1 ?_ rfl; refine blk_put (cs := #[.int .i64 0, .int .i64 0]) ?_ 0 _ rfl; exact pkx B2) Tryz.underlying52 rfl (by kernel_rfl)) rfl ?_
    exact fi_ bl_
   ·replace c19 := Bool.eq_false_iff.mpr c19; subst c19
    obtain ⟨⟨t103, t104⟩, A22, H⟩ := bo_ (ie_ H); dsimp only at H; obtain ⟨⟨t106, t107⟩, A23, H⟩ := bo_ H; dsimp only at H; obtain ⟨⟨t109, t110⟩, A24, H⟩ := bo_ H; dsimp only at H
    by_cases c25 : t104 = 0
    ·rw [if_pos c25] at H; have ⟨c25b0,c25b1⟩ := e1_ c25; clear c25
     by_cases c26 : t107 = 0
     ·rw [if_pos c26] at H; have ⟨c26b0,c26b1⟩ := e1_ c26; clear c26
      by_cases c27 : t110 = 0
      ·rw [if_pos c27] at H; have ⟨c27b0,c27b1⟩ := e1_ c27; clear c27
       simp only [Option.some.injEq, Prod.mk.injEq] at H
       obtain ⟨rfl, rfl⟩ := H; have hnb28 := N12.out; have hnc28 := N21.out
       have ⟨hcz29_0,hcz29_1,hcz29_2,hcz29_3,hcz29_4,hfz29_0,hfz29_1,hfz29_2,hfz29_3,hfz29_4⟩ := z5_ B1
       go_wp2_with (first | ((with_reducible refine gate_callee (f:=37) rfl ?_); refine gL_ (some 39) rfl rfl Tryz.func37 rfl #[.slice A0_2 l0_2.length c0_2, .int .i64 a0_0, .int .i64 a0_1] rfl ?_; (with_reducible refine (oculusref05_Wrong.calls kj1 _ _ l0_2 a0_0 a0_1 t103 t104 _ ?side1 ?side2 A22.out).mono ?_); (case side1 => exact ca_ (Kd.C_below HR0_2.out HB.out)); (case side2 => exact HC0_2.out); rintro e w30 ⟨rfl, hb⟩; refine ⟨_, rfl, ?_⟩; replace B1 := bb_ B1 hb; replace B2 := bb_ B2 hb; replace HB := bs_ HB hb; (try clear hb); ) | ((with_reducible refine gd_ 3 ?_); refine be_ (N:=3) (cs := #[.int .i64 0, .int .i64 0]) (t:=52) ?_; intro g5 hg w31 hbox hb; have B5 := A_ (hbox); have GW105 := hs_ HB hg; have GE105 := hs_ HB hg; have N15 := hl_ B1 hg; have N51 := hr_ B1 hg; have N25 := hl_ B2 hg; have N52 := hr_ B2 hg; replace B1 := bb_ B1 hb; replace B2 := bb_ B2 hb; replace HB := bs_ HB hb; clear hb hbox hg; have hnb32 := N51.out; have hnc32 := N15.out; have hnb33 := N52.out; have hnc33 := N25.out; have ⟨hcz34_0,hcz34_1,hfz34_0,hfz34_1⟩ := z2_ B5; have ⟨hcz35_0,hcz35_1,hcz35_2,hcz35_3,hcz35_4,hfz35_0,hfz35_1,hfz35_2,hfz35_3,hfz35_4⟩ := z5_ B1) | ((with_reducible refine gate_callee (f:=38) rfl ?_); refine gL_ (some 42) rfl rfl Tryz.func38 rfl #[.slice A0_3 l0_3.length c0_3] rfl ?_; (with_reducible refine (oculusref06_Users.calls kj1 _ _ l0_3 t106 t107 _ ?side1 ?side2 A23.out).mono ?_); (case side1 => exact Kd.C_below HR0_3.out bl_); (case side2 => exact HC0_3.out); rintro e w36 ⟨rfl, hb⟩; refine ⟨_, rfl, ?_⟩; replace B1 := A_ (blk_below (g:=g1) (o := .cells #[.int .i64 a0_0, .int .i64 a0_1, .slice A0_2 l0_2.length c0_2, .slice A0_3 l0_3.length c0_3, .slice A0_4 l0_4.length c0_4] 27 (0, 0)) (by (iterate 2 refine pf_ ?_ N15.out); exact pkx B1) hb); replace B2 := A_ (blk_below (g:=g2) (o := .cells #[.int .i64 0, .int .i64 0] 52 (0, 0)) (by (iterate 2 refine pf_ ?_ N25.out); exact pkx B2) hb); replace B5 := A_ (blk_below (g:=g5) (o := .cells #[.int .i64 t103, .int .i64 t104] 52 (0, 0)) (by refine pp_ (cs := #[.int .i64 t103, .int .i64 0]) 1 ?_ rfl; refine blk_put (cs := #[.int .i64 0, .int .i64 0]) ?_ 0 _ rfl; exact pkx B5) hb); replace HB := A_ (below_step (by repeat (first | (with_reducible first | exact HB.out | apply below_alloc | apply pw_below_drewN | apply below_drew1 | refine below_set ?_ GE101.out | refine below_set ?_ GE102.out | refine below_set ?_ GE105.out) | exact HB.out)) hb); (try clear hb); ) | ((with_reducible refine gd_ 4 ?_); refine be_ (N:=4) (cs := #[.int .i64 0, .int .i64 0]) (t:=52) ?_; intro g8 hg w37 hbox hb; have B8 := A_ (hbox); have GW108 := hs_ HB hg; have GE108 := hs_ HB hg; have N18 := hl_ B1 hg; have N81 := hr_ B1 hg; have N28 := hl_ B2 hg; have N82 := hr_ B2 hg; have N58 := hl_ B5 hg; have N85 := hr_ B5 hg; replace B1 := bb_ B1 hb; replace B2 := bb_ B2 hb; replace B5 := bb_ B5 hb; replace HB := bs_ HB hb; clear hb hbox hg; have hnb38 := N81.out; have hnc38 := N18.out; have hnb39 := N82.out; have hnc39 := N28.out; have hnb40 := N85.out; have hnc40 := N58.out; have ⟨hcz41_0,hcz41_1,hfz41_0,hfz41_1⟩ := z2_ B8; have ⟨hcz42_0,hcz42_1,hcz42_2,hcz42_3,hcz42_4,hfz42_0,hfz42_1,hfz42_2,hfz42_3,hfz42_4⟩ := z5_ B1) | ((with_reducible refine gate_callee (f:=39) rfl ?_); refine gL_ (some 47) rfl rfl Tryz.func39 rfl #[.slice A0_4 l0_4.length c0_4, .slice A0_3 l0_3.length c0_3] rfl ?_; (with_reducible refine (oculusref06_Grants.calls kj1 _ _ l0_4 _ _ l0_3 t109 t110 _ ?side1 ?side2 ?side3 ?side4 A24.out).mono ?_); (case side1 => exact Kd.C_below HR0_4.out bl_); (case side2 => exact HC0_4.out); (case side3 => exact Kd.C_below HR0_3.out bl_); (case side4 => exact HC0_3.out); rintro e w43 ⟨rfl, hb⟩; refine ⟨_, rfl, ?_⟩; replace B1 := A_ (blk_below (g:=g1) (o := .cells #[.int .i64 a0_0, .int .i64 a0_1, .slice A0_2 l0_2.length c0_2, .slice A0_3 l0_3.length c0_3, .slice A0_4 l0_4.length c0_4] 27 (0, 0)) (by (iterate 2 refine pf_ ?_ N18.out); exact pkx B1) hb); replace B2 := A_ (blk_below (g:=g2) (o := .cells #[.int .i64 0, .int .i64 0] 52 (0, 0)) (by (iterate 2 refine pf_ ?_ N28.out); exact pkx B2) hb); replace B5 := A_ (blk_below (g:=g5) (o := .cells #[.int .i64 t103, .int .i64 t104] 52 (0, 0)) (by (iterate 2 refine pf_ ?_ N58.out); exact pkx B5) hb); replace B8 := A_ (blk_below (g:=g8) (o := .cells #[.int .i64 t106, .int .i64 t107] 52 (0, 0)) (by refine pp_ (cs := #[.int .i64 t106, .int .i64 0]) 1 ?_ rfl; refine blk_put (cs := #[.int .i64 0, .int .i64 0]) ?_ 0 _ rfl; exact pkx B8) hb); replace HB := A_ (below_step (by repeat (first | (with_reducible first | exact HB.out | apply below_alloc | apply pw_below_drewN | apply below_drew1 | refine below_set ?_ GE101.out | refine below_set ?_ GE102.out | refine below_set ?_ GE105.out | refine below_set ?_ GE108.out) | exact HB.out)) hb); (try clear hb); ) | ((with_reducible refine gd_ 5 ?_); refine be_ (N:=5) (cs := #[.int .i64 0, .int .i64 0]) (t:=52) ?_; intro gb111 hg w44 hbox hb; have BK111 := A_ (hbox); have GW111 := hs_ HB hg; have GE111 := hs_ HB hg; have NB101_111 := hl_ B1 hg; have NB111_101 := hr_ B1 hg; have NB102_111 := hl_ B2 hg; have NB111_102 := hr_ B2 hg; have NB105_111 := hl_ B5 hg; have NB111_105 := hr_ B5 hg; have NB108_111 := hl_ B8 hg; have NB111_108 := hr_ B8 hg; replace B1 := bb_ B1 hb; replace B2 := bb_ B2 hb; replace B5 := bb_ B5 hb; replace B8 := bb_ B8 hb; replace HB := bs_ HB hb; clear hb hbox hg; have hnb45 := NB111_101.out; have hnc45 := NB101_111.out; have hnb46 := NB111_102.out; have hnc46 := NB102_111.out; have hnb47 := NB111_105.out; have hnc47 := NB105_111.out; have hnb48 := NB111_108.out; have hnc48 := NB108_111.out; have ⟨hcz49_0,hcz49_1,hfz49_0,hfz49_1⟩ := z2_ BK111; have ⟨hcz50_0,hcz50_1,hfz50_0,hfz50_1⟩ := z2_ B5; have ⟨hcz51_0,hcz51_1,hfz51_0,hfz51_1⟩ := z2_ B8; have ⟨hcz52_0,hcz52_1,hfz52_0,hfz52_1⟩ := z2_ B2))
       refine bodyPost_ret (results_cell_row rfl _ _ g2 52 #[.int .i64 0, .int .i64 0] (0, 0) _ rfl (by refine pp_ (cs := #[.int .i64 0, .int .i64 0]) 1 ?_ rfl; refine blk_put (cs := #[.int .i64 0, .int .i64 0]) ?_ 0 _ rfl; (iterate 2 refine pf_ ?_ NB102_111.out); exact pkx B2) Tryz.underlying52 rfl (by kernel_rfl)) rfl ?_
       exact fi_ bl_
      ·rw [if_neg c27] at H; have ⟨c27b0,c27b1⟩ := e0_ c27
       simp only [Option.some.injEq, Prod.mk.injEq] at H
       obtain ⟨rfl, rfl⟩ := H; have hnb53 := N12.out; have hnc53 := N21.out
       have ⟨hcz54_0,hcz54_1,hcz54_2,hcz54_3,hcz54_4,hfz54_0,hfz54_1,hfz54_2,hfz54_3,hfz54_4⟩ := z5_ B1
       go_wp2_with (first | ((with_reducible refine gate_callee (f:=37) rfl ?_); refine gL_ (some 39) rfl rfl Tryz.func37 rfl #[.slice A0_2 l0_2.length c0_2, .int .i64 a0_0, .int .i64 a0_1] rfl ?_; (with_reducible refine (oculusref05_Wrong.calls kj1 _ _ l0_2 a0_0 a0_1 t103 t104 _ ?side1 ?side2 A22.out).mono ?_); (case side1 => exact ca_ (Kd.C_below HR0_2.out HB.out)); (case side2 => exact HC0_2.out); rintro e w55 ⟨rfl, hb⟩; refine ⟨_, rfl, ?_⟩; replace B1 := bb_ B1 hb; replace B2 := bb_ B2 hb; replace HB := bs_ HB hb; (try clear hb); ) | ((with_reducible refine gd_ 3 ?_); refine be_ (N:=3) (cs := #[.int .i64 0, .int .i64 0]) (t:=52) ?_; intro g5 hg w56 hbox hb; have B5 := A_ (hbox); have GW105 := hs_ HB hg; have GE105 := hs_ HB hg; have N15 := hl_ B1 hg; have N51 := hr_ B1 hg; have N25 := hl_ B2 hg; have N52 := hr_ B2 hg; replace B1 := bb_ B1 hb; replace B2 := bb_ B2 hb; replace HB := bs_ HB hb; clear hb hbox hg; have hnb57 := N51.out; have hnc57 := N15.out; have hnb58 := N52.out; have hnc58 := N25.out; have ⟨hcz59_0,hcz59_1,hfz59_0,hfz59_1⟩ := z2_ B5; have ⟨hcz60_0,hcz60_1,hcz60_2,hcz60_3,hcz60_4,hfz60_0,hfz60_1,hfz60_2,hfz60_3,hfz60_4⟩ := z5_ B1) | ((with_reducible refine gate_callee (f:=38) rfl ?_); refine gL_ (some 42) rfl rfl Tryz.func38 rfl #[.slice A0_3 l0_3.length c0_3] rfl ?_; (with_reducible refine (oculusref06_Users.calls kj1 _ _ l0_3 t106 t107 _ ?side1 ?side2 A23.out).mono ?_); (case side1 => exact Kd.C_below HR0_3.out bl_); (case side2 => exact HC0_3.out); rintro e w61 ⟨rfl, hb⟩; refine ⟨_, rfl, ?_⟩; replace B1 := A_ (blk_below (g:=g1) (o := .cells #[.int .i64 a0_0, .int .i64 a0_1, .slice A0_2 l0_2.length c0_2, .slice A0_3 l0_3.length c0_3, .slice A0_4 l0_4.length c0_4] 27 (0, 0)) (by (iterate 2 refine pf_ ?_ N15.out); exact pkx B1) hb); replace B2 := A_ (blk_below (g:=g2) (o := .cells #[.int .i64 0, .int .i64 0] 52 (0, 0)) (by (iterate 2 refine pf_ ?_ N25.out); exact pkx B2) hb); replace B5 := A_ (blk_below (g:=g5) (o := .cells #[.int .i64 t103, .int .i64 t104] 52 (0, 0)) (by refine pp_ (cs := #[.int .i64 t103, .int .i64 0]) 1 ?_ rfl; refine blk_put (cs := #[.int .i64 0, .int .i64 0]) ?_ 0 _ rfl; exact pkx B5) hb); replace HB := A_ (below_step (by repeat (first | (with_reducible first | exact HB.out | apply below_alloc | apply pw_below_drewN | apply below_drew1 | refine below_set ?_ GE101.out | refine below_set ?_ GE102.out | refine below_set ?_ GE105.out) | exact HB.out)) hb); (try clear hb); ) | ((with_reducible refine gd_ 4 ?_); refine be_ (N:=4) (cs := #[.int .i64 0, .int .i64 0]) (t:=52) ?_; intro g8 hg w62 hbox hb; have B8 := A_ (hbox); have GW108 := hs_ HB hg; have GE108 := hs_ HB hg; have N18 := hl_ B1 hg; have N81 := hr_ B1 hg; have N28 := hl_ B2 hg; have N82 := hr_ B2 hg; have N58 := hl_ B5 hg; have N85 := hr_ B5 hg; replace B1 := bb_ B1 hb; replace B2 := bb_ B2 hb; replace B5 := bb_ B5 hb; replace HB := bs_ HB hb; clear hb hbox hg; have hnb63 := N81.out; have hnc63 := N18.out; have hnb64 := N82.out; have hnc64 := N28.out; have hnb65 := N85.out; have hnc65 := N58.out; have ⟨hcz66_0,hcz66_1,hfz66_0,hfz66_1⟩ := z2_ B8; have ⟨hcz67_0,hcz67_1,hcz67_2,hcz67_3,hcz67_4,hfz67_0,hfz67_1,hfz67_2,hfz67_3,hfz67_4⟩ := z5_ B1) | ((with_reducible refine gate_callee (f:=39) rfl ?_); refine gL_ (some 47) rfl rfl Tryz.func39 rfl #[.slice A0_4 l0_4.length c0_4, .slice A0_3 l0_3.length c0_3] rfl ?_; (with_reducible refine (oculusref06_Grants.calls kj1 _ _ l0_4 _ _ l0_3 t109 t110 _ ?side1 ?side2 ?side3 ?side4 A24.out).mono ?_); (case side1 => exact Kd.C_below HR0_4.out bl_); (case side2 => exact HC0_4.out); (case side3 => exact Kd.C_below HR0_3.out bl_); (case side4 => exact HC0_3.out); rintro e w68 ⟨rfl, hb⟩; refine ⟨_, rfl, ?_⟩; replace B1 := A_ (blk_below (g:=g1) (o := .cells #[.int .i64 a0_0, .int .i64 a0_1, .slice A0_2 l0_2.length c0_2, .slice A0_3 l0_3.length c0_3, .slice A0_4 l0_4.length c0_4] 27 (0, 0)) (by (iterate 2 refine pf_ ?_ N18.out); exact pkx B1) hb); replace B2 := A_ (blk_below (g:=g2) (o := .cells #[.int .i64 0, .int .i64 0] 52 (0, 0)) (by (iterate 2 refine pf_ ?_ N28.out); exact pkx B2) hb); replace B5 := A_ (blk_below (g:=g5) (o := .cells #[.int .i64 t103, .int .i64 t104] 52 (0, 0)) (by (iterate 2 refine pf_ ?_ N58.out); exact pkx B5) hb); replace B8 := A_ (blk_below (g:=g8) (o := .cells #[.int .i64 t106, .int .i64 t107] 52 (0, 0)) (by refine pp_ (cs := #[.int .i64 t106, .int .i64 0]) 1 ?_ rfl; refine blk_put (cs := #[.int .i64 0, .int .i64 0]) ?_ 0 _ rfl; exact pkx B8) hb); replace HB := A_ (below_step (by repeat (first | (with_reducible first | exact HB.out | apply below_alloc | apply pw_below_drewN | apply below_drew1 | refine below_set ?_ GE101.out | refine below_set ?_ GE102.out | refine below_set ?_ GE105.out | refine below_set ?_ GE108.out) | exact HB.out)) hb); (try clear hb); ) | ((with_reducible refine gd_ 5 ?_); refine be_ (N:=5) (cs := #[.int .i64 0, .int .i64 0]) (t:=52) ?_; intro gb111 hg w69 hbox hb; have BK111 := A_ (hbox); have GW111 := hs_ HB hg; have GE111 := hs_ HB hg; have NB101_111 := hl_ B1 hg; have NB111_101 := hr_ B1 hg; have NB102_111 := hl_ B2 hg; have NB111_102 := hr_ B2 hg; have NB105_111 := hl_ B5 hg; have NB111_105 := hr_ B5 hg; have NB108_111 := hl_ B8 hg; have NB111_108 := hr_ B8 hg; replace B1 := bb_ B1 hb; replace B2 := bb_ B2 hb; replace B5 := bb_ B5 hb; replace B8 := bb_ B8 hb; replace HB := bs_ HB hb; clear hb hbox hg; have hnb70 := NB111_101.out; have hnc70 := NB101_111.out; have hnb71 := NB111_102.out; have hnc71 := NB102_111.out; have hnb72 := NB111_105.out; have hnc72 := NB105_111.out; have hnb73 := NB111_108.out; have hnc73 := NB108_111.out; have ⟨hcz74_0,hcz74_1,hfz74_0,hfz74_1⟩ := z2_ BK111; have ⟨hcz75_0,hcz75_1,hfz75_0,hfz75_1⟩ := z2_ B5; have ⟨hcz76_0,hcz76_1,hfz76_0,hfz76_1⟩ := z2_ B8; have ⟨hcz77_0,hcz77_1,hcz77_2,hcz77_3,hcz77_4,hfz77_0,hfz77_1,hfz77_2,hfz77_3,hfz77_4⟩ := z5_ B1; have ⟨hcz78_0,hcz78_1,hfz78_0,hfz78_1⟩ := z2_ B2))
       refine bodyPost_ret (results_cell_row rfl _ _ g2 52 #[.int .i64 (wrap64 ((wrap64 ((wrap64 (2 + (l0_2.length : Int))) + (l0_3.length : Int))) + t109)), .int .i64 t110] (0, 0) _ rfl (by refine pp_ (cs := #[.int .i64 (wrap64 ((wrap64 ((wrap64 (2 + (l0_2.length : Int))) + (l0_3.length : Int))) + t109)), .int .i64 0]) 1 ?_ rfl; refine blk_put (cs := #[.int .i64 0, .int .i64 0]) ?_ 0 _ rfl; (iterate 2 refine pf_ ?_ NB102_111.out); exact pkx B2) Tryz.underlying52 rfl (by kernel_rfl)) rfl ?_
       exact fi_ bl_
     ·rw [if_neg c26] at H; have ⟨c26b0,c26b1⟩ := e0_ c26
      simp only [Option.some.injEq, Prod.mk.injEq] at H
      obtain ⟨rfl, rfl⟩ := H; have hnb79 := N12.out; have hnc79 := N21.out
      have ⟨hcz80_0,hcz80_1,hcz80_2,hcz80_3,hcz80_4,hfz80_0,hfz80_1,hfz80_2,hfz80_3,hfz80_4⟩ := z5_ B1
      go_wp2_with (first | ((with_reducible refine gate_callee (f:=37) rfl ?_); refine gL_ (some 39) rfl rfl Tryz.func37 rfl #[.slice A0_2 l0_2.length c0_2, .int .i64 a0_0, .int .i64 a0_1] rfl ?_; (with_reducible refine (oculusref05_Wrong.calls kj1 _ _ l0_2 a0_0 a0_1 t103 t104 _ ?side1 ?side2 A22.out).mono ?_); (case side1 => exact ca_ (Kd.C_below HR0_2.out HB.out)); (case side2 => exact HC0_2.out); rintro e w81 ⟨rfl, hb⟩; refine ⟨_, rfl, ?_⟩; replace B1 := bb_ B1 hb; replace B2 := bb_ B2 hb; replace HB := bs_ HB hb; (try clear hb); ) | ((with_reducible refine gd_ 3 ?_); refine be_ (N:=3) (cs := #[.int .i64 0, .int .i64 0]) (t:=52) ?_; intro g5 hg w82 hbox hb; have B5 := A_ (hbox); have GW105 := hs_ HB hg; have GE105 := hs_ HB hg; have N15 := hl_ B1 hg; have N51 := hr_ B1 hg; have N25 := hl_ B2 hg; have N52 := hr_ B2 hg; replace B1 := bb_ B1 hb; replace B2 := bb_ B2 hb; replace HB := bs_ HB hb; clear hb hbox hg; have hnb83 := N51.out; have hnc83 := N15.out; have hnb84 := N52.out; have hnc84 := N25.out; have ⟨hcz85_0,hcz85_1,hfz85_0,hfz85_1⟩ := z2_ B5; have ⟨hcz86_0,hcz86_1,hcz86_2,hcz86_3,hcz86_4,hfz86_0,hfz86_1,hfz86_2,hfz86_3,hfz86_4⟩ := z5_ B1) | ((with_reducible refine gate_callee (f:=38) rfl ?_); refine gL_ (some 42) rfl rfl Tryz.func38 rfl #[.slice A0_3 l0_3.length c0_3] rfl ?_; (with_reducible refine (oculusref06_Users.calls kj1 _ _ l0_3 t106 t107 _ ?side1 ?side2 A23.out).mono ?_); (case side1 => exact Kd.C_below HR0_3.out bl_); (case side2 => exact HC0_3.out); rintro e w87 ⟨rfl, hb⟩; refine ⟨_, rfl, ?_⟩; replace B1 := A_ (blk_below (g:=g1) (o := .cells #[.int .i64 a0_0, .int .i64 a0_1, .slice A0_2 l0_2.length c0_2, .slice A0_3 l0_3.length c0_3, .slice A0_4 l0_4.length c0_4] 27 (0, 0)) (by (iterate 2 refine pf_ ?_ N15.out); exact pkx B1) hb); replace B2 := A_ (blk_below (g:=g2) (o := .cells #[.int .i64 0, .int .i64 0] 52 (0, 0)) (by (iterate 2 refine pf_ ?_ N25.out); exact pkx B2) hb); replace B5 := A_ (blk_below (g:=g5) (o := .cells #[.int .i64 t103, .int .i64 t104] 52 (0, 0)) (by refine pp_ (cs := #[.int .i64 t103, .int .i64 0]) 1 ?_ rfl; refine blk_put (cs := #[.int .i64 0, .int .i64 0]) ?_ 0 _ rfl; exact pkx B5) hb); replace HB := A_ (below_step (by repeat (first | (with_reducible first | exact HB.out | apply below_alloc | apply pw_below_drewN | apply below_drew1 | refine below_set ?_ GE101.out | refine below_set ?_ GE102.out | refine below_set ?_ GE105.out) | exact HB.out)) hb); (try clear hb); ) | ((with_reducible refine gd_ 4 ?_); refine be_ (N:=4) (cs := #[.int .i64 0, .int .i64 0]) (t:=52) ?_; intro g8 hg w88 hbox hb; have B8 := A_ (hbox); have GW108 := hs_ HB hg; have GE108 := hs_ HB hg; have N18 := hl_ B1 hg; have N81 := hr_ B1 hg; have N28 := hl_ B2 hg; have N82 := hr_ B2 hg; have N58 := hl_ B5 hg; have N85 := hr_ B5 hg; replace B1 := bb_ B1 hb; replace B2 := bb_ B2 hb; replace B5 := bb_ B5 hb; replace HB := bs_ HB hb; clear hb hbox hg; have hnb89 := N81.out; have hnc89 := N18.out; have hnb90 := N82.out; have hnc90 := N28.out; have hnb91 := N85.out; have hnc91 := N58.out; have ⟨hcz92_0,hcz92_1,hfz92_0,hfz92_1⟩ := z2_ B8; have ⟨hcz93_0,hcz93_1,hcz93_2,hcz93_3,hcz93_4,hfz93_0,hfz93_1,hfz93_2,hfz93_3,hfz93_4⟩ := z5_ B1) | ((with_reducible refine gate_callee (f:=39) rfl ?_); refine gL_ (some 47) rfl rfl Tryz.func39 rfl #[.slice A0_4 l0_4.length c0_4, .slice A0_3 l0_3.length c0_3] rfl ?_; (with_reducible refine (oculusref06_Grants.calls kj1 _ _ l0_4 _ _ l0_3 t109 t110 _ ?side1 ?side2 ?side3 ?side4 A24.out).mono ?_); (case side1 => exact Kd.C_below HR0_4.out bl_); (case side2 => exact HC0_4.out); (case side3 => exact Kd.C_below HR0_3.out bl_); (case side4 => exact HC0_3.out); rintro e w94 ⟨rfl, hb⟩; refine ⟨_, rfl, ?_⟩; replace B1 := A_ (blk_below (g:=g1) (o := .cells #[.int .i64 a0_0, .int .i64 a0_1, .slice A0_2 l0_2.length c0_2, .slice A0_3 l0_3.length c0_3, .slice A0_4 l0_4.length c0_4] 27 (0, 0)) (by (iterate 2 refine pf_ ?_ N18.out); exact pkx B1) hb); replace B2 := A_ (blk_below (g:=g2) (o := .cells #[.int .i64 0, .int .i64 0] 52 (0, 0)) (by (iterate 2 refine pf_ ?_ N28.out); exact pkx B2) hb); replace B5 := A_ (blk_below (g:=g5) (o := .cells #[.int .i64 t103, .int .i64 t104] 52 (0, 0)) (by (iterate 2 refine pf_ ?_ N58.out); exact pkx B5) hb); replace B8 := A_ (blk_below (g:=g8) (o := .cells #[.int .i64 t106, .int .i64 t107] 52 (0, 0)) (by refine pp_ (cs := #[.int .i64 t106, .int .i64 0]) 1 ?_ rfl; refine blk_put (cs := #[.int .i64 0, .int .i64 0]) ?_ 0 _ rfl; exact pkx B8) hb); replace HB := A_ (below_step (by repeat (first | (with_reducible first | exact HB.out | apply below_alloc | apply pw_below_drewN | apply below_drew1 | refine below_set ?_ GE101.out | refine below_set ?_ GE102.out | refine below_set ?_ GE105.out | refine below_set ?_ GE108.out) | exact HB.out)) hb); (try clear hb); ) | ((with_reducible refine gd_ 5 ?_); refine be_ (N:=5) (cs := #[.int .i64 0, .int .i64 0]) (t:=52) ?_; intro gb111 hg w95 hbox hb; have BK111 := A_ (hbox); have GW111 := hs_ HB hg; have GE111 := hs_ HB hg; have NB101_111 := hl_ B1 hg; have NB111_101 := hr_ B1 hg; have NB102_111 := hl_ B2 hg; have NB111_102 := hr_ B2 hg; have NB105_111 := hl_ B5 hg; have NB111_105 := hr_ B5 hg; have NB108_111 := hl_ B8 hg; have NB111_108 := hr_ B8 hg; replace B1 := bb_ B1 hb; replace B2 := bb_ B2 hb; replace B5 := bb_ B5 hb; replace B8 := bb_ B8 hb; replace HB := bs_ HB hb; clear hb hbox hg; have hnb96 := NB111_101.out; have hnc96 := NB101_111.out; have hnb97 := NB111_102.out; have hnc97 := NB102_111.out; have hnb98 := NB111_105.out; have hnc98 := NB105_111.out; have hnb99 := NB111_108.out; have hnc99 := NB108_111.out; have ⟨hcz100_0,hcz100_1,hfz100_0,hfz100_1⟩ := z2_ BK111; have ⟨hcz101_0,hcz101_1,hfz101_0,hfz101_1⟩ := z2_ B5; have ⟨hcz102_0,hcz102_1,hfz102_0,hfz102_1⟩ := z2_ B8; have ⟨hcz103_0,hcz103_1,hcz103_2,hcz103_3,hcz103_4,hfz103_0,hfz103_1,hfz103_2,hfz103_3,hfz103_4⟩ := z5_ B1; have ⟨hcz104_0,hcz104_1,hfz104_0,hfz104_1⟩ := z2_ B2))
      refine bodyPost_ret (results_cell_row rfl _ _ g2 52 #[.int .i64 (wrap64 ((wrap64 (2 + (l0_2.length : Int))) + t106)), .int .i64 t107] (0, 0) _ rfl (by refine pp_ (cs := #[.int .i64 (wrap64 ((wrap64 (2 + (l0_2.length : Int))) + t106)), .int .i64 0]) 1 ?_ rfl; refine blk_put (cs := #[.int .i64 0, .int .i64 0]) ?_ 0 _ rfl; (iterate 2 refine pf_ ?_ NB102_111.out); exact pkx B2) Tryz.underlying52 rfl (by kernel_rfl)) rfl ?_
      exact fi_ bl_
    ·rw [if_neg c25] at H; have ⟨c25b0,c25b1⟩ := e0_ c25
     simp only [Option.some.injEq, Prod.mk.injEq] at H
     obtain ⟨rfl, rfl⟩ := H; have hnb105 := N12.out; have hnc105 := N21.out
     have ⟨hcz106_0,hcz106_1,hcz106_2,hcz106_3,hcz106_4,hfz106_0,hfz106_1,hfz106_2,hfz106_3,hfz106_4⟩ := z5_ B1
     go_wp2_with (first | ((with_reducible refine gate_callee (f:=37) rfl ?_); refine gL_ (some 39) rfl rfl Tryz.func37 rfl #[.slice A0_2 l0_2.length c0_2, .int .i64 a0_0, .int .i64 a0_1] rfl ?_; (with_reducible refine (oculusref05_Wrong.calls kj1 _ _ l0_2 a0_0 a0_1 t103 t104 _ ?side1 ?side2 A22.out).mono ?_); (case side1 => exact ca_ (Kd.C_below HR0_2.out HB.out)); (case side2 => exact HC0_2.out); rintro e w107 ⟨rfl, hb⟩; refine ⟨_, rfl, ?_⟩; replace B1 := bb_ B1 hb; replace B2 := bb_ B2 hb; replace HB := bs_ HB hb; (try clear hb); ) | ((with_reducible refine gd_ 3 ?_); refine be_ (N:=3) (cs := #[.int .i64 0, .int .i64 0]) (t:=52) ?_; intro g5 hg w108 hbox hb; have B5 := A_ (hbox); have GW105 := hs_ HB hg; have GE105 := hs_ HB hg; have N15 := hl_ B1 hg; have N51 := hr_ B1 hg; have N25 := hl_ B2 hg; have N52 := hr_ B2 hg; replace B1 := bb_ B1 hb; replace B2 := bb_ B2 hb; replace HB := bs_ HB hb; clear hb hbox hg; have hnb109 := N51.out; have hnc109 := N15.out; have hnb110 := N52.out; have hnc110 := N25.out; have ⟨hcz111_0,hcz111_1,hfz111_0,hfz111_1⟩ := z2_ B5; have ⟨hcz112_0,hcz112_1,hcz112_2,hcz112_3,hcz112_4,hfz112_0,hfz112_1,hfz112_2,hfz112_3,hfz112_4⟩ := z5_ B1) | ((with_reducible refine gate_callee (f:=38) rfl ?_); refine gL_ (some 42) rfl rfl Tryz.func38 rfl #[.slice A0_3 l0_3.length c0_3] rfl ?_; (with_reducible refine (oculusref06_Users.calls kj1 _ _ l0_3 t106 t107 _ ?side1 ?side2 A23.out).mono ?_); (case side1 => exact Kd.C_below HR0_3.out bl_); (case side2 => exact HC0_3.out); rintro e w113 ⟨rfl, hb⟩; refine ⟨_, rfl, ?_⟩; replace B1 := A_ (blk_below (g:=g1) (o := .cells #[.int .i64 a0_0, .int .i64 a0_1, .slice A0_2 l0_2.length c0_2, .slice A0_3 l0_3.length c0_3, .slice A0_4 l0_4.length c0_4] 27 (0, 0)) (by (iterate 2 refine pf_ ?_ N15.out); exact pkx B1) hb); replace B2 := A_ (blk_below (g:=g2) (o := .cells #[.int .i64 0, .int .i64 0] 52 (0, 0)) (by (iterate 2 refine pf_ ?_ N25.out); exact pkx B2) hb); replace B5 := A_ (blk_below (g:=g5) (o := .cells #[.int .i64 t103, .int .i64 t104] 52 (0, 0)) (by refine pp_ (cs := #[.int .i64 t103, .int .i64 0]) 1 ?_ rfl; refine blk_put (cs := #[.int .i64 0, .int .i64 0]) ?_ 0 _ rfl; exact pkx B5) hb); replace HB := A_ (below_step (by repeat (first | (with_reducible first | exact HB.out | apply below_alloc | apply pw_below_drewN | apply below_drew1 | refine below_set ?_ GE101.out | refine below_set ?_ GE102.out | refine below_set ?_ GE105.out) | exact HB.out)) hb); (try clear hb); ) | ((with_reducible refine gd_ 4 ?_); refine be_ (N:=4) (cs := #[.int .i64 0, .int .i64 0]) (t:=52) ?_; intro g8 hg w114 hbox hb; have B8 := A_ (hbox); have GW108 := hs_ HB hg; have GE108 := hs_ HB hg; have N18 := hl_ B1 hg; have N81 := hr_ B1 hg; have N28 := hl_ B2 hg; have N82 := hr_ B2 hg; have N58 := hl_ B5 hg; have N85 := hr_ B5 hg; replace B1 := bb_ B1 hb; replace B2 := bb_ B2 hb; replace B5 := bb_ B5 hb; replace HB := bs_ HB hb; clear hb hbox hg; have hnb115 := N81.out; have hnc115 := N18.out; have hnb116 := N82.out; have hnc116 := N28.out; have hnb117 := N85.out; have hnc117 := N58.out; have ⟨hcz118_0,hcz118_1,hfz118_0,hfz118_1⟩ := z2_ B8; have ⟨hcz119_0,hcz119_1,hcz119_2,hcz119_3,hcz119_4,hfz119_0,hfz119_1,hfz119_2,hfz119_3,hfz119_4⟩ := z5_ B1) | ((with_reducible refine gate_callee (f:=39) rfl ?_); refine gL_ (some 47) rfl rfl Tryz.func39 rfl #[.slice A0_4 l0_4.length c0_4, .slice A0_3 l0_3.length c0_3] rfl ?_; (with_reducible refine (oculusref06_Grants.calls kj1 _ _ l0_4 _ _ l0_3 t109 t110 _ ?side1 ?side2 ?side3 ?side4 A24.out).mono ?_); (case side1 => exact Kd.C_below HR0_4.out bl_); (case side2 => exact HC0_4.out); (case side3 => exact Kd.C_below HR0_3.out bl_); (case side4 => exact HC0_3.out); rintro e w120 ⟨rfl, hb⟩; refine ⟨_, rfl, ?_⟩; replace B1 := A_ (blk_below (g:=g1) (o := .cells #[.int .i64 a0_0, .int .i64 a0_1, .slice A0_2 l0_2.length c0_2, .slice A0_3 l0_3.length c0_3, .slice A0_4 l0_4.length c0_4] 27 (0, 0)) (by (iterate 2 refine pf_ ?_ N18.out); exact pkx B1) hb); replace B2 := A_ (blk_below (g:=g2) (o := .cells #[.int .i64 0, .int .i64 0] 52 (0, 0)) (by (iterate 2 refine pf_ ?_ N28.out); exact pkx B2) hb); replace B5 := A_ (blk_below (g:=g5) (o := .cells #[.int .i64 t103, .int .i64 t104] 52 (0, 0)) (by (iterate 2 refine pf_ ?_ N58.out); exact pkx B5) hb); replace B8 := A_ (blk_below (g:=g8) (o := .cells #[.int .i64 t106, .int .i64 t107] 52 (0, 0)) (by refine pp_ (cs := #[.int .i64 t106, .int .i64 0]) 1 ?_ rfl; refine blk_put (cs := #[.int .i64 0, .int .i64 0]) ?_ 0 _ rfl; exact pkx B8) hb); replace HB := A_ (below_step (by repeat (first | (with_reducible first | exact HB.out | apply below_alloc | apply pw_below_drewN | apply below_drew1 | refine below_set ?_ GE101.out | refine below_set ?_ GE102.out | refine below_set ?_ GE105.out | refine below_set ?_ GE108.out) | exact HB.out)) hb); (try clear hb); ) | ((with_reducible refine gd_ 5 ?_); refine be_ (N:=5) (cs := #[.int .i64 0, .int .i64 0]) (t:=52) ?_; intro gb111 hg w121 hbox hb; have BK111 := A_ (hbox); have GW111 := hs_ HB hg; have GE111 := hs_ HB hg; have NB101_111 := hl_ B1 hg; have NB111_101 := hr_ B1 hg; have NB102_111 := hl_ B2 hg; have NB111_102 := hr_ B2 hg; have NB105_111 := hl_ B5 hg; have NB111_105 := hr_ B5 hg; have NB108_111 := hl_ B8 hg; have NB111_108 := hr_ B8 hg; replace B1 := bb_ B1 hb; replace B2 := bb_ B2 hb; replace B5 := bb_ B5 hb; replace B8 := bb_ B8 hb; replace HB := bs_ HB hb; clear hb hbox hg; have hnb122 := NB111_101.out; have hnc122 := NB101_111.out; have hnb123 := NB111_102.out; have hnc123 := NB102_111.out; have hnb124 := NB111_105.out; have hnc124 := NB105_111.out; have hnb125 := NB111_108.out; have hnc125 := NB108_111.out; have ⟨hcz126_0,hcz126_1,hfz126_0,hfz126_1⟩ := z2_ BK111; have ⟨hcz127_0,hcz127_1,hfz127_0,hfz127_1⟩ := z2_ B5; have ⟨hcz128_0,hcz128_1,hfz128_0,hfz128_1⟩ := z2_ B2))
     refine bodyPost_ret (results_cell_row rfl _ _ g2 52 #[.int .i64 (wrap64 (2 + t103)), .int .i64 t104] (0, 0) _ rfl (by refine pp_ (cs := #[.int .i64 (wrap64 (2 + t103)), .int .i64 0]) 1 ?_ rfl; refine blk_put (cs := #[.int .i64 0, .int .i64 0]) ?_ 0 _ rfl; (iterate 2 refine pf_ ?_ NB102_111.out); exact pkx B2) Tryz.underlying52 rfl (by kernel_rfl)) rfl ?_
     exact fi_ bl_

end Go.Proofs.YtbboanfggaknjaaGreatDoor.X
