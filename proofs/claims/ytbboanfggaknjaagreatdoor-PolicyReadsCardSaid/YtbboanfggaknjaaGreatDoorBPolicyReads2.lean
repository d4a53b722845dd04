/- Contracts of the functions that the law PolicyReads reaches, and what they answer (a session's own texts, joined; part 2). -/
import Derived.StillTailTactics
import Derived.Test.YtbboanfggaknjaaGreatDoorBPolicyReads1
set_option maxHeartbeats 8000000
set_option maxRecDepth 100000
/- policy.add, walked. -/
set_option linter.unusedVariables false
set_option linter.unusedSimpArgs false
namespace Go.Proofs.YtbboanfggaknjaaGreatDoor.X
open Go.RowKit Go.Proofs.YtbboanfggaknjaaGreatDoorW.PrintWords Go.Proofs.YtbboanfggaknjaaGreatDoorW.PrintLast Go.Proofs.YtbboanfggaknjaaGreatDoorW.PrintMore
abbrev T6 : Type := Int × Int × Int × List S60 × List S62 × List S64
def wrd (ws : List ByteArray) (i : Int) : ByteArray := rdOf ByteArray.empty ws i
def policy_add.f (k : Nat) (r c : Int) (zs : List S60) (us : List S62) (gs : List S64) (ws : List ByteArray) : Option T6 :=
 if ws.length = 3 ∧ (wrd ws 0).toList = [103, 114, 105, 100] then
  (addr_Number.f k (wrd ws 1)).bind fun a => (addr_Number.f k (wrd ws 2)).bind fun b =>
  if a.2 = true ∧ b.2 = true then some (0, wrap64 (a.1 + 1), wrap64 (b.1 + 1), zs, us, gs) else some (4, r, c, zs, us, gs)
 else if ws.length = 3 ∧ (wrd ws 0).toList = [122, 111, 110, 101] then
  (span_Parse.f k (wrd ws 1)).bind fun a => (label_Parse.f k (wrd ws 2)).bind fun b =>
  if a.2.2.2.2 = true ∧ b.2.2 = true then (if zs.length ≤ 100000 then some (1, r, c, zs ++ [⟨⟨⟨a.1, a.2.1⟩, ⟨a.2.2.1, a.2.2.2.1⟩⟩, ⟨b.1, b.2.1⟩⟩], us, gs) else none) else some (4, r, c, zs, us, gs)
 else if ws.length = 3 ∧ (wrd ws 0).toList = [117, 115, 101, 114] then
  (label_Parse.f k (wrd ws 2)).bind fun b =>
  if b.2.2 = true then (if us.length ≤ 100000 then some (2, r, c, zs, us ++ [⟨wrd ws 1, ⟨b.1, b.2.1⟩⟩], gs) else none) else some (4, r, c, zs, us, gs)
 else if ws.length = 4 ∧ (wrd ws 0).toList = [103, 114, 97, 110, 116] then
  (label_Parse.f k (wrd ws 2)).bind fun a => (label_Parse.f k (wrd ws 3)).bind fun b =>
  if a.2.2 = true ∧ b.2.2 = true then (if gs.length ≤ 100000 then some (3, r, c, zs, us, gs ++ [⟨wrd ws 1, ⟨a.1, a.2.1⟩, ⟨b.1, b.2.1⟩⟩]) else none) else some (4, r, c, zs, us, gs)
 else some (4, r, c, zs, us, gs)
theorem words_at {w : World} {A : Option Addr} {ws : List ByteArray} (h : Kd.C Kd.string w A ws.length ws) (hn : 0 < ws.length) : ∃ ad, A = some ad ∧ ∀ i : Nat, i < ws.length → w.cell? (ad.add i) = some (.string (wrd ws (i : Int))) := by
 obtain ⟨ad, rfl, _⟩ := Kd.at_string h 0 (by omega) (by omega)
 refine ⟨ad, rfl, fun i hi => ?_⟩
 obtain ⟨ad2, e, hc⟩ := Kd.at_string h (i : Int) (by omega) (by omega)
 cases e
 exact hc
theorem cell_below {w w1 : World} {p : Addr} {v : Value} (h : w.cell? p = some v) (hb : Below w.heap.size w w1) : w1.cell? p = some v := (hb.cell (World.block_lt_of_cell? _ _ h)).trans h
theorem add_grid (k : Nat) (g : Nat) (r c : Int) (vz vu vg : Value) (zs : List S60) (us : List S62) (gs : List S64) (A : Option Addr) (cap : Nat) (ws : List ByteArray) (w0 w : World) (hI : Aside0 (IsP w0 w g r c vz vu vg zs us gs)) (hW : Aside0 (Kd.C Kd.string w A ws.length ws)) (hc : ws.length ≤ cap)
  (h3 : ws.length = 3) (hg : (wrd ws 0).toList = [103, 114, 105, 100]) (n1 n2 : Int) (b1 b2 : Bool) (A1 : addr_Number.f k (wrd ws 1) = some (n1, b1)) (A2 : addr_Number.f k (wrd ws 2) = some (n2, b2)) (kind r1 c1 : Int) (zs1 : List S60) (us1 : List S62) (gs1 : List S64)
  (H : (if b1 = true ∧ b2 = true then some (0, wrap64 (n1 + 1), wrap64 (n2 + 1), zs, us, gs) else some (4, r, c, zs, us, gs)) = some ((kind, r1, c1, zs1, us1, gs1) : T6)) :
  Calls Tryz.prog 11 #[.pointer (some ⟨g, 0, none⟩), .slice A ws.length cap] w fun e w' => e = .returned (.int .i64 kind) ∧ ∃ vz1 vu1 vg1, IsP w0 w' g r1 c1 vz1 vu1 vg1 zs1 us1 gs1 := by
 have HH := Aside0.mk H
 clear H
 have hu26 := Tryz.underlying27
 have HA1 := Aside0.mk A1
 have HA2 := Aside0.mk A2
 clear A1 A2
 obtain ⟨ad, rfl, hat⟩ := words_at hW.out (by omega)
 have e00 := hat 0 (by omega)
 have e0 : w.cell? ad = some (.string (wrd ws 0)) := e00
 have e1 : w.cell? ⟨ad.block, ad.off + 1, none⟩ = some (.string (wrd ws 1)) := hat 1 (by omega)
 have e2 : w.cell? ⟨ad.block, ad.off + 2, none⟩ = some (.string (wrd ws 2)) := hat 2 (by omega)
 rw [h3]
 have d3 : (((3 : Nat) : Int) == 3) = true := rfl
 have dg : ((wrd ws 0).toList == [103, 114, 105, 100]) = true := beq_iff_eq.mpr hg
 have HAT := Aside0.mk hat
 clear hg h3 hW hat
 go_enter Tryz.func11, Tryz.ntmps11
 go_upto_region 2 with fail
 clear e0 e00 dg d3 HAT
 go_upto_region 3 with (go_at_call 26; refine (addr_Number.calls k (wrd ws 1) n1 b1 _ HA1.out).mono ?_; rintro e w5 ⟨rfl, hd⟩; have hb := hd.below; clear hd; replace e2 := cell_below e2 hb; have HI5 := Aside0.mk (hI.out.below hb); clear hb)
 clear e1 hI
 go_upto_region 4 with (go_at_call 26; refine (addr_Number.calls k (wrd ws 2) n2 b2 _ HA2.out).mono ?_; rintro e w6 ⟨rfl, hd⟩; have hb := hd.below; clear hd; have HI6 := Aside0.mk (HI5.out.below hb); clear hb)
 clear e2 HI5
 have H := HH.out
 clear HH
 cases b1 with
 | false =>
  rw [if_neg (by simp)] at H
  simp only [Option.some.injEq, Prod.mk.injEq] at H
  obtain ⟨rfl, rfl, rfl, rfl, rfl, rfl⟩ := H
  go_wp2
  go_ret
  exact ⟨rfl, _, _, _, HI6.out⟩
 | true =>
  cases b2 with
  | false =>
   rw [if_neg (by simp)] at H
   simp only [Option.some.injEq, Prod.mk.injEq] at H
   obtain ⟨rfl, rfl, rfl, rfl, rfl, rfl⟩ := H
   go_wp2
   go_ret
   exact ⟨rfl, _, _, _, HI6.out⟩
  | true =>
   rw [if_pos (by simp)] at H
   simp only [Option.some.injEq, Prod.mk.injEq] at H
   obtain ⟨rfl, rfl, rfl, rfl, rfl, rfl⟩ := H
   have z0 : w6.cell? ⟨g, 0, none⟩ = some (.int .i64 r) := (blk_cell HI6.out.hP 0).trans rfl
   have z1 : w6.cell? ⟨g, 1, none⟩ = some (.int .i64 c) := (blk_cell HI6.out.hP 1).trans rfl
   have f0 := blk_frozen HI6.out.hP 0
   have f1 := blk_frozen HI6.out.hP 1
   go_wp2
   go_ret
   exact ⟨rfl, _, _, _, HI6.out.grid (wrap64 (n1 + 1)) (wrap64 (n2 + 1))⟩
theorem P_grownT {w w1 : World} {g t : Nat} {cs : Array Value} {α : Type} {d : Kd α} {e b : Nat} {v : Value} {xs : List α} (hP : w.heap[g]? = some (.cells cs t (0, 0))) (h : d.R e w b (fun _ => True) v xs) (ht : e ≠ t) (hg : w.grownBy w1 v.ownBlock) : w1.heap[g]? = some (.cells cs t (0, 0)) := by
 obtain ⟨h0, inner, ho, hr⟩ := h
 rw [← hP]
 refine hg.block g (blk_lt hP) (fun e9 => ?_)
 obtain ⟨cells, hc⟩ := own_typed ho g e9.symm
 rw [hP] at hc
 injection hc with hc
 injection hc with _ hc
 exact ht hc.symm
theorem info61 : (Tryz.prog.info? 60).map (fun i => (i.zero, i.size, i.bytes)) = some (some (.agg #[.int .i64 0, .int .i64 0, .int .i64 0, .int .i64 0, .int .i64 0, .int .u64 0]), 6, 48) := by kernel_rfl
theorem info67 : (Tryz.prog.info? 64).map (fun i => (i.zero, i.size, i.bytes)) = some (some (.agg #[.string ⟨#[]⟩, .int .i64 0, .int .u64 0, .int .i64 0, .int .u64 0]), 5, 48) := by kernel_rfl
theorem cells4 {W : World} {g : Nat} {t : TypeId} {a0 a1 a2 a3 : Value} (h : W.heap[g]? = some (.cells #[a0, a1, a2, a3] t (0, 0))) : W.cell? ⟨g, 0, none⟩ = some a0 ∧ W.cell? ⟨g, 1, none⟩ = some a1 ∧ W.cell? ⟨g, 2, none⟩ = some a2 ∧ W.cell? ⟨g, 3, none⟩ = some a3 := ⟨(blk_cell h 0).trans rfl, (blk_cell h 1).trans rfl, (blk_cell h 2).trans rfl, (blk_cell h 3).trans rfl⟩
theorem cells2 {W : World} {g : Nat} {t : TypeId} {a0 a1 : Value} (h : W.heap[g]? = some (.cells #[a0, a1] t (0, 0))) : W.cell? ⟨g, 0, none⟩ = some a0 ∧ W.cell? ⟨g, 1, none⟩ = some a1 := ⟨(blk_cell h 0).trans rfl, (blk_cell h 1).trans rfl⟩
theorem new_below (w : World) (o : Obj) : Below w.heap.size w (w.alloc o) := below_alloc (Below.refl _ _) o
theorem add_zone (k : Nat) (g : Nat) (r c : Int) (vz vu vg : Value) (zs : List S60) (us : List S62) (gs : List S64) (A : Option Addr) (cap : Nat) (ws : List ByteArray) (w0 w : World) (hT : Aside0 (Tab w)) (hI : Aside0 (IsP w0 w g r c vz vu vg zs us gs)) (hW : Aside0 (Kd.C Kd.string w A ws.length ws)) (hc : ws.length ≤ cap)
  (h3 : ws.length = 3) (hg : (wrd ws 0).toList = [122, 111, 110, 101]) (s1 s2 s3 s4 l1 l2 : Int) (b1 b2 : Bool) (A1 : span_Parse.f k (wrd ws 1) = some (s1, s2, s3, s4, b1)) (A2 : label_Parse.f k (wrd ws 2) = some (l1, l2, b2)) (kind r1 c1 : Int) (zs1 : List S60) (us1 : List S62) (gs1 : List S64)
  (H : (if b1 = true ∧ b2 = true then (if zs.length ≤ 100000 then some (1, r, c, zs ++ [⟨⟨⟨s1, s2⟩, ⟨s3, s4⟩⟩, ⟨l1, l2⟩⟩], us, gs) else none) else some (4, r, c, zs, us, gs)) = some ((kind, r1, c1, zs1, us1, gs1) : T6)) :
  Calls Tryz.prog 11 #[.pointer (some ⟨g, 0, none⟩), .slice A ws.length cap] w fun e w' => e = .returned (.int .i64 kind) ∧ ∃ vz1 vu1 vg1, IsP w0 w' g r1 c1 vz1 vu1 vg1 zs1 us1 gs1 := by
 have HH := Aside0.mk H
 clear H
 have hu26 := Tryz.underlying27
 have hu56 := Tryz.underlying55
 have hu59 := Tryz.underlying58
 have hu61 := Tryz.underlying60
 have HA1 := Aside0.mk A1
 have HA2 := Aside0.mk A2
 clear A1 A2
 obtain ⟨ad, rfl, hat⟩ := words_at hW.out (by omega)
 have e00 := hat 0 (by omega)
 have e0 : w.cell? ad = some (.string (wrd ws 0)) := e00
 have e1 : w.cell? ⟨ad.block, ad.off + 1, none⟩ = some (.string (wrd ws 1)) := hat 1 (by omega)
 have e2 : w.cell? ⟨ad.block, ad.off + 2, none⟩ = some (.string (wrd ws 2)) := hat 2 (by omega)
 rw [h3]
 have d3 : (((3 : Nat) : Int) == 3) = true := rfl
 have dg : ((wrd ws 0).toList == [103, 114, 105, 100]) = false := by rw [hg]; rfl
 have dz : ((wrd ws 0).toList == [122, 111, 110, 101]) = true := beq_iff_eq.mpr hg
 clear hg h3 hW hat
 go_enter Tryz.func11, Tryz.ntmps11
 go_upto_region 8 with fail
 clear e0 e00 dg d3 dz
 go_upto_region 9 with (go_at_call 27; refine (span_Parse.calls k (wrd ws 1) s1 s2 s3 s4 b1 _ HA1.out).mono ?_; rintro e w5 ⟨rfl, hb⟩; replace e2 := cell_below e2 hb; have HT5 := tb_ hb hT; have HI5 := Aside0.mk (hI.out.below hb); clear hb)
 have hb := new_below w5 (.cells #[.int .i64 s1, .int .i64 s2, .int .i64 s3, .int .i64 s4] 55)
 have HS := blk_new w5 (.cells #[.int .i64 s1, .int .i64 s2, .int .i64 s3, .int .i64 s4] 55)
 replace e2 := cell_below e2 hb
 replace HT5 := tb_ hb HT5
 replace HI5 := Aside0.mk (HI5.out.below hb)
 clear e1 hI hT hb
 generalize w5.alloc (.cells #[.int .i64 s1, .int .i64 s2, .int .i64 s3, .int .i64 s4] 55) = w6 at e2 HT5 HI5 HS ⊢
 generalize w5.heap.size = g5 at HS ⊢
 have HS := Aside0.mk HS
 go_upto_region 10 with (go_at_call 28; refine (label_Parse.calls k (wrd ws 2) l1 l2 b2 _ HT5 HA2.out).mono ?_; rintro e w7 ⟨rfl, hb⟩; have HS7 := Aside0.mk (blk_below HS.out hb); have HI7 := Aside0.mk (HI5.out.below hb); clear hb)
 have hb := new_below w7 (.cells #[.int .i64 l1, .int .u64 l2] 58)
 have HL := Aside0.mk (blk_new w7 (.cells #[.int .i64 l1, .int .u64 l2] 58))
 replace HS7 := Aside0.mk (blk_below HS7.out hb)
 replace HI7 := Aside0.mk (HI7.out.below hb)
 clear e2 HT5 HI5 HS hb
 generalize w7.alloc (.cells #[.int .i64 l1, .int .u64 l2] 58) = w8 at HL HS7 HI7 ⊢
 generalize w7.heap.size = g7 at HL ⊢
 have H := HH.out
 clear HH
 cases b1 with
 | false =>
  rw [if_neg (by simp)] at H
  simp only [Option.some.injEq, Prod.mk.injEq] at H
  obtain ⟨rfl, rfl, rfl, rfl, rfl, rfl⟩ := H
  go_wp2
  go_ret
  exact ⟨rfl, _, _, _, HI7.out⟩
 | true =>
  cases b2 with
  | false =>
   rw [if_neg (by simp)] at H
   simp only [Option.some.injEq, Prod.mk.injEq] at H
   obtain ⟨rfl, rfl, rfl, rfl, rfl, rfl⟩ := H
   go_wp2
   go_ret
   exact ⟨rfl, _, _, _, HI7.out⟩
  | true =>
   rw [if_pos (by simp)] at H
   by_cases hl : zs.length ≤ 100000
   case neg => rw [if_neg hl] at H; cases H
   rw [if_pos hl] at H
   simp only [Option.some.injEq, Prod.mk.injEq] at H
   obtain ⟨rfl, rfl, rfl, rfl, rfl, rfl⟩ := H
   have HLEN := Aside0.mk hl
   clear hl
   have z2 : w8.cell? ⟨g, 2, none⟩ = some vz := (blk_cell HI7.out.hP 2).trans rfl
   obtain ⟨a0_, a1_, a2_, a3_⟩ := cells4 HS7.out
   obtain ⟨b0_, b1_⟩ := cells2 HL.out
   go_upto_region 11 with fail
   have HZ8 := Aside0.mk (blk_drew HS7.out)
   have HL8 := Aside0.mk (blk_drew HL.out)
   have HI8 : Aside0 (IsP w0 w8.drew g r c vz vu vg zs us gs) := Aside0.mk (HI7.out.below (pw_below_drewN (Below.refl _ w8) 1))
   clear z2 a0_ a1_ a2_ a3_ b0_ b1_
   refine start_ (n := 13) (S := fun w' => w'.cell? ⟨g, 2, none⟩ = some vz ∧ (w'.cell? ⟨g5, 0, none⟩ = some (.int .i64 s1) ∧ w'.cell? ⟨g5, 1, none⟩ = some (.int .i64 s2) ∧ w'.cell? ⟨g5, 2, none⟩ = some (.int .i64 s3) ∧ w'.cell? ⟨g5, 3, none⟩ = some (.int .i64 s4)) ∧ w'.cell? ⟨g7, 0, none⟩ = some (.int .i64 l1) ∧ w'.cell? ⟨g7, 1, none⟩ = some (.int .u64 l2)) (ds := [12]) #[false, false, false, false, false, false, false, false, false, false, false, false, false] (by kernel_rfl) rfl rfl ⟨(blk_cell HI8.out.hP 2).trans rfl, cells4 HZ8.out, cells2 HL8.out⟩ (fun hHeld => ?_)
   clear HS7 HL HI7
   generalize w8.drew = w9 at HZ8 HL8 HI8 hHeld ⊢
   refine pure_ (i := 0) (N := some 85) (v := ?_) (a' := ?_) #[true, false, false, false, false, false, false, false, false, false, false, false, false] rfl rfl (by kernel_rfl) (fun _ _ _ h => h) (Or.inl ⟨by rfl, ?_⟩) ?_ ?_
   rotate_left
   ·intro w'; go_simp; with_reducible rfl
   rotate_left
   ·simp only [Act.put, List.setIfInBounds_toArray, List.set_cons_zero, List.set_cons_succ, i64_w, i32_w]; rfl
   refine pure_ (i := 1) (N := some 86) (v := ?_) (a' := ?_) #[true, true, false, false, false, false, false, false, false, false, false, false, false] rfl rfl (by kernel_rfl) (fun _ _ _ h => h) (Or.inl ⟨by rfl, ?_⟩) ?_ ?_
   rotate_left
   ·intro w'; go_simp; with_reducible rfl
   rotate_left
   ·simp only [Act.put, List.setIfInBounds_toArray, List.set_cons_zero, List.set_cons_succ, i64_w, i32_w]; rfl
   refine pure_ (i := 2) (N := some 87) (v := ?_) (a' := ?_) #[true, true, true, false, false, false, false, false, false, false, false, false, false] rfl rfl (by kernel_rfl) (fun _ _ _ h => h) (Or.inl ⟨by rfl, ?_⟩) ?_ ?_
   rotate_left
   ·intro w'; go_simp; with_reducible rfl
   rotate_left
   ·simp only [Act.put, List.setIfInBounds_toArray, List.set_cons_zero, List.set_cons_succ, i64_w, i32_w]; rfl
   refine pure_ (i := 3) (N := some 88) (v := ?_) (a' := ?_) #[true, true, true, true, false, false, false, false, false, false, false, false, false] rfl rfl (by kernel_rfl) (fun _ _ _ h => h) (Or.inl ⟨by rfl, ?_⟩) ?_ ?_
   rotate_left
   ·intro w'; go_simp; with_reducible rfl
   rotate_left
   ·simp only [Act.put, List.setIfInBounds_toArray, List.set_cons_zero, List.set_cons_succ, i64_w, i32_w]; rfl
   refine take_ (i := 4) (N := some 89) (v := ?_) (a' := ?_) #[true, true, true, true, true, false, false, false, false, false, false, false, false] rfl rfl (by kernel_rfl) (fun _ _ _ h => h) (Or.inl ⟨by rfl, ?_⟩) hHeld ?_ ?_
   rotate_left
   ·rintro w' ⟨s0_, ⟨s1_, s2_, s3_, s4_⟩, s5_, s6_⟩; go_simp; with_reducible rfl
   rotate_left
   ·simp only [Act.put, List.setIfInBounds_toArray, List.set_cons_zero, List.set_cons_succ, i64_w, i32_w]; rfl
   refine take_ (i := 5) (N := some 90) (v := ?_) (a' := ?_) #[true, true, true, true, true, true, false, false, false, false, false, false, false] rfl rfl (by kernel_rfl) (fun _ _ _ h => h) (Or.inl ⟨by rfl, ?_⟩) hHeld ?_ ?_
   rotate_left
   ·rintro w' ⟨s0_, ⟨s1_, s2_, s3_, s4_⟩, s5_, s6_⟩; go_simp; with_reducible rfl
   rotate_left
   ·simp only [Act.put, List.setIfInBounds_toArray, List.set_cons_zero, List.set_cons_succ, i64_w, i32_w]; rfl
   refine take_ (i := 6) (N := some 91) (v := ?_) (a' := ?_) #[true, true, true, true, true, true, true, false, false, false, false, false, false] rfl rfl (by kernel_rfl) (fun _ _ _ h => h) (Or.inl ⟨by rfl, ?_⟩) hHeld ?_ ?_
   rotate_left
   ·rintro w' ⟨s0_, ⟨s1_, s2_, s3_, s4_⟩, s5_, s6_⟩; go_simp; with_reducible rfl
   rotate_left
   ·simp only [Act.put, List.setIfInBounds_toArray, List.set_cons_zero, List.set_cons_succ, i64_w, i32_w]; rfl
   refine pure_ (i := 7) (N := some 92) (v := ?_) (a' := ?_) #[true, true, true, true, true, true, true, true, false, false, false, false, false] rfl rfl (by kernel_rfl) (fun _ _ _ h => h) (Or.inl ⟨by rfl, ?_⟩) ?_ ?_
   rotate_left
   ·intro w'; go_simp; with_reducible rfl
   rotate_left
   ·simp only [Act.put, List.setIfInBounds_toArray, List.set_cons_zero, List.set_cons_succ, i64_w, i32_w]; rfl
   refine one_ (i := 8) (N := some 93) #[true, true, true, true, true, true, true, true, true, false, false, false, false] rfl rfl (by kernel_rfl) (by decide) (fun K hK => ?_)
   refine value_ (w1 := w9.alloc (.cells #[.int .i64 s1, .int .i64 s2, .int .i64 s3, .int .i64 s4, .int .i64 l1, .int .u64 l2] 60)) (v := .slice (some ⟨w9.heap.size, 0, none⟩) 1 1) (by rfl) rfl (by go_simp) ?_
   have hnb := new_below w9 (.cells #[.int .i64 s1, .int .i64 s2, .int .i64 s3, .int .i64 s4, .int .i64 l1, .int .u64 l2] 60)
   refine hK.out _ _ ⟨cell_below hHeld.1 hnb, ⟨cell_below hHeld.2.1.1 hnb, cell_below hHeld.2.1.2.1 hnb, cell_below hHeld.2.1.2.2.1 hnb, cell_below hHeld.2.1.2.2.2 hnb⟩, cell_below hHeld.2.2.1 hnb, cell_below hHeld.2.2.2 hnb⟩ (fun hHeld => ?_)
   clear hK K hnb
   refine norm_ (a' := ?_) ?_ ?_
   rotate_left
   ·show Act.put _ (some 93) _ = _
    simp only [Act.put, List.setIfInBounds_toArray, List.set_cons_zero, List.set_cons_succ, i64_w, i32_w]
    rfl
   refine one_ (i := 9) (N := some 94) #[true, true, true, true, true, true, true, true, true, true, false, false, false] rfl rfl (by kernel_rfl) (by decide) (fun K hK => ?_)
   refine Kd.R_append_step k60 (w0 := w0) w0.heap.size (by rfl) (.tmp 89) (.tmp 93) 23 60 (.agg #[.int .i64 0, .int .i64 0, .int .i64 0, .int .i64 0, .int .i64 0, .int .u64 0]) 48 rfl Tryz.underlying23 info61 rfl (by decide) (by omega) vz zs ⟨⟨⟨s1, s2⟩, ⟨s3, s4⟩⟩, ⟨l1, l2⟩⟩ [.int .i64 s1, .int .i64 s2, .int .i64 s3, .int .i64 s4, .int .i64 l1, .int .u64 l2] (fun _ => True) (fun _ => False) rfl rfl (k60_mkM _ _ _ _) (fun _ hk => hk.elim) (fun _ _ => trivial) HI8.out.hz HI8.out.hB (below_size HI8.out.hB) (by have := HLEN.out; omega) ?_
   intro v1 w10 ho hb hg hat
   obtain ⟨Av, cv, rfl⟩ := Kd.R_slice ho
   have p1 := P_grown HI8.out.hP HI8.out.hz (by decide) hg
   have HZ10 := P_grownT HZ8.out HI8.out.hz (by decide) hg
   have HL10 := P_grownT HL8.out HI8.out.hz (by decide) hg
   have HI10 := Aside0.mk (HI8.out.zone ho hb hg)
   have z2 : w10.cell? ⟨g, 2, none⟩ = some vz := (blk_cell p1 2).trans rfl
   have f2 := blk_frozen p1 2
   refine hK.out _ _ ⟨z2, cells4 HZ10, cells2 HL10⟩ (fun hHeld => ?_)
   clear hK K ho hb hg hat p1 HZ10 HL10
   refine norm_ (a' := ?_) ?_ ?_
   rotate_left
   ·show Act.put _ (some 94) _ = _
    simp only [Act.put, List.setIfInBounds_toArray, List.set_cons_zero, List.set_cons_succ, i64_w, i32_w]
    rfl
   refine pure_ (i := 10) (N := some 95) (v := ?_) (a' := ?_) #[true, true, true, true, true, true, true, true, true, true, true, false, false] rfl rfl (by kernel_rfl) (fun _ _ _ h => h) (Or.inl ⟨by rfl, ?_⟩) ?_ ?_
   rotate_left
   ·intro w'; go_simp; with_reducible rfl
   rotate_left
   ·simp only [Act.put, List.setIfInBounds_toArray, List.set_cons_zero, List.set_cons_succ, i64_w, i32_w]; rfl
   refine pure_ (i := 11) (N := some 96) (v := ?_) (a' := ?_) #[true, true, true, true, true, true, true, true, true, true, true, true, false] rfl rfl (by kernel_rfl) (fun _ _ _ h => h) (Or.inl ⟨by rfl, ?_⟩) ?_ ?_
   rotate_left
   ·intro w'; go_simp; with_reducible rfl
   rotate_left
   ·simp only [Act.put, List.setIfInBounds_toArray, List.set_cons_zero, List.set_cons_succ, i64_w, i32_w]; rfl
   refine last_ (i := 12) (N := none) #[true, true, true, true, true, true, true, true, true, true, true, true, true] rfl rfl (by kernel_rfl) (by decide) (fun K hK => ?_)
   refine skip_ (w1 := ?_) (by rfl) rfl ?_ ?_
   rotate_left
   ·go_simp; rfl
   refine hK.out _ _ ?_
   clear hK K
   refine done_ (by kernel_rfl) ?_
   go_wp2
   go_ret
   have hh := HI10.out
   rw [List.length_append] at hh
   exact ⟨rfl, _, _, _, hh⟩
end Go.Proofs.YtbboanfggaknjaaGreatDoor.X
/- policy.add, walked: the lines of users and grants. -/
set_option linter.unusedVariables false
set_option linter.unusedSimpArgs false
namespace Go.Proofs.YtbboanfggaknjaaGreatDoor.X
open Go.RowKit Go.Proofs.YtbboanfggaknjaaGreatDoorW.PrintWords Go.Proofs.YtbboanfggaknjaaGreatDoorW.PrintLast Go.Proofs.YtbboanfggaknjaaGreatDoorW.PrintMore
theorem words_of {w : World} {b : Nat} {ok : Nat → Prop} {A : Option Addr} {cap : Nat} {ws : List ByteArray} (h : Kd.R Kd.string 9 w b ok (.slice A ws.length cap) ws) : Kd.C Kd.string w A ws.length ws := (Kd.R_reads' h).2.2
theorem word_cell {w : World} {b : Nat} {ok : Nat → Prop} {ad : Addr} {cap n : Nat} {ws : List ByteArray} (hn : n = ws.length) (h : Kd.R Kd.string 9 w b ok (.slice (some ad) n cap) ws) (i : Nat) (hi : i < ws.length) : w.cell? (ad.add i) = some (.string (wrd ws (i : Int))) := by
 subst hn
 obtain ⟨ad2, e, hc⟩ := words_at (words_of h) (by omega)
 cases e
 exact hc i hi
theorem add_user (k : Nat) (g : Nat) (r c : Int) (vz vu vg : Value) (zs : List S60) (us : List S62) (gs : List S64) (A : Option Addr) (cap : Nat) (ws : List ByteArray) (bw : Nat) (w0 w : World) (hT : Aside0 (Tab w)) (hI : Aside0 (IsP w0 w g r c vz vu vg zs us gs)) (hW : Aside0 (Kd.R Kd.string 9 w bw (fun _ => True) (.slice A ws.length cap) ws)) (hc : ws.length ≤ cap)
  (h3 : ws.length = 3) (hg : (wrd ws 0).toList = [117, 115, 101, 114]) (l0 m0 : Int) (b0 : Bool) (A0 : label_Parse.f k (wrd ws 2) = some (l0, m0, b0)) (kind r1 c1 : Int) (zs1 : List S60) (us1 : List S62) (gs1 : List S64)
  (H : (if b0 = true then (if us.length ≤ 100000 then some (2, r, c, zs, us ++ [⟨wrd ws 1, ⟨l0, m0⟩⟩], gs) else none) else some (4, r, c, zs, us, gs)) = some ((kind, r1, c1, zs1, us1, gs1) : T6)) :
  Calls Tryz.prog 11 #[.pointer (some ⟨g, 0, none⟩), .slice A ws.length cap] w fun e w' => e = .returned (.int .i64 kind) ∧ ∃ vz1 vu1 vg1, IsP w0 w' g r1 c1 vz1 vu1 vg1 zs1 us1 gs1 := by
 have HH := Aside0.mk H
 clear H
 have hu26 := Tryz.underlying27
 have hu59 := Tryz.underlying58
 have hu65 := Tryz.underlying62
 have HA0 := Aside0.mk A0
 clear A0
 obtain ⟨ad, rfl, hat⟩ := words_at (words_of hW.out) (by omega)
 have e00 := hat 0 (by omega)
 have e0 : w.cell? ad = some (.string (wrd ws 0)) := e00
 have H3 := Aside0.mk h3
 rw [h3] at hW ⊢
 have e2 : w.cell? ⟨ad.block, ad.off + 2, none⟩ = some (.string (wrd ws 2)) := hat 2 (by omega)
 have d3 : (((3 : Nat) : Int) == 3) = true := rfl
 have dt0 : ((wrd ws 0).toList == [103, 114, 105, 100]) = false := by rw [hg]; rfl
 have dt1 : ((wrd ws 0).toList == [122, 111, 110, 101]) = false := by rw [hg]; rfl
 have dt2 : ((wrd ws 0).toList == [117, 115, 101, 114]) = true := beq_iff_eq.mpr hg
 clear hg h3 hat
 go_enter Tryz.func11, Tryz.ntmps11
 go_upto_region 14 with fail
 clear e0 e00
 try clear d3
 try clear d4
 try clear dt0 dt1 dt2
 try clear dt3
 go_upto_region 15 with (go_at_call 28; refine (label_Parse.calls k (wrd ws 2) l0 m0 b0 _ hT HA0.out).mono ?_; rintro e wa0 ⟨rfl, hb⟩; have HT_ := tb_ hb hT; have HI_ := Aside0.mk (hI.out.below hb); have HW_ := Aside0.mk (Kd.R_below hW.out hb); clear hb)
 have hb := new_below wa0 (.cells #[.int .i64 l0, .int .u64 m0] 58)
 have HL0 := Aside0.mk (blk_new wa0 (.cells #[.int .i64 l0, .int .u64 m0] 58))
 replace HT_ := tb_ hb HT_
 replace HI_ := Aside0.mk (HI_.out.below hb)
 replace HW_ := Aside0.mk (Kd.R_below HW_.out hb)
 clear e2 hI hT hW hb
 generalize wa0.alloc (.cells #[.int .i64 l0, .int .u64 m0] 58) = wb0 at HL0 HT_ HI_ HW_ ⊢
 generalize wa0.heap.size = gl0 at HL0 ⊢
 have HT0 := HT_
 have HI0 := HI_
 have HW0 := HW_
 clear HT_ HI_ HW_
 have H := HH.out
 clear HH
 cases b0 with
 | false =>
  rw [if_neg (by simp)] at H
  simp only [Option.some.injEq, Prod.mk.injEq] at H
  obtain ⟨rfl, rfl, rfl, rfl, rfl, rfl⟩ := H
  go_wp2
  go_ret
  exact ⟨rfl, _, _, _, HI0.out⟩
 | true =>
  rw [if_pos (by simp)] at H
  by_cases hl : us.length ≤ 100000
  case neg => rw [if_neg hl] at H; cases H
  rw [if_pos hl] at H
  simp only [Option.some.injEq, Prod.mk.injEq] at H
  obtain ⟨rfl, rfl, rfl, rfl, rfl, rfl⟩ := H
  have HLEN := Aside0.mk hl
  clear hl
  go_upto_region 16 with fail
  have HM0 := Aside0.mk (blk_drew HL0.out)
  have HI8 : Aside0 (IsP w0 wb0.drew g r c vz vu vg zs us gs) := Aside0.mk (HI0.out.below (pw_below_drewN (Below.refl _ wb0) 1))
  have HW8 : Aside0 (Kd.R Kd.string 9 wb0.drew bw (fun _ => True) (.slice (some ad) 3 cap) ws) := Aside0.mk (Kd.R_below HW0.out (pw_below_drewN (Below.refl _ wb0) 1))
  refine start_ (n := 15) (S := fun w' => w'.cell? ⟨g, 3, none⟩ = some vu ∧ w'.cell? ⟨ad.block, ad.off + 1, none⟩ = some (.string (wrd ws 1)) ∧ w'.cell? ⟨gl0, 0, none⟩ = some (.int .i64 l0) ∧ w'.cell? ⟨gl0, 1, none⟩ = some (.int .u64 m0)) (ds := [14]) #[false, false, false, false, false, false, false, false, false, false, false, false, false, false, false] (by kernel_rfl) rfl rfl ⟨(blk_cell HI8.out.hP 3).trans rfl, word_cell H3.out.symm HW8.out 1 (by have := H3.out; omega), (cells2 HM0.out).1, (cells2 HM0.out).2⟩ (fun hHeld => ?_)
  clear HL0 HI0 HW0
  generalize wb0.drew = w9 at HM0 HI8 HW8 hHeld ⊢
  refine pure_ (i := 0) (N := some 115) (v := ?_) (a' := ?_) #[true, false, false, false, false, false, false, false, false, false, false, false, false, false, false] rfl rfl (by kernel_rfl) (fun _ _ _ h => h) (Or.inl ⟨by rfl, ?_⟩) ?_ ?_
  rotate_left
  ·intro w'; go_simp; with_reducible rfl
  rotate_left
  ·simp only [Act.put, List.setIfInBounds_toArray, List.set_cons_zero, List.set_cons_succ, i64_w, i32_w]; rfl
  refine pure_ (i := 1) (N := some 116) (v := ?_) (a' := ?_) #[true, true, false, false, false, false, false, false, false, false, false, false, false, false, false] rfl rfl (by kernel_rfl) (fun _ _ _ h => h) (Or.inl ⟨by rfl, ?_⟩) ?_ ?_
  rotate_left
  ·intro w'; go_simp; with_reducible rfl
  rotate_left
  ·simp only [Act.put, List.setIfInBounds_toArray, List.set_cons_zero, List.set_cons_succ, i64_w, i32_w]; rfl
  refine pure_ (i := 2) (N := some 117) (v := ?_) (a' := ?_) #[true, true, true, false, false, false, false, false, false, false, false, false, false, false, false] rfl rfl (by kernel_rfl) (fun _ _ _ h => h) (Or.inl ⟨by rfl, ?_⟩) ?_ ?_
  rotate_left
  ·intro w'; go_simp; with_reducible rfl
  rotate_left
  ·simp only [Act.put, List.setIfInBounds_toArray, List.set_cons_zero, List.set_cons_succ, i64_w, i32_w]; rfl
  refine pure_ (i := 3) (N := some 118) (v := ?_) (a' := ?_) #[true, true, true, true, false, false, false, false, false, false, false, false, false, false, false] rfl rfl (by kernel_rfl) (fun _ _ _ h => h) (Or.inl ⟨by rfl, ?_⟩) ?_ ?_
  rotate_left
  ·intro w'; go_simp; with_reducible rfl
  rotate_left
  ·simp only [Act.put, List.setIfInBounds_toArray, List.set_cons_zero, List.set_cons_succ, i64_w, i32_w]; rfl
  refine pure_ (i := 5) (N := some 120) (v := ?_) (a' := ?_) #[true, true, true, true, false, true, false, false, false, false, false, false, false, false, false] rfl rfl (by kernel_rfl) (fun _ _ _ h => h) (Or.inl ⟨by rfl, ?_⟩) ?_ ?_
  rotate_left
  ·intro w'; go_simp; with_reducible rfl
  rotate_left
  ·simp only [Act.put, List.setIfInBounds_toArray, List.set_cons_zero, List.set_cons_succ, i64_w, i32_w]; rfl
  refine pure_ (i := 6) (N := some 121) (v := ?_) (a' := ?_) #[true, true, true, true, false, true, true, false, false, false, false, false, false, false, false] rfl rfl (by kernel_rfl) (fun _ _ _ h => h) (Or.inl ⟨by rfl, ?_⟩) ?_ ?_
  rotate_left
  ·intro w'; go_simp; with_reducible rfl
  rotate_left
  ·simp only [Act.put, List.setIfInBounds_toArray, List.set_cons_zero, List.set_cons_succ, i64_w, i32_w]; rfl
  refine take_ (i := 4) (N := some 119) (v := ?_) (a' := ?_) #[true, true, true, true, true, true, true, false, false, false, false, false, false, false, false] rfl rfl (by kernel_rfl) (fun _ _ _ h => h) (Or.inl ⟨by rfl, ?_⟩) hHeld ?_ ?_
  rotate_left
  ·rintro w' ⟨s0_, s1_, p0_, q0_⟩; go_simp; with_reducible rfl
  rotate_left
  ·simp only [Act.put, List.setIfInBounds_toArray, List.set_cons_zero, List.set_cons_succ, i64_w, i32_w]; rfl
  refine take_ (i := 7) (N := some 122) (v := ?_) (a' := ?_) #[true, true, true, true, true, true, true, true, false, false, false, false, false, false, false] rfl rfl (by kernel_rfl) (fun _ _ _ h => h) (Or.inl ⟨by rfl, ?_⟩) hHeld ?_ ?_
  rotate_left
  ·rintro w' ⟨s0_, s1_, p0_, q0_⟩; go_simp; with_reducible rfl
  rotate_left
  ·simp only [Act.put, List.setIfInBounds_toArray, List.set_cons_zero, List.set_cons_succ, i64_w, i32_w]; rfl
  refine take_ (i := 8) (N := some 123) (v := ?_) (a' := ?_) #[true, true, true, true, true, true, true, true, true, false, false, false, false, false, false] rfl rfl (by kernel_rfl) (fun _ _ _ h => h) (Or.inl ⟨by rfl, ?_⟩) hHeld ?_ ?_
  rotate_left
  ·rintro w' ⟨s0_, s1_, p0_, q0_⟩; go_simp; with_reducible rfl
  rotate_left
  ·simp only [Act.put, List.setIfInBounds_toArray, List.set_cons_zero, List.set_cons_succ, i64_w, i32_w]; rfl
  refine pure_ (i := 9) (N := some 124) (v := ?_) (a' := ?_) #[true, true, true, true, true, true, true, true, true, true, false, false, false, false, false] rfl rfl (by kernel_rfl) (fun _ _ _ h => h) (Or.inl ⟨by rfl, ?_⟩) ?_ ?_
  rotate_left
  ·intro w'; go_simp; with_reducible rfl
  rotate_left
  ·simp only [Act.put, List.setIfInBounds_toArray, List.set_cons_zero, List.set_cons_succ, i64_w, i32_w]; rfl
  refine one_ (i := 10) (N := some 125) #[true, true, true, true, true, true, true, true, true, true, true, false, false, false, false] rfl rfl (by kernel_rfl) (by decide) (fun K hK => ?_)
  refine value_ (w1 := w9.alloc (.cells #[.string (wrd ws 1), .int .i64 l0, .int .u64 m0] 62)) (v := .slice (some ⟨w9.heap.size, 0, none⟩) 1 1) (by rfl) rfl (by go_simp) ?_
  have hnb := new_below w9 (.cells #[.string (wrd ws 1), .int .i64 l0, .int .u64 m0] 62)
  obtain ⟨s0_, s1_, p0_, q0_⟩ := hHeld
  refine hK.out _ _ ⟨cell_below s0_ hnb, cell_below s1_ hnb, cell_below p0_ hnb, cell_below q0_ hnb⟩ (fun hHeld => ?_)
  clear hK K hnb
  refine norm_ (a' := ?_) ?_ ?_
  rotate_left
  ·show Act.put _ (some 125) _ = _
   simp only [Act.put, List.setIfInBounds_toArray, List.set_cons_zero, List.set_cons_succ, i64_w, i32_w]
   rfl
  refine one_ (i := 11) (N := some 126) #[true, true, true, true, true, true, true, true, true, true, true, true, false, false, false] rfl rfl (by kernel_rfl) (by decide) (fun K hK => ?_)
  refine Kd.R_append_step k62 (w0 := w0) w0.heap.size (by rfl) (.tmp 119) (.tmp 125) 24 62 (.agg #[.string ⟨#[]⟩, .int .i64 0, .int .u64 0]) 32 rfl Tryz.underlying24 info62 rfl (by decide) (by omega) vu us ⟨wrd ws 1, ⟨l0, m0⟩⟩ [.string (wrd ws 1), .int .i64 l0, .int .u64 m0] (fun _ => True) (fun _ => False) rfl rfl (k62_mkM _ _ _ _) (fun _ hk => hk.elim) (fun _ _ => trivial) HI8.out.hu HI8.out.hB (below_size HI8.out.hB) (by have := HLEN.out; omega) ?_
  intro v1 w10 ho hb hg hat
  obtain ⟨Av, cv, rfl⟩ := Kd.R_slice ho
  have p1 := P_grown HI8.out.hP HI8.out.hu (by decide) hg
  have HW10 := Kd.R_grown (R_apart HI8.out.hu HW8.out (by decide)) hg (fun k hk => hk.2)
  have HI10 := Aside0.mk (HI8.out.user ho hb hg)
  have z2 : w10.cell? ⟨g, 3, none⟩ = some vu := (blk_cell p1 3).trans rfl
  have f2 := blk_frozen p1 3
  have HN0 := P_grownT HM0.out HI8.out.hu (by decide) hg
  refine hK.out _ _ ⟨z2, word_cell H3.out.symm HW10 1 (by have := H3.out; omega), (cells2 HN0).1, (cells2 HN0).2⟩ (fun hHeld => ?_)
  clear hK K ho hb hg hat p1 HW10
  refine norm_ (a' := ?_) ?_ ?_
  rotate_left
  ·show Act.put _ (some 126) _ = _
   simp only [Act.put, List.setIfInBounds_toArray, List.set_cons_zero, List.set_cons_succ, i64_w, i32_w]
   rfl
  refine pure_ (i := 12) (N := some 127) (v := ?_) (a' := ?_) #[true, true, true, true, true, true, true, true, true, true, true, true, true, false, false] rfl rfl (by kernel_rfl) (fun _ _ _ h => h) (Or.inl ⟨by rfl, ?_⟩) ?_ ?_
  rotate_left
  ·intro w'; go_simp; with_reducible rfl
  rotate_left
  ·simp only [Act.put, List.setIfInBounds_toArray, List.set_cons_zero, List.set_cons_succ, i64_w, i32_w]; rfl
  refine pure_ (i := 13) (N := some 128) (v := ?_) (a' := ?_) #[true, true, true, true, true, true, true, true, true, true, true, true, true, true, false] rfl rfl (by kernel_rfl) (fun _ _ _ h => h) (Or.inl ⟨by rfl, ?_⟩) ?_ ?_
  rotate_left
  ·intro w'; go_simp; with_reducible rfl
  rotate_left
  ·simp only [Act.put, List.setIfInBounds_toArray, List.set_cons_zero, List.set_cons_succ, i64_w, i32_w]; rfl
  refine last_ (i := 14) (N := none) #[true, true, true, true, true, true, true, true, true, true, true, true, true, true, true] rfl rfl (by kernel_rfl) (by decide) (fun K hK => ?_)
  refine skip_ (w1 := ?_) (by rfl) rfl ?_ ?_
  rotate_left
  ·go_simp; rfl
  refine hK.out _ _ ?_
  clear hK K
  refine done_ (by kernel_rfl) ?_
  go_wp2
  go_ret
  have hh := HI10.out
  rw [List.length_append] at hh
  exact ⟨rfl, _, _, _, hh⟩
theorem add_grant (k : Nat) (g : Nat) (r c : Int) (vz vu vg : Value) (zs : List S60) (us : List S62) (gs : List S64) (A : Option Addr) (cap : Nat) (ws : List ByteArray) (bw : Nat) (w0 w : World) (hT : Aside0 (Tab w)) (hI : Aside0 (IsP w0 w g r c vz vu vg zs us gs)) (hW : Aside0 (Kd.R Kd.string 9 w bw (fun _ => True) (.slice A ws.length cap) ws)) (hc : ws.length ≤ cap)
  (h3 : ws.length = 4) (hg : (wrd ws 0).toList = [103, 114, 97, 110, 116]) (l0 m0 l1 m1 : Int) (b0 b1 : Bool) (A0 : label_Parse.f k (wrd ws 2) = some (l0, m0, b0)) (A1 : label_Parse.f k (wrd ws 3) = some (l1, m1, b1)) (kind r1 c1 : Int) (zs1 : List S60) (us1 : List S62) (gs1 : List S64)
  (H : (if b0 = true ∧ b1 = true then (if gs.length ≤ 100000 then some (3, r, c, zs, us, gs ++ [⟨wrd ws 1, ⟨l0, m0⟩, ⟨l1, m1⟩⟩]) else none) else some (4, r, c, zs, us, gs)) = some ((kind, r1, c1, zs1, us1, gs1) : T6)) :
  Calls Tryz.prog 11 #[.pointer (some ⟨g, 0, none⟩), .slice A ws.length cap] w fun e w' => e = .returned (.int .i64 kind) ∧ ∃ vz1 vu1 vg1, IsP w0 w' g r1 c1 vz1 vu1 vg1 zs1 us1 gs1 := by
 have HH := Aside0.mk H
 clear H
 have hu26 := Tryz.underlying27
 have hu59 := Tryz.underlying58
 have hu67 := Tryz.underlying64
 have HA0 := Aside0.mk A0
 clear A0
 have HA1 := Aside0.mk A1
 clear A1
 obtain ⟨ad, rfl, hat⟩ := words_at (words_of hW.out) (by omega)
 have e00 := hat 0 (by omega)
 have e0 : w.cell? ad = some (.string (wrd ws 0)) := e00
 have H3 := Aside0.mk h3
 rw [h3] at hW ⊢
 have e2 : w.cell? ⟨ad.block, ad.off + 2, none⟩ = some (.string (wrd ws 2)) := hat 2 (by omega)
 have e3 : w.cell? ⟨ad.block, ad.off + 3, none⟩ = some (.string (wrd ws 3)) := hat 3 (by omega)
 have d3 : (((4 : Nat) : Int) == 3) = false := rfl
 have d4 : (((4 : Nat) : Int) == 4) = true := rfl
 have dt3 : ((wrd ws 0).toList == [103, 114, 97, 110, 116]) = true := beq_iff_eq.mpr hg
 clear hg h3 hat
 go_enter Tryz.func11, Tryz.ntmps11
 go_upto_region 19 with fail
 clear e0 e00
 try clear d3
 try clear d4
 try clear dt0 dt1 dt2
 try clear dt3
 go_upto_region 20 with (go_at_call 28; refine (label_Parse.calls k (wrd ws 2) l0 m0 b0 _ hT HA0.out).mono ?_; rintro e wa0 ⟨rfl, hb⟩; replace e3 := cell_below e3 hb; have HT_ := tb_ hb hT; have HI_ := Aside0.mk (hI.out.below hb); have HW_ := Aside0.mk (Kd.R_below hW.out hb); clear hb)
 have hb := new_below wa0 (.cells #[.int .i64 l0, .int .u64 m0] 58)
 have HL0 := Aside0.mk (blk_new wa0 (.cells #[.int .i64 l0, .int .u64 m0] 58))
 replace e3 := cell_below e3 hb
 replace HT_ := tb_ hb HT_
 replace HI_ := Aside0.mk (HI_.out.below hb)
 replace HW_ := Aside0.mk (Kd.R_below HW_.out hb)
 clear e2 hI hT hW hb
 generalize wa0.alloc (.cells #[.int .i64 l0, .int .u64 m0] 58) = wb0 at HL0 e3 HT_ HI_ HW_ ⊢
 generalize wa0.heap.size = gl0 at HL0 ⊢
 have HT0 := HT_
 have HI0 := HI_
 have HW0 := HW_
 clear HT_ HI_ HW_
 go_upto_region 21 with (go_at_call 28; refine (label_Parse.calls k (wrd ws 3) l1 m1 b1 _ HT0 HA1.out).mono ?_; rintro e wa1 ⟨rfl, hb⟩; have HL0_ := Aside0.mk (blk_below HL0.out hb); have HT_ := tb_ hb HT0; have HI_ := Aside0.mk (HI0.out.below hb); have HW_ := Aside0.mk (Kd.R_below HW0.out hb); clear hb)
 have hb := new_below wa1 (.cells #[.int .i64 l1, .int .u64 m1] 58)
 have HL1 := Aside0.mk (blk_new wa1 (.cells #[.int .i64 l1, .int .u64 m1] 58))
 clear HL0
 have HL0 := Aside0.mk (blk_below HL0_.out hb)
 clear HL0_
 replace HT_ := tb_ hb HT_
 replace HI_ := Aside0.mk (HI_.out.below hb)
 replace HW_ := Aside0.mk (Kd.R_below HW_.out hb)
 clear e3 HI0 HT0 HW0 hb
 generalize wa1.alloc (.cells #[.int .i64 l1, .int .u64 m1] 58) = wb1 at HL0 HL1 HT_ HI_ HW_ ⊢
 generalize wa1.heap.size = gl1 at HL1 ⊢
 have HT1 := HT_
 have HI1 := HI_
 have HW1 := HW_
 clear HT_ HI_ HW_
 have H := HH.out
 clear HH
 cases b0 with
 | false =>
  rw [if_neg (by simp)] at H
  simp only [Option.some.injEq, Prod.mk.injEq] at H
  obtain ⟨rfl, rfl, rfl, rfl, rfl, rfl⟩ := H
  go_wp2
  go_ret
  exact ⟨rfl, _, _, _, HI1.out⟩
 | true =>
  cases b1 with
  | false =>
   rw [if_neg (by simp)] at H
   simp only [Option.some.injEq, Prod.mk.injEq] at H
   obtain ⟨rfl, rfl, rfl, rfl, rfl, rfl⟩ := H
   go_wp2
   go_ret
   exact ⟨rfl, _, _, _, HI1.out⟩
  | true =>
   rw [if_pos (by simp)] at H
   by_cases hl : gs.length ≤ 100000
   case neg => rw [if_neg hl] at H; cases H
   rw [if_pos hl] at H
   simp only [Option.some.injEq, Prod.mk.injEq] at H
   obtain ⟨rfl, rfl, rfl, rfl, rfl, rfl⟩ := H
   have HLEN := Aside0.mk hl
   clear hl
   go_upto_region 22 with fail
   have HM0 := Aside0.mk (blk_drew HL0.out)
   have HM1 := Aside0.mk (blk_drew HL1.out)
   have HI8 : Aside0 (IsP w0 wb1.drew g r c vz vu vg zs us gs) := Aside0.mk (HI1.out.below (pw_below_drewN (Below.refl _ wb1) 1))
   have HW8 : Aside0 (Kd.R Kd.string 9 wb1.drew bw (fun _ => True) (.slice (some ad) 4 cap) ws) := Aside0.mk (Kd.R_below HW1.out (pw_below_drewN (Below.refl _ wb1) 1))
   refine start_ (n := 16) (S := fun w' => w'.cell? ⟨g, 4, none⟩ = some vg ∧ w'.cell? ⟨ad.block, ad.off + 1, none⟩ = some (.string (wrd ws 1)) ∧ w'.cell? ⟨gl0, 0, none⟩ = some (.int .i64 l0) ∧ w'.cell? ⟨gl0, 1, none⟩ = some (.int .u64 m0) ∧ w'.cell? ⟨gl1, 0, none⟩ = some (.int .i64 l1) ∧ w'.cell? ⟨gl1, 1, none⟩ = some (.int .u64 m1)) (ds := [15]) #[false, false, false, false, false, false, false, false, false, false, false, false, false, false, false, false] (by kernel_rfl) rfl rfl ⟨(blk_cell HI8.out.hP 4).trans rfl, word_cell H3.out.symm HW8.out 1 (by have := H3.out; omega), (cells2 HM0.out).1, (cells2 HM0.out).2, (cells2 HM1.out).1, (cells2 HM1.out).2⟩ (fun hHeld => ?_)
   clear HL0 HL1 HI1 HW1
   generalize wb1.drew = w9 at HM0 HM1 HI8 HW8 hHeld ⊢
   refine pure_ (i := 0) (N := some 157) (v := ?_) (a' := ?_) #[true, false, false, false, false, false, false, false, false, false, false, false, false, false, false, false] rfl rfl (by kernel_rfl) (fun _ _ _ h => h) (Or.inl ⟨by rfl, ?_⟩) ?_ ?_
   rotate_left
   ·intro w'; go_simp; with_reducible rfl
   rotate_left
   ·simp only [Act.put, List.setIfInBounds_toArray, List.set_cons_zero, List.set_cons_succ, i64_w, i32_w]; rfl
   refine pure_ (i := 1) (N := some 158) (v := ?_) (a' := ?_) #[true, true, false, false, false, false, false, false, false, false, false, false, false, false, false, false] rfl rfl (by kernel_rfl) (fun _ _ _ h => h) (Or.inl ⟨by rfl, ?_⟩) ?_ ?_
   rotate_left
   ·intro w'; go_simp; with_reducible rfl
   rotate_left
   ·simp only [Act.put, List.setIfInBounds_toArray, List.set_cons_zero, List.set_cons_succ, i64_w, i32_w]; rfl
   refine pure_ (i := 2) (N := some 159) (v := ?_) (a' := ?_) #[true, true, true, false, false, false, false, false, false, false, false, false, false, false, false, false] rfl rfl (by kernel_rfl) (fun _ _ _ h => h) (Or.inl ⟨by rfl, ?_⟩) ?_ ?_
   rotate_left
   ·intro w'; go_simp; with_reducible rfl
   rotate_left
   ·simp only [Act.put, List.setIfInBounds_toArray, List.set_cons_zero, List.set_cons_succ, i64_w, i32_w]; rfl
   refine pure_ (i := 3) (N := some 160) (v := ?_) (a' := ?_) #[true, true, true, true, false, false, false, false, false, false, false, false, false, false, false, false] rfl rfl (by kernel_rfl) (fun _ _ _ h => h) (Or.inl ⟨by rfl, ?_⟩) ?_ ?_
   rotate_left
   ·intro w'; go_simp; with_reducible rfl
   rotate_left
   ·simp only [Act.put, List.setIfInBounds_toArray, List.set_cons_zero, List.set_cons_succ, i64_w, i32_w]; rfl
   refine pure_ (i := 5) (N := some 162) (v := ?_) (a' := ?_) #[true, true, true, true, false, true, false, false, false, false, false, false, false, false, false, false] rfl rfl (by kernel_rfl) (fun _ _ _ h => h) (Or.inl ⟨by rfl, ?_⟩) ?_ ?_
   rotate_left
   ·intro w'; go_simp; with_reducible rfl
   rotate_left
   ·simp only [Act.put, List.setIfInBounds_toArray, List.set_cons_zero, List.set_cons_succ, i64_w, i32_w]; rfl
   refine pure_ (i := 6) (N := some 163) (v := ?_) (a' := ?_) #[true, true, true, true, false, true, true, false, false, false, false, false, false, false, false, false] rfl rfl (by kernel_rfl) (fun _ _ _ h => h) (Or.inl ⟨by rfl, ?_⟩) ?_ ?_
   rotate_left
   ·intro w'; go_simp; with_reducible rfl
   rotate_left
   ·simp only [Act.put, List.setIfInBounds_toArray, List.set_cons_zero, List.set_cons_succ, i64_w, i32_w]; rfl
   refine take_ (i := 4) (N := some 161) (v := ?_) (a' := ?_) #[true, true, true, true, true, true, true, false, false, false, false, false, false, false, false, false] rfl rfl (by kernel_rfl) (fun _ _ _ h => h) (Or.inl ⟨by rfl, ?_⟩) hHeld ?_ ?_
   rotate_left
   ·rintro w' ⟨s0_, s1_, p0_, q0_, p1_, q1_⟩; go_simp; with_reducible rfl
   rotate_left
   ·simp only [Act.put, List.setIfInBounds_toArray, List.set_cons_zero, List.set_cons_succ, i64_w, i32_w]; rfl
   refine take_ (i := 7) (N := some 164) (v := ?_) (a' := ?_) #[true, true, true, true, true, true, true, true, false, false, false, false, false, false, false, false] rfl rfl (by kernel_rfl) (fun _ _ _ h => h) (Or.inl ⟨by rfl, ?_⟩) hHeld ?_ ?_
   rotate_left
   ·rintro w' ⟨s0_, s1_, p0_, q0_, p1_, q1_⟩; go_simp; with_reducible rfl
   rotate_left
   ·simp only [Act.put, List.setIfInBounds_toArray, List.set_cons_zero, List.set_cons_succ, i64_w, i32_w]; rfl
   refine take_ (i := 8) (N := some 165) (v := ?_) (a' := ?_) #[true, true, true, true, true, true, true, true, true, false, false, false, false, false, false, false] rfl rfl (by kernel_rfl) (fun _ _ _ h => h) (Or.inl ⟨by rfl, ?_⟩) hHeld ?_ ?_
   rotate_left
   ·rintro w' ⟨s0_, s1_, p0_, q0_, p1_, q1_⟩; go_simp; with_reducible rfl
   rotate_left
   ·simp only [Act.put, List.setIfInBounds_toArray, List.set_cons_zero, List.set_cons_succ, i64_w, i32_w]; rfl
   refine take_ (i := 9) (N := some 166) (v := ?_) (a' := ?_) #[true, true, true, true, true, true, true, true, true, true, false, false, false, false, false, false] rfl rfl (by kernel_rfl) (fun _ _ _ h => h) (Or.inl ⟨by rfl, ?_⟩) hHeld ?_ ?_
   rotate_left
   ·rintro w' ⟨s0_, s1_, p0_, q0_, p1_, q1_⟩; go_simp; with_reducible rfl
   rotate_left
   ·simp only [Act.put, List.setIfInBounds_toArray, List.set_cons_zero, List.set_cons_succ, i64_w, i32_w]; rfl
   refine pure_ (i := 10) (N := some 167) (v := ?_) (a' := ?_) #[true, true, true, true, true, true, true, true, true, true, true, false, false, false, false, false] rfl rfl (by kernel_rfl) (fun _ _ _ h => h) (Or.inl ⟨by rfl, ?_⟩) ?_ ?_
   rotate_left
   ·intro w'; go_simp; with_reducible rfl
   rotate_left
   ·simp only [Act.put, List.setIfInBounds_toArray, List.set_cons_zero, List.set_cons_succ, i64_w, i32_w]; rfl
   refine one_ (i := 11) (N := some 168) #[true, true, true, true, true, true, true, true, true, true, true, true, false, false, false, false] rfl rfl (by kernel_rfl) (by decide) (fun K hK => ?_)
   refine value_ (w1 := w9.alloc (.cells #[.string (wrd ws 1), .int .i64 l0, .int .u64 m0, .int .i64 l1, .int .u64 m1] 64)) (v := .slice (some ⟨w9.heap.size, 0, none⟩) 1 1) (by rfl) rfl (by go_simp) ?_
   have hnb := new_below w9 (.cells #[.string (wrd ws 1), .int .i64 l0, .int .u64 m0, .int .i64 l1, .int .u64 m1] 64)
   obtain ⟨s0_, s1_, p0_, q0_, p1_, q1_⟩ := hHeld
   refine hK.out _ _ ⟨cell_below s0_ hnb, cell_below s1_ hnb, cell_below p0_ hnb, cell_below q0_ hnb, cell_below p1_ hnb, cell_below q1_ hnb⟩ (fun hHeld => ?_)
   clear hK K hnb
   refine norm_ (a' := ?_) ?_ ?_
   rotate_left
   ·show Act.put _ (some 168) _ = _
    simp only [Act.put, List.setIfInBounds_toArray, List.set_cons_zero, List.set_cons_succ, i64_w, i32_w]
    rfl
   refine one_ (i := 12) (N := some 169) #[true, true, true, true, true, true, true, true, true, true, true, true, true, false, false, false] rfl rfl (by kernel_rfl) (by decide) (fun K hK => ?_)
   refine Kd.R_append_step k64 (w0 := w0) w0.heap.size (by rfl) (.tmp 161) (.tmp 168) 25 64 (.agg #[.string ⟨#[]⟩, .int .i64 0, .int .u64 0, .int .i64 0, .int .u64 0]) 48 rfl Tryz.underlying25 info67 rfl (by decide) (by omega) vg gs ⟨wrd ws 1, ⟨l0, m0⟩, ⟨l1, m1⟩⟩ [.string (wrd ws 1), .int .i64 l0, .int .u64 m0, .int .i64 l1, .int .u64 m1] (fun _ => True) (fun _ => False) rfl rfl (k64_mkM _ _ _ _) (fun _ hk => hk.elim) (fun _ _ => trivial) HI8.out.hr HI8.out.hB (below_size HI8.out.hB) (by have := HLEN.out; omega) ?_
   intro v1 w10 ho hb hg hat
   obtain ⟨Av, cv, rfl⟩ := Kd.R_slice ho
   have p1 := P_grown HI8.out.hP HI8.out.hr (by decide) hg
   have HW10 := Kd.R_grown (R_apart HI8.out.hr HW8.out (by decide)) hg (fun k hk => hk.2)
   have HI10 := Aside0.mk (HI8.out.grant ho hb hg)
   have z2 : w10.cell? ⟨g, 4, none⟩ = some vg := (blk_cell p1 4).trans rfl
   have f2 := blk_frozen p1 4
   have HN0 := P_grownT HM0.out HI8.out.hr (by decide) hg
   have HN1 := P_grownT HM1.out HI8.out.hr (by decide) hg
   refine hK.out _ _ ⟨z2, word_cell H3.out.symm HW10 1 (by have := H3.out; omega), (cells2 HN0).1, (cells2 HN0).2, (cells2 HN1).1, (cells2 HN1).2⟩ (fun hHeld => ?_)
   clear hK K ho hb hg hat p1 HW10
   refine norm_ (a' := ?_) ?_ ?_
   rotate_left
   ·show Act.put _ (some 169) _ = _
    simp only [Act.put, List.setIfInBounds_toArray, List.set_cons_zero, List.set_cons_succ, i64_w, i32_w]
    rfl
   refine pure_ (i := 13) (N := some 170) (v := ?_) (a' := ?_) #[true, true, true, true, true, true, true, true, true, true, true, true, true, true, false, false] rfl rfl (by kernel_rfl) (fun _ _ _ h => h) (Or.inl ⟨by rfl, ?_⟩) ?_ ?_
   rotate_left
   ·intro w'; go_simp; with_reducible rfl
   rotate_left
   ·simp only [Act.put, List.setIfInBounds_toArray, List.set_cons_zero, List.set_cons_succ, i64_w, i32_w]; rfl
   refine pure_ (i := 14) (N := some 171) (v := ?_) (a' := ?_) #[true, true, true, true, true, true, true, true, true, true, true, true, true, true, true, false] rfl rfl (by kernel_rfl) (fun _ _ _ h => h) (Or.inl ⟨by rfl, ?_⟩) ?_ ?_
   rotate_left
   ·intro w'; go_simp; with_reducible rfl
   rotate_left
   ·simp only [Act.put, List.setIfInBounds_toArray, List.set_cons_zero, List.set_cons_succ, i64_w, i32_w]; rfl
   refine last_ (i := 15) (N := none) #[true, true, true, true, true, true, true, true, true, true, true, true, true, true, true, true] rfl rfl (by kernel_rfl) (by decide) (fun K hK => ?_)
   refine skip_ (w1 := ?_) (by rfl) rfl ?_ ?_
   rotate_left
   ·go_simp; rfl
   refine hK.out _ _ ?_
   clear hK K
   refine done_ (by kernel_rfl) ?_
   go_wp2
   go_ret
   have hh := HI10.out
   rw [List.length_append] at hh
   exact ⟨rfl, _, _, _, hh⟩
end Go.Proofs.YtbboanfggaknjaaGreatDoor.X
/- The contract of policy.add. -/
set_option linter.unusedVariables false
set_option linter.unusedSimpArgs false
namespace Go.Proofs.YtbboanfggaknjaaGreatDoor.X
open Go.RowKit Go.Proofs.YtbboanfggaknjaaGreatDoorW.PrintWords Go.Proofs.YtbboanfggaknjaaGreatDoorW.PrintLast Go.Proofs.YtbboanfggaknjaaGreatDoorW.PrintMore
theorem add_none (g : Nat) (r c : Int) (vz vu vg : Value) (zs : List S60) (us : List S62) (gs : List S64) (A : Option Addr) (cap : Nat) (ws : List ByteArray) (w0 w : World) (hI : Aside0 (IsP w0 w g r c vz vu vg zs us gs)) (hW : Aside0 (Kd.C Kd.string w A ws.length ws))
  (h1 : ¬ (ws.length = 3 ∧ (wrd ws 0).toList = [103, 114, 105, 100])) (h2 : ¬ (ws.length = 3 ∧ (wrd ws 0).toList = [122, 111, 110, 101])) (h3 : ¬ (ws.length = 3 ∧ (wrd ws 0).toList = [117, 115, 101, 114])) (h4 : ¬ (ws.length = 4 ∧ (wrd ws 0).toList = [103, 114, 97, 110, 116])) :
  Calls Tryz.prog 11 #[.pointer (some ⟨g, 0, none⟩), .slice A ws.length cap] w fun e w' => e = .returned (.int .i64 4) ∧ ∃ vz1 vu1 vg1, IsP w0 w' g r c vz1 vu1 vg1 zs us gs := by
 have hu26 := Tryz.underlying27
 by_cases n3 : ws.length = 3
 ·obtain ⟨ad, rfl, hat⟩ := words_at hW.out (by omega)
  have e0 : w.cell? ad = some (.string (wrd ws 0)) := hat 0 (by omega)
  have dt0 : ((wrd ws 0).toList == [103, 114, 105, 100]) = false := beq_eq_false_iff_ne.mpr fun e => h1 ⟨n3, e⟩
  have dt1 : ((wrd ws 0).toList == [122, 111, 110, 101]) = false := beq_eq_false_iff_ne.mpr fun e => h2 ⟨n3, e⟩
  have dt2 : ((wrd ws 0).toList == [117, 115, 101, 114]) = false := beq_eq_false_iff_ne.mpr fun e => h3 ⟨n3, e⟩
  rw [n3]
  have d3 : (((3 : Nat) : Int) == 3) = true := rfl
  have d4 : (((3 : Nat) : Int) == 4) = false := rfl
  clear h1 h2 h3 h4 n3 hat hW
  go_enter Tryz.func11, Tryz.ntmps11
  go_wp2
  go_ret
  exact ⟨rfl, _, _, _, hI.out⟩
 ·by_cases n4 : ws.length = 4
  ·obtain ⟨ad, rfl, hat⟩ := words_at hW.out (by omega)
   have e0 : w.cell? ad = some (.string (wrd ws 0)) := hat 0 (by omega)
   have dt3 : ((wrd ws 0).toList == [103, 114, 97, 110, 116]) = false := beq_eq_false_iff_ne.mpr fun e => h4 ⟨n4, e⟩
   rw [n4]
   have d3 : (((4 : Nat) : Int) == 3) = false := rfl
   have d4 : (((4 : Nat) : Int) == 4) = true := rfl
   clear h1 h2 h3 h4 n3 n4 hat hW
   go_enter Tryz.func11, Tryz.ntmps11
   go_wp2
   go_ret
   exact ⟨rfl, _, _, _, hI.out⟩
  ·have d3 : ((ws.length : Int) == 3) = false := beq_eq_false_iff_ne.mpr (by omega)
   have d4 : ((ws.length : Int) == 4) = false := beq_eq_false_iff_ne.mpr (by omega)
   clear h1 h2 h3 h4 n3 n4 hW
   go_enter Tryz.func11, Tryz.ntmps11
   go_wp2
   go_ret
   exact ⟨rfl, _, _, _, hI.out⟩
theorem policy_add.calls (k : Nat) (g : Nat) (r c : Int) (vz vu vg : Value) (zs : List S60) (us : List S62) (gs : List S64) (A : Option Addr) (cap : Nat) (ws : List ByteArray) (bw : Nat) (kind r1 c1 : Int) (zs1 : List S60) (us1 : List S62) (gs1 : List S64) (w0 w : World) (hT : Aside0 (Tab w)) (hI : Aside0 (IsP w0 w g r c vz vu vg zs us gs)) (hW : Aside0 (Kd.R Kd.string 9 w bw (fun _ => True) (.slice A ws.length cap) ws)) (hc : ws.length ≤ cap)
  (h : policy_add.f k r c zs us gs ws = some (kind, r1, c1, zs1, us1, gs1)) :
  Calls Tryz.prog 11 #[.pointer (some ⟨g, 0, none⟩), .slice A ws.length cap] w fun e w' => e = .returned (.int .i64 kind) ∧ ∃ vz1 vu1 vg1, IsP w0 w' g r1 c1 vz1 vu1 vg1 zs1 us1 gs1 := by
 have hC := Aside0.mk (words_of hW.out)
 unfold policy_add.f at h
 by_cases h1 : ws.length = 3 ∧ (wrd ws 0).toList = [103, 114, 105, 100]
 ·rw [if_pos h1] at h
  obtain ⟨⟨n1, b1⟩, A1, h⟩ := Option.bind_eq_some_iff.mp h
  obtain ⟨⟨n2, b2⟩, A2, h⟩ := Option.bind_eq_some_iff.mp h
  exact add_grid k g r c vz vu vg zs us gs A cap ws w0 w hI hC hc h1.1 h1.2 n1 n2 b1 b2 A1 A2 kind r1 c1 zs1 us1 gs1 h
 rw [if_neg h1] at h
 by_cases h2 : ws.length = 3 ∧ (wrd ws 0).toList = [122, 111, 110, 101]
 ·rw [if_pos h2] at h
  obtain ⟨⟨s1, s2, s3, s4, b1⟩, A1, h⟩ := Option.bind_eq_some_iff.mp h
  obtain ⟨⟨l1, l2, b2⟩, A2, h⟩ := Option.bind_eq_some_iff.mp h
  exact add_zone k g r c vz vu vg zs us gs A cap ws w0 w hT hI hC hc h2.1 h2.2 s1 s2 s3 s4 l1 l2 b1 b2 A1 A2 kind r1 c1 zs1 us1 gs1 h
 rw [if_neg h2] at h
 by_cases h3 : ws.length = 3 ∧ (wrd ws 0).toList = [117, 115, 101, 114]
 ·rw [if_pos h3] at h
  obtain ⟨⟨l0, m0, b0⟩, A0, h⟩ := Option.bind_eq_some_iff.mp h
  exact add_user k g r c vz vu vg zs us gs A cap ws bw w0 w hT hI hW hc h3.1 h3.2 l0 m0 b0 A0 kind r1 c1 zs1 us1 gs1 h
 rw [if_neg h3] at h
 by_cases h4 : ws.length = 4 ∧ (wrd ws 0).toList = [103, 114, 97, 110, 116]
 ·rw [if_pos h4] at h
  obtain ⟨⟨l0, m0, b0⟩, A0, h⟩ := Option.bind_eq_some_iff.mp h
  obtain ⟨⟨l1, m1, b1⟩, A1, h⟩ := Option.bind_eq_some_iff.mp h
  exact add_grant k g r c vz vu vg zs us gs A cap ws bw w0 w hT hI hW hc h4.1 h4.2 l0 m0 l1 m1 b0 b1 A0 A1 kind r1 c1 zs1 us1 gs1 h
 rw [if_neg h4] at h
 simp only [Option.some.injEq, Prod.mk.injEq] at h
 obtain ⟨rfl, rfl, rfl, rfl, rfl, rfl⟩ := h
 exact add_none g r c vz vu vg zs us gs A cap ws w0 w hI hC h1 h2 h3 h4
end Go.Proofs.YtbboanfggaknjaaGreatDoor.X
namespace Go.Proofs.YtbboanfggaknjaaGreatDoor.X
open Go.RowKit Go.Proofs.YtbboanfggaknjaaGreatDoorW.PrintWords Go.Proofs.YtbboanfggaknjaaGreatDoorW.PrintLast Go.Proofs.YtbboanfggaknjaaGreatDoorW.PrintMore
attribute [local go_sem] max2_int min2_int max_two min_two max_three min_three max_four min_four
set_option linter.unusedVariables false
set_option linter.unusedSimpArgs false
theorem eqA55 (d : Nat) (w : World) (x0 y0 : Int) (x1 y1 : Int) (x2 y2 : Int) (x3 y3 : Int) :
  (Op.equalIn (d + 3) 55 (.agg #[.int .i64 x0, .int .i64 x1, .int .i64 x2, .int .i64 x3]) (.agg #[.int .i64 y0, .int .i64 y1, .int .i64 y2, .int .i64 y3])).run Tryz.prog w = .ok ((x0 == y0 && (x1 == y1)) && ((x2 == y2 && (x3 == y3)))) w := by
 refine eqA_of Tryz.underlying55 (by kernel_rfl) ?_
 refine eqf_cons (by rfl) (by go_simp) (by go_simp) (eqA39 (d + 0) w _ _ _ _) ?_
 exact eqf_last (by rfl) (by go_simp) (by go_simp) (eqA39 (d + 0) w _ _ _ _)
def IsS27 (w0 W : World) (g : Nat) (f0 : Int) (f1 : Int) (f2 : List (S60)) (f3 : List (S62)) (f4 : List (S64)) : Prop := ∃ A2 c2, ∃ A3 c3, ∃ A4 c4, W.heap[g]? = some (.cells #[.int .i64 f0, .int .i64 f1, .slice A2 f2.length c2, .slice A3 f3.length c3, .slice A4 f4.length c4] 27 (0, 0)) ∧ w0.heap.size ≤ g ∧ Kd.C k60 w0 A2 f2.length f2 ∧ Kd.C k62 w0 A3 f3.length f3 ∧ Kd.C k64 w0 A4 f4.length f4
theorem IsS27.grown {w0 W : World} {g : Nat} {f0 : Int} {f1 : Int} {f2 : List (S60)} {f3 : List (S62)} {f4 : List (S64)} {W1 : World} {row : Option Nat} (h : IsS27 w0 W g f0 f1 f2 f3 f4) (hw : W.grownBy W1 row) (hne : some g ≠ row) : IsS27 w0 W1 g f0 f1 f2 f3 f4 := by
 obtain ⟨A2, c2, A3, c3, A4, c4, hb, hg, hr2, hr3, hr4⟩ := h
 exact ⟨A2, c2, A3, c3, A4, c4, blk_grown hb hw hne, hg, hr2, hr3, hr4⟩
theorem IsS27.kept {w0 W : World} {g : Nat} {f0 : Int} {f1 : Int} {f2 : List (S60)} {f3 : List (S62)} {f4 : List (S64)} {W1 : World} {S : Nat → Prop} (h : IsS27 w0 W g f0 f1 f2 f3 f4) (hk : Kept W W1 S) (hne : ¬ S g) : IsS27 w0 W1 g f0 f1 f2 f3 f4 := by
 obtain ⟨A2, c2, A3, c3, A4, c4, hb, hg, hr2, hr3, hr4⟩ := h
 exact ⟨A2, c2, A3, c3, A4, c4, blk_kept hb hk hne, hg, hr2, hr3, hr4⟩
theorem IsS27.below {w0 W : World} {g : Nat} {f0 : Int} {f1 : Int} {f2 : List (S60)} {f3 : List (S62)} {f4 : List (S64)} {W1 : World} (h : IsS27 w0 W g f0 f1 f2 f3 f4) (hw : Below W.heap.size W W1) : IsS27 w0 W1 g f0 f1 f2 f3 f4 := h.grown (grown_of_below hw none) (by simp)
theorem IsS27.alloc {w0 W : World} {g : Nat} {f0 : Int} {f1 : Int} {f2 : List (S60)} {f3 : List (S62)} {f4 : List (S64)} (h : IsS27 w0 W g f0 f1 f2 f3 f4) (o : Obj) : IsS27 w0 (W.alloc o) g f0 f1 f2 f3 f4 := h.below (below_alloc (Below.refl _ _) o)
theorem IsS27.drewN {w0 W : World} {g : Nat} {f0 : Int} {f1 : Int} {f2 : List (S60)} {f3 : List (S62)} {f4 : List (S64)} (h : IsS27 w0 W g f0 f1 f2 f3 f4) (m : Nat) : IsS27 w0 (W.drewN m) g f0 f1 f2 f3 f4 := h
theorem IsS27.drew {w0 W : World} {g : Nat} {f0 : Int} {f1 : Int} {f2 : List (S60)} {f3 : List (S62)} {f4 : List (S64)} (h : IsS27 w0 W g f0 f1 f2 f3 f4) : IsS27 w0 W.drew g f0 f1 f2 f3 f4 := h
theorem IsS27.at_ {w0 W : World} {g : Nat} {f0 : Int} {f1 : Int} {f2 : List (S60)} {f3 : List (S62)} {f4 : List (S64)} {w' : World} {m : Nat} (hq : W.drewN m = w') (h : IsS27 w0 W g f0 f1 f2 f3 f4) : IsS27 w0 w' g f0 f1 f2 f3 f4 := by subst hq; exact IsS27.drewN h m
theorem IsS27.apart {w0 W : World} {g : Nat} {f0 : Int} {f1 : Int} {f2 : List (S60)} {f3 : List (S62)} {f4 : List (S64)} {α : Type} {d : Kd α} {e : Nat} {base : Nat} {ok : Nat → Prop} {v : Value} {xs : List α} (h : IsS27 w0 W g f0 f1 f2 f3 f4) (ho : d.R e W base ok v xs) (ht : ∀ q, q ∈ e :: d.E → q ≠ 27) : d.R e W base (fun k => ok k ∧ k ≠ g) v xs := by
 obtain ⟨A2, c2, A3, c3, A4, c4, hb, hg, hr2, hr3, hr4⟩ := h
 exact Kd.R_types ho hb ht
theorem IsS27.lt {w0 W : World} {g : Nat} {f0 : Int} {f1 : Int} {f2 : List (S60)} {f3 : List (S62)} {f4 : List (S64)} (h : IsS27 w0 W g f0 f1 f2 f3 f4) : g < W.heap.size := by
 obtain ⟨A2, c2, A3, c3, A4, c4, hb, hg, hr2, hr3, hr4⟩ := h
 exact blk_lt hb
theorem IsS27.new (w0 W : World) (A2 : Option Addr) (c2 : Nat) (A3 : Option Addr) (c3 : Nat) (A4 : Option Addr) (c4 : Nat) (f0 : Int) (f1 : Int) (f2 : List (S60)) (f3 : List (S62)) (f4 : List (S64)) (hB : Below w0.heap.size w0 W) (hr2 : Kd.C k60 w0 A2 f2.length f2) (hr3 : Kd.C k62 w0 A3 f3.length f3) (hr4 : Kd.C k64 w0 A4 f4.length f4) : IsS27 w0 (W.alloc (.cells #[.int .i64 f0, .int .i64 f1, .slice A2 f2.length c2, .slice A3 f3.length c3, .slice A4 f4.length c4] 27)) W.heap.size f0 f1 f2 f3 f4 := ⟨A2, c2, A3, c3, A4, c4, by simpa using heap_alloc_new W _, hB.size, hr2, hr3, hr4⟩

def addr_May.f (a0_0 : Int) (a0_1 : Int) : Option (Bool) := if a0_0 ≥ 0 then (if a0_0 < 999 then (if a0_1 ≥ 0 then (some (decide (a0_1 < 702))) else (some false)) else (some false)) else (some false)
theorem addr_May.calls (a0_0 : Int) (a0_1 : Int) (r : Bool) (w : World) (h : addr_May.f a0_0 a0_1 = some r) :
  Calls Tryz.prog 69 #[.agg #[.int .i64 a0_0, .int .i64 a0_1]] w fun e w' => e = .returned (.bool r) ∧ Below w.heap.size w w' := by
 have hu39 := Tryz.underlying39; have HB := A_ (Below.refl w.heap.size w)
 have H : (if a0_0 ≥ 0 then (if a0_0 < 999 then (if a0_1 ≥ 0 then (some (decide (a0_1 < 702))) else (some false)) else (some false)) else (some false)) = some r := h
 clear h
 by_cases c2 : a0_0 ≥ 0
 ·rw [if_pos c2] at H; have c2b0 := decide_eq_true c2; clear c2
  by_cases c3 : a0_0 < 999
  ·rw [if_pos c3] at H; have c3b0 := decide_eq_true c3; clear c3
   by_cases c4 : a0_1 ≥ 0
   ·rw [if_pos c4] at H; have c4b0 := decide_eq_true c4; clear c4; obtain rfl := Option.some.inj H
    go_enter Tryz.func69, Tryz.ntmps69
    go_wp2_with (first | ((with_reducible refine gd_ 1 ?_); refine be_ (N:=1) (cs := #[.int .i64 a0_0, .int .i64 a0_1]) (t:=39) ?_; intro g1 hg w5 hbox hb; have B1 := A_ (hbox); replace HB := bs_ HB hb; clear hb hbox hg; have hcz6_0 : w5.cell? ⟨g1, 0, none⟩ = some (.int .i64 a0_0) := bc_ B1 0 rfl; have hcz6_1 : w5.cell? ⟨g1, 1, none⟩ = some (.int .i64 a0_1) := bc_ B1 1 rfl))
    go_ret
    exact fi_ (pbx HB)
   ·rw [if_neg c4] at H; have c4b0 := decide_eq_false c4; clear c4; obtain rfl := Option.some.inj H
    go_enter Tryz.func69, Tryz.ntmps69
    go_wp2_with (first | ((with_reducible refine gd_ 1 ?_); refine be_ (N:=1) (cs := #[.int .i64 a0_0, .int .i64 a0_1]) (t:=39) ?_; intro g1 hg w7 hbox hb; have B1 := A_ (hbox); replace HB := bs_ HB hb; clear hb hbox hg; have hcz8_0 : w7.cell? ⟨g1, 0, none⟩ = some (.int .i64 a0_0) := bc_ B1 0 rfl; have hcz8_1 : w7.cell? ⟨g1, 1, none⟩ = some (.int .i64 a0_1) := bc_ B1 1 rfl))
    go_ret
    exact fi_ (pbx HB)
  ·rw [if_neg c3] at H; have c3b0 := decide_eq_false c3; clear c3; obtain rfl := Option.some.inj H
   go_enter Tryz.func69, Tryz.ntmps69
   go_wp2_with (first | ((with_reducible refine gd_ 1 ?_); refine be_ (N:=1) (cs := #[.int .i64 a0_0, .int .i64 a0_1]) (t:=39) ?_; intro g1 hg w9 hbox hb; have B1 := A_ (hbox); replace HB := bs_ HB hb; clear hb hbox hg; have hcz10_0 : w9.cell? ⟨g1, 0, none⟩ = some (.int .i64 a0_0) := bc_ B1 0 rfl; have hcz10_1 : w9.cell? ⟨g1, 1, none⟩ = some (.int .i64 a0_1) := bc_ B1 1 rfl))
   go_ret
   exact fi_ (pbx HB)
 ·rw [if_neg c2] at H; have c2b0 := decide_eq_false c2; clear c2; obtain rfl := Option.some.inj H
  go_enter Tryz.func69, Tryz.ntmps69
  go_wp2_with (first | ((with_reducible refine gd_ 1 ?_); refine be_ (N:=1) (cs := #[.int .i64 a0_0, .int .i64 a0_1]) (t:=39) ?_; intro g1 hg w11 hbox hb; have B1 := A_ (hbox); replace HB := bs_ HB hb; clear hb hbox hg; have hcz12_0 : w11.cell? ⟨g1, 0, none⟩ = some (.int .i64 a0_0) := bc_ B1 0 rfl; have hcz12_1 : w11.cell? ⟨g1, 1, none⟩ = some (.int .i64 a0_1) := bc_ B1 1 rfl))
  go_ret
  exact fi_ (pbx HB)

def span_May.f (a0_0 : Int) (a0_1 : Int) (a0_2 : Int) (a0_3 : Int) : Option (Bool) := (addr_May.f a0_0 a0_1).bind fun t102 => (if t102 = true then ((addr_May.f a0_2 a0_3).bind fun t103 => (some t103)) else (some false))
theorem span_May.calls (a0_0 : Int) (a0_1 : Int) (a0_2 : Int) (a0_3 : Int) (r : Bool) (w : World) (h : span_May.f a0_0 a0_1 a0_2 a0_3 = some r) :
  Calls Tryz.prog 43 #[.agg #[.int .i64 a0_0, .int .i64 a0_1, .int .i64 a0_2, .int .i64 a0_3]] w fun e w' => e = .returned (.bool r) ∧ Below w.heap.size w w' := by
 have hu55 := Tryz.underlying55; have hu39 := Tryz.underlying39; have HB := A_ (Below.refl w.heap.size w)
 have H : ((addr_May.f a0_0 a0_1).bind fun t102 => (if t102 = true then ((addr_May.f a0_2 a0_3).bind fun t103 => (some t103)) else (some false))) = some r := h
 clear h; obtain ⟨t102, A2, H⟩ := bo_ H
 by_cases c3 : t102 = true
 ·subst c3
  obtain ⟨t103, A4, H⟩ := bo_ (it_ H); obtain rfl := Option.some.inj H
  go_enter Tryz.func43, Tryz.ntmps43
  go_wp2_with (first | ((with_reducible refine gd_ 1 ?_); refine be_ (N:=1) (cs := #[.int .i64 a0_0, .int .i64 a0_1, .int .i64 a0_2, .int .i64 a0_3]) (t:=55) ?_; intro g1 hg w5 hbox hb; have B1 := A_ (hbox); replace HB := bs_ HB hb; clear hb hbox hg; have hcz6_0 : w5.cell? ⟨g1, 0, none⟩ = some (.int .i64 a0_0) := bc_ B1 0 rfl; have hcz6_1 : w5.cell? ⟨g1, 1, none⟩ = some (.int .i64 a0_1) := bc_ B1 1 rfl; have hcz6_2 : w5.cell? ⟨g1, 2, none⟩ = some (.int .i64 a0_2) := bc_ B1 2 rfl; have hcz6_3 : w5.cell? ⟨g1, 3, none⟩ = some (.int .i64 a0_3) := bc_ B1 3 rfl) | ((with_reducible refine gate_callee (f:=69) rfl ?_); refine gL_ (some 5) rfl rfl Tryz.func69 rfl #[.agg #[.int .i64 a0_0, .int .i64 a0_1]] rfl ?_; (with_reducible refine (addr_May.calls a0_0 a0_1 true _ A2.out).mono ?_); rintro e w7 ⟨rfl, hb⟩; refine ⟨_, rfl, ?_⟩; replace B1 := bb_ B1 hb; replace HB := bs_ HB hb; have hcz8_0 : w7.cell? ⟨g1, 0, none⟩ = some (.int .i64 a0_0) := bc_ B1 0 rfl; have hcz8_1 : w7.cell? ⟨g1, 1, none⟩ = some (.int .i64 a0_1) := bc_ B1 1 rfl; have hcz8_2 : w7.cell? ⟨g1, 2, none⟩ = some (.int .i64 a0_2) := bc_ B1 2 rfl; have hcz8_3 : w7.cell? ⟨g1, 3, none⟩ = some (.int .i64 a0_3) := bc_ B1 3 rfl) | (go_at_call 69; (with_reducible refine (addr_May.calls a0_2 a0_3 t103 _ A4.out).mono ?_); rintro e w9 ⟨rfl, hb⟩; replace B1 := bb_ B1 hb; replace HB := bs_ HB hb; ))
  go_ret
  exact fi_ (pbx HB)
 ·replace c3 := Bool.eq_false_iff.mpr c3; subst c3
  replace H := ie_ H; obtain rfl := Option.some.inj H
  go_enter Tryz.func43, Tryz.ntmps43
  go_wp2_with (first | ((with_reducible refine gd_ 1 ?_); refine be_ (N:=1) (cs := #[.int .i64 a0_0, .int .i64 a0_1, .int .i64 a0_2, .int .i64 a0_3]) (t:=55) ?_; intro g1 hg w10 hbox hb; have B1 := A_ (hbox); replace HB := bs_ HB hb; clear hb hbox hg; have hcz11_0 : w10.cell? ⟨g1, 0, none⟩ = some (.int .i64 a0_0) := bc_ B1 0 rfl; have hcz11_1 : w10.cell? ⟨g1, 1, none⟩ = some (.int .i64 a0_1) := bc_ B1 1 rfl; have hcz11_2 : w10.cell? ⟨g1, 2, none⟩ = some (.int .i64 a0_2) := bc_ B1 2 rfl; have hcz11_3 : w10.cell? ⟨g1, 3, none⟩ = some (.int .i64 a0_3) := bc_ B1 3 rfl) | ((with_reducible refine gate_callee (f:=69) rfl ?_); refine gL_ (some 5) rfl rfl Tryz.func69 rfl #[.agg #[.int .i64 a0_0, .int .i64 a0_1]] rfl ?_; (with_reducible refine (addr_May.calls a0_0 a0_1 false _ A2.out).mono ?_); rintro e w12 ⟨rfl, hb⟩; refine ⟨_, rfl, ?_⟩; replace B1 := bb_ B1 hb; replace HB := bs_ HB hb; ))
  go_ret
  exact fi_ (pbx HB)

def label_May.f (a0_0 : Int) (a0_1 : Int) : Option (Bool) := if a0_0 ≥ 0 then (some (decide (a0_0 ≤ 15))) else (some false)
theorem label_May.calls (a0_0 : Int) (a0_1 : Int) (r : Bool) (w : World) (h : label_May.f a0_0 a0_1 = some r) :
  Calls Tryz.prog 45 #[.agg #[.int .i64 a0_0, .int .u64 a0_1]] w fun e w' => e = .returned (.bool r) ∧ Below w.heap.size w w' := by
 have hu58 := Tryz.underlying58; have HB := A_ (Below.refl w.heap.size w)
 have H : (if a0_0 ≥ 0 then (some (decide (a0_0 ≤ 15))) else (some false)) = some r := h
 clear h
 by_cases c2 : a0_0 ≥ 0
 ·rw [if_pos c2] at H; have c2b0 := decide_eq_true c2; clear c2; obtain rfl := Option.some.inj H
  go_enter Tryz.func45, Tryz.ntmps45
  go_wp2_with (first | ((with_reducible refine gd_ 1 ?_); refine be_ (N:=1) (cs := #[.int .i64 a0_0, .int .u64 a0_1]) (t:=58) ?_; intro g1 hg w3 hbox hb; have B1 := A_ (hbox); replace HB := bs_ HB hb; clear hb hbox hg; have hcz4_0 : w3.cell? ⟨g1, 0, none⟩ = some (.int .i64 a0_0) := bc_ B1 0 rfl; have hcz4_1 : w3.cell? ⟨g1, 1, none⟩ = some (.int .u64 a0_1) := bc_ B1 1 rfl))
  go_ret
  exact fi_ (pbx HB)
 ·rw [if_neg c2] at H; have c2b0 := decide_eq_false c2; clear c2; obtain rfl := Option.some.inj H
  go_enter Tryz.func45, Tryz.ntmps45
  go_wp2_with (first | ((with_reducible refine gd_ 1 ?_); refine be_ (N:=1) (cs := #[.int .i64 a0_0, .int .u64 a0_1]) (t:=58) ?_; intro g1 hg w5 hbox hb; have B1 := A_ (hbox); replace HB := bs_ HB hb; clear hb hbox hg; have hcz6_0 : w5.cell? ⟨g1, 0, none⟩ = some (.int .i64 a0_0) := bc_ B1 0 rfl; have hcz6_1 : w5.cell? ⟨g1, 1, none⟩ = some (.int .u64 a0_1) := bc_ B1 1 rfl))
  go_ret
  exact fi_ (pbx HB)

def span_Straight.f (a0_0 : Int) (a0_1 : Int) (a0_2 : Int) (a0_3 : Int) : Option (Int × Int × Int × Int) := (span_May.f a0_0 a0_1 a0_2 a0_3).bind fun t103 => (if t103 = true then (some (mn a0_0 a0_2, mn a0_1 a0_3, mx a0_0 a0_2, mx a0_1 a0_3)) else (some (0, 0, 0, 0)))
theorem span_Straight.calls (a0_0 : Int) (a0_1 : Int) (a0_2 : Int) (a0_3 : Int) (r1 : Int) (r2 : Int) (r3 : Int) (r4 : Int) (w : World) (h : span_Straight.f a0_0 a0_1 a0_2 a0_3 = some (r1, r2, r3, r4)) :
  Calls Tryz.prog 54 #[.agg #[.int .i64 a0_0, .int .i64 a0_1, .int .i64 a0_2, .int .i64 a0_3]] w fun e w' => e = .returned (.agg #[.int .i64 r1, .int .i64 r2, .int .i64 r3, .int .i64 r4]) ∧ Below w.heap.size w w' := by
 have hu55 := Tryz.underlying55; have hu39 := Tryz.underlying39; have HB := A_ (Below.refl w.heap.size w)
 have H : ((span_May.f a0_0 a0_1 a0_2 a0_3).bind fun t103 => (if t103 = true then (some (mn a0_0 a0_2, mn a0_1 a0_3, mx a0_0 a0_2, mx a0_1 a0_3)) else (some (0, 0, 0, 0)))) = some (r1, r2, r3, r4) := h
 clear h; obtain ⟨t103, A2, H⟩ := bo_ H
 by_cases c3 : t103 = true
 ·subst c3
  replace H := it_ H; obtain ⟨ji4, hji4⟩ : ∃ j_ : Int, (mn a0_0 a0_2) = j_ := ⟨_, rfl⟩
  replace H : (some (ji4, mn a0_1 a0_3, mx a0_0 a0_2, mx a0_1 a0_3)) = some (r1, r2, r3, r4) := by first | (rw [hji4] at H; exact H) | (simp only [hji4] at H ⊢; exact H)
  (try rw [hji4] at A2)
  have hji4_ : (if a0_2 < a0_0 then a0_2 else a0_0) = ji4 := hji4
  obtain ⟨ji5, hji5⟩ : ∃ j_ : Int, (mn a0_1 a0_3) = j_ := ⟨_, rfl⟩
  replace H : (some (ji4, ji5, mx a0_0 a0_2, mx a0_1 a0_3)) = some (r1, r2, r3, r4) := by first | (rw [hji5] at H; exact H) | (simp only [hji5] at H ⊢; exact H)
  (try rw [hji5] at A2)
  have hji5_ : (if a0_3 < a0_1 then a0_3 else a0_1) = ji5 := hji5
  obtain ⟨ji6, hji6⟩ : ∃ j_ : Int, (mx a0_0 a0_2) = j_ := ⟨_, rfl⟩
  replace H : (some (ji4, ji5, ji6, mx a0_1 a0_3)) = some (r1, r2, r3, r4) := by first | (rw [hji6] at H; exact H) | (simp only [hji6] at H ⊢; exact H)
  (try rw [hji6] at A2)
  have hji6_ : (if a0_0 < a0_2 then a0_2 else a0_0) = ji6 := hji6
  obtain ⟨ji7, hji7⟩ : ∃ j_ : Int, (mx a0_1 a0_3) = j_ := ⟨_, rfl⟩
  replace H : (some (ji4, ji5, ji6, ji7)) = some (r1, r2, r3, r4) := by first | (rw [hji7] at H; exact H) | (simp only [hji7] at H ⊢; exact H)
  (try rw [hji7] at A2)
  have hji7_ : (if a0_1 < a0_3 then a0_3 else a0_1) = ji7 := hji7
  simp only [Option.some.injEq, Prod.mk.injEq] at H
  obtain ⟨rfl, rfl, rfl, rfl⟩ := H
  go_enter Tryz.func54, Tryz.ntmps54
  go_wp2_with (first | ((with_reducible refine gd_ 1 ?_); refine be_ (N:=1) (cs := #[.int .i64 a0_0, .int .i64 a0_1, .int .i64 a0_2, .int .i64 a0_3]) (t:=55) ?_; intro g1 hg w8 hbox hb; have B1 := A_ (hbox); have GW101 := hs_ HB hg; have GE101 := hs_ HB hg; replace HB := bs_ HB hb; clear hb hbox hg) | ((with_reducible refine gd_ 2 ?_); refine be_ (N:=2) (cs := #[.int .i64 0, .int .i64 0, .int .i64 0, .int .i64 0]) (t:=55) ?_; intro g2 hg w9 hbox hb; have B2 := A_ (hbox); have GW102 := hs_ HB hg; have GE102 := hs_ HB hg; have N12 := hl_ B1 hg; have N21 := hr_ B1 hg; replace B1 := bb_ B1 hb; replace HB := bs_ HB hb; clear hb hbox hg; have hnb10 := N12.out; have hnc10 := N21.out; have ⟨hcz11_0,hcz11_1,hcz11_2,hcz11_3,hfz11_0,hfz11_1,hfz11_2,hfz11_3⟩ := z4_ B1) | ((with_reducible refine gate_callee (f:=43) rfl ?_); refine gL_ (some 4) rfl rfl Tryz.func43 rfl #[.agg #[.int .i64 a0_0, .int .i64 a0_1, .int .i64 a0_2, .int .i64 a0_3]] rfl ?_; (with_reducible refine (span_May.calls a0_0 a0_1 a0_2 a0_3 true _ A2.out).mono ?_); rintro e w12 ⟨rfl, hb⟩; refine ⟨_, rfl, ?_⟩; replace B1 := bb_ B1 hb; replace B2 := bb_ B2 hb; replace HB := bs_ HB hb; have ⟨hcz13_0,hcz13_1,hcz13_2,hcz13_3,hfz13_0,hfz13_1,hfz13_2,hfz13_3⟩ := z4_ B1; have ⟨hcz14_0,hcz14_1,hcz14_2,hcz14_3,hfz14_0,hfz14_1,hfz14_2,hfz14_3⟩ := z4_ B2))
  refine bodyPost_ret (results_cell_row rfl _ _ g2 55 #[.int .i64 ji4, .int .i64 ji5, .int .i64 ji6, .int .i64 ji7] (0, 0) _ rfl (by refine pp_ (cs := #[.int .i64 ji4, .int .i64 ji5, .int .i64 ji6, .int .i64 0]) 3 ?_ rfl; refine blk_put (cs := #[.int .i64 ji4, .int .i64 ji5, .int .i64 0, .int .i64 0]) ?_ 2 _ rfl; refine blk_put (cs := #[.int .i64 ji4, .int .i64 0, .int .i64 0, .int .i64 0]) ?_ 1 _ rfl; refine blk_put (cs := #[.int .i64 0, .int .i64 0, .int .i64 0, .int .i64 0]) ?_ 0 _ rfl; exact pkx B2) Tryz.underlying55 rfl (by kernel_rfl)) rfl ?_
  exact ⟨by first | rfl | (simp [errW_none, errW_some] <;> rfl) | (simp only [← hji4, ← hji5, ← hji6, ← hji7]; first | rfl | (simp [errW_none, errW_some] <;> rfl)) | (simp [*, errW_none, errW_some] <;> rfl), by repeat (first | (with_reducible first | exact HB.out | apply below_alloc | apply pw_below_drewN | apply below_drew1 | refine below_set ?_ GE101.out | refine below_set ?_ GE102.out) | exact HB.out)⟩
 ·replace c3 := Bool.eq_false_iff.mpr c3; subst c3
  replace H := ie_ H
  simp only [Option.some.injEq, Prod.mk.injEq] at H
  obtain ⟨rfl, rfl, rfl, rfl⟩ := H
  go_enter Tryz.func54, Tryz.ntmps54
  go_wp2_with (first | ((with_reducible refine gd_ 1 ?_); refine be_ (N:=1) (cs := #[.int .i64 a0_0, .int .i64 a0_1, .int .i64 a0_2, .int .i64 a0_3]) (t:=55) ?_; intro g1 hg w15 hbox hb; have B1 := A_ (hbox); have GW101 := hs_ HB hg; have GE101 := hs_ HB hg; replace HB := bs_ HB hb; clear hb hbox hg) | ((with_reducible refine gd_ 2 ?_); refine be_ (N:=2) (cs := #[.int .i64 0, .int .i64 0, .int .i64 0, .int .i64 0]) (t:=55) ?_; intro g2 hg w16 hbox hb; have B2 := A_ (hbox); have GW102 := hs_ HB hg; have GE102 := hs_ HB hg; have N12 := hl_ B1 hg; have N21 := hr_ B1 hg; replace B1 := bb_ B1 hb; replace HB := bs_ HB hb; clear hb hbox hg; have hnb17 := N12.out; have hnc17 := N21.out; have ⟨hcz18_0,hcz18_1,hcz18_2,hcz18_3,hfz18_0,hfz18_1,hfz18_2,hfz18_3⟩ := z4_ B1) | ((with_reducible refine gate_callee (f:=43) rfl ?_); refine gL_ (some 4) rfl rfl Tryz.func43 rfl #[.agg #[.int .i64 a0_0, .int .i64 a0_1, .int .i64 a0_2, .int .i64 a0_3]] rfl ?_; (with_reducible refine (span_May.calls a0_0 a0_1 a0_2 a0_3 false _ A2.out).mono ?_); rintro e w19 ⟨rfl, hb⟩; refine ⟨_, rfl, ?_⟩; replace B1 := bb_ B1 hb; replace B2 := bb_ B2 hb; replace HB := bs_ HB hb; have ⟨hcz20_0,hcz20_1,hcz20_2,hcz20_3,hfz20_0,hfz20_1,hfz20_2,hfz20_3⟩ := z4_ B2))
  refine bodyPost_ret (results_cell_row rfl _ _ g2 55 #[.int .i64 0, .int .i64 0, .int .i64 0, .int .i64 0] (0, 0) _ rfl (by refine pp_ (cs := #[.int .i64 0, .int .i64 0, .int .i64 0, .int .i64 0]) 3 ?_ rfl; refine blk_put (cs := #[.int .i64 0, .int .i64 0, .int .i64 0, .int .i64 0]) ?_ 2 _ rfl; refine blk_put (cs := #[.int .i64 0, .int .i64 0, .int .i64 0, .int .i64 0]) ?_ 1 _ rfl; refine blk_put (cs := #[.int .i64 0, .int .i64 0, .int .i64 0, .int .i64 0]) ?_ 0 _ rfl; exact pkx B2) Tryz.underlying55 rfl (by kernel_rfl)) rfl ?_
  exact fi_ bl_

end Go.Proofs.YtbboanfggaknjaaGreatDoor.X
namespace Go.Proofs.YtbboanfggaknjaaGreatDoor.X
open Go.RowKit Go.Proofs.YtbboanfggaknjaaGreatDoorW.PrintWords Go.Proofs.YtbboanfggaknjaaGreatDoorW.PrintLast Go.Proofs.YtbboanfggaknjaaGreatDoorW.PrintMore
attribute [local go_sem] max2_int min2_int max_two min_two max_three min_three max_four min_four
set_option linter.unusedVariables false
set_option linter.unusedSimpArgs false
attribute [local go_sem high] eqA55
mutual
def zone_Wrong.l0 : Nat → Int → Int → List (S60) → Int → Int → Option (Int × Int)
 | 0, _, _, _, _, _ => none
 | k + 1, x1, x2, x10, x11, x12 => if x12 < x11 then (if 0 ≤ x12 then (if x12 < (x10.length : Int) then (if x12 ≥ 32 then (some (x12, 10)) else ((span_May.f ((rd_T60 x10 x12).f0.f0.f0) ((rd_T60 x10 x12).f0.f0.f1) ((rd_T60 x10 x12).f0.f1.f0) ((rd_T60 x10 x12).f0.f1.f1)).bind fun t103 => (if t103 = true then ((span_Straight.f ((rd_T60 x10 x12).f0.f0.f0) ((rd_T60 x10 x12).f0.f0.f1) ((rd_T60 x10 x12).f0.f1.f0) ((rd_T60 x10 x12).f0.f1.f1)).bind fun bt104 => (zone_Wrong.j1 k x1 x2 x12 x10 x11 x12 ((!(bt104.1 == ((rd_T60 x10 x12).f0.f0.f0)) || (!(bt104.2.1 == ((rd_T60 x10 x12).f0.f0.f1)))) || ((!(bt104.2.2.1 == ((rd_T60 x10 x12).f0.f1.f0)) || (!(bt104.2.2.2 == ((rd_T60 x10 x12).f0.f1.f1)))))) ((rd_T60 x10 x12).f0.f0.f0) ((rd_T60 x10 x12).f0.f0.f1) ((rd_T60 x10 x12).f0.f1.f0) ((rd_T60 x10 x12).f0.f1.f1) ((rd_T60 x10 x12).f1.f0) ((rd_T60 x10 x12).f1.f1))) else (zone_Wrong.j1 k x1 x2 x12 x10 x11 x12 true ((rd_T60 x10 x12).f0.f0.f0) ((rd_T60 x10 x12).f0.f0.f1) ((rd_T60 x10 x12).f0.f1.f0) ((rd_T60 x10 x12).f0.f1.f1) ((rd_T60 x10 x12).f1.f0) ((rd_T60 x10 x12).f1.f1))))) else (none)) else (none)) else (some (0, 0))
def zone_Wrong.j1 : Nat → Int → Int → Int → List (S60) → Int → Int → Bool → Int → Int → Int → Int → Int → Int → Option (Int × Int)
 | 0, _, _, _, _, _, _, _, _, _, _, _, _, _ => none
 | k + 1, x1, x2, x8, x10, x11, x12, x21, x103000, x103001, x103002, x103003, x103004, x103005 => if x21 = true then (some (x8, 1)) else (if x103002 ≥ x1 then (zone_Wrong.j2 k x1 x2 x8 x10 x11 x12 true x103000 x103001 x103002 x103003 x103004 x103005) else (zone_Wrong.j2 k x1 x2 x8 x10 x11 x12 (decide (x103003 ≥ x2)) x103000 x103001 x103002 x103003 x103004 x103005))
def zone_Wrong.j2 : Nat → Int → Int → Int → List (S60) → Int → Int → Bool → Int → Int → Int → Int → Int → Int → Option (Int × Int)
 | 0, _, _, _, _, _, _, _, _, _, _, _, _, _ => none
 | k + 1, x1, x2, x8, x10, x11, x12, x35, x103000, x103001, x103002, x103003, x103004, x103005 => if x35 = true then (some (x8, 2)) else ((label_May.f x103004 x103005).bind fun t108 => (if t108 = true then (zone_Wrong.l0 k x1 x2 x10 x11 (wrap64 (x12 + 1))) else (some (x8, 7))))
end
def zone_Wrong.f (k : Nat) (l0 : List (S60)) (a1 : Int) (a2 : Int) : Option (Int × Int) := zone_Wrong.l0 k a1 a2 l0 (l0.length : Int) 0
def zone_Wrong.T6 : Bool × List (List Nat × List Nat) := (true, [([], []), ([0], [0]), ([1], [1]), ([2], [2]), ([3, 2], [3]), ([4], [4]), ([5, 4], [4, 5]), ([6, 4, 4], [4, 6]), ([4], [4]), ([8, 4], [4, 8]), ([7, 9, 4], [4, 7, 9]), ([4, 10], [4, 10]), ([11, 7], [11])])
def zone_Wrong.B6 : List Nat := [0, 1, 3, 7, 15, 31, 63, 127, 31, 287, 1023, 2047, 4095]
theorem zone_Wrong.tab6 : rtab .any (opsOf Tryz.f30 6) = zone_Wrong.T6 := by kernel_rfl
theorem zone_Wrong.bits6 : waitsOk zone_Wrong.T6.2 zone_Wrong.B6 = true := by kernel_rfl
theorem zone_Wrong.calls (k : Nat) (A0 : Option Addr) (c0 : Nat) (l0 : List (S60)) (a1 : Int) (a2 : Int) (r1 : Int) (r2 : Int) (w : World) (hr0 : Kd.C k60 w A0 l0.length l0) (hc0 : l0.length ≤ c0) (h : zone_Wrong.f k l0 a1 a2 = some (r1, r2)) :
  Calls Tryz.prog 30 #[.slice A0 l0.length c0, .int .i64 a1, .int .i64 a2] w fun e w' => e = .returned (.tuple #[.int .i64 r1, .int .i64 r2]) ∧ Below w.heap.size w w' := by
 have hu60 := Tryz.underlying60; have hu55 := Tryz.underlying55; have hu58 := Tryz.underlying58; have HR0 := A_ hr0; have HC0 := A_ hc0; clear hr0 hc0; have HB := A_ (Below.refl w.heap.size w)
 have H : (zone_Wrong.l0 k a1 a2 l0 (l0.length : Int) 0) = some (r1, r2) := h
 clear h
 have H' := A_ H
 clear H
 go_enter Tryz.func30, Tryz.ntmps30
 go_wp2
 go_loopg [12] k (fun kq v12 w' => ∃ (x12_1 : Int), v12 = .int .i64 x12_1 ∧ Aside0 (zone_Wrong.l0 kq a1 a2 l0 (l0.length : Int) x12_1 = some (r1, r2)) ∧ Aside0 (kq ≤ k) ∧ Aside0 (Below w.heap.size w w'))
 case atStart => exact ⟨(0), sq_, H', ⟨Nat.le_refl _⟩, ⟨pbx HB⟩⟩
 case round =>
  clear H'; obtain ⟨x12_1, rfl, HA, HK1, HB⟩ := hrel
  cases gk with
  | zero => exact absurd HA.out (by simp [zone_Wrong.l0])
  | succ k1 =>
   have H := HA.out; clear HA
   simp only [zone_Wrong.l0] at H
   by_cases c4 : x12_1 < (l0.length : Int)
   ·rw [if_pos c4] at H; have c4b0 := decide_eq_true c4; clear c4
    by_cases c5 : 0 ≤ x12_1
    ·rw [if_pos c5] at H; have c5b0 := decide_eq_true c5; clear c5
     by_cases c6 : x12_1 < (l0.length : Int)
     ·rw [if_pos c6] at H; have c6b0 := decide_eq_true c6; clear c6
      by_cases c7 : x12_1 ≥ 32
      ·rw [if_pos c7] at H; have c7b0 := decide_eq_true c7; clear c7
       simp only [Option.some.injEq, Prod.mk.injEq] at H
       obtain ⟨rfl, rfl⟩ := H
       have p101 : 0 ≤ (x12_1 : Int) := of_decide_eq_true as_
       have q101 : x12_1 < (l0.length : Int) := of_decide_eq_true as_
       obtain ⟨ad101, e101, hx101_0, hx101_1, hx101_2, hx101_3, hx101_4, hx101_5⟩ := at_T60 HR0.out x12_1 p101 q101
       cases e101
       replace hx101_0 := (HB.out.cell (World.block_lt_of_cell? w _ hx101_0)).trans hx101_0; replace hx101_1 := (HB.out.cell (World.block_lt_of_cell? w _ hx101_1)).trans hx101_1; replace hx101_2 := (HB.out.cell (World.block_lt_of_cell? w _ hx101_2)).trans hx101_2; replace hx101_3 := (HB.out.cell (World.block_lt_of_cell? w _ hx101_3)).trans hx101_3; replace hx101_4 := (HB.out.cell (World.block_lt_of_cell? w _ hx101_4)).trans hx101_4; replace hx101_5 := (HB.out.cell (World.block_lt_of_cell? w _ hx101_5)).trans hx101_5; replace p101 := eq_true p101; replace q101 := eq_true q101
       go_wp2_with (first | ((with_reducible refine gd_ 9 ?_); refine be_ (N:=9) (cs := #[.int .i64 0, .int .i64 0, .int .i64 0, .int .i64 0, .int .i64 0, .int .u64 0]) (t:=60) ?_; intro g2 hg w8 hbox hb; have B2 := A_ (hbox); have GW102 := hs_ HB hg; have GE102 := hs_ HB hg; replace HB := bs_ HB hb; clear hb hbox hg; have ⟨hcz9_0,hcz9_1,hcz9_2,hcz9_3,hcz9_4,hcz9_5,hfz9_0,hfz9_1,hfz9_2,hfz9_3,hfz9_4,hfz9_5⟩ := z6_ B2))
       go_ret2
       exact fi_ bl_
      ·rw [if_neg c7] at H; have c7b0 := decide_eq_false c7; clear c7; have HC10 := A_ H; clear H
       have p101 : 0 ≤ (x12_1 : Int) := of_decide_eq_true as_
       have q101 : x12_1 < (l0.length : Int) := of_decide_eq_true as_
       obtain ⟨ad101, e101, hx101_0, hx101_1, hx101_2, hx101_3, hx101_4, hx101_5⟩ := at_T60 HR0.out x12_1 p101 q101
       cases e101
       replace hx101_0 := (HB.out.cell (World.block_lt_of_cell? w _ hx101_0)).trans hx101_0; replace hx101_1 := (HB.out.cell (World.block_lt_of_cell? w _ hx101_1)).trans hx101_1; replace hx101_2 := (HB.out.cell (World.block_lt_of_cell? w _ hx101_2)).trans hx101_2; replace hx101_3 := (HB.out.cell (World.block_lt_of_cell? w _ hx101_3)).trans hx101_3; replace hx101_4 := (HB.out.cell (World.block_lt_of_cell? w _ hx101_4)).trans hx101_4; replace hx101_5 := (HB.out.cell (World.block_lt_of_cell? w _ hx101_5)).trans hx101_5; replace p101 := eq_true p101; replace q101 := eq_true q101
       go_upto_region 6 with (first | ((with_reducible refine gd_ 9 ?_); refine be_ (N:=9) (cs := #[.int .i64 0, .int .i64 0, .int .i64 0, .int .i64 0, .int .i64 0, .int .u64 0]) (t:=60) ?_; intro g2 hg w11 hbox hb; have B2 := A_ (hbox); have GW102 := hs_ HB hg; have GE102 := hs_ HB hg; replace HB := bs_ HB hb; clear hb hbox hg; have ⟨hcz12_0,hcz12_1,hcz12_2,hcz12_3,hcz12_4,hcz12_5,hfz12_0,hfz12_1,hfz12_2,hfz12_3,hfz12_4,hfz12_5⟩ := z6_ B2))
       (try simp only [q_])
       go_cut [21] (fun v21 wc => ∃ (kq : Nat) (x21_9 : Bool), v21 = .bool x21_9 ∧ Aside0 (zone_Wrong.j1 kq a1 a2 x12_1 l0 (l0.length : Int) x12_1 x21_9 ((rd_T60 l0 x12_1).f0.f0.f0) ((rd_T60 l0 x12_1).f0.f0.f1) ((rd_T60 l0 x12_1).f0.f1.f0) ((rd_T60 l0 x12_1).f0.f1.f1) ((rd_T60 l0 x12_1).f1.f0) ((rd_T60 l0 x12_1).f1.f1) = some (r1, r2)) ∧ Aside0 (kq ≤ k1) ∧ Aside0 (wc.heap[g2]? = some (.cells #[.int .i64 ((rd_T60 l0 x12_1).f0.f0.f0), .int .i64 ((rd_T60 l0 x12_1).f0.f0.f1), .int .i64 ((rd_T60 l0 x12_1).f0.f1.f0), .int .i64 ((rd_T60 l0 x12_1).f0.f1.f1), .int .i64 ((rd_T60 l0 x12_1).f1.f0), .int .u64 ((rd_T60 l0 x12_1).f1.f1)] 60 (0, 0))) ∧ Aside0 (Below w.heap.size w wc))
       case first =>
        have H := HC10.out; clear HC10; obtain ⟨t103, A13, H⟩ := bo_ H
        by_cases c14 : t103 = true
        ·subst c14
         obtain ⟨⟨t104, t105, t106, t107⟩, A15, H⟩ := bo_ (it_ H); dsimp only at H
         have H' := A_ H
         clear H
         try go_wp2
         have n0_ : Aside0 (((((((w11.setCell ⟨g2, 0, none⟩ (.int .i64 ((rd_T60 l0 x12_1).f0.f0.f0))).setCell ⟨g2, 1, none⟩ (.int .i64 ((rd_T60 l0 x12_1).f0.f0.f1))).setCell ⟨g2, 2, none⟩ (.int .i64 ((rd_T60 l0 x12_1).f0.f1.f0))).setCell ⟨g2, 3, none⟩ (.int .i64 ((rd_T60 l0 x12_1).f0.f1.f1))).setCell ⟨g2, 4, none⟩ (.int .i64 ((rd_T60 l0 x12_1).f1.f0))).setCell ⟨g2, 5, none⟩ (.int .u64 ((rd_T60 l0 x12_1).f1.f1))).heap[g2]? = some (.cells #[.int .i64 ((rd_T60 l0 x12_1).f0.f0.f0), .int .i64 ((rd_T60 l0 x12_1).f0.f0.f1), .int .i64 ((rd_T60 l0 x12_1).f0.f1.f0), .int .i64 ((rd_T60 l0 x12_1).f0.f1.f1), .int .i64 ((rd_T60 l0 x12_1).f1.f0), .int .u64 ((rd_T60 l0 x12_1).f1.f1)] 60 (0, 0))) := ⟨by refine pp_ (cs := #[.int .i64 ((rd_T60 l0 x12_1).f0.f0.f0), .int .i64 ((rd_T60 l0 x12_1).f0.f0.f1), .int .i64 ((rd_T60 l0 x12_1).f0.f1.f0), .int .i64 ((rd_T60 l0 x12_1).f0.f1.f1), .int .i64 ((rd_T60 l0 x12_1).f1.f0), .int .u64 0]) 5 ?_ rfl; refine blk_put (cs := #[.int .i64 ((rd_T60 l0 x12_1).f0.f0.f0), .int .i64 ((rd_T60 l0 x12_1).f0.f0.f1), .int .i64 ((rd_T60 l0 x12_1).f0.f1.f0), .int .i64 ((rd_T60 l0 x12_1).f0.f1.f1), .int .i64 0, .int .u64 0]) ?_ 4 _ rfl; refine blk_put (cs := #[.int .i64 ((rd_T60 l0 x12_1).f0.f0.f0), .int .i64 ((rd_T60 l0 x12_1).f0.f0.f1), .int .i64 ((rd_T60 l0 x12_1).f0.f1.f0), .int .i64 0, .int .i64 0, .int .u64 0]) ?_ 3 _ rfl; refine blk_put (cs := #[.int .i64 ((rd_T60 l0 x12_1).f0.f0.f0), .int .i64 ((rd_T60 l0 x12_1).f0.f0.f1), .int .i64 0, .int .i64 0, .int .i64 0, .int .u64 0]) ?_ 2 _ rfl; refine blk_put (cs := #[.int .i64 ((rd_T60 l0 x12_1).f0.f0.f0), .int .i64 0, .int .i64 0, .int .i64 0, .int .i64 0, .int .u64 0]) ?_ 1 _ rfl; refine blk_put (cs := #[.int .i64 0, .int .i64 0, .int .i64 0, .int .i64 0, .int .i64 0, .int .u64 0]) ?_ 0 _ rfl; exact pkx B2⟩
         have n1_ : Aside0 (Below w.heap.size w ((((((w11.setCell ⟨g2, 0, none⟩ (.int .i64 ((rd_T60 l0 x12_1).f0.f0.f0))).setCell ⟨g2, 1, none⟩ (.int .i64 ((rd_T60 l0 x12_1).f0.f0.f1))).setCell ⟨g2, 2, none⟩ (.int .i64 ((rd_T60 l0 x12_1).f0.f1.f0))).setCell ⟨g2, 3, none⟩ (.int .i64 ((rd_T60 l0 x12_1).f0.f1.f1))).setCell ⟨g2, 4, none⟩ (.int .i64 ((rd_T60 l0 x12_1).f1.f0))).setCell ⟨g2, 5, none⟩ (.int .u64 ((rd_T60 l0 x12_1).f1.f1)))) := ⟨bl_⟩; (try clear B2); (try clear HB)
         generalize ((((((w11.setCell ⟨g2, 0, none⟩ (.int .i64 ((rd_T60 l0 x12_1).f0.f0.f0))).setCell ⟨g2, 1, none⟩ (.int .i64 ((rd_T60 l0 x12_1).f0.f0.f1))).setCell ⟨g2, 2, none⟩ (.int .i64 ((rd_T60 l0 x12_1).f0.f1.f0))).setCell ⟨g2, 3, none⟩ (.int .i64 ((rd_T60 l0 x12_1).f0.f1.f1))).setCell ⟨g2, 4, none⟩ (.int .i64 ((rd_T60 l0 x12_1).f1.f0))).setCell ⟨g2, 5, none⟩ (.int .u64 ((rd_T60 l0 x12_1).f1.f1))) = w16 at n0_ n1_ ⊢; have B2 := n0_; have HB := n1_; clear n0_ n1_; (try (rw [drewN_self w16]; generalize hq_ : World.drewN w16 _ = w16; have n0_ : Aside0 (w16.heap[g2]? = some (.cells #[.int .i64 ((rd_T60 l0 x12_1).f0.f0.f0), .int .i64 ((rd_T60 l0 x12_1).f0.f0.f1), .int .i64 ((rd_T60 l0 x12_1).f0.f1.f0), .int .i64 ((rd_T60 l0 x12_1).f0.f1.f1), .int .i64 ((rd_T60 l0 x12_1).f1.f0), .int .u64 ((rd_T60 l0 x12_1).f1.f1)] 60 (0, 0))) := ⟨by rw [← hq_]; exact (pkx B2)⟩; have n1_ : Aside0 (Below w.heap.size w w16) := ⟨by rw [← hq_]; exact (pbx HB)⟩; clear B2 HB hq_; have B2 := n0_; have HB := n1_; clear n0_ n1_))
         replace B2 := A_ (blk_drew B2.out); replace HB := A_ (below_drew1 HB.out)
         refine start_ (n:=13) (S := fun w' => w'.cell? ⟨g2, 0, none⟩ = some (.int .i64 ((rd_T60 l0 x12_1).f0.f0.f0)) ∧ w'.cell? ⟨g2, 1, none⟩ = some (.int .i64 ((rd_T60 l0 x12_1).f0.f0.f1)) ∧ w'.cell? ⟨g2, 2, none⟩ = some (.int .i64 ((rd_T60 l0 x12_1).f0.f1.f0)) ∧ w'.cell? ⟨g2, 3, none⟩ = some (.int .i64 ((rd_T60 l0 x12_1).f0.f1.f1)) ∧ w'.cell? ⟨g2, 4, none⟩ = some (.int .i64 ((rd_T60 l0 x12_1).f1.f0)) ∧ w'.cell? ⟨g2, 5, none⟩ = some (.int .u64 ((rd_T60 l0 x12_1).f1.f1))) (ds := []) #[F,F,F,F,F,F,F,F,F,F,F,F,F] (by kernel_rfl) rfl rfl ⟨bc_ B2 0 rfl, bc_ B2 1 rfl, bc_ B2 2 rfl, bc_ B2 3 rfl, bc_ B2 4 rfl, bc_ B2 5 rfl⟩ (fun hHeld => ?_); refine with_tabW zone_Wrong.tab6 zone_Wrong.bits6 (fun HT_ HW_ => ?_)
         generalize w16.drew = w17 at B2 HB hHeld ⊢; refine pure_ (i:=0) (N:=some 22) (v:=?_) (a':=?_) ⟨m_ 13 1⟩ rfl rfl (ao_ HT_) (fun _ _ _ h=>h) (Or.inl ⟨rfl, ?_⟩) ?_ ?_; rotate_left
         ·intro w'; go_simp; with_reducible rfl
         rotate_left
         ·simp only [q_, i64_w, i32_w]; rfl
         refine take_ (i:=1) (N:=some 23) (v:=?_) (a':=?_) ⟨m_ 13 3⟩ rfl rfl (tw_ HT_ HW_) (fun _ _ _ h=>h) (Or.inl ⟨rfl, ?_⟩) hHeld ?_ ?_; rotate_left
         ·rintro w' ⟨s0, s1, s2, s3, s4, s5⟩; go_simp; with_reducible rfl
         rotate_left
         ·simp only [q_, i64_w, i32_w]; rfl
         refine one_ (i:=2) (N:=some 24) ⟨m_ 13 7⟩ rfl rfl (oo_ HT_) (by decide) (fun K hK => ?_); refine goes_ Tryz.func43 (by kernel_rfl) rfl #[.agg #[.int .i64 ((rd_T60 l0 x12_1).f0.f0.f0), .int .i64 ((rd_T60 l0 x12_1).f0.f0.f1), .int .i64 ((rd_T60 l0 x12_1).f0.f1.f0), .int .i64 ((rd_T60 l0 x12_1).f0.f1.f1)]] (by rfl) rfl rfl ha_ ?_; with_reducible refine (span_May.calls ((rd_T60 l0 x12_1).f0.f0.f0) ((rd_T60 l0 x12_1).f0.f0.f1) ((rd_T60 l0 x12_1).f0.f1.f0) ((rd_T60 l0 x12_1).f0.f1.f1) true _ A13.out).mono ?_; rintro e w18 ⟨rfl, hb⟩; refine ⟨_, rfl, ?_⟩
         replace B2 := bb_ B2 hb; replace HB := bs_ HB hb; (try clear hb); refine hK.out _ _ ⟨bc_ B2 0 rfl, bc_ B2 1 rfl, bc_ B2 2 rfl, bc_ B2 3 rfl, bc_ B2 4 rfl, bc_ B2 5 rfl⟩ (fun hHeld => ?_); clear hK K; refine norm_ (a':=?_) ?_ ?_; rotate_left
         ·show Act.put _ (some 24) _ = _; simp only [q_, i64_w, i32_w]; rfl
         refine pure_ (i:=3) (N:=some 25) (v:=?_) (a':=?_) ⟨m_ 13 15⟩ rfl rfl (ao_ HT_) (fun _ _ _ h=>h) (Or.inl ⟨rfl, ?_⟩) ?_ ?_; rotate_left
         ·intro w'; go_simp; with_reducible rfl
         rotate_left
         ·simp only [q_, i64_w, i32_w]; rfl
         refine pure_ (i:=4) (N:=some 26) (v:=?_) (a':=?_) ⟨m_ 13 31⟩ rfl rfl (ao_ HT_) (fun _ _ _ h=>h) (Or.inl ⟨rfl, ?_⟩) ?_ ?_; rotate_left
         ·intro w'; go_simp; with_reducible rfl
         rotate_left
         ·simp only [q_, i64_w, i32_w]; rfl
         refine pure_ (i:=5) (N:=some 27) (v:=?_) (a':=?_) ⟨m_ 13 63⟩ rfl rfl (ao_ HT_) (fun _ _ _ h=>h) (Or.inl ⟨rfl, ?_⟩) ?_ ?_; rotate_left
         ·intro w'; go_simp; with_reducible rfl
         rotate_left
         ·simp only [q_, i64_w, i32_w]; rfl
         refine pure_ (i:=8) (N:=some 30) (v:=?_) (a':=?_) ⟨m_ 13 319⟩ rfl rfl (ao_ HT_) (fun _ _ _ h=>h) (Or.inl ⟨rfl, ?_⟩) ?_ ?_; rotate_left
         ·intro w'; go_simp; with_reducible rfl
         rotate_left
         ·simp only [q_, i64_w, i32_w]; rfl
         refine take_ (i:=6) (N:=some 28) (v:=?_) (a':=?_) ⟨m_ 13 383⟩ rfl rfl (tw_ HT_ HW_) (fun _ _ _ h=>h) (Or.inl ⟨rfl, ?_⟩) hHeld ?_ ?_; rotate_left
         ·rintro w' ⟨s0, s1, s2, s3, s4, s5⟩; go_simp; with_reducible rfl
         rotate_left
         ·simp only [q_, i64_w, i32_w]; rfl
         refine take_ (i:=9) (N:=some 31) (v:=?_) (a':=?_) ⟨m_ 13 895⟩ rfl rfl (tw_ HT_ HW_) (fun _ _ _ h=>h) (Or.inl ⟨rfl, ?_⟩) hHeld ?_ ?_; rotate_left
         ·rintro w' ⟨s0, s1, s2, s3, s4, s5⟩; go_simp; with_reducible rfl
         rotate_left
         ·simp only [q_, i64_w, i32_w]; rfl
         refine one_ (i:=7) (N:=some 29) ⟨m_ 13 1023⟩ rfl rfl (oo_ HT_) (by decide) (fun K hK => ?_); refine goes_ Tryz.func54 (by kernel_rfl) rfl #[.agg #[.int .i64 ((rd_T60 l0 x12_1).f0.f0.f0), .int .i64 ((rd_T60 l0 x12_1).f0.f0.f1), .int .i64 ((rd_T60 l0 x12_1).f0.f1.f0), .int .i64 ((rd_T60 l0 x12_1).f0.f1.f1)]] (by rfl) rfl rfl ha_ ?_; with_reducible refine (span_Straight.calls ((rd_T60 l0 x12_1).f0.f0.f0) ((rd_T60 l0 x12_1).f0.f0.f1) ((rd_T60 l0 x12_1).f0.f1.f0) ((rd_T60 l0 x12_1).f0.f1.f1) t104 t105 t106 t107 _ A15.out).mono ?_; rintro e w19 ⟨rfl, hb⟩; refine ⟨_, rfl, ?_⟩
         replace B2 := bb_ B2 hb; replace HB := bs_ HB hb; (try clear hb); refine hK.out _ _ ⟨bc_ B2 0 rfl, bc_ B2 1 rfl, bc_ B2 2 rfl, bc_ B2 3 rfl, bc_ B2 4 rfl, bc_ B2 5 rfl⟩ (fun hHeld => ?_); clear hK K; refine norm_ (a':=?_) ?_ ?_; rotate_left
         ·show Act.put _ (some 29) _ = _; simp only [q_, i64_w, i32_w]; rfl
         refine pure_ (i:=10) (N:=some 32) (v:=?_) (a':=?_) ⟨m_ 13 2047⟩ rfl rfl (ao_ HT_) (fun _ _ _ h=>h) (Or.inl ⟨rfl, ?_⟩) ?_ ?_; rotate_left
         ·intro w'; go_simp; with_reducible rfl
         rotate_left
         ·simp only [q_, i64_w, i32_w]; rfl
         refine pure_ (i:=11) (N:=some 33) (v:=?_) (a':=?_) ⟨m_ 13 4095⟩ rfl rfl (ao_ HT_) (fun _ _ _ h=>h) (Or.inl ⟨rfl, ?_⟩) ?_ ?_; rotate_left
         ·intro w'; go_simp; with_reducible rfl
         rotate_left
         ·simp only [q_, i64_w, i32_w]; rfl
         refine pure_ (i:=12) (N:=some 21) (v:=?_) (a':=?_) ⟨m_ 13 8191⟩ rfl rfl (ao_ HT_) (fun _ _ _ h=>h) (Or.inl ⟨rfl, ?_⟩) ?_ ?_; rotate_left
         ·intro w'; go_simp; with_reducible rfl
         rotate_left
         ·simp only [q_, i64_w, i32_w]; rfl
         refine done_ (done_of HT_.out (by kernel_rfl)) ?_
         try go_wp2
         go_meet
         case rel => exact ⟨_, (((!(t104 == ((rd_T60 l0 x12_1).f0.f0.f0)) || (!(t105 == ((rd_T60 l0 x12_1).f0.f0.f1)))) || ((!(t106 == ((rd_T60 l0 x12_1).f0.f1.f0)) || (!(t107 == ((rd_T60 l0 x12_1).f0.f1.f1))))))), (by first | rfl | (simp; done) | (simp [*]; done) | (cases t104 <;> simp; done) | (cases t105 <;> simp; done) | (cases t106 <;> simp; done)), H', ⟨by have := HK1.out; first | omega | exact Nat.le_refl _⟩, ⟨pkx B2⟩, ⟨pbx HB⟩⟩
        ·replace c14 := Bool.eq_false_iff.mpr c14; subst c14
         replace H := ie_ H
         have H' := A_ H
         clear H
         try go_wp2
         have n0_ : Aside0 (((((((w11.setCell ⟨g2, 0, none⟩ (.int .i64 ((rd_T60 l0 x12_1).f0.f0.f0))).setCell ⟨g2, 1, none⟩ (.int .i64 ((rd_T60 l0 x12_1).f0.f0.f1))).setCell ⟨g2, 2, none⟩ (.int .i64 ((rd_T60 l0 x12_1).f0.f1.f0))).setCell ⟨g2, 3, none⟩ (.int .i64 ((rd_T60 l0 x12_1).f0.f1.f1))).setCell ⟨g2, 4, none⟩ (.int .i64 ((rd_T60 l0 x12_1).f1.f0))).setCell ⟨g2, 5, none⟩ (.int .u64 ((rd_T60 l0 x12_1).f1.f1))).heap[g2]? = some (.cells #[.int .i64 ((rd_T60 l0 x12_1).f0.f0.f0), .int .i64 ((rd_T60 l0 x12_1).f0.f0.f1), .int .i64 ((rd_T60 l0 x12_1).f0.f1.f0), .int .i64 ((rd_T60 l0 x12_1).f0.f1.f1), .int .i64 ((rd_T60 l0 x12_1).f1.f0), .int .u64 ((rd_T60 l0 x12_1).f1.f1)] 60 (0, 0))) := ⟨by refine pp_ (cs := #[.int .i64 ((rd_T60 l0 x12_1).f0.f0.f0), .int .i64 ((rd_T60 l0 x12_1).f0.f0.f1), .int .i64 ((rd_T60 l0 x12_1).f0.f1.f0), .int .i64 ((rd_T60 l0 x12_1).f0.f1.f1), .int .i64 ((rd_T60 l0 x12_1).f1.f0), .int .u64 0]) 5 ?_ rfl; refine blk_put (cs := #[.int .i64 ((rd_T60 l0 x12_1).f0.f0.f0), .int .i64 ((rd_T60 l0 x12_1).f0.f0.f1), .int .i64 ((rd_T60 l0 x12_1).f0.f1.f0), .int .i64 ((rd_T60 l0 x12_1).f0.f1.f1), .int .i64 0, .int .u64 0]) ?_ 4 _ rfl; refine blk_put (cs := #[.int .i64 ((rd_T60 l0 x12_1).f0.f0.f0), .int .i64 ((rd_T60 l0 x12_1).f0.f0.f1), .int .i64 ((rd_T60 l0 x12_1).f0.f1.f0), .int .i64 0, .int .i64 0, .int .u64 0]) ?_ 3 _ rfl; refine blk_put (cs := #[.int .i64 ((rd_T60 l0 x12_1).f0.f0.f0), .int .i64 ((rd_T60 l0 x12_1).f0.f0.f1), .int .i64 0, .int .i64 0, .int .i64 0, .int .u64 0]) ?_ 2 _ rfl; refine blk_put (cs := #[.int .i64 ((rd_T60 l0 x12_1).f0.f0.f0), .int .i64 0, .int .i64 0, .int .i64 0, .int .i64 0, .int .u64 0]) ?_ 1 _ rfl; refine blk_put (cs := #[.int .i64 0, .int .i64 0, .int .i64 0, .int .i64 0, .int .i64 0, .int .u64 0]) ?_ 0 _ rfl; exact pkx B2⟩
         have n1_ : Aside0 (Below w.heap.size w ((((((w11.setCell ⟨g2, 0, none⟩ (.int .i64 ((rd_T60 l0 x12_1).f0.f0.f0))).setCell ⟨g2, 1, none⟩ (.int .i64 ((rd_T60 l0 x12_1).f0.f0.f1))).setCell ⟨g2, 2, none⟩ (.int .i64 ((rd_T60 l0 x12_1).f0.f1.f0))).setCell ⟨g2, 3, none⟩ (.int .i64 ((rd_T60 l0 x12_1).f0.f1.f1))).setCell ⟨g2, 4, none⟩ (.int .i64 ((rd_T60 l0 x12_1).f1.f0))).setCell ⟨g2, 5, none⟩ (.int .u64 ((rd_T60 l0 x12_1).f1.f1)))) := ⟨bl_⟩; (try clear B2); (try clear HB)
         generalize ((((((w11.setCell ⟨g2, 0, none⟩ (.int .i64 ((rd_T60 l0 x12_1).f0.f0.f0))).setCell ⟨g2, 1, none⟩ (.int .i64 ((rd_T60 l0 x12_1).f0.f0.f1))).setCell ⟨g2, 2, none⟩ (.int .i64 ((rd_T60 l0 x12_1).f0.f1.f0))).setCell ⟨g2, 3, none⟩ (.int .i64 ((rd_T60 l0 x12_1).f0.f1.f1))).setCell ⟨g2, 4, none⟩ (.int .i64 ((rd_T60 l0 x12_1).f1.f0))).setCell ⟨g2, 5, none⟩ (.int .u64 ((rd_T60 l0 x12_1).f1.f1))) = w20 at n0_ n1_ ⊢; have B2 := n0_; have HB := n1_; clear n0_ n1_; (try (rw [drewN_self w20]; generalize hq_ : World.drewN w20 _ = w20; have n0_ : Aside0 (w20.heap[g2]? = some (.cells #[.int .i64 ((rd_T60 l0 x12_1).f0.f0.f0), .int .i64 ((rd_T60 l0 x12_1).f0.f0.f1), .int .i64 ((rd_T60 l0 x12_1).f0.f1.f0), .int .i64 ((rd_T60 l0 x12_1).f0.f1.f1), .int .i64 ((rd_T60 l0 x12_1).f1.f0), .int .u64 ((rd_T60 l0 x12_1).f1.f1)] 60 (0, 0))) := ⟨by rw [← hq_]; exact (pkx B2)⟩; have n1_ : Aside0 (Below w.heap.size w w20) := ⟨by rw [← hq_]; exact (pbx HB)⟩; clear B2 HB hq_; have B2 := n0_; have HB := n1_; clear n0_ n1_))
         replace B2 := A_ (blk_drew B2.out); replace HB := A_ (below_drew1 HB.out)
         refine start_ (n:=13) (S := fun w' => w'.cell? ⟨g2, 0, none⟩ = some (.int .i64 ((rd_T60 l0 x12_1).f0.f0.f0)) ∧ w'.cell? ⟨g2, 1, none⟩ = some (.int .i64 ((rd_T60 l0 x12_1).f0.f0.f1)) ∧ w'.cell? ⟨g2, 2, none⟩ = some (.int .i64 ((rd_T60 l0 x12_1).f0.f1.f0)) ∧ w'.cell? ⟨g2, 3, none⟩ = some (.int .i64 ((rd_T60 l0 x12_1).f0.f1.f1)) ∧ w'.cell? ⟨g2, 4, none⟩ = some (.int .i64 ((rd_T60 l0 x12_1).f1.f0)) ∧ w'.cell? ⟨g2, 5, none⟩ = some (.int .u64 ((rd_T60 l0 x12_1).f1.f1))) (ds := []) #[F,F,F,F,F,F,F,F,F,F,F,F,F] (by kernel_rfl) rfl rfl ⟨bc_ B2 0 rfl, bc_ B2 1 rfl, bc_ B2 2 rfl, bc_ B2 3 rfl, bc_ B2 4 rfl, bc_ B2 5 rfl⟩ (fun hHeld => ?_); refine with_tabW zone_Wrong.tab6 zone_Wrong.bits6 (fun HT_ HW_ => ?_)
         generalize w20.drew = w21 at B2 HB hHeld ⊢; refine pure_ (i:=0) (N:=some 22) (v:=?_) (a':=?_) ⟨m_ 13 1⟩ rfl rfl (ao_ HT_) (fun _ _ _ h=>h) (Or.inl ⟨rfl, ?_⟩) ?_ ?_; rotate_left
         ·intro w'; go_simp; with_reducible rfl
         rotate_left
         ·simp only [q_, i64_w, i32_w]; rfl
         refine take_ (i:=1) (N:=some 23) (v:=?_) (a':=?_) ⟨m_ 13 3⟩ rfl rfl (tw_ HT_ HW_) (fun _ _ _ h=>h) (Or.inl ⟨rfl, ?_⟩) hHeld ?_ ?_; rotate_left
         ·rintro w' ⟨s0, s1, s2, s3, s4, s5⟩; go_simp; with_reducible rfl
         rotate_left
         ·simp only [q_, i64_w, i32_w]; rfl
         refine one_ (i:=2) (N:=some 24) ⟨m_ 13 7⟩ rfl rfl (oo_ HT_) (by decide) (fun K hK => ?_); refine goes_ Tryz.func43 (by kernel_rfl) rfl #[.agg #[.int .i64 ((rd_T60 l0 x12_1).f0.f0.f0), .int .i64 ((rd_T60 l0 x12_1).f0.f0.f1), .int .i64 ((rd_T60 l0 x12_1).f0.f1.f0), .int .i64 ((rd_T60 l0 x12_1).f0.f1.f1)]] (by rfl) rfl rfl ha_ ?_; with_reducible refine (span_May.calls ((rd_T60 l0 x12_1).f0.f0.f0) ((rd_T60 l0 x12_1).f0.f0.f1) ((rd_T60 l0 x12_1).f0.f1.f0) ((rd_T60 l0 x12_1).f0.f1.f1) false _ A13.out).mono ?_; rintro e w22 ⟨rfl, hb⟩; refine ⟨_, rfl, ?_⟩
         replace B2 := bb_ B2 hb; replace HB := bs_ HB hb; (try clear hb); refine hK.out _ _ ⟨bc_ B2 0 rfl, bc_ B2 1 rfl, bc_ B2 2 rfl, bc_ B2 3 rfl, bc_ B2 4 rfl, bc_ B2 5 rfl⟩ (fun hHeld => ?_); clear hK K; refine norm_ (a':=?_) ?_ ?_; rotate_left
         ·show Act.put _ (some 24) _ = _; simp only [q_, i64_w, i32_w]; rfl
         refine pure_ (i:=3) (N:=some 25) (v:=?_) (a':=?_) ⟨m_ 13 15⟩ rfl rfl (ao_ HT_) (fun _ _ _ h=>h) (Or.inl ⟨rfl, ?_⟩) ?_ ?_; rotate_left
         ·intro w'; go_simp; with_reducible rfl
         rotate_left
         ·simp only [q_, i64_w, i32_w]; rfl
         refine pure_ (i:=4) (N:=some 26) (v:=?_) (a':=?_) ⟨m_ 13 31⟩ rfl rfl (ao_ HT_) (fun _ _ _ h=>h) (Or.inl ⟨rfl, ?_⟩) ?_ ?_; rotate_left
         ·intro w'; go_simp; with_reducible rfl
         rotate_left
         ·simp only [q_, i64_w, i32_w]; rfl
         refine pure_ (i:=5) (N:=some 27) (v:=undef) (a':=?_) ⟨m_ 13 63⟩ rfl rfl (ao_ HT_) (fun _ _ _ h=>h) (Or.inr ⟨by rfl, rfl⟩) ?_ ?_; rotate_left
         ·simp only [q_, i64_w, i32_w]; rfl
         refine pure_ (i:=6) (N:=some 28) (v:=undef) (a':=?_) ⟨m_ 13 127⟩ rfl rfl (ao_ HT_) (fun _ _ _ h=>h) (Or.inr ⟨by rfl, rfl⟩) ?_ ?_; rotate_left
         ·simp only [q_, i64_w, i32_w]; rfl
         refine pure_ (i:=7) (N:=some 29) (v:=undef) (a':=?_) ⟨m_ 13 255⟩ rfl rfl (ao_ HT_) (fun _ _ _ h=>h) (Or.inr ⟨by rfl, rfl⟩) ?_ ?_; rotate_left
         ·simp only [q_, i64_w, i32_w]; rfl
         refine pure_ (i:=8) (N:=some 30) (v:=undef) (a':=?_) ⟨m_ 13 511⟩ rfl rfl (ao_ HT_) (fun _ _ _ h=>h) (Or.inr ⟨by rfl, rfl⟩) ?_ ?_; rotate_left
         ·simp only [q_, i64_w, i32_w]; rfl
         refine pure_ (i:=9) (N:=some 31) (v:=undef) (a':=?_) ⟨m_ 13 1023⟩ rfl rfl (ao_ HT_) (fun _ _ _ h=>h) (Or.inr ⟨by rfl, rfl⟩) ?_ ?_; rotate_left
         ·simp only [q_, i64_w, i32_w]; rfl
         refine pure_ (i:=10) (N:=some 32) (v:=undef) (a':=?_) ⟨m_ 13 2047⟩ rfl rfl (ao_ HT_) (fun _ _ _ h=>h) (Or.inr ⟨by rfl, rfl⟩) ?_ ?_; rotate_left
         ·simp only [q_, i64_w, i32_w]; rfl
         refine pure_ (i:=11) (N:=some 33) (v:=?_) (a':=?_) ⟨m_ 13 4095⟩ rfl rfl (ao_ HT_) (fun _ _ _ h=>h) (Or.inl ⟨rfl, ?_⟩) ?_ ?_; rotate_left
         ·intro w'; go_simp; with_reducible rfl
         rotate_left
         ·simp only [q_, i64_w, i32_w]; rfl
         refine pure_ (i:=12) (N:=some 21) (v:=?_) (a':=?_) ⟨m_ 13 8191⟩ rfl rfl (ao_ HT_) (fun _ _ _ h=>h) (Or.inl ⟨rfl, ?_⟩) ?_ ?_; rotate_left
         ·intro w'; go_simp; with_reducible rfl
         rotate_left
         ·simp only [q_, i64_w, i32_w]; rfl
         refine done_ (done_of HT_.out (by kernel_rfl)) ?_
         try go_wp2
         go_meet
         case rel => exact ⟨_, (true), sq_, H', ⟨by have := HK1.out; first | omega | exact Nat.le_refl _⟩, ⟨pkx B2⟩, ⟨pbx HB⟩⟩
       case rest =>
        clear HC10; (try clear c4); (try clear c4b0); (try clear c5); (try clear c5b0); (try clear c6); (try clear c6b0); (try clear c7); (try clear c7b0); (try clear hcz12_0); (try clear hcz12_1); (try clear hcz12_2); (try clear hcz12_3); (try clear hcz12_4); (try clear hcz12_5); (try clear hfz12_0); (try clear hfz12_1); (try clear hfz12_2); (try clear hfz12_3); (try clear hfz12_4); (try clear hfz12_5); (try clear hx101_0); (try clear hx101_1); (try clear hx101_2); (try clear hx101_3); (try clear hx101_4)
        (try clear hx101_5); (try clear p101); (try clear q101); obtain ⟨kq, x21_9, rfl, HA, HJ9, B2, HB⟩ := hcut
        cases kq with
        | zero => exact absurd HA.out (by simp [zone_Wrong.j1])
        | succ kj9 =>
         have H := HA.out; clear HA
         simp only [zone_Wrong.j1] at H
         by_cases c23 : x21_9 = true
         ·subst c23
          replace H := it_ H
          simp only [Option.some.injEq, Prod.mk.injEq] at H
          obtain ⟨rfl, rfl⟩ := H
          go_wp2
          go_ret2
          exact fi_ (pbx HB)
         ·replace c23 := Bool.eq_false_iff.mpr c23; subst c23
          replace H := ie_ H; have HC24 := A_ H; clear H
          go_upto_region 8 with (fail)
          go_cut [35] (fun v35 wc => ∃ (kq : Nat) (x35_23 : Bool), v35 = .bool x35_23 ∧ Aside0 (zone_Wrong.j2 kq a1 a2 x12_1 l0 (l0.length : Int) x12_1 x35_23 ((rd_T60 l0 x12_1).f0.f0.f0) ((rd_T60 l0 x12_1).f0.f0.f1) ((rd_T60 l0 x12_1).f0.f1.f0) ((rd_T60 l0 x12_1).f0.f1.f1) ((rd_T60 l0 x12_1).f1.f0) ((rd_T60 l0 x12_1).f1.f1) = some (r1, r2)) ∧ Aside0 (kq ≤ kj9) ∧ Aside0 (wc.heap[g2]? = some (.cells #[.int .i64 ((rd_T60 l0 x12_1).f0.f0.f0), .int .i64 ((rd_T60 l0 x12_1).f0.f0.f1), .int .i64 ((rd_T60 l0 x12_1).f0.f1.f0), .int .i64 ((rd_T60 l0 x12_1).f0.f1.f1), .int .i64 ((rd_T60 l0 x12_1).f1.f0), .int .u64 ((rd_T60 l0 x12_1).f1.f1)] 60 (0, 0))) ∧ Aside0 (Below w.heap.size w wc))
          case first =>
           have H := HC24.out; clear HC24
           by_cases c25 : ((rd_T60 l0 x12_1).f0.f1.f0) ≥ a1
           ·rw [if_pos c25] at H; have c25b0 := decide_eq_true c25; clear c25; (first | rw [c25b0] | (simp only [i64_w, i32_w]; rw [c25b0]) | skip)
            have H' := A_ H
            clear H
            have ⟨hcz26_0,hcz26_1,hcz26_2,hcz26_3,hcz26_4,hcz26_5,hfz26_0,hfz26_1,hfz26_2,hfz26_3,hfz26_4,hfz26_5⟩ := z6_ B2
            go_wp2
            go_meet
            case rel => exact ⟨_, (true), sq_, H', ⟨by have := HK1.out; have := HJ9.out; first | omega | exact Nat.le_refl _⟩, ⟨pkx B2⟩, ⟨pbx HB⟩⟩
           ·rw [if_neg c25] at H; have c25b0 := decide_eq_false c25; clear c25; (first | rw [c25b0] | (simp only [i64_w, i32_w]; rw [c25b0]) | skip)
            have H' := A_ H
            clear H
            have ⟨hcz27_0,hcz27_1,hcz27_2,hcz27_3,hcz27_4,hcz27_5,hfz27_0,hfz27_1,hfz27_2,hfz27_3,hfz27_4,hfz27_5⟩ := z6_ B2
            go_wp2
            go_meet
            case rel => exact ⟨_, (decide (((rd_T60 l0 x12_1).f0.f1.f1) ≥ a2)), sq_, H', ⟨by have := HK1.out; have := HJ9.out; first | omega | exact Nat.le_refl _⟩, ⟨pkx B2⟩, ⟨pbx HB⟩⟩
          case rest =>
           clear HC24; (try clear c4); (try clear c4b0); (try clear c5); (try clear c5b0); (try clear c6); (try clear c6b0); (try clear c7); (try clear c7b0); (try clear c23); (try clear hcz12_0); (try clear hcz12_1); (try clear hcz12_2); (try clear hcz12_3); (try clear hcz12_4); (try clear hcz12_5); (try clear hfz12_0)
           (try clear hfz12_1); (try clear hfz12_2); (try clear hfz12_3); (try clear hfz12_4); (try clear hfz12_5); (try clear hx101_0); (try clear hx101_1); (try clear hx101_2); (try clear hx101_3); (try clear hx101_4); (try clear hx101_5); (try clear p101); (try clear q101); obtain ⟨kq, x35_23, rfl, HA, HJ23, B2, HB⟩ := hcut
           cases kq with
           | zero => exact absurd HA.out (by simp [zone_Wrong.j2])
           | succ kj23 =>
            have H := HA.out; clear HA
            simp only [zone_Wrong.j2] at H
            by_cases c28 : x35_23 = true
            ·subst c28
             replace H := it_ H
             simp only [Option.some.injEq, Prod.mk.injEq] at H
             obtain ⟨rfl, rfl⟩ := H
             go_wp2
             go_ret2
             exact fi_ (pbx HB)
            ·replace c28 := Bool.eq_false_iff.mpr c28; subst c28
             obtain ⟨t108, A29, H⟩ := bo_ (ie_ H)
             by_cases c30 : t108 = true
             ·subst c30
              replace H := it_ H
              have H' := A_ H
              clear H
              have ⟨hcz31_0,hcz31_1,hcz31_2,hcz31_3,hcz31_4,hcz31_5,hfz31_0,hfz31_1,hfz31_2,hfz31_3,hfz31_4,hfz31_5⟩ := z6_ B2
              go_wp2_with (first | ((with_reducible refine gate_callee (f:=45) rfl ?_); refine gL_ (some 54) rfl rfl Tryz.func45 rfl #[.agg #[.int .i64 ((rd_T60 l0 x12_1).f1.f0), .int .u64 ((rd_T60 l0 x12_1).f1.f1)]] rfl ?_; (with_reducible refine (label_May.calls ((rd_T60 l0 x12_1).f1.f0) ((rd_T60 l0 x12_1).f1.f1) true _ A29.out).mono ?_); rintro e w32 ⟨rfl, hb⟩; refine ⟨_, rfl, ?_⟩; replace B2 := bb_ B2 hb; replace HB := bs_ HB hb; (try clear hb); ))
              go_roundg kj23
              case measure => have := HK1.out; have := HJ9.out; have := HJ23.out; omega
              case rel => exact ⟨(wrap64 (x12_1 + 1)), sq_, H', ⟨by have := HK1.out; have := HJ9.out; have := HJ23.out; omega⟩, ⟨pbx HB⟩⟩
             ·replace c30 := Bool.eq_false_iff.mpr c30; subst c30
              replace H := ie_ H
              simp only [Option.some.injEq, Prod.mk.injEq] at H
              obtain ⟨rfl, rfl⟩ := H
              have ⟨hcz33_0,hcz33_1,hcz33_2,hcz33_3,hcz33_4,hcz33_5,hfz33_0,hfz33_1,hfz33_2,hfz33_3,hfz33_4,hfz33_5⟩ := z6_ B2
              go_wp2_with (first | ((with_reducible refine gate_callee (f:=45) rfl ?_); refine gL_ (some 54) rfl rfl Tryz.func45 rfl #[.agg #[.int .i64 ((rd_T60 l0 x12_1).f1.f0), .int .u64 ((rd_T60 l0 x12_1).f1.f1)]] rfl ?_; (with_reducible refine (label_May.calls ((rd_T60 l0 x12_1).f1.f0) ((rd_T60 l0 x12_1).f1.f1) false _ A29.out).mono ?_); rintro e w34 ⟨rfl, hb⟩; refine ⟨_, rfl, ?_⟩; replace B2 := bb_ B2 hb; replace HB := bs_ HB hb; (try clear hb); ))
              go_ret2
              exact fi_ (pbx HB)
     ·rw [if_neg c6] at H
      exact absurd H (by simp)
    ·rw [if_neg c5] at H
     exact absurd H (by simp)
   ·rw [if_neg c4] at H; have c4b0 := decide_eq_false c4; clear c4
    simp only [Option.some.injEq, Prod.mk.injEq] at H
    obtain ⟨rfl, rfl⟩ := H
    go_wp2
    go_ret2
    exact fi_ (pbx HB)

end Go.Proofs.YtbboanfggaknjaaGreatDoor.X
namespace Go.Proofs.YtbboanfggaknjaaGreatDoor.X
open Go.RowKit Go.Proofs.YtbboanfggaknjaaGreatDoorW.PrintWords Go.Proofs.YtbboanfggaknjaaGreatDoorW.PrintLast Go.Proofs.YtbboanfggaknjaaGreatDoorW.PrintMore
attribute [local go_sem] max2_int min2_int max_two min_two max_three min_three max_four min_four
set_option linter.unusedVariables false
set_option linter.unusedSimpArgs false
def right_Find.l0 : Nat → ByteArray → List (S62) → Int → Int → Option (Int × Int × Bool)
 | 0, _, _, _, _ => none
 | k + 1, x1, x8, x9, x10 => if x10 < x9 then (if 0 ≤ x10 then (if x10 < (x8.length : Int) then (if ((rd_T62 x8 x10).f0).toList = x1.toList then (some ((rd_T62 x8 x10).f1.f0, (rd_T62 x8 x10).f1.f1, true)) else (right_Find.l0 k x1 x8 x9 (wrap64 (x10 + 1)))) else (none)) else (none)) else (some (0, 0, false))
def right_Find.f (k : Nat) (l0 : List (S62)) (a1 : ByteArray) : Option (Int × Int × Bool) := right_Find.l0 k a1 l0 (l0.length : Int) 0
theorem right_Find.calls (k : Nat) (A0 : Option Addr) (c0 : Nat) (l0 : List (S62)) (a1 : ByteArray) (r1 : Int) (r2 : Int) (r3 : Bool) (w : World) (hr0 : Kd.C k62 w A0 l0.length l0) (hc0 : l0.length ≤ c0) (h : right_Find.f k l0 a1 = some (r1, r2, r3)) :
  Calls Tryz.prog 55 #[.slice A0 l0.length c0, .string a1] w fun e w' => e = .returned (.tuple #[.agg #[.int .i64 r1, .int .u64 r2], .bool r3]) ∧ Below w.heap.size w w' := by
 have hu58 := Tryz.underlying58; have hu62 := Tryz.underlying62; have HR0 := A_ hr0; have HC0 := A_ hc0; clear hr0 hc0; have HB := A_ (Below.refl w.heap.size w)
 have H : (right_Find.l0 k a1 l0 (l0.length : Int) 0) = some (r1, r2, r3) := h
 clear h
 have H' := A_ H
 clear H
 go_enter Tryz.func55, Tryz.ntmps55
 go_wp2_with (first | ((with_reducible refine gd_ 4 ?_); refine be_ (N:=4) (cs := #[.int .i64 0, .int .u64 0]) (t:=58) ?_; intro g1 hg w3 hbox hb; have B1 := A_ (hbox); have GW101 := hs_ HB hg; have GE101 := hs_ HB hg; replace HB := bs_ HB hb; clear hb hbox hg))
 go_loopg [10] k (fun kq v10 w' => ∃ (x10_1 : Int) (x102000_1 : Int) (x102001_1 : Int), v10 = .int .i64 x10_1 ∧ Aside0 (right_Find.l0 kq a1 l0 (l0.length : Int) x10_1 = some (r1, r2, r3)) ∧ Aside0 (kq ≤ k) ∧ Aside0 (w'.heap[g1]? = some (.cells #[.int .i64 x102000_1, .int .u64 x102001_1] 58 (0, 0))) ∧ Aside0 (Below w.heap.size w w'))
 case atStart => exact ⟨(0), (0), (0), sq_, H', ⟨Nat.le_refl _⟩, ⟨pkx B1⟩, ⟨pbx HB⟩⟩
 case round =>
  clear H'; obtain ⟨x10_1, x102000_1, x102001_1, rfl, HA, HK1, B1, HB⟩ := hrel
  cases gk with
  | zero => exact absurd HA.out (by simp [right_Find.l0])
  | succ k1 =>
   have H := HA.out; clear HA
   simp only [right_Find.l0] at H
   by_cases c4 : x10_1 < (l0.length : Int)
   ·rw [if_pos c4] at H; have c4b0 := decide_eq_true c4; clear c4
    by_cases c5 : 0 ≤ x10_1
    ·rw [if_pos c5] at H; have c5b0 := decide_eq_true c5; clear c5
     by_cases c6 : x10_1 < (l0.length : Int)
     ·rw [if_pos c6] at H; have c6b0 := decide_eq_true c6; clear c6
      by_cases c7 : ((rd_T62 l0 x10_1).f0).toList = a1.toList
      ·rw [if_pos c7] at H; have ⟨c7b0,c7b1⟩ := e1_ c7; clear c7
       simp only [Option.some.injEq, Prod.mk.injEq] at H
       obtain ⟨rfl, rfl, rfl⟩ := H
       have p102 : 0 ≤ (x10_1 : Int) := of_decide_eq_true as_
       have q102 : x10_1 < (l0.length : Int) := of_decide_eq_true as_
       obtain ⟨ad102, e102, hx102_0, hx102_1, hx102_2⟩ := at_T62 HR0.out x10_1 p102 q102
       cases e102
       replace hx102_0 := (HB.out.cell (World.block_lt_of_cell? w _ hx102_0)).trans hx102_0; replace hx102_1 := (HB.out.cell (World.block_lt_of_cell? w _ hx102_1)).trans hx102_1; replace hx102_2 := (HB.out.cell (World.block_lt_of_cell? w _ hx102_2)).trans hx102_2; replace p102 := eq_true p102; replace q102 := eq_true q102
       go_wp2_with (first | ((with_reducible refine gd_ 7 ?_); refine be_ (N:=7) (cs := #[.string (⟨#[]⟩ : ByteArray), .int .i64 0, .int .u64 0]) (t:=62) ?_; intro g3 hg w8 hbox hb; have B3 := A_ (hbox); have GW103 := hs_ HB hg; have GE103 := hs_ HB hg; have N13 := hl_ B1 hg; have N31 := hr_ B1 hg; replace B1 := bb_ B1 hb; replace HB := bs_ HB hb; clear hb hbox hg; have hnb9 := N31.out; have hnc9 := N13.out; have ⟨hcz10_0,hcz10_1,hcz10_2,hfz10_0,hfz10_1,hfz10_2⟩ := z3_ B3; have ⟨hcz11_0,hcz11_1,hfz11_0,hfz11_1⟩ := z2_ B1))
       refine bodyPost_ret (results_ct rfl _ _ g1 58 #[.int .i64 ((rd_T62 l0 x10_1).f1.f0), .int .u64 ((rd_T62 l0 x10_1).f1.f1)] (0, 0) _ rfl (by refine pp_ (cs := #[.int .i64 ((rd_T62 l0 x10_1).f1.f0), .int .u64 x102001_1]) 1 ?_ rfl; refine blk_put (cs := #[.int .i64 x102000_1, .int .u64 x102001_1]) ?_ 0 _ rfl; (iterate 3 refine pf_ ?_ N13.out); exact pkx B1) Tryz.underlying58 rfl (by kernel_rfl)) rfl ?_
       exact fi_ bl_
      ·rw [if_neg c7] at H; have ⟨c7b0,c7b1⟩ := e0_ c7
       have H' := A_ H
       clear H
       have p102 : 0 ≤ (x10_1 : Int) := of_decide_eq_true as_
       have q102 : x10_1 < (l0.length : Int) := of_decide_eq_true as_
       obtain ⟨ad102, e102, hx102_0, hx102_1, hx102_2⟩ := at_T62 HR0.out x10_1 p102 q102
       cases e102
       replace hx102_0 := (HB.out.cell (World.block_lt_of_cell? w _ hx102_0)).trans hx102_0; replace hx102_1 := (HB.out.cell (World.block_lt_of_cell? w _ hx102_1)).trans hx102_1; replace hx102_2 := (HB.out.cell (World.block_lt_of_cell? w _ hx102_2)).trans hx102_2; replace p102 := eq_true p102; replace q102 := eq_true q102
       go_wp2_with (first | ((with_reducible refine gd_ 7 ?_); refine be_ (N:=7) (cs := #[.string (⟨#[]⟩ : ByteArray), .int .i64 0, .int .u64 0]) (t:=62) ?_; intro g3 hg w12 hbox hb; have B3 := A_ (hbox); have GW103 := hs_ HB hg; have GE103 := hs_ HB hg; have N13 := hl_ B1 hg; have N31 := hr_ B1 hg; replace B1 := bb_ B1 hb; replace HB := bs_ HB hb; clear hb hbox hg; have hnb13 := N31.out; have hnc13 := N13.out; have ⟨hcz14_0,hcz14_1,hcz14_2,hfz14_0,hfz14_1,hfz14_2⟩ := z3_ B3))
       go_roundg k1
       case measure => have := HK1.out; omega
       case rel => exact ⟨(wrap64 (x10_1 + 1)), (x102000_1), (x102001_1), sq_, H', ⟨by have := HK1.out; omega⟩, ⟨by (iterate 3 refine pf_ ?_ N13.out); exact pkx B1⟩, ⟨bl_⟩⟩
     ·rw [if_neg c6] at H
      exact absurd H (by simp)
    ·rw [if_neg c5] at H
     exact absurd H (by simp)
   ·rw [if_neg c4] at H; have c4b0 := decide_eq_false c4; clear c4
    simp only [Option.some.injEq, Prod.mk.injEq] at H
    obtain ⟨rfl, rfl, rfl⟩ := H
    have ⟨hcz15_0,hcz15_1,hfz15_0,hfz15_1⟩ := z2_ B1
    go_wp2
    refine bodyPost_ret (results_ct rfl _ _ g1 58 #[.int .i64 0, .int .u64 0] (0, 0) _ rfl (by refine pp_ (cs := #[.int .i64 0, .int .u64 x102001_1]) 1 ?_ rfl; refine blk_put (cs := #[.int .i64 x102000_1, .int .u64 x102001_1]) ?_ 0 _ rfl; exact pkx B1) Tryz.underlying58 rfl (by kernel_rfl)) rfl ?_
    exact fi_ bl_

mutual
def right_Name.j0 : Nat → ByteArray → Bool → Option (Bool)
 | 0, _, _ => none
 | k + 1, x0, x16 => if x16 = true then (some false) else (right_Name.l0 k x0 (x0.size : Int) 0)
def right_Name.l0 : Nat → ByteArray → Int → Int → Option (Bool)
 | 0, _, _, _ => none
 | k + 1, x0, x18, x19 => if x19 < x18 then (if 0 ≤ x19 then (if x19 < (x0.size : Int) then (if (bt x0 x19) < 97 then (if (bt x0 x19) < 48 then (some false) else (if (bt x0 x19) > 57 then (some false) else (right_Name.l0 k x0 x18 (wrap64 (x19 + 1))))) else (if (bt x0 x19) > 122 then (if (bt x0 x19) < 48 then (some false) else (if (bt x0 x19) > 57 then (some false) else (right_Name.l0 k x0 x18 (wrap64 (x19 + 1))))) else (right_Name.l0 k x0 x18 (wrap64 (x19 + 1))))) else (none)) else (none)) else (some true)
end
def right_Name.f (k : Nat) (a0 : ByteArray) : Option (Bool) := if (a0.size : Int) < 1 then (right_Name.j0 k a0 true) else (if (a0.size : Int) > 16 then (right_Name.j0 k a0 true) else (if 0 < (a0.size : Int) then (right_Name.j0 k a0 (decide ((bt a0 0) < 97))) else (none)))
theorem right_Name.calls (k : Nat) (a0 : ByteArray) (r : Bool) (w : World) (h : right_Name.f k a0 = some r) :
  Calls Tryz.prog 56 #[.string a0] w fun e w' => e = .returned (.bool r) ∧ Drawn0 w w' := by
 have H : (if (a0.size : Int) < 1 then (right_Name.j0 k a0 true) else (if (a0.size : Int) > 16 then (right_Name.j0 k a0 true) else (if 0 < (a0.size : Int) then (right_Name.j0 k a0 (decide ((bt a0 0) < 97))) else (none)))) = some r := h
 clear h; have HC2 := A_ H; clear H
 go_enter Tryz.func56, Tryz.ntmps56
 go_upto_region 1 with (fail)
 go_cut [16] (fun v16 wc => ∃ (kq : Nat) (x16_1 : Bool), v16 = .bool x16_1 ∧ Aside0 (right_Name.j0 kq a0 x16_1 = some r) ∧ Aside0 (kq ≤ k) ∧ Drawn0 w wc)
 case first =>
  have H := HC2.out; clear HC2
  by_cases c3 : (a0.size : Int) < 1
  ·rw [if_pos c3] at H; have c3b0 := decide_eq_true c3; have c3b1 : decide (a0.size < 1) = true := decide_eq_true (by omega); clear c3; (first | rw [c3b0] | (simp only [i64_w, i32_w]; rw [c3b0]) | skip)
   have H' := A_ H
   clear H
   go_wp2
   go_meet
   case rel => exact ⟨_, (true), sq_, H', le_, dr_⟩
  ·rw [if_neg c3] at H; have c3b0 := decide_eq_false c3; have c3b1 : decide (a0.size < 1) = false := decide_eq_false (by omega); clear c3; (first | rw [c3b0] | (simp only [i64_w, i32_w]; rw [c3b0]) | skip)
   by_cases c4 : (a0.size : Int) > 16
   ·rw [if_pos c4] at H; have c4b0 := decide_eq_true c4; have c4b1 : decide (16 < a0.size) = true := decide_eq_true (by omega); clear c4
    have H' := A_ H
    clear H
    go_wp2
    go_meet
    case rel => exact ⟨_, (true), sq_, H', le_, dr_⟩
   ·rw [if_neg c4] at H; have c4b0 := decide_eq_false c4; have c4b1 : decide (16 < a0.size) = false := decide_eq_false (by omega); clear c4
    by_cases c5 : 0 < (a0.size : Int)
    ·rw [if_pos c5] at H; have c5b0 := decide_eq_true c5; have c5b1 : decide (0 < a0.size) = true := decide_eq_true (by omega); clear c5
     have H' := A_ H
     clear H
     have p6 : 0 ≤ (0 : Int) := (by omega)
     have q6 : 0 < a0.size := (by have : (0 : Int) < (a0.size : Int) := of_decide_eq_true as_; omega)
     have hx6 : ∀ h : 0 < a0.size, ((a0[0]'h).toNat : Int) = bt a0 0 := bt_at a0 0
     clear p6; have qi6 : (0 < (a0.size : Int)) = True := eq_true (of_decide_eq_true as_); replace q6 := eq_true q6
     go_wp2
     go_meet
     case rel => exact ⟨_, (decide ((bt a0 0) < 97)), sq_, H', le_, dr_⟩
    ·rw [if_neg c5] at H
     exact absurd H (by simp)
 case rest =>
  clear HC2; obtain ⟨kq, x16_1, rfl, HA, HJ1, ⟨mc1, rfl⟩⟩ := hcut
  cases kq with
  | zero => exact absurd HA.out (by simp [right_Name.j0])
  | succ kj1 =>
   have H := HA.out; clear HA
   simp only [right_Name.j0] at H
   by_cases c7 : x16_1 = true
   ·subst c7
    replace H := it_ H; obtain rfl := Option.some.inj H
    go_wp2
    go_ret
    exact ⟨by first | rfl | (simp; done) | (simp [*]; done), dr_⟩
   ·replace c7 := Bool.eq_false_iff.mpr c7; subst c7
    replace H := ie_ H
    have H' := A_ H
    clear H
    go_wp2
    go_loopg [19] kj1 (fun kq v19 w' => ∃ (x19_2 : Int), v19 = .int .i64 x19_2 ∧ Aside0 (right_Name.l0 kq a0 (a0.size : Int) x19_2 = some r) ∧ Aside0 (kq ≤ kj1) ∧ Drawn0 w w')
    case atStart => exact ⟨(0), sq_, H', ⟨Nat.le_refl _⟩, dr_⟩
    case round =>
     clear H'; (try clear c7); obtain ⟨x19_2, rfl, HA, HK2, ⟨m2, rfl⟩⟩ := hrel
     cases gk with
     | zero => exact absurd HA.out (by simp [right_Name.l0])
     | succ k2 =>
      have H := HA.out; clear HA
      simp only [right_Name.l0] at H
      by_cases c8 : x19_2 < (a0.size : Int)
      ·rw [if_pos c8] at H; have c8b0 := decide_eq_true c8; clear c8
       by_cases c9 : 0 ≤ x19_2
       ·rw [if_pos c9] at H; have c9b0 := decide_eq_true c9; clear c9
        by_cases c10 : x19_2 < (a0.size : Int)
        ·rw [if_pos c10] at H; have c10b0 := decide_eq_true c10; clear c10
         by_cases c12 : (bt a0 x19_2) < 97
         ·rw [if_pos c12] at H; have c12b0 := decide_eq_true c12; clear c12
          by_cases c14 : (bt a0 x19_2) < 48
          ·rw [if_pos c14] at H; have c14b0 := decide_eq_true c14; clear c14; obtain rfl := Option.some.inj H
           have p11 : 0 ≤ (x19_2 : Int) := of_decide_eq_true as_
           have q11 : x19_2 < (a0.size : Int) := of_decide_eq_true as_
           have hx11 := bt_at a0 x19_2; replace p11 := eq_true p11; replace q11 := eq_true q11
           have p13 : 0 ≤ (x19_2 : Int) := of_decide_eq_true as_
           have q13 : x19_2 < (a0.size : Int) := of_decide_eq_true as_
           have hx13 := bt_at a0 x19_2; replace p13 := eq_true p13; replace q13 := eq_true q13
           go_wp2
           go_ret
           exact ⟨by first | rfl | (simp; done) | (simp [*]; done), dr_⟩
          ·rw [if_neg c14] at H; have c14b0 := decide_eq_false c14; clear c14
           by_cases c16 : (bt a0 x19_2) > 57
           ·rw [if_pos c16] at H; have c16b0 := decide_eq_true c16; clear c16; obtain rfl := Option.some.inj H
            have p11 : 0 ≤ (x19_2 : Int) := of_decide_eq_true as_
            have q11 : x19_2 < (a0.size : Int) := of_decide_eq_true as_
            have hx11 := bt_at a0 x19_2; replace p11 := eq_true p11; replace q11 := eq_true q11
            have p13 : 0 ≤ (x19_2 : Int) := of_decide_eq_true as_
            have q13 : x19_2 < (a0.size : Int) := of_decide_eq_true as_
            have hx13 := bt_at a0 x19_2; replace p13 := eq_true p13; replace q13 := eq_true q13
            have p15 : 0 ≤ (x19_2 : Int) := of_decide_eq_true as_
            have q15 : x19_2 < (a0.size : Int) := of_decide_eq_true as_
            have hx15 := bt_at a0 x19_2; replace p15 := eq_true p15; replace q15 := eq_true q15
            go_wp2
            go_ret
            exact ⟨by first | rfl | (simp; done) | (simp [*]; done), dr_⟩
           ·rw [if_neg c16] at H; have c16b0 := decide_eq_false c16; clear c16
            have H' := A_ H
            clear H
            have p11 : 0 ≤ (x19_2 : Int) := of_decide_eq_true as_
            have q11 : x19_2 < (a0.size : Int) := of_decide_eq_true as_
            have hx11 := bt_at a0 x19_2; replace p11 := eq_true p11; replace q11 := eq_true q11
            have p13 : 0 ≤ (x19_2 : Int) := of_decide_eq_true as_
            have q13 : x19_2 < (a0.size : Int) := of_decide_eq_true as_
            have hx13 := bt_at a0 x19_2; replace p13 := eq_true p13; replace q13 := eq_true q13
            have p15 : 0 ≤ (x19_2 : Int) := of_decide_eq_true as_
            have q15 : x19_2 < (a0.size : Int) := of_decide_eq_true as_
            have hx15 := bt_at a0 x19_2; replace p15 := eq_true p15; replace q15 := eq_true q15
            go_wp2
            go_roundg k2
            case measure => have := HJ1.out; have := HK2.out; omega
            case rel => exact ⟨(wrap64 (x19_2 + 1)), sq_, H', ⟨by have := HJ1.out; have := HK2.out; omega⟩, dr_⟩
         ·rw [if_neg c12] at H; have c12b0 := decide_eq_false c12; clear c12
          by_cases c18 : (bt a0 x19_2) > 122
          ·rw [if_pos c18] at H; have c18b0 := decide_eq_true c18; clear c18
           by_cases c20 : (bt a0 x19_2) < 48
           ·rw [if_pos c20] at H; have c20b0 := decide_eq_true c20; clear c20; obtain rfl := Option.some.inj H
            have p11 : 0 ≤ (x19_2 : Int) := of_decide_eq_true as_
            have q11 : x19_2 < (a0.size : Int) := of_decide_eq_true as_
            have hx11 := bt_at a0 x19_2; replace p11 := eq_true p11; replace q11 := eq_true q11
            have p17 : 0 ≤ (x19_2 : Int) := of_decide_eq_true as_
            have q17 : x19_2 < (a0.size : Int) := of_decide_eq_true as_
            have hx17 := bt_at a0 x19_2; replace p17 := eq_true p17; replace q17 := eq_true q17
            have p19 : 0 ≤ (x19_2 : Int) := of_decide_eq_true as_
            have q19 : x19_2 < (a0.size : Int) := of_decide_eq_true as_
            have hx19 := bt_at a0 x19_2; replace p19 := eq_true p19; replace q19 := eq_true q19
            go_wp2
            go_ret
            exact ⟨by first | rfl | (simp; done) | (simp [*]; done), dr_⟩
           ·rw [if_neg c20] at H; have c20b0 := decide_eq_false c20; clear c20
            by_cases c22 : (bt a0 x19_2) > 57
            ·rw [if_pos c22] at H; have c22b0 := decide_eq_true c22; clear c22; obtain rfl := Option.some.inj H
             have p11 : 0 ≤ (x19_2 : Int) := of_decide_eq_true as_
             have q11 : x19_2 < (a0.size : Int) := of_decide_eq_true as_
             have hx11 := bt_at a0 x19_2; replace p11 := eq_true p11; replace q11 := eq_true q11
             have p17 : 0 ≤ (x19_2 : Int) := of_decide_eq_true as_
             have q17 : x19_2 < (a0.size : Int) := of_decide_eq_true as_
             have hx17 := bt_at a0 x19_2; replace p17 := eq_true p17; replace q17 := eq_true q17
             have p19 : 0 ≤ (x19_2 : Int) := of_decide_eq_true as_
             have q19 : x19_2 < (a0.size : Int) := of_decide_eq_true as_
             have hx19 := bt_at a0 x19_2; replace p19 := eq_true p19; replace q19 := eq_true q19
             have p21 : 0 ≤ (x19_2 : Int) := of_decide_eq_true as_
             have q21 : x19_2 < (a0.size : Int) := of_decide_eq_true as_
             have hx21 := bt_at a0 x19_2; replace p21 := eq_true p21; replace q21 := eq_true q21
             go_wp2
             go_ret
             exact ⟨by first | rfl | (simp; done) | (simp [*]; done), dr_⟩
            ·rw [if_neg c22] at H; have c22b0 := decide_eq_false c22; clear c22
             have H' := A_ H
             clear H
             have p11 : 0 ≤ (x19_2 : Int) := of_decide_eq_true as_
             have q11 : x19_2 < (a0.size : Int) := of_decide_eq_true as_
             have hx11 := bt_at a0 x19_2; replace p11 := eq_true p11; replace q11 := eq_true q11
             have p17 : 0 ≤ (x19_2 : Int) := of_decide_eq_true as_
             have q17 : x19_2 < (a0.size : Int) := of_decide_eq_true as_
             have hx17 := bt_at a0 x19_2; replace p17 := eq_true p17; replace q17 := eq_true q17
             have p19 : 0 ≤ (x19_2 : Int) := of_decide_eq_true as_
             have q19 : x19_2 < (a0.size : Int) := of_decide_eq_true as_
             have hx19 := bt_at a0 x19_2; replace p19 := eq_true p19; replace q19 := eq_true q19
             have p21 : 0 ≤ (x19_2 : Int) := of_decide_eq_true as_
             have q21 : x19_2 < (a0.size : Int) := of_decide_eq_true as_
             have hx21 := bt_at a0 x19_2; replace p21 := eq_true p21; replace q21 := eq_true q21
             go_wp2
             go_roundg k2
             case measure => have := HJ1.out; have := HK2.out; omega
             case rel => exact ⟨(wrap64 (x19_2 + 1)), sq_, H', ⟨by have := HJ1.out; have := HK2.out; omega⟩, dr_⟩
          ·rw [if_neg c18] at H; have c18b0 := decide_eq_false c18; clear c18
           have H' := A_ H
           clear H
           have p11 : 0 ≤ (x19_2 : Int) := of_decide_eq_true as_
           have q11 : x19_2 < (a0.size : Int) := of_decide_eq_true as_
           have hx11 := bt_at a0 x19_2; replace p11 := eq_true p11; replace q11 := eq_true q11
           have p17 : 0 ≤ (x19_2 : Int) := of_decide_eq_true as_
           have q17 : x19_2 < (a0.size : Int) := of_decide_eq_true as_
           have hx17 := bt_at a0 x19_2; replace p17 := eq_true p17; replace q17 := eq_true q17
           go_wp2
           go_roundg k2
           case measure => have := HJ1.out; have := HK2.out; omega
           case rel => exact ⟨(wrap64 (x19_2 + 1)), sq_, H', ⟨by have := HJ1.out; have := HK2.out; omega⟩, dr_⟩
        ·rw [if_neg c10] at H
         exact absurd H (by simp)
       ·rw [if_neg c9] at H
        exact absurd H (by simp)
      ·rw [if_neg c8] at H; have c8b0 := decide_eq_false c8; clear c8; obtain rfl := Option.some.inj H
       go_wp2
       go_ret
       exact ⟨by first | rfl | (simp; done) | (simp [*]; done), dr_⟩

mutual
def right_Users.l0 : Nat → List (S62) → List (S62) → Int → Int → Option (Int × Int)
 | 0, _, _, _, _ => none
 | k + 1, x0, x8, x9, x10 => if x10 < x9 then (if 0 ≤ x10 then (if x10 < (x8.length : Int) then (if x10 ≤ (x0.length : Int) then ((right_Find.f k (x0.take (x10 : Int).toNat) ((rd_T62 x8 x10).f0)).bind fun bt107 => (right_Users.j1 k x0 x10 bt107.2.2 x8 x9 x10 ((rd_T62 x8 x10).f0) ((rd_T62 x8 x10).f1.f0) ((rd_T62 x8 x10).f1.f1))) else (none)) else (none)) else (none)) else (some (0, 0))
def right_Users.j1 : Nat → List (S62) → Int → Bool → List (S62) → Int → Int → ByteArray → Int → Int → Option (Int × Int)
 | 0, _, _, _, _, _, _, _, _, _ => none
 | k + 1, x0, x4, x7, x8, x9, x10, x103000, x103001, x103002 => if x4 ≥ 16 then (some (x4, 10)) else ((right_Name.f k x103000).bind fun t111 => (if t111 = true then (if x7 = true then (some (x4, 8)) else ((label_May.f x103001 x103002).bind fun t112 => (if t112 = true then (right_Users.l0 k x0 x8 x9 (wrap64 (x10 + 1))) else (some (x4, 7))))) else (some (x4, 1))))
end
def right_Users.f (k : Nat) (l0 : List (S62)) : Option (Int × Int) := right_Users.l0 k l0 l0 (l0.length : Int) 0
def right_Users.T4 : Bool × List (List Nat × List Nat) := (true, [([], []), ([], []), ([0, 1], [0, 1]), ([], []), ([3], [3]), ([2, 4], [2, 4]), ([5], [5]), ([6], [6]), ([6], [6]), ([], []), ([9, 7, 5, 0, 1, 2, 3, 4, 5, 6, 7, 9], [7, 9]), ([8, 10, 0, 1, 2, 3, 4, 5, 6, 7, 8, 9, 10], [8])])
def right_Users.B4 : List Nat := [0, 0, 3, 0, 8, 31, 63, 127, 127, 0, 767, 2047]
theorem right_Users.tab4 : rtab .any (opsOf Tryz.f31 4) = right_Users.T4 := by kernel_rfl
theorem right_Users.bits4 : waitsOk right_Users.T4.2 right_Users.B4 = true := by kernel_rfl
theorem right_Users.calls (k : Nat) (A0 : Option Addr) (c0 : Nat) (l0 : List (S62)) (r1 : Int) (r2 : Int) (w : World) (hr0 : Kd.C k62 w A0 l0.length l0) (hc0 : l0.length ≤ c0) (h : right_Users.f k l0 = some (r1, r2)) :
  Calls Tryz.prog 31 #[.slice A0 l0.length c0] w fun e w' => e = .returned (.tuple #[.int .i64 r1, .int .i64 r2]) ∧ Below w.heap.size w w' := by
 have hu62 := Tryz.underlying62; have hu58 := Tryz.underlying58; have HR0 := A_ hr0; have HC0 := A_ hc0; clear hr0 hc0; have HB := A_ (Below.refl w.heap.size w)
 have H : (right_Users.l0 k l0 l0 (l0.length : Int) 0) = some (r1, r2) := h
 clear h
 have H' := A_ H
 clear H
 go_enter Tryz.func31, Tryz.ntmps31
 go_wp2
 go_loopg [10] k (fun kq v10 w' => ∃ (x10_1 : Int), v10 = .int .i64 x10_1 ∧ Aside0 (right_Users.l0 kq l0 l0 (l0.length : Int) x10_1 = some (r1, r2)) ∧ Aside0 (kq ≤ k) ∧ Aside0 (Below w.heap.size w w'))
 case atStart => exact ⟨(0), sq_, H', ⟨Nat.le_refl _⟩, ⟨pbx HB⟩⟩
 case round =>
  clear H'; obtain ⟨x10_1, rfl, HA, HK1, HB⟩ := hrel
  cases gk with
  | zero => exact absurd HA.out (by simp [right_Users.l0])
  | succ k1 =>
   have H := HA.out; clear HA
   simp only [right_Users.l0] at H
   by_cases c2 : x10_1 < (l0.length : Int)
   ·rw [if_pos c2] at H; have c2b0 := decide_eq_true c2; clear c2
    by_cases c3 : 0 ≤ x10_1
    ·rw [if_pos c3] at H; have c3b0 := decide_eq_true c3; clear c3
     by_cases c4 : x10_1 < (l0.length : Int)
     ·rw [if_pos c4] at H; have c4b0 := decide_eq_true c4; clear c4; have HC5 := A_ H; clear H
      have p101 : 0 ≤ (x10_1 : Int) := of_decide_eq_true as_
      have q101 : x10_1 < (l0.length : Int) := of_decide_eq_true as_
      obtain ⟨ad101, e101, hx101_0, hx101_1, hx101_2⟩ := at_T62 HR0.out x10_1 p101 q101
      cases e101
      replace hx101_0 := (HB.out.cell (World.block_lt_of_cell? w _ hx101_0)).trans hx101_0; replace hx101_1 := (HB.out.cell (World.block_lt_of_cell? w _ hx101_1)).trans hx101_1; replace hx101_2 := (HB.out.cell (World.block_lt_of_cell? w _ hx101_2)).trans hx101_2; replace p101 := eq_true p101; replace q101 := eq_true q101
      go_upto_region 4 with (first | ((with_reducible refine gd_ 5 ?_); refine be_ (N:=5) (cs := #[.string (⟨#[]⟩ : ByteArray), .int .i64 0, .int .u64 0]) (t:=62) ?_; intro g2 hg w6 hbox hb; have B2 := A_ (hbox); have GW102 := hs_ HB hg; have GE102 := hs_ HB hg; replace HB := bs_ HB hb; clear hb hbox hg; have ⟨hcz7_0,hcz7_1,hcz7_2,hfz7_0,hfz7_1,hfz7_2⟩ := z3_ B2))
      (try simp only [q_])
      go_cut [7] (fun v7 wc => ∃ (kq : Nat) (x7_4 : Bool), v7 = .bool x7_4 ∧ Aside0 (right_Users.j1 kq l0 x10_1 x7_4 l0 (l0.length : Int) x10_1 ((rd_T62 l0 x10_1).f0) ((rd_T62 l0 x10_1).f1.f0) ((rd_T62 l0 x10_1).f1.f1) = some (r1, r2)) ∧ Aside0 (kq ≤ k1) ∧ Aside0 (wc.heap[g2]? = some (.cells #[.string ((rd_T62 l0 x10_1).f0), .int .i64 ((rd_T62 l0 x10_1).f1.f0), .int .u64 ((rd_T62 l0 x10_1).f1.f1)] 62 (0, 0))) ∧ Aside0 (Below w.heap.size w wc))
      case first =>
       have H := HC5.out; clear HC5; have c8b0 := eq_true (of_decide_eq_true as_ : 0 ≤ x10_1)
       by_cases c9 : x10_1 ≤ (l0.length : Int)
       ·rw [if_pos c9] at H; have c9b0 := eq_true c9; have c9b1 := decide_eq_true c9; clear c9; obtain ⟨y103, hy103⟩ : ∃ y_ : List (S62), y_ = (l0.take (x10_1 : Int).toNat) := ⟨_, rfl⟩
        replace H : ((right_Find.f k1 y103 ((rd_T62 l0 x10_1).f0)).bind fun bt107 => (right_Users.j1 k1 l0 x10_1 bt107.2.2 l0 (l0.length : Int) x10_1 ((rd_T62 l0 x10_1).f0) ((rd_T62 l0 x10_1).f1.f0) ((rd_T62 l0 x10_1).f1.f1))) = some (r1, r2) := by first | (rw [hy103]; with_reducible exact H) | (have H2_ := (Option.bind_some _ _).symm.trans H; rw [hy103]; with_reducible exact H2_) | (have H2_ := (Option.bind_some _ _).symm.trans H; with_reducible exact H2_) | with_reducible exact H | (rw [hy103]; exact H) | exact H
        have Ny103 := A_ hy103; clear hy103; obtain ⟨⟨t107, t108, t109⟩, A10, H⟩ := bo_ H; dsimp only at H
        have H' := A_ H
        clear H
        try go_wp2
        have n0_ : Aside0 ((((w6.setCell ⟨g2, 0, none⟩ (.string ((rd_T62 l0 x10_1).f0))).setCell ⟨g2, 1, none⟩ (.int .i64 ((rd_T62 l0 x10_1).f1.f0))).setCell ⟨g2, 2, none⟩ (.int .u64 ((rd_T62 l0 x10_1).f1.f1))).heap[g2]? = some (.cells #[.string ((rd_T62 l0 x10_1).f0), .int .i64 ((rd_T62 l0 x10_1).f1.f0), .int .u64 ((rd_T62 l0 x10_1).f1.f1)] 62 (0, 0))) := ⟨by refine pp_ (cs := #[.string ((rd_T62 l0 x10_1).f0), .int .i64 ((rd_T62 l0 x10_1).f1.f0), .int .u64 0]) 2 ?_ rfl; refine blk_put (cs := #[.string ((rd_T62 l0 x10_1).f0), .int .i64 0, .int .u64 0]) ?_ 1 _ rfl; refine blk_put (cs := #[.string (⟨#[]⟩ : ByteArray), .int .i64 0, .int .u64 0]) ?_ 0 _ rfl; exact pkx B2⟩; have n1_ : Aside0 (Below w.heap.size w (((w6.setCell ⟨g2, 0, none⟩ (.string ((rd_T62 l0 x10_1).f0))).setCell ⟨g2, 1, none⟩ (.int .i64 ((rd_T62 l0 x10_1).f1.f0))).setCell ⟨g2, 2, none⟩ (.int .u64 ((rd_T62 l0 x10_1).f1.f1)))) := ⟨bl_⟩
        (try clear B2); (try clear HB)
        generalize (((w6.setCell ⟨g2, 0, none⟩ (.string ((rd_T62 l0 x10_1).f0))).setCell ⟨g2, 1, none⟩ (.int .i64 ((rd_T62 l0 x10_1).f1.f0))).setCell ⟨g2, 2, none⟩ (.int .u64 ((rd_T62 l0 x10_1).f1.f1))) = w11 at n0_ n1_ ⊢; have B2 := n0_; have HB := n1_; clear n0_ n1_; (try (rw [drewN_self w11]; generalize hq_ : World.drewN w11 _ = w11; have n0_ : Aside0 (w11.heap[g2]? = some (.cells #[.string ((rd_T62 l0 x10_1).f0), .int .i64 ((rd_T62 l0 x10_1).f1.f0), .int .u64 ((rd_T62 l0 x10_1).f1.f1)] 62 (0, 0))) := ⟨by rw [← hq_]; exact (pkx B2)⟩; have n1_ : Aside0 (Below w.heap.size w w11) := ⟨by rw [← hq_]; exact (pbx HB)⟩; clear B2 HB hq_; have B2 := n0_; have HB := n1_; clear n0_ n1_))
        replace B2 := A_ (blk_drew B2.out); replace HB := A_ (below_drew1 HB.out)
        have q13 : (x10_1 : Int) ≤ ((l0.length : Int) : Int) := of_decide_eq_true as_
        obtain ⟨i013, hi013, _, hsz13, _⟩ := info_parts info62
        have hroom13 : l0.length ≤ c0 := HC0.out
        have hC13 : Kd.C k62 _ (some ad101) l0.length l0 := HR0.out
        have hcut13 := cut_to (P := Tryz.prog) 24 62 .i64 Tryz.underlying24 hi013 (some ad101) l0.length c0 x10_1 (of_decide_eq_true as_) q13 hroom13; have hr13 := Kd.C_take (m := (x10_1 : Int).toNat) hC13 (by omega)
        have hy13 : y103.length = (x10_1 : Int).toNat := (by rw [Ny103.out, List.length_take]; omega)
        rw [← Ny103.out] at hr13; rw [← hy13] at hcut13; have HR106 := A_ hr13; have HC106 := A_ (show y103.length ≤ c0 from by omega); clear hr13 hC13 hroom13 hi013 hsz13; have KY13 := A_ hy13; clear hy13; replace q13 := eq_true q13
        refine start_ (n:=12) (S := fun w' => w'.cell? ⟨g2, 0, none⟩ = some (.string ((rd_T62 l0 x10_1).f0)) ∧ w'.cell? ⟨g2, 1, none⟩ = some (.int .i64 ((rd_T62 l0 x10_1).f1.f0)) ∧ w'.cell? ⟨g2, 2, none⟩ = some (.int .u64 ((rd_T62 l0 x10_1).f1.f1))) (ds := []) #[F,F,F,F,F,F,F,F,F,F,F,F] (by kernel_rfl) rfl rfl ⟨bc_ B2 0 rfl, bc_ B2 1 rfl, bc_ B2 2 rfl⟩ (fun hHeld => ?_); refine with_tabW right_Users.tab4 right_Users.bits4 (fun HT_ HW_ => ?_)
        generalize w11.drew = w12 at B2 HB HR106 hHeld ⊢; refine pure_ (i:=0) (N:=some 16) (v:=?_) (a':=?_) ⟨m_ 12 1⟩ rfl rfl (ao_ HT_) (fun _ _ _ h=>h) (Or.inl ⟨rfl, ?_⟩) ?_ ?_; rotate_left
        ·intro w'; go_simp; with_reducible rfl
        rotate_left
        ·simp only [q_, i64_w, i32_w]; rfl
        refine pure_ (i:=1) (N:=some 17) (v:=?_) (a':=?_) ⟨m_ 12 3⟩ rfl rfl (ao_ HT_) (fun _ _ _ h=>h) (Or.inl ⟨rfl, ?_⟩) ?_ ?_; rotate_left
        ·intro w'; go_simp; with_reducible rfl
        rotate_left
        ·simp only [q_, i64_w, i32_w]; rfl
        refine pure_ (i:=2) (N:=some 18) (v:=?_) (a':=?_) ⟨m_ 12 7⟩ rfl rfl (ao_ HT_) (fun _ _ _ h=>h) (Or.inl ⟨rfl, ?_⟩) ?_ ?_; rotate_left
        ·intro w'; go_simp; with_reducible rfl
        rotate_left
        ·simp only [q_, i64_w, i32_w]; rfl
        refine pure_ (i:=3) (N:=some 19) (v:=?_) (a':=?_) ⟨m_ 12 15⟩ rfl rfl (ao_ HT_) (fun _ _ _ h=>h) (Or.inl ⟨rfl, ?_⟩) ?_ ?_; rotate_left
        ·intro w'; go_simp; with_reducible rfl
        rotate_left
        ·simp only [q_, i64_w, i32_w]; rfl
        refine take_ (i:=4) (N:=some 20) (v:=?_) (a':=?_) ⟨m_ 12 31⟩ rfl rfl (tw_ HT_ HW_) (fun _ _ _ h=>h) (Or.inl ⟨rfl, ?_⟩) hHeld ?_ ?_; rotate_left
        ·rintro w' ⟨s0, s1, s2⟩; go_simp; with_reducible rfl
        rotate_left
        ·simp only [q_, i64_w, i32_w]; rfl
        refine join_ (σ:=Nat) 2 #[T,T,T,T,T,T,T,T,T,T,F,F] (fun s_ => [(21, .tuple #[.agg #[.int .i64 t107, .int .u64 t108], .bool t109]), (6, .pointer (some ⟨s_, 0, none⟩)), (15, .tuple #[.agg #[.int .i64 t107, .int .u64 t108], .bool t109]), (22, .agg #[.int .i64 t107, .int .u64 t108]), (23, .bool t109)]) (fun s_ w' => (w'.cell? ⟨g2, 0, none⟩ = some (.string ((rd_T62 l0 x10_1).f0)) ∧ w'.cell? ⟨g2, 1, none⟩ = some (.int .i64 ((rd_T62 l0 x10_1).f1.f0)) ∧ w'.cell? ⟨g2, 2, none⟩ = some (.int .u64 ((rd_T62 l0 x10_1).f1.f1))) ∧ (w'.heap[g2]? = some (.cells #[.string ((rd_T62 l0 x10_1).f0), .int .i64 ((rd_T62 l0 x10_1).f1.f0), .int .u64 ((rd_T62 l0 x10_1).f1.f1)] 62 (0, 0))) ∧ (w'.heap[s_]? = some (.cells #[.int .i64 0, .int .u64 0] 58 (0, 0))) ∧ (w.heap.size ≤ s_) ∧ (w.heap.size ≤ s_) ∧ (g2 ≠ s_) ∧ (s_ ≠ g2) ∧ (Below w.heap.size w w')) ?_ ?_
        rotate_left
        ·intro hCont
         refine two_ (i:=5) (j:=9) (Ni := some 21) (Nj := some 6) #[T,T,T,T,T,T,F,F,F,F,F,F] ⟨m_ 12 543⟩ rfl rfl rfl rfl (two_of HT_.out (by kernel_rfl)) (by decide) (by decide) (fun K hK => ?_) (fun K hK => ?_)
         ·skip
          refine goes_ Tryz.func55 (by kernel_rfl) rfl #[.slice (some ad101) y103.length c0, .string ((rd_T62 l0 x10_1).f0)] (by rfl) rfl rfl ha_ ?_; with_reducible refine (right_Find.calls k1 _ _ y103 ((rd_T62 l0 x10_1).f0) t107 t108 t109 _ ?side1 ?side2 A10.out).mono ?_; (case side1 => exact ca_ (Kd.C_below HR106.out HB.out)); (case side2 => exact HC106.out); rintro e w14 ⟨rfl, hb⟩; refine ⟨_, rfl, ?_⟩
          replace B2 := bb_ B2 hb; replace HB := bs_ HB hb; (try clear hb); refine hK.out _ _ ⟨bc_ B2 0 rfl, bc_ B2 1 rfl, bc_ B2 2 rfl⟩ (fun hHeld => ?_); clear hK K; refine norm_ (a':=?_) ?_ ?_; rotate_left
          ·show Act.put _ (some 21) _ = _; simp only [q_, i64_w, i32_w]; rfl
          refine pure_ (i:=6) (N:=some 15) (v:=?_) (a':=?_) ⟨m_ 12 127⟩ rfl rfl (ao_ HT_) (fun _ _ _ h=>h) (Or.inl ⟨rfl, ?_⟩) ?_ ?_; rotate_left
          ·intro w'; go_simp; with_reducible rfl
          rotate_left
          ·simp only [q_, i64_w, i32_w]; rfl
          refine pure_ (i:=7) (N:=some 22) (v:=?_) (a':=?_) ⟨m_ 12 255⟩ rfl rfl (ao_ HT_) (fun _ _ _ h=>h) (Or.inl ⟨rfl, ?_⟩) ?_ ?_; rotate_left
          ·intro w'; go_simp; with_reducible rfl
          rotate_left
          ·simp only [q_, i64_w, i32_w]; rfl
          refine pure_ (i:=8) (N:=some 23) (v:=?_) (a':=?_) ⟨m_ 12 511⟩ rfl rfl (ao_ HT_) (fun _ _ _ h=>h) (Or.inl ⟨rfl, ?_⟩) ?_ ?_; rotate_left
          ·intro w'; go_simp; with_reducible rfl
          rotate_left
          ·simp only [q_, i64_w, i32_w]; rfl
          refine one_ (i:=9) (N:=some 6) ⟨m_ 12 1023⟩ rfl rfl (oo_ HT_) (by decide) (fun K hK => ?_)
          refine box_step ?hg (N:=6) ?hd (cs := #[.int .i64 0, .int .u64 0]) (t:=58) ?hr ?_; (case hd => rfl); (case hg => rfl); (case hr => first | (go_simp; done) | (go_simp; rfl))
          intro gb110 hg w15 hbox hb
          have BK110 := A_ (hbox); have GW110 := hs_ HB hg; have GE110 := hs_ HB hg; have NB102_110 := hl_ B2 hg; have NB110_102 := hr_ B2 hg; replace B2 := bb_ B2 hb; replace HB := bs_ HB hb; clear hb hbox hg
          refine hK.out _ _ ⟨bc_ B2 0 rfl, bc_ B2 1 rfl, bc_ B2 2 rfl⟩ (fun hHeld => ?_); clear hK K; refine norm_ (a':=?_) ?_ ?_; rotate_left
          ·show Act.put _ (some 6) _ = _; simp only [q_, i64_w, i32_w]; rfl
          exact norm_ (by simp only [putAll, q_]) (hCont (gb110) _ ⟨hHeld, (pkx B2), (pkx BK110), GW110.out, GE110.out, NB102_110.out, NB110_102.out, (pbx HB)⟩)
         ·skip
          refine box_step ?hg (N:=6) ?hd (cs := #[.int .i64 0, .int .u64 0]) (t:=58) ?hr ?_; (case hd => rfl); (case hg => rfl); (case hr => first | (go_simp; done) | (go_simp; rfl))
          intro gb110 hg w14 hbox hb
          have BK110 := A_ (hbox); have GW110 := hs_ HB hg; have GE110 := hs_ HB hg; have NB102_110 := hl_ B2 hg; have NB110_102 := hr_ B2 hg; replace B2 := bb_ B2 hb; replace HB := bs_ HB hb; clear hb hbox hg
          refine hK.out _ _ ⟨bc_ B2 0 rfl, bc_ B2 1 rfl, bc_ B2 2 rfl⟩ (fun hHeld => ?_); clear hK K; refine norm_ (a':=?_) ?_ ?_; rotate_left
          ·show Act.put _ (some 6) _ = _; simp only [q_, i64_w, i32_w]; rfl
          refine one_ (i:=5) (N:=some 21) ⟨m_ 12 575⟩ rfl rfl (oo_ HT_) (by decide) (fun K hK => ?_); refine goes_ Tryz.func55 (by kernel_rfl) rfl #[.slice (some ad101) y103.length c0, .string ((rd_T62 l0 x10_1).f0)] (by rfl) rfl rfl ha_ ?_; with_reducible refine (right_Find.calls k1 _ _ y103 ((rd_T62 l0 x10_1).f0) t107 t108 t109 _ ?side1 ?side2 A10.out).mono ?_; (case side1 => exact ca_ (Kd.C_below HR106.out HB.out)); (case side2 => exact HC106.out); rintro e w15 ⟨rfl, hb⟩; refine ⟨_, rfl, ?_⟩
          replace B2 := bb_ B2 hb; replace BK110 := bb_ BK110 hb; replace HB := bs_ HB hb; (try clear hb); refine hK.out _ _ ⟨bc_ B2 0 rfl, bc_ B2 1 rfl, bc_ B2 2 rfl⟩ (fun hHeld => ?_); clear hK K; refine norm_ (a':=?_) ?_ ?_; rotate_left
          ·show Act.put _ (some 21) _ = _; simp only [q_, i64_w, i32_w]; rfl
          refine pure_ (i:=6) (N:=some 15) (v:=?_) (a':=?_) ⟨m_ 12 639⟩ rfl rfl (ao_ HT_) (fun _ _ _ h=>h) (Or.inl ⟨rfl, ?_⟩) ?_ ?_; rotate_left
          ·intro w'; go_simp; with_reducible rfl
          rotate_left
          ·simp only [q_, i64_w, i32_w]; rfl
          refine pure_ (i:=7) (N:=some 22) (v:=?_) (a':=?_) ⟨m_ 12 767⟩ rfl rfl (ao_ HT_) (fun _ _ _ h=>h) (Or.inl ⟨rfl, ?_⟩) ?_ ?_; rotate_left
          ·intro w'; go_simp; with_reducible rfl
          rotate_left
          ·simp only [q_, i64_w, i32_w]; rfl
          refine pure_ (i:=8) (N:=some 23) (v:=?_) (a':=?_) ⟨m_ 12 1023⟩ rfl rfl (ao_ HT_) (fun _ _ _ h=>h) (Or.inl ⟨rfl, ?_⟩) ?_ ?_; rotate_left
          ·intro w'; go_simp; with_reducible rfl
          rotate_left
          ·simp only [q_, i64_w, i32_w]; rfl
          exact norm_ (by simp only [putAll, q_]) (hCont (gb110) _ ⟨hHeld, (pkx B2), (pkx BK110), GW110.out, GE110.out, NB102_110.out, NB110_102.out, (pbx HB)⟩)
        rintro gb110 w16 ⟨hS_, h0_, h1_, h2_, h3_, h4_, h5_, h6_⟩
        have n0_ : Aside0 (w16.heap[g2]? = some (.cells #[.string ((rd_T62 l0 x10_1).f0), .int .i64 ((rd_T62 l0 x10_1).f1.f0), .int .u64 ((rd_T62 l0 x10_1).f1.f1)] 62 (0, 0))) := ⟨h0_⟩; have n1_ := A_ h1_; have n2_ := A_ h2_; have n3_ := A_ h3_; have n4_ := A_ h4_; have n5_ := A_ h5_; have n6_ := A_ h6_; clear B2; clear HB; clear h0_ h1_ h2_ h3_ h4_ h5_ h6_; have B2 := n0_; have BK110 := n1_; have GW110 := n2_; have GE110 := n3_; have NB102_110 := n4_; have NB110_102 := n5_; have HB := n6_; clear n0_ n1_ n2_ n3_ n4_ n5_ n6_
        have hHeld : w16.cell? ⟨g2, 0, none⟩ = some (.string ((rd_T62 l0 x10_1).f0)) ∧ w16.cell? ⟨g2, 1, none⟩ = some (.int .i64 ((rd_T62 l0 x10_1).f1.f0)) ∧ w16.cell? ⟨g2, 2, none⟩ = some (.int .u64 ((rd_T62 l0 x10_1).f1.f1)) := hS_
        refine norm_ (a':=?_) ?_ ?_; rotate_left
        ·simp only [putAll, q_]; rfl
        refine one_ (i:=10) (N:=none) ⟨m_ 12 2047⟩ rfl rfl (oo_ HT_) (by decide) (fun K hK => ?_)
        have hs17 : w16.cell? ⟨gb110, 0, none⟩ = some (.int .i64 0) := bc_ BK110 0 rfl
        have hfs17 := blk_frozen BK110.out 0; have hns17_0 := NB102_110.out; have hms17_0 := NB110_102.out
        have hs18 : w16.cell? ⟨gb110, 1, none⟩ = some (.int .u64 0) := bc_ BK110 1 rfl
        have hfs18 := blk_frozen BK110.out 1; have hns18_0 := NB102_110.out; have hms18_0 := NB110_102.out
        refine skip_ (w1 := ?_) (by rfl) rfl ?_ ?_
        rotate_left
        ·go_simp; rfl
        refine hK.out _ _ ⟨((cell_far (p := ⟨gb110, _, none⟩) NB102_110.out _).trans (((cell_far (p := ⟨gb110, _, none⟩) NB102_110.out _).trans (hHeld.1)))), ((cell_far (p := ⟨gb110, _, none⟩) NB102_110.out _).trans (((cell_far (p := ⟨gb110, _, none⟩) NB102_110.out _).trans (hHeld.2.1)))), ((cell_far (p := ⟨gb110, _, none⟩) NB102_110.out _).trans (((cell_far (p := ⟨gb110, _, none⟩) NB102_110.out _).trans (hHeld.2.2))))⟩ (fun hHeld => ?_); clear hK K; refine pure_ (i:=11) (N:=some 7) (v:=?_) (a':=?_) ⟨m_ 12 4095⟩ rfl rfl (ao_ HT_) (fun _ _ _ h=>h) (Or.inl ⟨rfl, ?_⟩) ?_ ?_; rotate_left
        ·intro w'; go_simp; with_reducible rfl
        rotate_left
        ·simp only [q_, i64_w, i32_w]; rfl
        refine done_ (done_of HT_.out (by kernel_rfl)) ?_
        try go_wp2
        go_meet
        case rel => exact ⟨_, (t109), (by first | rfl | (simp; done) | (simp [*]; done) | (cases t109 <;> simp; done)), H', ⟨by have := HK1.out; first | omega | exact Nat.le_refl _⟩, ⟨by (iterate 2 refine pf_ ?_ NB102_110.out); exact pkx B2⟩, ⟨bl_⟩⟩
       ·rw [if_neg c9] at H
        exact absurd H (by simp)
      case rest =>
       clear HC5; (try clear c2); (try clear c2b0); (try clear c3); (try clear c3b0); (try clear c4); (try clear c4b0); (try clear hcz7_0); (try clear hcz7_1); (try clear hcz7_2); (try clear hfz7_0); (try clear hfz7_1); (try clear hfz7_2); (try clear hx101_0); (try clear hx101_1); (try clear hx101_2); (try clear p101); (try clear q101); obtain ⟨kq, x7_4, rfl, HA, HJ4, B2, HB⟩ := hcut
       cases kq with
       | zero => exact absurd HA.out (by simp [right_Users.j1])
       | succ kj4 =>
        have H := HA.out; clear HA
        simp only [right_Users.j1] at H
        by_cases c19 : x10_1 ≥ 16
        ·rw [if_pos c19] at H; have c19b0 := decide_eq_true c19; clear c19
         simp only [Option.some.injEq, Prod.mk.injEq] at H
         obtain ⟨rfl, rfl⟩ := H
         go_wp2
         go_ret2
         exact fi_ (pbx HB)
        ·rw [if_neg c19] at H; have c19b0 := decide_eq_false c19; clear c19; obtain ⟨t111, A20, H⟩ := bo_ H
         by_cases c21 : t111 = true
         ·subst c21
          replace H := it_ H
          by_cases c22 : x7_4 = true
          ·subst c22
           replace H := it_ H
           simp only [Option.some.injEq, Prod.mk.injEq] at H
           obtain ⟨rfl, rfl⟩ := H
           have ⟨hcz23_0,hcz23_1,hcz23_2,hfz23_0,hfz23_1,hfz23_2⟩ := z3_ B2
           go_wp2_with (first | ((with_reducible refine gate_callee (f:=56) rfl ?_); refine gL_ (some 31) rfl rfl Tryz.func56 rfl #[.string ((rd_T62 l0 x10_1).f0)] rfl ?_; (with_reducible refine (right_Name.calls kj4 ((rd_T62 l0 x10_1).f0) true _ A20.out).mono ?_); rintro e w' ⟨rfl, ⟨nd, rfl⟩⟩; refine ⟨_, rfl, ?_⟩))
           go_ret2
           exact fi_ (pbx HB)
          ·replace c22 := Bool.eq_false_iff.mpr c22; subst c22
           obtain ⟨t112, A24, H⟩ := bo_ (ie_ H)
           by_cases c25 : t112 = true
           ·subst c25
            replace H := it_ H
            have H' := A_ H
            clear H
            have ⟨hcz26_0,hcz26_1,hcz26_2,hfz26_0,hfz26_1,hfz26_2⟩ := z3_ B2
            go_wp2_with (first | ((with_reducible refine gate_callee (f:=56) rfl ?_); refine gL_ (some 31) rfl rfl Tryz.func56 rfl #[.string ((rd_T62 l0 x10_1).f0)] rfl ?_; (with_reducible refine (right_Name.calls kj4 ((rd_T62 l0 x10_1).f0) true _ A20.out).mono ?_); rintro e w' ⟨rfl, ⟨nd, rfl⟩⟩; refine ⟨_, rfl, ?_⟩) | ((with_reducible refine gate_callee (f:=45) rfl ?_); refine gL_ (some 40) rfl rfl Tryz.func45 rfl #[.agg #[.int .i64 ((rd_T62 l0 x10_1).f1.f0), .int .u64 ((rd_T62 l0 x10_1).f1.f1)]] rfl ?_; (with_reducible refine (label_May.calls ((rd_T62 l0 x10_1).f1.f0) ((rd_T62 l0 x10_1).f1.f1) true _ A24.out).mono ?_); rintro e w27 ⟨rfl, hb⟩; refine ⟨_, rfl, ?_⟩; replace B2 := bb_ B2 hb; replace HB := bs_ HB hb; (try clear hb); ))
            go_roundg kj4
            case measure => have := HK1.out; have := HJ4.out; omega
            case rel => exact ⟨(wrap64 (x10_1 + 1)), sq_, H', ⟨by have := HK1.out; have := HJ4.out; omega⟩, ⟨pbx HB⟩⟩
           ·replace c25 := Bool.eq_false_iff.mpr c25; subst c25
            replace H := ie_ H
            simp only [Option.some.injEq, Prod.mk.injEq] at H
            obtain ⟨rfl, rfl⟩ := H
            have ⟨hcz28_0,hcz28_1,hcz28_2,hfz28_0,hfz28_1,hfz28_2⟩ := z3_ B2
            go_wp2_with (first | ((with_reducible refine gate_callee (f:=56) rfl ?_); refine gL_ (some 31) rfl rfl Tryz.func56 rfl #[.string ((rd_T62 l0 x10_1).f0)] rfl ?_; (with_reducible refine (right_Name.calls kj4 ((rd_T62 l0 x10_1).f0) true _ A20.out).mono ?_); rintro e w' ⟨rfl, ⟨nd, rfl⟩⟩; refine ⟨_, rfl, ?_⟩) | ((with_reducible refine gate_callee (f:=45) rfl ?_); refine gL_ (some 40) rfl rfl Tryz.func45 rfl #[.agg #[.int .i64 ((rd_T62 l0 x10_1).f1.f0), .int .u64 ((rd_T62 l0 x10_1).f1.f1)]] rfl ?_; (with_reducible refine (label_May.calls ((rd_T62 l0 x10_1).f1.f0) ((rd_T62 l0 x10_1).f1.f1) false _ A24.out).mono ?_); rintro e w29 ⟨rfl, hb⟩; refine ⟨_, rfl, ?_⟩; replace B2 := bb_ B2 hb; replace HB := bs_ HB hb; (try clear hb); ))
            go_ret2
            exact fi_ (pbx HB)
         ·replace c21 := Bool.eq_false_iff.mpr c21; subst c21
          replace H := ie_ H
          simp only [Option.some.injEq, Prod.mk.injEq] at H
          obtain ⟨rfl, rfl⟩ := H
          have ⟨hcz30_0,hcz30_1,hcz30_2,hfz30_0,hfz30_1,hfz30_2⟩ := z3_ B2
          go_wp2_with (first | ((with_reducible refine gate_callee (f:=56) rfl ?_); refine gL_ (some 31) rfl rfl Tryz.func56 rfl #[.string ((rd_T62 l0 x10_1).f0)] rfl ?_; (with_reducible refine (right_Name.calls kj4 ((rd_T62 l0 x10_1).f0) false _ A20.out).mono ?_); rintro e w' ⟨rfl, ⟨nd, rfl⟩⟩; refine ⟨_, rfl, ?_⟩))
          go_ret2
          exact fi_ (pbx HB)
     ·rw [if_neg c4] at H
      exact absurd H (by simp)
    ·rw [if_neg c3] at H
     exact absurd H (by simp)
   ·rw [if_neg c2] at H; have c2b0 := decide_eq_false c2; clear c2
    simp only [Option.some.injEq, Prod.mk.injEq] at H
    obtain ⟨rfl, rfl⟩ := H
    go_wp2
    go_ret2
    exact fi_ (pbx HB)

mutual
def right_Grants.l0 : Nat → List (S62) → List (S64) → Int → Int → Option (Int × Int)
 | 0, _, _, _, _ => none
 | k + 1, x1, x10, x11, x12 => if x12 < x11 then (if 0 ≤ x12 then (if x12 < (x10.length : Int) then ((right_Find.f k x1 ((rd_T64 x10 x12).f0)).bind fun bt103 => (right_Grants.j1 k x1 x12 bt103.2.2 x10 x11 x12 ((rd_T64 x10 x12).f0) ((rd_T64 x10 x12).f1.f0) ((rd_T64 x10 x12).f1.f1) ((rd_T64 x10 x12).f2.f0) ((rd_T64 x10 x12).f2.f1))) else (none)) else (none)) else (some (0, 0))
def right_Grants.j1 : Nat → List (S62) → Int → Bool → List (S64) → Int → Int → ByteArray → Int → Int → Int → Int → Option (Int × Int)
 | 0, _, _, _, _, _, _, _, _, _, _, _ => none
 | k + 1, x1, x6, x9, x10, x11, x12, x103000, x103001, x103002, x103003, x103004 => if x6 ≥ 32 then (some (x6, 10)) else (if x9 = true then ((label_May.f x103001 x103002).bind fun t107 => (if t107 = true then ((label_May.f x103003 x103004).bind fun t108 => (if t108 = true then (right_Grants.l0 k x1 x10 x11 (wrap64 (x12 + 1))) else (some (x6, 7)))) else (some (x6, 7)))) else (some (x6, 11)))
end
def right_Grants.f (k : Nat) (l0 : List (S64)) (l1 : List (S62)) : Option (Int × Int) := right_Grants.l0 k l1 l0 (l0.length : Int) 0
theorem right_Grants.calls (k : Nat) (A0 : Option Addr) (c0 : Nat) (l0 : List (S64)) (A1 : Option Addr) (c1 : Nat) (l1 : List (S62)) (r1 : Int) (r2 : Int) (w : World) (hr0 : Kd.C k64 w A0 l0.length l0) (hc0 : l0.length ≤ c0) (hr1 : Kd.C k62 w A1 l1.length l1) (hc1 : l1.length ≤ c1) (h : right_Grants.f k l0 l1 = some (r1, r2)) :
  Calls Tryz.prog 32 #[.slice A0 l0.length c0, .slice A1 l1.length c1] w fun e w' => e = .returned (.tuple #[.int .i64 r1, .int .i64 r2]) ∧ Below w.heap.size w w' := by
 have hu64 := Tryz.underlying64; have hu58 := Tryz.underlying58; have HR0 := A_ hr0; have HC0 := A_ hc0; clear hr0 hc0; have HR1 := A_ hr1; have HC1 := A_ hc1; clear hr1 hc1; have HB := A_ (Below.refl w.heap.size w)
 have H : (right_Grants.l0 k l1 l0 (l0.length : Int) 0) = some (r1, r2) := h
 clear h
 have H' := A_ H
 clear H
 go_enter Tryz.func32, Tryz.ntmps32
 go_wp2
 go_loopg [12] k (fun kq v12 w' => ∃ (x12_1 : Int), v12 = .int .i64 x12_1 ∧ Aside0 (right_Grants.l0 kq l1 l0 (l0.length : Int) x12_1 = some (r1, r2)) ∧ Aside0 (kq ≤ k) ∧ Aside0 (Below w.heap.size w w'))
 case atStart => exact ⟨(0), sq_, H', ⟨Nat.le_refl _⟩, ⟨pbx HB⟩⟩
 case round =>
  clear H'; obtain ⟨x12_1, rfl, HA, HK1, HB⟩ := hrel
  cases gk with
  | zero => exact absurd HA.out (by simp [right_Grants.l0])
  | succ k1 =>
   have H := HA.out; clear HA
   simp only [right_Grants.l0] at H
   by_cases c3 : x12_1 < (l0.length : Int)
   ·rw [if_pos c3] at H; have c3b0 := decide_eq_true c3; clear c3
    by_cases c4 : 0 ≤ x12_1
    ·rw [if_pos c4] at H; have c4b0 := decide_eq_true c4; clear c4
     by_cases c5 : x12_1 < (l0.length : Int)
     ·rw [if_pos c5] at H; have c5b0 := decide_eq_true c5; clear c5; have HC6 := A_ H; clear H
      have p101 : 0 ≤ (x12_1 : Int) := of_decide_eq_true as_
      have q101 : x12_1 < (l0.length : Int) := of_decide_eq_true as_
      obtain ⟨ad101, e101, hx101_0, hx101_1, hx101_2, hx101_3, hx101_4⟩ := at_T64 HR0.out x12_1 p101 q101
      cases e101
      replace hx101_0 := (HB.out.cell (World.block_lt_of_cell? w _ hx101_0)).trans hx101_0; replace hx101_1 := (HB.out.cell (World.block_lt_of_cell? w _ hx101_1)).trans hx101_1; replace hx101_2 := (HB.out.cell (World.block_lt_of_cell? w _ hx101_2)).trans hx101_2; replace hx101_3 := (HB.out.cell (World.block_lt_of_cell? w _ hx101_3)).trans hx101_3; replace hx101_4 := (HB.out.cell (World.block_lt_of_cell? w _ hx101_4)).trans hx101_4; replace p101 := eq_true p101; replace q101 := eq_true q101
      go_upto_region 4 with (first | ((with_reducible refine gd_ 7 ?_); refine be_ (N:=7) (cs := #[.string (⟨#[]⟩ : ByteArray), .int .i64 0, .int .u64 0, .int .i64 0, .int .u64 0]) (t:=64) ?_; intro g2 hg w7 hbox hb; have B2 := A_ (hbox); have GW102 := hs_ HB hg; have GE102 := hs_ HB hg; replace HB := bs_ HB hb; clear hb hbox hg; have ⟨hcz8_0,hcz8_1,hcz8_2,hcz8_3,hcz8_4,hfz8_0,hfz8_1,hfz8_2,hfz8_3,hfz8_4⟩ := z5_ B2))
      (try simp only [q_])
      go_cut [9] (fun v9 wc => ∃ (kq : Nat) (x9_5 : Bool), v9 = .bool x9_5 ∧ Aside0 (right_Grants.j1 kq l1 x12_1 x9_5 l0 (l0.length : Int) x12_1 ((rd_T64 l0 x12_1).f0) ((rd_T64 l0 x12_1).f1.f0) ((rd_T64 l0 x12_1).f1.f1) ((rd_T64 l0 x12_1).f2.f0) ((rd_T64 l0 x12_1).f2.f1) = some (r1, r2)) ∧ Aside0 (kq ≤ k1) ∧ Aside0 (wc.heap[g2]? = some (.cells #[.string ((rd_T64 l0 x12_1).f0), .int .i64 ((rd_T64 l0 x12_1).f1.f0), .int .u64 ((rd_T64 l0 x12_1).f1.f1), .int .i64 ((rd_T64 l0 x12_1).f2.f0), .int .u64 ((rd_T64 l0 x12_1).f2.f1)] 64 (0, 0))) ∧ Aside0 (Below w.heap.size w wc))
      case first =>
       have H := HC6.out; clear HC6; obtain ⟨⟨t103, t104, t105⟩, A9, H⟩ := bo_ H; dsimp only at H
       have H' := A_ H
       clear H
       have ⟨hcz10_0,hcz10_1,hcz10_2,hcz10_3,hcz10_4,hfz10_0,hfz10_1,hfz10_2,hfz10_3,hfz10_4⟩ := z5_ B2
       go_wp2_with (first | ((with_reducible refine gate_callee (f:=55) rfl ?_); refine gL_ (some 21) rfl rfl Tryz.func55 rfl #[.slice A1 l1.length c1, .string ((rd_T64 l0 x12_1).f0)] rfl ?_; (with_reducible refine (right_Find.calls k1 _ _ l1 ((rd_T64 l0 x12_1).f0) t103 t104 t105 _ ?side1 ?side2 A9.out).mono ?_); (case side1 => exact Kd.C_below HR1.out bl_); (case side2 => exact HC1.out); rintro e w11 ⟨rfl, hb⟩; refine ⟨_, rfl, ?_⟩; replace B2 := A_ (blk_below (g:=g2) (o := .cells #[.string ((rd_T64 l0 x12_1).f0), .int .i64 ((rd_T64 l0 x12_1).f1.f0), .int .u64 ((rd_T64 l0 x12_1).f1.f1), .int .i64 ((rd_T64 l0 x12_1).f2.f0), .int .u64 ((rd_T64 l0 x12_1).f2.f1)] 64 (0, 0)) (by refine pp_ (cs := #[.string ((rd_T64 l0 x12_1).f0), .int .i64 ((rd_T64 l0 x12_1).f1.f0), .int .u64 ((rd_T64 l0 x12_1).f1.f1), .int .i64 ((rd_T64 l0 x12_1).f2.f0), .int .u64 0]) 4 ?_ rfl; refine blk_put (cs := #[.string ((rd_T64 l0 x12_1).f0), .int .i64 ((rd_T64 l0 x12_1).f1.f0), .int .u64 ((rd_T64 l0 x12_1).f1.f1), .int .i64 0, .int .u64 0]) ?_ 3 _ rfl; refine blk_put (cs := #[.string ((rd_T64 l0 x12_1).f0), .int .i64 ((rd_T64 l0 x12_1).f1.f0), .int .u64 0, .int .i64 0, .int .u64 0]) ?_ 2 _ rfl; refine blk_put (cs := #[.string ((rd_T64 l0 x12_1).f0), .int .i64 0, .int .u64 0, .int .i64 0, .int .u64 0]) ?_ 1 _ rfl; refine blk_put (cs := #[.string (⟨#[]⟩ : ByteArray), .int .i64 0, .int .u64 0, .int .i64 0, .int .u64 0]) ?_ 0 _ rfl; exact pkx B2) hb); replace HB := A_ (below_step (by repeat (first | (with_reducible first | exact HB.out | apply below_alloc | apply pw_below_drewN | apply below_drew1 | refine below_set ?_ GE102.out) | exact HB.out)) hb); (try clear hb); ) | ((with_reducible refine gd_ 8 ?_); refine be_ (N:=8) (cs := #[.int .i64 0, .int .u64 0]) (t:=58) ?_; intro g6 hg w12 hbox hb; have B6 := A_ (hbox); have GW106 := hs_ HB hg; have GE106 := hs_ HB hg; have N26 := hl_ B2 hg; have N62 := hr_ B2 hg; replace B2 := bb_ B2 hb; replace HB := bs_ HB hb; clear hb hbox hg; have hnb13 := N62.out; have hnc13 := N26.out; have ⟨hcz14_0,hcz14_1,hfz14_0,hfz14_1⟩ := z2_ B6))
       go_meet
       case rel => exact ⟨_, (t105), (by first | rfl | (simp; done) | (simp [*]; done) | (cases t105 <;> simp; done)), H', ⟨by have := HK1.out; first | omega | exact Nat.le_refl _⟩, ⟨by (iterate 2 refine pf_ ?_ N26.out); exact pkx B2⟩, ⟨bl_⟩⟩
      case rest =>
       clear HC6; (try clear c3); (try clear c3b0); (try clear c4); (try clear c4b0); (try clear c5); (try clear c5b0); (try clear hcz8_0); (try clear hcz8_1); (try clear hcz8_2); (try clear hcz8_3); (try clear hcz8_4); (try clear hfz8_0); (try clear hfz8_1); (try clear hfz8_2); (try clear hfz8_3); (try clear hfz8_4); (try clear hx101_0); (try clear hx101_1); (try clear hx101_2); (try clear hx101_3); (try clear hx101_4); (try clear p101)
       (try clear q101); obtain ⟨kq, x9_5, rfl, HA, HJ5, B2, HB⟩ := hcut
       cases kq with
       | zero => exact absurd HA.out (by simp [right_Grants.j1])
       | succ kj5 =>
        have H := HA.out; clear HA
        simp only [right_Grants.j1] at H
        by_cases c15 : x12_1 ≥ 32
        ·rw [if_pos c15] at H; have c15b0 := decide_eq_true c15; clear c15
         simp only [Option.some.injEq, Prod.mk.injEq] at H
         obtain ⟨rfl, rfl⟩ := H
         go_wp2
         go_ret2
         exact fi_ (pbx HB)
        ·rw [if_neg c15] at H; have c15b0 := decide_eq_false c15; clear c15
         by_cases c16 : x9_5 = true
         ·subst c16
          obtain ⟨t107, A17, H⟩ := bo_ (it_ H)
          by_cases c18 : t107 = true
          ·subst c18
           obtain ⟨t108, A19, H⟩ := bo_ (it_ H)
           by_cases c20 : t108 = true
           ·subst c20
            replace H := it_ H
            have H' := A_ H
            clear H
            have ⟨hcz21_0,hcz21_1,hcz21_2,hcz21_3,hcz21_4,hfz21_0,hfz21_1,hfz21_2,hfz21_3,hfz21_4⟩ := z5_ B2
            go_wp2_with (first | ((with_reducible refine gate_callee (f:=45) rfl ?_); refine gL_ (some 35) rfl rfl Tryz.func45 rfl #[.agg #[.int .i64 ((rd_T64 l0 x12_1).f1.f0), .int .u64 ((rd_T64 l0 x12_1).f1.f1)]] rfl ?_; (with_reducible refine (label_May.calls ((rd_T64 l0 x12_1).f1.f0) ((rd_T64 l0 x12_1).f1.f1) true _ A17.out).mono ?_); rintro e w22 ⟨rfl, hb⟩; refine ⟨_, rfl, ?_⟩; replace B2 := bb_ B2 hb; replace HB := bs_ HB hb; (try clear hb); have ⟨hcz23_0,hcz23_1,hcz23_2,hcz23_3,hcz23_4,hfz23_0,hfz23_1,hfz23_2,hfz23_3,hfz23_4⟩ := z5_ B2) | (go_at_call 45; (with_reducible refine (label_May.calls ((rd_T64 l0 x12_1).f2.f0) ((rd_T64 l0 x12_1).f2.f1) true _ A19.out).mono ?_); rintro e w24 ⟨rfl, hb⟩; replace B2 := bb_ B2 hb; replace HB := bs_ HB hb; (try clear hb); ))
            go_roundg kj5
            case measure => have := HK1.out; have := HJ5.out; omega
            case rel => exact ⟨(wrap64 (x12_1 + 1)), sq_, H', ⟨by have := HK1.out; have := HJ5.out; omega⟩, ⟨pbx HB⟩⟩
           ·replace c20 := Bool.eq_false_iff.mpr c20; subst c20
            replace H := ie_ H
            simp only [Option.some.injEq, Prod.mk.injEq] at H
            obtain ⟨rfl, rfl⟩ := H
            have ⟨hcz25_0,hcz25_1,hcz25_2,hcz25_3,hcz25_4,hfz25_0,hfz25_1,hfz25_2,hfz25_3,hfz25_4⟩ := z5_ B2
            go_wp2_with (first | ((with_reducible refine gate_callee (f:=45) rfl ?_); refine gL_ (some 35) rfl rfl Tryz.func45 rfl #[.agg #[.int .i64 ((rd_T64 l0 x12_1).f1.f0), .int .u64 ((rd_T64 l0 x12_1).f1.f1)]] rfl ?_; (with_reducible refine (label_May.calls ((rd_T64 l0 x12_1).f1.f0) ((rd_T64 l0 x12_1).f1.f1) true _ A17.out).mono ?_); rintro e w26 ⟨rfl, hb⟩; refine ⟨_, rfl, ?_⟩; replace B2 := bb_ B2 hb; replace HB := bs_ HB hb; (try clear hb); have ⟨hcz27_0,hcz27_1,hcz27_2,hcz27_3,hcz27_4,hfz27_0,hfz27_1,hfz27_2,hfz27_3,hfz27_4⟩ := z5_ B2) | (go_at_call 45; (with_reducible refine (label_May.calls ((rd_T64 l0 x12_1).f2.f0) ((rd_T64 l0 x12_1).f2.f1) false _ A19.out).mono ?_); rintro e w28 ⟨rfl, hb⟩; replace B2 := bb_ B2 hb; replace HB := bs_ HB hb; (try clear hb); ))
            go_ret2
            exact fi_ (pbx HB)
          ·replace c18 := Bool.eq_false_iff.mpr c18; subst c18
           replace H := ie_ H
           simp only [Option.some.injEq, Prod.mk.injEq] at H
           obtain ⟨rfl, rfl⟩ := H
           have ⟨hcz29_0,hcz29_1,hcz29_2,hcz29_3,hcz29_4,hfz29_0,hfz29_1,hfz29_2,hfz29_3,hfz29_4⟩ := z5_ B2
           go_wp2_with (first | ((with_reducible refine gate_callee (f:=45) rfl ?_); refine gL_ (some 35) rfl rfl Tryz.func45 rfl #[.agg #[.int .i64 ((rd_T64 l0 x12_1).f1.f0), .int .u64 ((rd_T64 l0 x12_1).f1.f1)]] rfl ?_; (with_reducible refine (label_May.calls ((rd_T64 l0 x12_1).f1.f0) ((rd_T64 l0 x12_1).f1.f1) false _ A17.out).mono ?_); rintro e w30 ⟨rfl, hb⟩; refine ⟨_, rfl, ?_⟩; replace B2 := bb_ B2 hb; replace HB := bs_ HB hb; (try clear hb); ))
           go_ret2
           exact fi_ (pbx HB)
         ·replace c16 := Bool.eq_false_iff.mpr c16; subst c16
          replace H := ie_ H
          simp only [Option.some.injEq, Prod.mk.injEq] at H
          obtain ⟨rfl, rfl⟩ := H
          go_wp2
          go_ret2
          exact fi_ (pbx HB)
     ·rw [if_neg c5] at H
      exact absurd H (by simp)
    ·rw [if_neg c4] at H
     exact absurd H (by simp)
   ·rw [if_neg c3] at H; have c3b0 := decide_eq_false c3; clear c3
    simp only [Option.some.injEq, Prod.mk.injEq] at H
    obtain ⟨rfl, rfl⟩ := H
    go_wp2
    go_ret2
    exact fi_ (pbx HB)

def policy_Wrong.j0 : Nat → Bool → Int → Int → List (S60) → List (S62) → List (S64) → Option (Int × Int)
 | 0, _, _, _, _, _, _ => none
 | k + 1, x36, x102000, x102001, x102002, x102003, x102004 => if x36 = true then (some (1, 2)) else ((zone_Wrong.f k x102002 x102000 x102001).bind fun bt102 => (if bt102.2 = 0 then ((right_Users.f k x102003).bind fun bt104 => (if bt104.2 = 0 then ((right_Grants.f k x102004 x102003).bind fun bt106 => (if bt106.2 = 0 then (some (0, 0)) else (some (wrap64 ((wrap64 ((wrap64 (2 + (x102002.length : Int))) + (x102003.length : Int))) + bt106.1), bt106.2)))) else (some (wrap64 ((wrap64 (2 + (x102002.length : Int))) + bt104.1), bt104.2)))) else (some (wrap64 (2 + bt102.1), bt102.2))))
def policy_Wrong.f (k : Nat) (a0_0 : Int) (a0_1 : Int) (l0_2 : List (S60)) (l0_3 : List (S62)) (l0_4 : List (S64)) : Option (Int × Int) := if a0_0 < 1 then (policy_Wrong.j0 k true a0_0 a0_1 l0_2 l0_3 l0_4) else (if a0_0 > 999 then (policy_Wrong.j0 k true a0_0 a0_1 l0_2 l0_3 l0_4) else (if a0_1 < 1 then (policy_Wrong.j0 k true a0_0 a0_1 l0_2 l0_3 l0_4) else (if a0_1 > 702 then (policy_Wrong.j0 k true a0_0 a0_1 l0_2 l0_3 l0_4) else (policy_Wrong.j0 k (decide ((wrap64 (a0_0 * a0_1)) > 400)) a0_0 a0_1 l0_2 l0_3 l0_4))))
theorem policy_Wrong.calls (k : Nat) (a0_0 : Int) (a0_1 : Int) (A0_2 : Option Addr) (c0_2 : Nat) (l0_2 : List (S60)) (A0_3 : Option Addr) (c0_3 : Nat) (l0_3 : List (S62)) (A0_4 : Option Addr) (c0_4 : Nat) (l0_4 : List (S64)) (r1 : Int) (r2 : Int) (w : World) (hr0_2 : Kd.C k60 w A0_2 l0_2.length l0_2) (hc0_2 : l0_2.length ≤ c0_2) (hr0_3 : Kd.C k62 w A0_3 l0_3.length l0_3) (hc0_3 : l0_3.length ≤ c0_3) (hr0_4 : Kd.C k64 w A0_4 l0_4.length l0_4) (hc0_4 : l0_4.length ≤ c0_4) (h : policy_Wrong.f k a0_0 a0_1 l0_2 l0_3 l0_4 = some (r1, r2)) :
  Calls Tryz.prog 13 #[.agg #[.int .i64 a0_0, .int .i64 a0_1, .slice A0_2 l0_2.length c0_2, .slice A0_3 l0_3.length c0_3, .slice A0_4 l0_4.length c0_4]] w fun e w' => e = .returned (.tuple #[.int .i64 r1, .int .i64 r2]) ∧ Below w.heap.size w w' := by
 have hu27 := Tryz.underlying27; have HR0_2 := A_ hr0_2; have HC0_2 := A_ hc0_2; clear hr0_2 hc0_2; have HR0_3 := A_ hr0_3; have HC0_3 := A_ hc0_3; clear hr0_3 hc0_3; have HR0_4 := A_ hr0_4; have HC0_4 := A_ hc0_4; clear hr0_4 hc0_4; have HB := A_ (Below.refl w.heap.size w)
 have H : (if a0_0 < 1 then (policy_Wrong.j0 k true a0_0 a0_1 l0_2 l0_3 l0_4) else (if a0_0 > 999 then (policy_Wrong.j0 k true a0_0 a0_1 l0_2 l0_3 l0_4) else (if a0_1 < 1 then (policy_Wrong.j0 k true a0_0 a0_1 l0_2 l0_3 l0_4) else (if a0_1 > 702 then (policy_Wrong.j0 k true a0_0 a0_1 l0_2 l0_3 l0_4) else (policy_Wrong.j0 k (decide ((wrap64 (a0_0 * a0_1)) > 400)) a0_0 a0_1 l0_2 l0_3 l0_4))))) = some (r1, r2) := h
 clear h; have HC2 := A_ H; clear H
 go_enter Tryz.func13, Tryz.ntmps13
 go_upto_region 1 with (first | ((with_reducible refine gd_ 1 ?_); refine be_ (N:=1) (cs := #[.int .i64 a0_0, .int .i64 a0_1, .slice A0_2 l0_2.length c0_2, .slice A0_3 l0_3.length c0_3, .slice A0_4 l0_4.length c0_4]) (t:=27) ?_; intro g1 hg w3 hbox hb; have B1 := A_ (hbox); replace HB := bs_ HB hb; clear hb hbox hg))
 (try simp only [q_])
 go_cut [36] (fun v36 wc => ∃ (kq : Nat) (x36_1 : Bool), v36 = .bool x36_1 ∧ Aside0 (policy_Wrong.j0 kq x36_1 a0_0 a0_1 l0_2 l0_3 l0_4 = some (r1, r2)) ∧ Aside0 (kq ≤ k) ∧ Aside0 (wc.heap[g1]? = some (.cells #[.int .i64 a0_0, .int .i64 a0_1, (.slice A0_2 l0_2.length c0_2), (.slice A0_3 l0_3.length c0_3), (.slice A0_4 l0_4.length c0_4)] 27 (0, 0))) ∧ Aside0 (Below w.heap.size w wc))
 case first =>
  have H := HC2.out; clear HC2
  by_cases c4 : a0_0 < 1
  ·rw [if_pos c4] at H; have c4b0 := decide_eq_true c4; clear c4; (first | rw [c4b0] | (simp only [i64_w, i32_w]; rw [c4b0]) | skip)
   have H' := A_ H
   clear H
   have hcz5_0 : w3.cell? ⟨g1, 0, none⟩ = some (.int .i64 a0_0) := bc_ B1 0 rfl
   have hcz5_1 : w3.cell? ⟨g1, 1, none⟩ = some (.int .i64 a0_1) := bc_ B1 1 rfl
   have hcz5_2 : w3.cell? ⟨g1, 2, none⟩ = some (.slice A0_2 l0_2.length c0_2) := bc_ B1 2 rfl
   have hcz5_3 : w3.cell? ⟨g1, 3, none⟩ = some (.slice A0_3 l0_3.length c0_3) := bc_ B1 3 rfl
   have hcz5_4 : w3.cell? ⟨g1, 4, none⟩ = some (.slice A0_4 l0_4.length c0_4) := bc_ B1 4 rfl
   go_wp2
   go_meet
   case rel => exact ⟨_, (true), sq_, H', le_, ⟨pkx B1⟩, ⟨pbx HB⟩⟩
  ·rw [if_neg c4] at H; have c4b0 := decide_eq_false c4; clear c4; (first | rw [c4b0] | (simp only [i64_w, i32_w]; rw [c4b0]) | skip)
   by_cases c6 : a0_0 > 999
   ·rw [if_pos c6] at H; have c6b0 := decide_eq_true c6; clear c6
    have H' := A_ H
    clear H
    have hcz7_0 : w3.cell? ⟨g1, 0, none⟩ = some (.int .i64 a0_0) := bc_ B1 0 rfl
    have hcz7_1 : w3.cell? ⟨g1, 1, none⟩ = some (.int .i64 a0_1) := bc_ B1 1 rfl
    have hcz7_2 : w3.cell? ⟨g1, 2, none⟩ = some (.slice A0_2 l0_2.length c0_2) := bc_ B1 2 rfl
    have hcz7_3 : w3.cell? ⟨g1, 3, none⟩ = some (.slice A0_3 l0_3.length c0_3) := bc_ B1 3 rfl
    have hcz7_4 : w3.cell? ⟨g1, 4, none⟩ = some (.slice A0_4 l0_4.length c0_4) := bc_ B1 4 rfl
    go_wp2
    go_meet
    case rel => exact ⟨_, (true), sq_, H', le_, ⟨pkx B1⟩, ⟨pbx HB⟩⟩
   ·rw [if_neg c6] at H; have c6b0 := decide_eq_false c6; clear c6
    by_cases c8 : a0_1 < 1
    ·rw [if_pos c8] at H; have c8b0 := decide_eq_true c8; clear c8
     have H' := A_ H
     clear H
     have hcz9_0 : w3.cell? ⟨g1, 0, none⟩ = some (.int .i64 a0_0) := bc_ B1 0 rfl
     have hcz9_1 : w3.cell? ⟨g1, 1, none⟩ = some (.int .i64 a0_1) := bc_ B1 1 rfl
     have hcz9_2 : w3.cell? ⟨g1, 2, none⟩ = some (.slice A0_2 l0_2.length c0_2) := bc_ B1 2 rfl
     have hcz9_3 : w3.cell? ⟨g1, 3, none⟩ = some (.slice A0_3 l0_3.length c0_3) := bc_ B1 3 rfl
     have hcz9_4 : w3.cell? ⟨g1, 4, none⟩ = some (.slice A0_4 l0_4.length c0_4) := bc_ B1 4 rfl
     go_wp2
     go_meet
     case rel => exact ⟨_, (true), sq_, H', le_, ⟨pkx B1⟩, ⟨pbx HB⟩⟩
    ·rw [if_neg c8] at H; have c8b0 := decide_eq_false c8; clear c8
     by_cases c10 : a0_1 > 702
     ·rw [if_pos c10] at H; have c10b0 := decide_eq_true c10; clear c10
      have H' := A_ H
      clear H
      have hcz11_0 : w3.cell? ⟨g1, 0, none⟩ = some (.int .i64 a0_0) := bc_ B1 0 rfl
      have hcz11_1 : w3.cell? ⟨g1, 1, none⟩ = some (.int .i64 a0_1) := bc_ B1 1 rfl
      have hcz11_2 : w3.cell? ⟨g1, 2, none⟩ = some (.slice A0_2 l0_2.length c0_2) := bc_ B1 2 rfl
      have hcz11_3 : w3.cell? ⟨g1, 3, none⟩ = some (.slice A0_3 l0_3.length c0_3) := bc_ B1 3 rfl
      have hcz11_4 : w3.cell? ⟨g1, 4, none⟩ = some (.slice A0_4 l0_4.length c0_4) := bc_ B1 4 rfl
      go_wp2
      go_meet
      case rel => exact ⟨_, (true), sq_, H', le_, ⟨pkx B1⟩, ⟨pbx HB⟩⟩
     ·rw [if_neg c10] at H; have c10b0 := decide_eq_false c10; clear c10
      have H' := A_ H
      clear H
      have hcz12_0 : w3.cell? ⟨g1, 0, none⟩ = some (.int .i64 a0_0) := bc_ B1 0 rfl
      have hcz12_1 : w3.cell? ⟨g1, 1, none⟩ = some (.int .i64 a0_1) := bc_ B1 1 rfl
      have hcz12_2 : w3.cell? ⟨g1, 2, none⟩ = some (.slice A0_2 l0_2.length c0_2) := bc_ B1 2 rfl
      have hcz12_3 : w3.cell? ⟨g1, 3, none⟩ = some (.slice A0_3 l0_3.length c0_3) := bc_ B1 3 rfl
      have hcz12_4 : w3.cell? ⟨g1, 4, none⟩ = some (.slice A0_4 l0_4.length c0_4) := bc_ B1 4 rfl
      go_wp2
      go_meet
      case rel => exact ⟨_, (decide ((wrap64 (a0_0 * a0_1)) > 400)), sq_, H', le_, ⟨pkx B1⟩, ⟨pbx HB⟩⟩
 case rest =>
  clear HC2; obtain ⟨kq, x36_1, rfl, HA, HJ1, B1, HB⟩ := hcut
  cases kq with
  | zero => exact absurd HA.out (by simp [policy_Wrong.j0])
  | succ kj1 =>
   have H := HA.out; clear HA
   simp only [policy_Wrong.j0] at H
   by_cases c13 : x36_1 = true
   ·subst c13
    replace H := it_ H
    simp only [Option.some.injEq, Prod.mk.injEq] at H
    obtain ⟨rfl, rfl⟩ := H
    go_wp2
    go_ret2
    exact fi_ (pbx HB)
   ·replace c13 := Bool.eq_false_iff.mpr c13; subst c13
    obtain ⟨⟨t102, t103⟩, A14, H⟩ := bo_ (ie_ H); dsimp only at H
    by_cases c15 : t103 = 0
    ·rw [if_pos c15] at H; have ⟨c15b0,c15b1⟩ := e1_ c15; clear c15; obtain ⟨⟨t104, t105⟩, A16, H⟩ := bo_ H; dsimp only at H
     by_cases c17 : t105 = 0
     ·rw [if_pos c17] at H; have ⟨c17b0,c17b1⟩ := e1_ c17; clear c17; obtain ⟨⟨t106, t107⟩, A18, H⟩ := bo_ H; dsimp only at H
      by_cases c19 : t107 = 0
      ·rw [if_pos c19] at H; have ⟨c19b0,c19b1⟩ := e1_ c19; clear c19
       simp only [Option.some.injEq, Prod.mk.injEq] at H
       obtain ⟨rfl, rfl⟩ := H
       have hcz20_0 : wc.cell? ⟨g1, 0, none⟩ = some (.int .i64 a0_0) := bc_ B1 0 rfl
       have hcz20_1 : wc.cell? ⟨g1, 1, none⟩ = some (.int .i64 a0_1) := bc_ B1 1 rfl
       have hcz20_2 : wc.cell? ⟨g1, 2, none⟩ = some (.slice A0_2 l0_2.length c0_2) := bc_ B1 2 rfl
       have hcz20_3 : wc.cell? ⟨g1, 3, none⟩ = some (.slice A0_3 l0_3.length c0_3) := bc_ B1 3 rfl
       have hcz20_4 : wc.cell? ⟨g1, 4, none⟩ = some (.slice A0_4 l0_4.length c0_4) := bc_ B1 4 rfl
       go_wp2_with (first | ((with_reducible refine gate_callee (f:=30) rfl ?_); refine gL_ (some 44) rfl rfl Tryz.func30 rfl #[.slice A0_2 l0_2.length c0_2, .int .i64 a0_0, .int .i64 a0_1] rfl ?_; (with_reducible refine (zone_Wrong.calls kj1 _ _ l0_2 a0_0 a0_1 t102 t103 _ ?side1 ?side2 A14.out).mono ?_); (case side1 => exact ca_ (Kd.C_below HR0_2.out HB.out)); (case side2 => exact HC0_2.out); rintro e w21 ⟨rfl, hb⟩; refine ⟨_, rfl, ?_⟩; replace B1 := bb_ B1 hb; replace HB := bs_ HB hb; (try clear hb); have hcz22_0 : w21.cell? ⟨g1, 0, none⟩ = some (.int .i64 a0_0) := bc_ B1 0 rfl; have hcz22_1 : w21.cell? ⟨g1, 1, none⟩ = some (.int .i64 a0_1) := bc_ B1 1 rfl; have hcz22_2 : w21.cell? ⟨g1, 2, none⟩ = some (.slice A0_2 l0_2.length c0_2) := bc_ B1 2 rfl; have hcz22_3 : w21.cell? ⟨g1, 3, none⟩ = some (.slice A0_3 l0_3.length c0_3) := bc_ B1 3 rfl; have hcz22_4 : w21.cell? ⟨g1, 4, none⟩ = some (.slice A0_4 l0_4.length c0_4) := bc_ B1 4 rfl) | ((with_reducible refine gate_callee (f:=31) rfl ?_); refine gL_ (some 61) rfl rfl Tryz.func31 rfl #[.slice A0_3 l0_3.length c0_3] rfl ?_; (with_reducible refine (right_Users.calls kj1 _ _ l0_3 t104 t105 _ ?side1 ?side2 A16.out).mono ?_); (case side1 => exact ca_ (Kd.C_below HR0_3.out HB.out)); (case side2 => exact HC0_3.out); rintro e w23 ⟨rfl, hb⟩; refine ⟨_, rfl, ?_⟩; replace B1 := bb_ B1 hb; replace HB := bs_ HB hb; (try clear hb); have hcz24_0 : w23.cell? ⟨g1, 0, none⟩ = some (.int .i64 a0_0) := bc_ B1 0 rfl; have hcz24_1 : w23.cell? ⟨g1, 1, none⟩ = some (.int .i64 a0_1) := bc_ B1 1 rfl; have hcz24_2 : w23.cell? ⟨g1, 2, none⟩ = some (.slice A0_2 l0_2.length c0_2) := bc_ B1 2 rfl; have hcz24_3 : w23.cell? ⟨g1, 3, none⟩ = some (.slice A0_3 l0_3.length c0_3) := bc_ B1 3 rfl; have hcz24_4 : w23.cell? ⟨g1, 4, none⟩ = some (.slice A0_4 l0_4.length c0_4) := bc_ B1 4 rfl) | ((with_reducible refine gate_callee (f:=32) rfl ?_); refine gL_ (some 80) rfl rfl Tryz.func32 rfl #[.slice A0_4 l0_4.length c0_4, .slice A0_3 l0_3.length c0_3] rfl ?_; (with_reducible refine (right_Grants.calls kj1 _ _ l0_4 _ _ l0_3 t106 t107 _ ?side1 ?side2 ?side3 ?side4 A18.out).mono ?_); (case side1 => exact ca_ (Kd.C_below HR0_4.out HB.out)); (case side2 => exact HC0_4.out); (case side3 => exact ca_ (Kd.C_below HR0_3.out HB.out)); (case side4 => exact HC0_3.out); rintro e w25 ⟨rfl, hb⟩; refine ⟨_, rfl, ?_⟩; replace B1 := bb_ B1 hb; replace HB := bs_ HB hb; (try clear hb); ))
       go_ret2
       exact fi_ (pbx HB)
      ·rw [if_neg c19] at H; have ⟨c19b0,c19b1⟩ := e0_ c19
       simp only [Option.some.injEq, Prod.mk.injEq] at H
       obtain ⟨rfl, rfl⟩ := H
       have hcz26_0 : wc.cell? ⟨g1, 0, none⟩ = some (.int .i64 a0_0) := bc_ B1 0 rfl
       have hcz26_1 : wc.cell? ⟨g1, 1, none⟩ = some (.int .i64 a0_1) := bc_ B1 1 rfl
       have hcz26_2 : wc.cell? ⟨g1, 2, none⟩ = some (.slice A0_2 l0_2.length c0_2) := bc_ B1 2 rfl
       have hcz26_3 : wc.cell? ⟨g1, 3, none⟩ = some (.slice A0_3 l0_3.length c0_3) := bc_ B1 3 rfl
       have hcz26_4 : wc.cell? ⟨g1, 4, none⟩ = some (.slice A0_4 l0_4.length c0_4) := bc_ B1 4 rfl
       go_wp2_with (first | ((with_reducible refine gate_callee (f:=30) rfl ?_); refine gL_ (some 44) rfl rfl Tryz.func30 rfl #[.slice A0_2 l0_2.length c0_2, .int .i64 a0_0, .int .i64 a0_1] rfl ?_; (with_reducible refine (zone_Wrong.calls kj1 _ _ l0_2 a0_0 a0_1 t102 t103 _ ?side1 ?side2 A14.out).mono ?_); (case side1 => exact ca_ (Kd.C_below HR0_2.out HB.out)); (case side2 => exact HC0_2.out); rintro e w27 ⟨rfl, hb⟩; refine ⟨_, rfl, ?_⟩; replace B1 := bb_ B1 hb; replace HB := bs_ HB hb; (try clear hb); have hcz28_0 : w27.cell? ⟨g1, 0, none⟩ = some (.int .i64 a0_0) := bc_ B1 0 rfl; have hcz28_1 : w27.cell? ⟨g1, 1, none⟩ = some (.int .i64 a0_1) := bc_ B1 1 rfl; have hcz28_2 : w27.cell? ⟨g1, 2, none⟩ = some (.slice A0_2 l0_2.length c0_2) := bc_ B1 2 rfl; have hcz28_3 : w27.cell? ⟨g1, 3, none⟩ = some (.slice A0_3 l0_3.length c0_3) := bc_ B1 3 rfl; have hcz28_4 : w27.cell? ⟨g1, 4, none⟩ = some (.slice A0_4 l0_4.length c0_4) := bc_ B1 4 rfl) | ((with_reducible refine gate_callee (f:=31) rfl ?_); refine gL_ (some 61) rfl rfl Tryz.func31 rfl #[.slice A0_3 l0_3.length c0_3] rfl ?_; (with_reducible refine (right_Users.calls kj1 _ _ l0_3 t104 t105 _ ?side1 ?side2 A16.out).mono ?_); (case side1 => exact ca_ (Kd.C_below HR0_3.out HB.out)); (case side2 => exact HC0_3.out); rintro e w29 ⟨rfl, hb⟩; refine ⟨_, rfl, ?_⟩; replace B1 := bb_ B1 hb; replace HB := bs_ HB hb; (try clear hb); have hcz30_0 : w29.cell? ⟨g1, 0, none⟩ = some (.int .i64 a0_0) := bc_ B1 0 rfl; have hcz30_1 : w29.cell? ⟨g1, 1, none⟩ = some (.int .i64 a0_1) := bc_ B1 1 rfl; have hcz30_2 : w29.cell? ⟨g1, 2, none⟩ = some (.slice A0_2 l0_2.length c0_2) := bc_ B1 2 rfl; have hcz30_3 : w29.cell? ⟨g1, 3, none⟩ = some (.slice A0_3 l0_3.length c0_3) := bc_ B1 3 rfl; have hcz30_4 : w29.cell? ⟨g1, 4, none⟩ = some (.slice A0_4 l0_4.length c0_4) := bc_ B1 4 rfl) | ((with_reducible refine gate_callee (f:=32) rfl ?_); refine gL_ (some 80) rfl rfl Tryz.func32 rfl #[.slice A0_4 l0_4.length c0_4, .slice A0_3 l0_3.length c0_3] rfl ?_; (with_reducible refine (right_Grants.calls kj1 _ _ l0_4 _ _ l0_3 t106 t107 _ ?side1 ?side2 ?side3 ?side4 A18.out).mono ?_); (case side1 => exact ca_ (Kd.C_below HR0_4.out HB.out)); (case side2 => exact HC0_4.out); (case side3 => exact ca_ (Kd.C_below HR0_3.out HB.out)); (case side4 => exact HC0_3.out); rintro e w31 ⟨rfl, hb⟩; refine ⟨_, rfl, ?_⟩; replace B1 := bb_ B1 hb; replace HB := bs_ HB hb; (try clear hb); ))
       go_ret2
       exact fi_ (pbx HB)
     ·rw [if_neg c17] at H; have ⟨c17b0,c17b1⟩ := e0_ c17
      simp only [Option.some.injEq, Prod.mk.injEq] at H
      obtain ⟨rfl, rfl⟩ := H
      have hcz32_0 : wc.cell? ⟨g1, 0, none⟩ = some (.int .i64 a0_0) := bc_ B1 0 rfl
      have hcz32_1 : wc.cell? ⟨g1, 1, none⟩ = some (.int .i64 a0_1) := bc_ B1 1 rfl
      have hcz32_2 : wc.cell? ⟨g1, 2, none⟩ = some (.slice A0_2 l0_2.length c0_2) := bc_ B1 2 rfl
      have hcz32_3 : wc.cell? ⟨g1, 3, none⟩ = some (.slice A0_3 l0_3.length c0_3) := bc_ B1 3 rfl
      have hcz32_4 : wc.cell? ⟨g1, 4, none⟩ = some (.slice A0_4 l0_4.length c0_4) := bc_ B1 4 rfl
      go_wp2_with (first | ((with_reducible refine gate_callee (f:=30) rfl ?_); refine gL_ (some 44) rfl rfl Tryz.func30 rfl #[.slice A0_2 l0_2.length c0_2, .int .i64 a0_0, .int .i64 a0_1] rfl ?_; (with_reducible refine (zone_Wrong.calls kj1 _ _ l0_2 a0_0 a0_1 t102 t103 _ ?side1 ?side2 A14.out).mono ?_); (case side1 => exact ca_ (Kd.C_below HR0_2.out HB.out)); (case side2 => exact HC0_2.out); rintro e w33 ⟨rfl, hb⟩; refine ⟨_, rfl, ?_⟩; replace B1 := bb_ B1 hb; replace HB := bs_ HB hb; (try clear hb); have hcz34_0 : w33.cell? ⟨g1, 0, none⟩ = some (.int .i64 a0_0) := bc_ B1 0 rfl; have hcz34_1 : w33.cell? ⟨g1, 1, none⟩ = some (.int .i64 a0_1) := bc_ B1 1 rfl; have hcz34_2 : w33.cell? ⟨g1, 2, none⟩ = some (.slice A0_2 l0_2.length c0_2) := bc_ B1 2 rfl; have hcz34_3 : w33.cell? ⟨g1, 3, none⟩ = some (.slice A0_3 l0_3.length c0_3) := bc_ B1 3 rfl; have hcz34_4 : w33.cell? ⟨g1, 4, none⟩ = some (.slice A0_4 l0_4.length c0_4) := bc_ B1 4 rfl) | ((with_reducible refine gate_callee (f:=31) rfl ?_); refine gL_ (some 61) rfl rfl Tryz.func31 rfl #[.slice A0_3 l0_3.length c0_3] rfl ?_; (with_reducible refine (right_Users.calls kj1 _ _ l0_3 t104 t105 _ ?side1 ?side2 A16.out).mono ?_); (case side1 => exact ca_ (Kd.C_below HR0_3.out HB.out)); (case side2 => exact HC0_3.out); rintro e w35 ⟨rfl, hb⟩; refine ⟨_, rfl, ?_⟩; replace B1 := bb_ B1 hb; replace HB := bs_ HB hb; (try clear hb); ))
      go_ret2
      exact fi_ (pbx HB)
    ·rw [if_neg c15] at H; have ⟨c15b0,c15b1⟩ := e0_ c15
     simp only [Option.some.injEq, Prod.mk.injEq] at H
     obtain ⟨rfl, rfl⟩ := H
     have hcz36_0 : wc.cell? ⟨g1, 0, none⟩ = some (.int .i64 a0_0) := bc_ B1 0 rfl
     have hcz36_1 : wc.cell? ⟨g1, 1, none⟩ = some (.int .i64 a0_1) := bc_ B1 1 rfl
     have hcz36_2 : wc.cell? ⟨g1, 2, none⟩ = some (.slice A0_2 l0_2.length c0_2) := bc_ B1 2 rfl
     have hcz36_3 : wc.cell? ⟨g1, 3, none⟩ = some (.slice A0_3 l0_3.length c0_3) := bc_ B1 3 rfl
     have hcz36_4 : wc.cell? ⟨g1, 4, none⟩ = some (.slice A0_4 l0_4.length c0_4) := bc_ B1 4 rfl
     go_wp2_with (first | ((with_reducible refine gate_callee (f:=30) rfl ?_); refine gL_ (some 44) rfl rfl Tryz.func30 rfl #[.slice A0_2 l0_2.length c0_2, .int .i64 a0_0, .int .i64 a0_1] rfl ?_; (with_reducible refine (zone_Wrong.calls kj1 _ _ l0_2 a0_0 a0_1 t102 t103 _ ?side1 ?side2 A14.out).mono ?_); (case side1 => exact ca_ (Kd.C_below HR0_2.out HB.out)); (case side2 => exact HC0_2.out); rintro e w37 ⟨rfl, hb⟩; refine ⟨_, rfl, ?_⟩; replace B1 := bb_ B1 hb; replace HB := bs_ HB hb; (try clear hb); ))
     go_ret2
     exact fi_ (pbx HB)

end Go.Proofs.YtbboanfggaknjaaGreatDoor.X
/- policy.Parse: what it computes, and more rounds. -/
set_option linter.unusedVariables false
set_option linter.unusedSimpArgs false
namespace Go.Proofs.YtbboanfggaknjaaGreatDoor.X
open Go.RowKit Go.Proofs.YtbboanfggaknjaaGreatDoorW.PrintWords Go.Proofs.YtbboanfggaknjaaGreatDoorW.PrintLast Go.Proofs.YtbboanfggaknjaaGreatDoorW.PrintMore
abbrev T7 : Type := Int × Int × Int × Int × List S60 × List S62 × List S64
def fin7 (e n r c : Int) (zs : List S60) (us : List S62) (gs : List S64) : T7 := if e = 0 then (0, 0, r, c, zs, us, gs) else (e, n, 0, 0, [], [], [])
def bad7 (ended : Bool) (kind : Int) (n : Nat) (last : Int) : Prop := ended = false ∨ kind = 4 ∨ ¬ (n = 0 ↔ kind = 0) ∨ (0 < n ∧ kind < last)
instance (ended : Bool) (kind : Int) (n : Nat) (last : Int) : Decidable (bad7 ended kind n last) := by unfold bad7; exact inferInstance
def policy_Parse.l (k : Nat) : Nat → Int → Nat → ByteArray → Int → Int → List S60 → List S62 → List S64 → Option T7
 | 0, _, _, _, _, _, _, _, _ => none
 | m + 1, last, n, rest, r, c, zs, us, gs =>
  if rest.toList ≠ [] ∨ n = 0 then
   if n < 100000 then
    (strings_Cut.f rest ⟨#[10]⟩).bind fun b => (strings_Split.f b.1 ⟨#[32]⟩).bind fun ws => (policy_add.f k r c zs us gs ws).bind fun q =>
    if bad7 b.2.2 q.1 n last then some (1, ((n : Int) + 1), 0, 0, [], [], [])
    else policy_Parse.l k m q.1 (n + 1) b.2.1 q.2.1 q.2.2.1 q.2.2.2.1 q.2.2.2.2.1 q.2.2.2.2.2
   else none
  else (policy_Wrong.f k r c zs us gs).bind fun e => some (fin7 e.2 e.1 r c zs us gs)
def policy_Parse.f (k : Nat) (a0 : ByteArray) : Option T7 :=
 if (a0.size : Int) > 4000 then some (3, 0, 0, 0, [], [], []) else policy_Parse.l k k 4 0 a0 0 0 [] [] []
end Go.Proofs.YtbboanfggaknjaaGreatDoor.X
