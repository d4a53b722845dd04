/- Contracts of the functions that the law PolicyReads reaches, and what they answer (a session's own texts, joined; part 6). -/
import Derived.Deep.Slices
import Derived.ChangeArms
import Derived.SizedLaws
import Derived.OpenShut
import Derived.Lib.TrailingZeros
import Derived.Lib.SplitLaws
import Derived.Test.YtbboanfggaknjaaGreatDoorBPolicyReads5
set_option maxHeartbeats 8000000
set_option maxRecDepth 100000
/- The reference's reading of a policy, walked. -/
set_option linter.unusedVariables false
set_option linter.unusedSimpArgs false
namespace Go.Proofs.YtbboanfggaknjaaGreatDoor.X
open Go.RowKit Go.Proofs.YtbboanfggaknjaaGreatDoorW.PrintWords Go.Proofs.YtbboanfggaknjaaGreatDoorW.PrintLast Go.Proofs.YtbboanfggaknjaaGreatDoorW.PrintMore
def rbad7 (kind : Int) (n : Nat) (last : Int) : Prop := kind = 0 ∨ ¬ (n = 0 ↔ kind = 1) ∨ kind < last
instance (kind : Int) (n : Nat) (last : Int) : Decidable (rbad7 kind n last) := by unfold rbad7; infer_instance
def oculusref07_Parse.l (k : Nat) : List ByteArray → Int → Nat → Int → Int → List S60 → List S62 → List S64 → Option T7
 | [], last, n, r, c, zs, us, gs => (oculusref07_Wrong.f k r c zs us gs).bind fun e => some (fin7 e.2 e.1 r c zs us gs)
 | s :: t, last, n, r, c, zs, us, gs => if s.size ≤ 100000 then if n < 100000 then (oculusref07_line.f k r c zs us gs s).bind fun R =>
   if rbad7 R.1 n last then some (1, ((n : Int) + 1), 0, 0, [], [], []) else oculusref07_Parse.l k t R.1 (n + 1) R.2.1 R.2.2.1 R.2.2.2.1 R.2.2.2.2.1 R.2.2.2.2.2 else none else none
def oculusref07_Parse.f (k : Nat) (a0 : ByteArray) : Option T7 :=
 if (a0.size : Int) > 4000 then some (3, 0, 0, 0, [], [], []) else (oculusref07_Lines.f k a0).bind fun L => oculusref07_Parse.l k L 0 0 0 0 [] [] []
theorem cells7_ {W : World} {g : Nat} {t : TypeId} {a0 a1 a2 a3 a4 a5 a6 : Value} (h : W.heap[g]? = some (.cells #[a0, a1, a2, a3, a4, a5, a6] t (0, 0))) : W.cell? ⟨g, 0, none⟩ = some a0 ∧ W.cell? ⟨g, 1, none⟩ = some a1 ∧ W.cell? ⟨g, 2, none⟩ = some a2 ∧ W.cell? ⟨g, 3, none⟩ = some a3 ∧ W.cell? ⟨g, 4, none⟩ = some a4 ∧ W.cell? ⟨g, 5, none⟩ = some a5 ∧ W.cell? ⟨g, 6, none⟩ = some a6 := ⟨(blk_cell h 0).trans rfl, (blk_cell h 1).trans rfl, (blk_cell h 2).trans rfl, (blk_cell h 3).trans rfl, (blk_cell h 4).trans rfl, (blk_cell h 5).trans rfl, (blk_cell h 6).trans rfl⟩
def set7 (W : World) (g : Nat) (b0 b1 b2 b3 b4 b5 b6 : Value) : World := ((((((W.setCell ⟨g, 0, none⟩ b0).setCell ⟨g, 1, none⟩ b1).setCell ⟨g, 2, none⟩ b2).setCell ⟨g, 3, none⟩ b3).setCell ⟨g, 4, none⟩ b4).setCell ⟨g, 5, none⟩ b5).setCell ⟨g, 6, none⟩ b6
theorem put7_ {W : World} {g t : Nat} {a0 a1 a2 a3 a4 a5 a6 : Value} (h : W.heap[g]? = some (.cells #[a0, a1, a2, a3, a4, a5, a6] t (0, 0))) (b0 b1 b2 b3 b4 b5 b6 : Value) : (set7 W g b0 b1 b2 b3 b4 b5 b6).heap[g]? = some (.cells #[b0, b1, b2, b3, b4, b5, b6] t (0, 0)) := by
 unfold set7
 have h0 := blk_set h 0 b0
 have h1 := blk_set h0 1 b1
 have h2 := blk_set h1 2 b2
 have h3 := blk_set h2 3 b3
 have h4 := blk_set h3 4 b4
 have h5 := blk_set h4 5 b5
 have h6 := blk_set h5 6 b6
 simpa using h6
theorem below7_ {w W : World} {g : Nat} (h : Below w.heap.size w W) (hg : w.heap.size ≤ g) (b0 b1 b2 b3 b4 b5 b6 : Value) : Below w.heap.size w (set7 W g b0 b1 b2 b3 b4 b5 b6) := below_set (below_set (below_set (below_set (below_set (below_set (below_set h hg) hg) hg) hg) hg) hg) hg
theorem R_set7 {α : Type} {d : Kd α} {e b : Nat} {w : World} {ok : Nat → Prop} {v : Value} {xs : List α} {g t : Nat} {a0 a1 a2 a3 a4 a5 a6 : Value} (h : d.R e w b ok v xs) (hP : w.heap[g]? = some (.cells #[a0, a1, a2, a3, a4, a5, a6] t (0, 0))) (ht : ∀ q, q ∈ e :: d.E → q ≠ t) (b0 b1 b2 b3 b4 b5 b6 : Value) : d.R e (set7 w g b0 b1 b2 b3 b4 b5 b6) b ok v xs := by
 have h0 := blk_set hP 0 b0
 have h1 := blk_set h0 1 b1
 have h2 := blk_set h1 2 b2
 have h3 := blk_set h2 3 b3
 have h4 := blk_set h3 4 b4
 have h5 := blk_set h4 5 b5
 exact Kd.R_set (Kd.R_set (Kd.R_set (Kd.R_set (Kd.R_set (Kd.R_set (Kd.R_set h hP ht 0 b0) h0 ht 1 b1) h1 ht 2 b2) h2 ht 3 b3) h3 ht 4 b4) h4 ht 5 b5) h5 ht 6 b6
theorem ne32_60 : ∀ q, q ∈ 60 :: k60.E → q ≠ 32 := by decide
theorem ne32_62 : ∀ q, q ∈ 62 :: k62.E → q ≠ 32 := by decide
theorem ne32_64 : ∀ q, q ∈ 64 :: k64.E → q ≠ 32 := by decide
def RAns7 (w w' : World) (en : Ending) (e n r c : Int) (zs : List S60) (us : List S62) (gs : List S64) : Prop :=
 ∃ vz vu vg, en = .returned (.agg #[.int .i64 r, .int .i64 c, vz, vu, vg, .int .i64 n, .int .i64 e]) ∧ k60.R 60 w' w.heap.size (fun _ => True) vz zs ∧ k62.R 62 w' w.heap.size (fun _ => True) vu us ∧ k64.R 64 w' w.heap.size (fun _ => True) vg gs ∧ Below w.heap.size w w'
theorem rparse_long (a0 : ByteArray) (w : World) (h : (a0.size : Int) > 4000) :
  Calls Tryz.prog 6 #[.string a0] w fun en w' => RAns7 w w' en 3 0 0 0 [] [] [] := by
 have hu := Tryz.underlying32
 have hu27 := Tryz.underlying27
 have hd1 : decide ((a0.size : Int) > 4000) = true := decide_eq_true h
 have hd2 : decide (4000 < a0.size) = true := decide_eq_true (by omega)
 clear h
 go_enter Tryz.func6, Tryz.ntmps6
 go_upto_region 1 with fail
 have HG := Aside0.mk (blk_new w (.cells #[.int .i64 0, .int .i64 0, .slice none 0 0, .slice none 0 0, .slice none 0 0, .int .i64 0, .int .i64 0] 32))
 have HB := Aside0.mk (new_below w (.cells #[.int .i64 0, .int .i64 0, .slice none 0 0, .slice none 0 0, .slice none 0 0, .int .i64 0, .int .i64 0] 32))
 generalize w.alloc (.cells #[.int .i64 0, .int .i64 0, .slice none 0 0, .slice none 0 0, .slice none 0 0, .int .i64 0, .int .i64 0] 32) = w1 at HG HB ⊢
 obtain ⟨z0, z1, z2, z3, z4, z5, z6⟩ := cells7_ HG.out
 have f0 := blk_frozen HG.out 0
 have f1 := blk_frozen HG.out 1
 have f2 := blk_frozen HG.out 2
 have f3 := blk_frozen HG.out 3
 have f4 := blk_frozen HG.out 4
 have f5 := blk_frozen HG.out 5
 have f6 := blk_frozen HG.out 6
 go_wp2
 refine bodyPost_ret (results_cell_row rfl _ _ w.heap.size 32 _ (0, 0) _ rfl (put7_ HG.out _ _ _ _ _ _ _) hu rfl (by kernel_rfl)) rfl ?_
 exact ⟨_, _, _, rfl, Kd.R_nil _ _ _ _ _, Kd.R_nil _ _ _ _ _, Kd.R_nil _ _ _ _ _, below7_ HB.out (Nat.le_refl _) _ _ _ _ _ _ _⟩
structure RBase (w w0 : World) (g1 : Nat) (L : List ByteArray) (vl : Value) (g : Nat) (cs : Array Value) : Prop where
 hB : Below w.heap.size w w0
 hA : w0.heap[g1]? = some (.cells #[.int .i64 0, .int .i64 0, .slice none 0 0, .slice none 0 0, .slice none 0 0, .int .i64 0, .int .i64 0] 32 (0, 0))
 hP : w0.heap[g]? = some (.cells cs 27 (0, 0))
 hL : Kd.R Kd.string 9 w0 w.heap.size (fun _ => True) vl L
 hg : w.heap.size ≤ g
 hg1 : w.heap.size ≤ g1
abbrev set5 (W : World) (g : Nat) (b0 b1 b2 b3 b4 : Value) : World := ((((W.setCell ⟨g, 0, none⟩ b0).setCell ⟨g, 1, none⟩ b1).setCell ⟨g, 2, none⟩ b2).setCell ⟨g, 3, none⟩ b3).setCell ⟨g, 4, none⟩ b4
theorem size_set (W : World) (g i : Nat) (v : Value) : (W.setCell ⟨g, i, none⟩ v).heap.size = W.heap.size := by simp [World.setCell]
theorem size_set5 (W : World) (g : Nat) (b0 b1 b2 b3 b4 : Value) : (set5 W g b0 b1 b2 b3 b4).heap.size = W.heap.size := by simp only [set5, size_set]
theorem below_both {b : Nat} {w w1 : World} (h : Below b w w1) (g i : Nat) (v : Value) : Below b (w.setCell ⟨g, i, none⟩ v) (w1.setCell ⟨g, i, none⟩ v) :=
 ⟨h.os, h.tape, h.output, by rw [size_set, size_set]; exact h.size, fun k hk => by have := h.block k hk; simp [World.setCell, Array.getElem?_modify, this]⟩
theorem below_both5 {b : Nat} {w w1 : World} (h : Below b w w1) (g : Nat) (b0 b1 b2 b3 b4 : Value) : Below b (set5 w g b0 b1 b2 b3 b4) (set5 w1 g b0 b1 b2 b3 b4) := below_both (below_both (below_both (below_both (below_both h _ _ _) _ _ _) _ _ _) _ _ _) _ _ _
theorem far5 {w : World} {g g' t : Nat} {cs : Array Value} (h : w.heap[g']? = some (.cells cs t (0, 0))) (hn : g' ≠ g) (b0 b1 b2 b3 b4 : Value) : (set5 w g b0 b1 b2 b3 b4).heap[g']? = some (.cells cs t (0, 0)) := blk_far (p := ⟨g, 4, none⟩) (blk_far (p := ⟨g, 3, none⟩) (blk_far (p := ⟨g, 2, none⟩) (blk_far (p := ⟨g, 1, none⟩) (blk_far (p := ⟨g, 0, none⟩) h hn _) hn _) hn _) hn _) hn _
theorem ne9_27 : ∀ q, q ∈ 9 :: (Kd.string).E → q ≠ 27 := by decide
theorem vset5 {gx : Nat} {a0 a1 a2 a3 a4 : Value} {w0 w : World} {vz vu vg : Value} {zs : List S60} {us : List S62} {gs : List S64} (h : IsV gx #[a0, a1, a2, a3, a4] w0 w vz vu vg zs us gs) (hg : w0.heap.size ≤ gx) (b0 b1 b2 b3 b4 : Value) : IsV gx #[b0, b1, b2, b3, b4] w0 (set5 w gx b0 b1 b2 b3 b4) vz vu vg zs us gs :=
 ⟨R_set5 h.hz h.hx ne26_61 _ _ _ _ _, R_set5 h.hu h.hx ne26_65 _ _ _ _ _, R_set5 h.hr h.hx ne26_67 _ _ _ _ _, below5_ h.hB hg _ _ _ _ _, put5_ h.hx _ _ _ _ _⟩
theorem rbase_set {w w0 : World} {g1 : Nat} {L : List ByteArray} {vl : Value} {g : Nat} {a0 a1 a2 a3 a4 : Value} (h : RBase w w0 g1 L vl g #[a0, a1, a2, a3, a4]) (b0 b1 b2 b3 b4 : Value) : RBase w (set5 w0 g b0 b1 b2 b3 b4) g1 L vl g #[b0, b1, b2, b3, b4] :=
 ⟨below5_ h.hB h.hg _ _ _ _ _, far5 h.hA (blk_other h.hA h.hP (by decide)) _ _ _ _ _, put5_ h.hP _ _ _ _ _, R_set5 h.hL h.hP ne9_27 _ _ _ _ _, h.hg, h.hg1⟩
theorem vmove {w w0 w1 : World} {g1 : Nat} {L : List ByteArray} {vl : Value} {g gx : Nat} {cx : Array Value} {a0 a1 a2 a3 a4 : Value} {vz vu vg : Value} {zs : List S60} {us : List S62} {gs : List S64} (h : RBase w w0 g1 L vl g #[a0, a1, a2, a3, a4]) (hV : IsV gx cx w0 w1 vz vu vg zs us gs) (b0 b1 b2 b3 b4 : Value) : IsV g #[b0, b1, b2, b3, b4] (set5 w0 g b0 b1 b2 b3 b4) (set5 w1 g b0 b1 b2 b3 b4) vz vu vg zs us gs := by
 have hp := blk_below h.hP hV.hB
 refine ⟨?_, ?_, ?_, ?_, put5_ hp _ _ _ _ _⟩
 ·rw [size_set5]; exact R_set5 hV.hz hp ne26_61 _ _ _ _ _
 ·rw [size_set5]; exact R_set5 hV.hu hp ne26_65 _ _ _ _ _
 ·rw [size_set5]; exact R_set5 hV.hr hp ne26_67 _ _ _ _ _
 ·rw [size_set5]; exact below_both5 hV.hB _ _ _ _ _ _
theorem below_trans_ {w w0 w1 : World} (h : Below w.heap.size w w0) (k : Below w0.heap.size w0 w1) : Below w.heap.size w w1 := below_step h k
def RRel7 (k : Nat) (w : World) (g1 : Nat) (L : List ByteArray) (vl : Value) (g kq : Nat) (v4 v6 : Value) (w' : World) (R : T7) : Prop :=
 ∃ (last : Int) (n : Nat) (rest : List ByteArray) (r c : Int) (vz vu vg : Value) (zs : List S60) (us : List S62) (gs : List S64) (w0 : World), v4 = .int .i64 last ∧ v6 = .int .i64 (n : Int) ∧ Aside0 (RBase w w0 g1 L vl g #[.int .i64 r, .int .i64 c, vz, vu, vg]) ∧ Aside0 (IsV g #[.int .i64 r, .int .i64 c, vz, vu, vg] w0 w' vz vu vg zs us gs) ∧ Aside0 (L.drop n = rest ∧ kq = rest.length) ∧ Aside0 (oculusref07_Parse.l k rest last n r c zs us gs = some R)
theorem rpar_ways (kind : Int) (n : Nat) (last : Int) :
  (rbad7 kind n last ∧ (kind == 0) = true) ∨ (rbad7 kind n last ∧ (kind == 0) = false ∧ ¬ (((n : Int) == 0) = (kind == 1))) ∨ (rbad7 kind n last ∧ (kind == 0) = false ∧ (((n : Int) == 0) = (kind == 1)) ∧ kind < last) ∨ (¬ rbad7 kind n last ∧ (kind == 0) = false ∧ (((n : Int) == 0) = (kind == 1)) ∧ ¬ kind < last) := by
 have e0 : ((n : Int) == 0) = decide (n = 0) := by rw [Bool.eq_iff_iff]; simp only [beq_iff_eq, decide_eq_true_eq]; omega
 have e1 : (kind == 1) = decide (kind = 1) := rfl
 have e2 : (((n : Int) == 0) = (kind == 1)) ↔ (n = 0 ↔ kind = 1) := by rw [e0, e1, decide_eq_decide]
 rw [e2]
 unfold rbad7
 by_cases h0 : kind = 0
 ·exact Or.inl ⟨Or.inl h0, beq_iff_eq.mpr h0⟩
 ·have h0' : (kind == 0) = false := beq_eq_false_iff_ne.mpr h0
  by_cases h1 : (n = 0 ↔ kind = 1)
  ·by_cases h2 : kind < last
   ·exact Or.inr (Or.inr (Or.inl ⟨Or.inr (Or.inr h2), h0', h1, h2⟩))
   ·exact Or.inr (Or.inr (Or.inr ⟨by rintro (h | h | h); exact h0 h; exact h h1; exact h2 h, h0', h1, h2⟩))
  ·exact Or.inr (Or.inl ⟨Or.inr (Or.inl h1), h0', h1⟩)
theorem rparse_short (k : Nat) (a0 : ByteArray) (L : List ByteArray) (e9 n9 r9 c9 : Int) (zs9 : List S60) (us9 : List S62) (gs9 : List S64) (w : World) (h : ¬ (a0.size : Int) > 4000) (hL : oculusref07_Lines.f k a0 = some L) (H0 : oculusref07_Parse.l k L 0 0 0 0 [] [] [] = some (e9, n9, r9, c9, zs9, us9, gs9)) :
  Calls Tryz.prog 6 #[.string a0] w fun en w' => RAns7 w w' en e9 n9 r9 c9 zs9 us9 gs9 := by
 have HL := Aside0.mk H0
 have HLL := Aside0.mk hL
 clear H0 hL
 have hu := Tryz.underlying32
 have hu27 := Tryz.underlying27
 have hu52 := Tryz.underlying52
 have hd1 : decide ((a0.size : Int) > 4000) = false := decide_eq_false h
 have hd2 : decide (4000 < a0.size) = false := decide_eq_false (by omega)
 clear h
 go_enter Tryz.func6, Tryz.ntmps6
 go_upto_region 1 with fail
 have HG := Aside0.mk (blk_new w (.cells #[.int .i64 0, .int .i64 0, .slice none 0 0, .slice none 0 0, .slice none 0 0, .int .i64 0, .int .i64 0] 32))
 have HB := Aside0.mk (new_below w (.cells #[.int .i64 0, .int .i64 0, .slice none 0 0, .slice none 0 0, .slice none 0 0, .int .i64 0, .int .i64 0] 32))
 generalize w.alloc (.cells #[.int .i64 0, .int .i64 0, .slice none 0 0, .slice none 0 0, .slice none 0 0, .int .i64 0, .int .i64 0] 32) = w1 at HG HB ⊢
 obtain ⟨g1, hg1⟩ : ∃ g1, w.heap.size = g1 := ⟨_, rfl⟩
 have HG1 : Aside0 (w.heap.size ≤ g1) := Aside0.mk (by omega)
 rw [hg1] at HG ⊢
 clear hg1
 go_upto_region 4 with fail
 have HP := Aside0.mk (blk_new w1 (.cells #[.int .i64 0, .int .i64 0, .slice none 0 0, .slice none 0 0, .slice none 0 0] 27))
 have hb2 := new_below w1 (.cells #[.int .i64 0, .int .i64 0, .slice none 0 0, .slice none 0 0, .slice none 0 0] 27)
 have HG2 : Aside0 (w.heap.size ≤ w1.heap.size) := Aside0.mk (below_size HB.out)
 replace HB := Aside0.mk (below_step HB.out hb2)
 replace HG := Aside0.mk (blk_below HG.out hb2)
 clear hb2
 generalize w1.alloc (.cells #[.int .i64 0, .int .i64 0, .slice none 0 0, .slice none 0 0, .slice none 0 0] 27) = w2 at HP HB HG ⊢
 generalize w1.heap.size = g2 at HP HG2 ⊢
 go_wp2_with (go_at_call 14; (with_reducible refine (oculusref07_Lines.calls k a0 L _ HLL.out).mono ?_); rintro e w5 ⟨vl, rfl, hR, hb⟩; have hbb := below_size HB.out; replace HB := Aside0.mk (below_step HB.out hb); replace HG := Aside0.mk (blk_below HG.out hb); replace HP := Aside0.mk (blk_below HP.out hb); obtain ⟨Al, cl, rfl⟩ := Kd.R_slice hR; have HR : Aside0 (Kd.R Kd.string 9 w5 w.heap.size (fun _ => True) (.slice Al L.length cl) L) := Aside0.mk (Kd.R_lower hR hbb); clear hR hb hbb)
 go_loopg [4, 6] L.length (fun kq v4 v6 w' => RRel7 k w g1 L (.slice Al L.length cl) g2 kq v4 v6 w' (e9, n9, r9, c9, zs9, us9, gs9))
 case atStart => exact ⟨_, 0, _, _, _, _, _, _, _, _, _, _, rfl, rfl, ⟨⟨HB.out, HG.out, HP.out, HR.out, HG2.out, HG1.out⟩⟩, ⟨⟨Kd.R_nil _ _ _ _ _, Kd.R_nil _ _ _ _ _, Kd.R_nil _ _ _ _ _, Below.refl _ _, HP.out⟩⟩, ⟨rfl, rfl⟩, HL⟩
 case round =>
  clear HL HLL HG HB HP HR HG1 HG2
  obtain ⟨last, n, rest, r, c, vz, vu, vg, zs, us, gs, w0, rfl, rfl, HO, HV, HK, HL⟩ := hrel
  cases rest with
  | nil =>
   obtain ⟨Az, cz, hz⟩ := Kd.R_slice HV.out.hz
   subst hz
   obtain ⟨Au, cu, hz⟩ := Kd.R_slice HV.out.hu
   subst hz
   obtain ⟨Ag, cg, hz⟩ := Kd.R_slice HV.out.hr
   subst hz
   have H := HL.out
   clear HL
   simp only [oculusref07_Parse.l] at H
   obtain ⟨⟨at9, er9⟩, A1, H⟩ := Option.bind_eq_some_iff.mp H
   have H4 := Aside0.mk H
   have HA1 := Aside0.mk A1
   clear H A1
   have hle : L.length ≤ n := by
    have := congrArg List.length HK.out.1
    simp at this
    omega
   have dlt : decide ((n : Int) < (L.length : Int)) = false := decide_eq_false (by omega)
   have dlt2 : decide (n < L.length) = false := decide_eq_false (by omega)
   have dlt3 : ¬ n < L.length := by omega
   clear hle
   have HA := Aside0.mk (blk_below HO.out.hA HV.out.hB)
   have HP := Aside0.mk (blk_below HO.out.hP HV.out.hB)
   have HT := Aside0.mk (below_trans_ HO.out.hB HV.out.hB)
   obtain ⟨y0, y1, y2, y3, y4⟩ := cells5_ HP.out
   have HTz := Aside0.mk (Kd.R_reads' HV.out.hz).2
   have HTu := Aside0.mk (Kd.R_reads' HV.out.hu).2
   have HTg := Aside0.mk (Kd.R_reads' HV.out.hr).2
   have tb := beq_dec er9 0
   go_upto_region 14 with (go_at_call 16; (with_reducible refine (oculusref07_Wrong.calls k r c Az cz zs Au cu us Ag cg gs at9 er9 _ HTz.out.2 HTz.out.1 HTu.out.2 HTu.out.1 HTg.out.2 HTg.out.1 HA1.out).mono ?_); rintro e w5 ⟨rfl, hb⟩; replace HV := Aside0.mk (HV.out.below hb); replace HA := Aside0.mk (blk_below HA.out hb); replace HT := Aside0.mk (below_step HT.out hb); clear hb)
   have hb := new_below w5 (.cells #[.int .i64 at9, .int .i64 er9] 52)
   have H9 := Aside0.mk (blk_new w5 (.cells #[.int .i64 at9, .int .i64 er9] 52))
   replace HV := Aside0.mk (HV.out.below hb)
   replace HA := Aside0.mk (blk_below HA.out hb)
   replace HT := Aside0.mk (below_step HT.out hb)
   clear hb y0 y1 y2 y3 y4 HTz HTu HTg HP dlt dlt2 dlt3
   generalize w5.alloc (.cells #[.int .i64 at9, .int .i64 er9] 52) = w6 at H9 HV HA HT ⊢
   generalize w5.heap.size = g9 at H9 ⊢
   obtain ⟨⟨v0, v1⟩, _⟩ := celg2 H9.out
   obtain ⟨y0, y1, y2, y3, y4⟩ := cells5_ HV.out.hx
   obtain ⟨z0, z1, z2, z3, z4, z5, z6⟩ := cells7_ HA.out
   have f0 := blk_frozen HA.out 0
   have f1 := blk_frozen HA.out 1
   have f2 := blk_frozen HA.out 2
   have f3 := blk_frozen HA.out 3
   have f4 := blk_frozen HA.out 4
   have f5 := blk_frozen HA.out 5
   have f6 := blk_frozen HA.out 6
   rcases tb with ⟨b0, b1, b2⟩ | ⟨b0, b1, b2⟩
   ·have H := H4.out
    have e : fin7 er9 at9 r c zs us gs = (0, 0, r, c, zs, us, gs) := if_pos b2
    rw [e] at H
    simp only [Option.some.injEq, Prod.mk.injEq] at H
    obtain ⟨rfl, rfl, rfl, rfl, rfl, rfl, rfl⟩ := H
    clear H4 e b2
    go_wp2
    refine bodyPost_ret (results_cell_row rfl _ _ g1 32 _ (0, 0) _ rfl (put7_ HA.out _ _ _ _ _ _ _) hu rfl (by kernel_rfl)) rfl ?_
    exact ⟨_, _, _, rfl, Kd.R_lower (R_set7 HV.out.hz HA.out ne32_60 _ _ _ _ _ _ _) (below_size HO.out.hB), Kd.R_lower (R_set7 HV.out.hu HA.out ne32_62 _ _ _ _ _ _ _) (below_size HO.out.hB), Kd.R_lower (R_set7 HV.out.hr HA.out ne32_64 _ _ _ _ _ _ _) (below_size HO.out.hB), below7_ HT.out HO.out.hg1 _ _ _ _ _ _ _⟩
   ·have H := H4.out
    have e : fin7 er9 at9 r c zs us gs = (er9, at9, 0, 0, [], [], []) := if_neg b2
    rw [e] at H
    simp only [Option.some.injEq, Prod.mk.injEq] at H
    obtain ⟨rfl, rfl, rfl, rfl, rfl, rfl, rfl⟩ := H
    clear H4 e
    go_wp2
    refine bodyPost_ret (results_cell_row rfl _ _ g1 32 _ (0, 0) _ rfl (put7_ HA.out _ _ _ _ _ _ _) hu rfl (by kernel_rfl)) rfl ?_
    exact ⟨_, _, _, rfl, Kd.R_nil _ _ _ _ _, Kd.R_nil _ _ _ _ _, Kd.R_nil _ _ _ _ _, below7_ HT.out HO.out.hg1 _ _ _ _ _ _ _⟩
  | cons s t =>
   have H := HL.out
   clear HL
   simp only [oculusref07_Parse.l] at H
   by_cases c1 : s.size ≤ 100000
   case neg => rw [if_neg c1] at H; cases H
   by_cases c2 : n < 100000
   case neg => rw [if_pos c1, if_neg c2] at H; cases H
   rw [if_pos c1, if_pos c2] at H
   obtain ⟨⟨kind, r1, c1', zs1, us1, gs1⟩, A1, H⟩ := Option.bind_eq_some_iff.mp H
   replace H : (if rbad7 kind n last then some (1, ((n : Int) + 1), 0, 0, [], [], []) else oculusref07_Parse.l k t kind (n + 1) r1 c1' zs1 us1 gs1) = some (e9, n9, r9, c9, zs9, us9, gs9) := H
   have H4 := Aside0.mk H
   have HA1 := Aside0.mk A1
   have HC1 := Aside0.mk c1
   have hn1 : (n : Int) ≤ 100000 := by omega
   clear H A1 c1 c2
   have hlt : n < L.length := by
    have := congrArg List.length HK.out.1
    simp at this
    omega
   have hget : wrd L (n : Int) = s := by
    have := HK.out.1
    rw [List.drop_eq_getElem_cons hlt] at this
    rw [← (List.cons.inj this).1]
    unfold wrd rdOf
    simp [hlt]
   have HD : Aside0 (L.drop (n + 1) = t) := ⟨by
    have := HK.out.1
    rw [List.drop_eq_getElem_cons hlt] at this
    exact (List.cons.inj this).2⟩
   obtain ⟨ad, hAd, hat⟩ := words_at (words_of HO.out.hL) (by omega)
   have hx0 : w0.cell? (ad.add n) = some (.string s) := (hat n hlt).trans (by rw [hget])
   subst hAd
   obtain ⟨p0, p1, p2, p3, p4⟩ := cells5_ HO.out.hP
   have HS : Aside0 (∀ wx, Below w0.heap.size w0 wx → wx.cell? ⟨g2, 0, none⟩ = some (.int .i64 r) ∧ wx.cell? ⟨g2, 1, none⟩ = some (.int .i64 c) ∧ wx.cell? ⟨g2, 2, none⟩ = some (vz) ∧ wx.cell? ⟨g2, 3, none⟩ = some (vu) ∧ wx.cell? ⟨g2, 4, none⟩ = some (vg) ∧ wx.cell? (ad.add n) = some (.string s)) := ⟨fun wx hb => ⟨cell_below p0 hb, cell_below p1 hb, cell_below p2 hb, cell_below p3 hb, cell_below p4 hb, cell_below hx0 hb⟩⟩
   have dlt : decide ((n : Int) < (L.length : Int)) = true := decide_eq_true (by omega)
   have dlt2 : decide (n < L.length) = true := decide_eq_true hlt
   have hq : (0 ≤ (n : Int) ∧ (n : Int) < (L.length : Int)) = True := eq_true (by omega)
   clear hat hget hx0 p0 p1 p2 p3 p4
   go_upto_block 1 with fail
   go_upto_region 9 with fail
   go_cut [7, 8] (fun v7 v8 wx => ∃ g7 vz1 vu1 vg1, v7 = .pointer (some ⟨g7, 0, none⟩) ∧ v8 = .int .i64 kind ∧ Aside0 (IsV g7 #[.int .i64 r1, .int .i64 c1', vz1, vu1, vg1] w0 wx vz1 vu1 vg1 zs1 us1 gs1) ∧ Aside0 (w0.heap.size ≤ g7))
   case first =>
    have hbd : Below wr.heap.size wr wr.drew := pw_below_drewN (Below.refl _ wr) 1
    refine start_ (n := 12) (S := fun w' => w'.cell? ⟨g2, 0, none⟩ = some (.int .i64 r) ∧ w'.cell? ⟨g2, 1, none⟩ = some (.int .i64 c) ∧ w'.cell? ⟨g2, 2, none⟩ = some (vz) ∧ w'.cell? ⟨g2, 3, none⟩ = some (vu) ∧ w'.cell? ⟨g2, 4, none⟩ = some (vg) ∧ w'.cell? (ad.add n) = some (.string s)) (ds := [10, 11]) #[false, false, false, false, false, false, false, false, false, false, false, false] (by kernel_rfl) rfl rfl (HS.out _ (below_step HV.out.hB hbd)) (fun hHeld => ?_)
    replace HV := Aside0.mk (HV.out.below hbd)
    clear hbd
    generalize wr.drew = w9 at HV hHeld ⊢
    refine take_ (i := 0) (N := some 23) (v := ?_) (a' := ?_) #[true, false, false, false, false, false, false, false, false, false, false, false] rfl rfl (by kernel_rfl) (fun _ _ _ h => h) (Or.inl ⟨by rfl, ?_⟩) hHeld ?_ ?_
    rotate_left
    ·rintro w' ⟨s0_, s1_, s2_, s3_, s4_, s5_⟩; go_simp; with_reducible rfl
    rotate_left
    ·simp only [Act.put, List.setIfInBounds_toArray, List.set_cons_zero, List.set_cons_succ, i64_w, i32_w]; rfl
    refine pure_ (i := 1) (N := some 24) (v := ?_) (a' := ?_) #[true, true, false, false, false, false, false, false, false, false, false, false] rfl rfl (by kernel_rfl) (fun _ _ _ h => h) (Or.inl ⟨by rfl, ?_⟩) ?_ ?_
    rotate_left
    ·intro w'; go_simp; with_reducible rfl
    rotate_left
    ·simp only [Act.put, List.setIfInBounds_toArray, List.set_cons_zero, List.set_cons_succ, i64_w, i32_w]; rfl
    refine pure_ (i := 2) (N := some 25) (v := ?_) (a' := ?_) #[true, true, true, false, false, false, false, false, false, false, false, false] rfl rfl (by kernel_rfl) (fun _ _ _ h => h) (Or.inl ⟨by rfl, ?_⟩) ?_ ?_
    rotate_left
    ·intro w'; go_simp; with_reducible rfl
    rotate_left
    ·simp only [Act.put, List.setIfInBounds_toArray, List.set_cons_zero, List.set_cons_succ, i64_w, i32_w]; rfl
    refine pure_ (i := 3) (N := some 26) (v := ?_) (a' := ?_) #[true, true, true, true, false, false, false, false, false, false, false, false] rfl rfl (by kernel_rfl) (fun _ _ _ h => h) (Or.inl ⟨by rfl, ?_⟩) ?_ ?_
    rotate_left
    ·intro w'; go_simp; with_reducible rfl
    rotate_left
    ·simp only [Act.put, List.setIfInBounds_toArray, List.set_cons_zero, List.set_cons_succ, i64_w, i32_w]; rfl
    refine take_ (i := 4) (N := some 27) (v := ?_) (a' := ?_) #[true, true, true, true, true, false, false, false, false, false, false, false] rfl rfl (by kernel_rfl) (fun _ _ _ h => h) (Or.inl ⟨by rfl, ?_⟩) hHeld ?_ ?_
    rotate_left
    ·rintro w' ⟨s0_, s1_, s2_, s3_, s4_, s5_⟩; go_simp; with_reducible rfl
    rotate_left
    ·simp only [Act.put, List.setIfInBounds_toArray, List.set_cons_zero, List.set_cons_succ, i64_w, i32_w]; rfl
    refine wpAnyLast_ready (rs := [5, 9]) (by kernel_rfl) (by simp) (AllReadyL.cons rfl (by decide) (fun K hK => ?_) (AllReadyL.cons rfl (by decide) (fun K hK => ?_) AllReadyL.nil))
    ·have el : Array.setIfInBounds #[true, true, true, true, true, false, false, false, false, false, false, false] 5 true = #[true, true, true, true, true, true, false, false, false, false, false, false] := rfl
     rw [el] at hK
     clear el
     refine goes_ Tryz.func15 (by kernel_rfl) rfl #[.agg #[.int .i64 r, .int .i64 c, vz, vu, vg], .string s] (by rfl) rfl rfl (by (try simp only [List.map_toArray, List.map_cons, List.map_nil]); first | done | rfl) ?_
     with_reducible refine (oculusref07_line.calls k r c vz vu vg zs us gs s HC1.out kind r1 c1' zs1 us1 gs1 g2 #[.int .i64 r, .int .i64 c, vz, vu, vg] w0 w9 HV HA1.out).mono ?_
     rintro e w5 ⟨vz1, vu1, vg1, rfl, hV⟩
     obtain ⟨Az1, cz1, rfl⟩ := Kd.R_slice hV.hz
     obtain ⟨Au1, cu1, rfl⟩ := Kd.R_slice hV.hu
     obtain ⟨Ag1, cg1, rfl⟩ := Kd.R_slice hV.hr
     refine ⟨_, rfl, hK.out _ _ (HS.out _ hV.hB) (fun hHeld => ?_)⟩
     have HV5 := Aside0.mk hV
     clear hK K hV
     refine norm_ (a' := ?_) ?_ ?_
     rotate_left
     ·show Act.put _ (some 28) _ = _
      simp only [Act.put, List.setIfInBounds_toArray, List.set_cons_zero, List.set_cons_succ, i64_w, i32_w]
      rfl
     refine pure_ (i := 6) (N := some 22) (v := ?_) (a' := ?_) #[true, true, true, true, true, true, true, false, false, false, false, false] rfl rfl (by kernel_rfl) (fun _ _ _ h => h) (Or.inl ⟨by rfl, ?_⟩) ?_ ?_
     rotate_left
     ·intro w'; go_simp; with_reducible rfl
     rotate_left
     ·simp only [Act.put, List.setIfInBounds_toArray, List.set_cons_zero, List.set_cons_succ, i64_w, i32_w]; rfl
     refine pure_ (i := 7) (N := some 29) (v := ?_) (a' := ?_) #[true, true, true, true, true, true, true, true, false, false, false, false] rfl rfl (by kernel_rfl) (fun _ _ _ h => h) (Or.inl ⟨by rfl, ?_⟩) ?_ ?_
     rotate_left
     ·intro w'; go_simp; with_reducible rfl
     rotate_left
     ·simp only [Act.put, List.setIfInBounds_toArray, List.set_cons_zero, List.set_cons_succ, i64_w, i32_w]; rfl
     refine pure_ (i := 8) (N := some 30) (v := ?_) (a' := ?_) #[true, true, true, true, true, true, true, true, true, false, false, false] rfl rfl (by kernel_rfl) (fun _ _ _ h => h) (Or.inl ⟨by rfl, ?_⟩) ?_ ?_
     rotate_left
     ·intro w'; go_simp; with_reducible rfl
     rotate_left
     ·simp only [Act.put, List.setIfInBounds_toArray, List.set_cons_zero, List.set_cons_succ, i64_w, i32_w]; rfl
     refine one_ (i := 9) (N := some 7) #[true, true, true, true, true, true, true, true, true, true, false, false] rfl rfl (by kernel_rfl) (by decide) (fun K hK => ?_)
     refine box_step ?hg (N := 7) ?hd (cs := #[.int .i64 0, .int .i64 0, .slice none 0 0, .slice none 0 0, .slice none 0 0]) (t := 27) ?hr ?_
     (case hd => rfl)
     (case hg => rfl)
     (case hr => first | (go_simp; done) | (go_simp; rfl))
     intro g7 hg7 w6 hbox hb6
     refine hK.out _ _ (HS.out _ (below_step HV5.out.hB hb6)) (fun hHeld => ?_)
     have HG7 : Aside0 (w0.heap.size ≤ g7) := ⟨by rw [hg7]; exact below_size HV5.out.hB⟩
     have hv := HV5.out.below hb6
     have HV6 : Aside0 (IsV g7 #[.int .i64 0, .int .i64 0, .slice none 0 0, .slice none 0 0, .slice none 0 0] w0 w6 _ _ _ _ _ _) := Aside0.mk ⟨hv.hz, hv.hu, hv.hr, hv.hB, hbox⟩
     clear hK K hv hg7 hbox hb6
     refine norm_ (a' := ?_) ?_ ?_
     rotate_left
     ·show Act.put _ (some 7) _ = _
      simp only [Act.put, List.setIfInBounds_toArray, List.set_cons_zero, List.set_cons_succ, i64_w, i32_w]
      rfl
     obtain ⟨⟨a0_, a1_, a2_, a3_, a4_⟩, fa0_, fa1_, fa2_, fa3_, fa4_⟩ := celg5 HV6.out.hx
     refine last_ (i := 10) (N := none) #[true, true, true, true, true, true, true, true, true, true, true, false] rfl rfl (by kernel_rfl) (by decide) (fun K hK => ?_)
     refine skip_ (w1 := ?_) (by rfl) rfl ?_ ?_
     rotate_left
     ·go_simp; rfl
     refine hK.out _ _ ?_
     clear hK K
     refine last_ (i := 11) (N := some 8) #[true, true, true, true, true, true, true, true, true, true, true, true] rfl rfl (by kernel_rfl) (by decide) (fun K hK => ?_)
     refine value_ (w1 := ?_) (v := ?_) (by rfl) rfl ?_ ?_
     rotate_left 2
     ·go_simp; first | done | (constructor <;> rfl)
     refine hK.out _ _ ?_
     clear hK K
     refine norm_ (a' := ?_) ?_ ?_
     rotate_left
     ·show Act.put _ (some 8) _ = _
      simp only [Act.put, List.setIfInBounds_toArray, List.set_cons_zero, List.set_cons_succ, i64_w, i32_w]
      rfl
     refine done_ (by kernel_rfl) ?_
     go_wp2_with fail
     go_meet
     exact ⟨g7, _, _, _, rfl, rfl, ⟨vset5 HV6.out HG7.out _ _ _ _ _⟩, HG7⟩
    ·have el : Array.setIfInBounds #[true, true, true, true, true, false, false, false, false, false, false, false] 9 true = #[true, true, true, true, true, false, false, false, false, true, false, false] := rfl
     rw [el] at hK
     clear el
     refine box_step ?hg (N := 7) ?hd (cs := #[.int .i64 0, .int .i64 0, .slice none 0 0, .slice none 0 0, .slice none 0 0]) (t := 27) ?hr ?_
     (case hd => rfl)
     (case hg => rfl)
     (case hr => first | (go_simp; done) | (go_simp; rfl))
     intro g7 hg7 w6 hbox hb6
     refine hK.out _ _ (HS.out _ (below_step HV.out.hB hb6)) (fun hHeld => ?_)
     have HG7 : Aside0 (w0.heap.size ≤ g7) := ⟨by rw [hg7]; exact below_size HV.out.hB⟩
     have hv := HV.out.below hb6
     have HV6 : Aside0 (IsV g7 #[.int .i64 0, .int .i64 0, .slice none 0 0, .slice none 0 0, .slice none 0 0] w0 w6 _ _ _ _ _ _) := Aside0.mk ⟨hv.hz, hv.hu, hv.hr, hv.hB, hbox⟩
     clear hK K hv hg7 hbox hb6
     refine norm_ (a' := ?_) ?_ ?_
     rotate_left
     ·show Act.put _ (some 7) _ = _
      simp only [Act.put, List.setIfInBounds_toArray, List.set_cons_zero, List.set_cons_succ, i64_w, i32_w]
      rfl
     refine one_ (i := 5) (N := some 28) #[true, true, true, true, true, true, false, false, false, true, false, false] rfl rfl (by kernel_rfl) (by decide) (fun K hK => ?_)
     refine goes_ Tryz.func15 (by kernel_rfl) rfl #[.agg #[.int .i64 r, .int .i64 c, vz, vu, vg], .string s] (by rfl) rfl rfl (by (try simp only [List.map_toArray, List.map_cons, List.map_nil]); first | done | rfl) ?_
     with_reducible refine (oculusref07_line.calls k r c vz vu vg zs us gs s HC1.out kind r1 c1' zs1 us1 gs1 g7 #[.int .i64 0, .int .i64 0, .slice none 0 0, .slice none 0 0, .slice none 0 0] w0 w6 HV6 HA1.out).mono ?_
     rintro e w5 ⟨vz1, vu1, vg1, rfl, hV⟩
     obtain ⟨Az1, cz1, rfl⟩ := Kd.R_slice hV.hz
     obtain ⟨Au1, cu1, rfl⟩ := Kd.R_slice hV.hu
     obtain ⟨Ag1, cg1, rfl⟩ := Kd.R_slice hV.hr
     refine ⟨_, rfl, hK.out _ _ (HS.out _ hV.hB) (fun hHeld => ?_)⟩
     have HV5 := Aside0.mk hV
     clear hK K hV
     refine norm_ (a' := ?_) ?_ ?_
     rotate_left
     ·show Act.put _ (some 28) _ = _
      simp only [Act.put, List.setIfInBounds_toArray, List.set_cons_zero, List.set_cons_succ, i64_w, i32_w]
      rfl
     refine pure_ (i := 6) (N := some 22) (v := ?_) (a' := ?_) #[true, true, true, true, true, true, true, false, false, true, false, false] rfl rfl (by kernel_rfl) (fun _ _ _ h => h) (Or.inl ⟨by rfl, ?_⟩) ?_ ?_
     rotate_left
     ·intro w'; go_simp; with_reducible rfl
     rotate_left
     ·simp only [Act.put, List.setIfInBounds_toArray, List.set_cons_zero, List.set_cons_succ, i64_w, i32_w]; rfl
     refine pure_ (i := 7) (N := some 29) (v := ?_) (a' := ?_) #[true, true, true, true, true, true, true, true, false, true, false, false] rfl rfl (by kernel_rfl) (fun _ _ _ h => h) (Or.inl ⟨by rfl, ?_⟩) ?_ ?_
     rotate_left
     ·intro w'; go_simp; with_reducible rfl
     rotate_left
     ·simp only [Act.put, List.setIfInBounds_toArray, List.set_cons_zero, List.set_cons_succ, i64_w, i32_w]; rfl
     refine pure_ (i := 8) (N := some 30) (v := ?_) (a' := ?_) #[true, true, true, true, true, true, true, true, true, true, false, false] rfl rfl (by kernel_rfl) (fun _ _ _ h => h) (Or.inl ⟨by rfl, ?_⟩) ?_ ?_
     rotate_left
     ·intro w'; go_simp; with_reducible rfl
     rotate_left
     ·simp only [Act.put, List.setIfInBounds_toArray, List.set_cons_zero, List.set_cons_succ, i64_w, i32_w]; rfl
     obtain ⟨⟨a0_, a1_, a2_, a3_, a4_⟩, fa0_, fa1_, fa2_, fa3_, fa4_⟩ := celg5 HV5.out.hx
     refine last_ (i := 10) (N := none) #[true, true, true, true, true, true, true, true, true, true, true, false] rfl rfl (by kernel_rfl) (by decide) (fun K hK => ?_)
     refine skip_ (w1 := ?_) (by rfl) rfl ?_ ?_
     rotate_left
     ·go_simp; rfl
     refine hK.out _ _ ?_
     clear hK K
     refine last_ (i := 11) (N := some 8) #[true, true, true, true, true, true, true, true, true, true, true, true] rfl rfl (by kernel_rfl) (by decide) (fun K hK => ?_)
     refine value_ (w1 := ?_) (v := ?_) (by rfl) rfl ?_ ?_
     rotate_left 2
     ·go_simp; first | done | (constructor <;> rfl)
     refine hK.out _ _ ?_
     clear hK K
     refine norm_ (a' := ?_) ?_ ?_
     rotate_left
     ·show Act.put _ (some 8) _ = _
      simp only [Act.put, List.setIfInBounds_toArray, List.set_cons_zero, List.set_cons_succ, i64_w, i32_w]
      rfl
     refine done_ (by kernel_rfl) ?_
     go_wp2_with fail
     go_meet
     exact ⟨g7, _, _, _, rfl, rfl, ⟨vset5 HV5.out HG7.out _ _ _ _ _⟩, HG7⟩
   case rest =>
    obtain ⟨g7, vz1, vu1, vg1, rfl, rfl, HV1, HG7⟩ := hcut
    obtain ⟨Az1, cz1, rfl⟩ := Kd.R_slice HV1.out.hz
    obtain ⟨Au1, cu1, rfl⟩ := Kd.R_slice HV1.out.hu
    obtain ⟨Ag1, cg1, rfl⟩ := Kd.R_slice HV1.out.hr
    clear HV HS HA1 HC1 hq dlt dlt2
    have HA := Aside0.mk (blk_below HO.out.hA HV1.out.hB)
    have HP := Aside0.mk (blk_below HO.out.hP HV1.out.hB)
    rcases rpar_ways kind n last with ⟨hb, t1⟩ | ⟨hb, t1, t2⟩ | ⟨hb, t1, t2, t3⟩ | ⟨hb, t1, t2, t3⟩
    iterate 3
     ·have H := H4.out
      rw [if_pos hb] at H
      simp only [Option.some.injEq, Prod.mk.injEq] at H
      obtain ⟨rfl, rfl, rfl, rfl, rfl, rfl, rfl⟩ := H
      clear H4 hb
      obtain ⟨z0, z1, z2, z3, z4, z5, z6⟩ := cells7_ HA.out
      have f0 := blk_frozen HA.out 0
      have f1 := blk_frozen HA.out 1
      have f2 := blk_frozen HA.out 2
      have f3 := blk_frozen HA.out 3
      have f4 := blk_frozen HA.out 4
      have f5 := blk_frozen HA.out 5
      have f6 := blk_frozen HA.out 6
      go_wp2
      refine bodyPost_ret (results_cell_row rfl _ _ g1 32 _ (0, 0) _ rfl (put7_ HA.out _ _ _ _ _ _ _) hu rfl (by kernel_rfl)) rfl ?_
      exact ⟨_, _, _, rfl, Kd.R_nil _ _ _ _ _, Kd.R_nil _ _ _ _ _, Kd.R_nil _ _ _ _ _, below7_ (below_trans_ HO.out.hB HV1.out.hB) HO.out.hg1 _ _ _ _ _ _ _⟩
    ·have HL := Aside0.mk ((if_neg hb).symm.trans H4.out)
     clear H4 hb
     obtain ⟨x0, x1, x2, x3, x4⟩ := cells5_ HV1.out.hx
     obtain ⟨y0, y1, y2, y3, y4⟩ := cells5_ HP.out
     have f0 := blk_frozen HP.out 0
     have f1 := blk_frozen HP.out 1
     have f2 := blk_frozen HP.out 2
     have f3 := blk_frozen HP.out 3
     have f4 := blk_frozen HP.out 4
     go_wp2
     go_roundg t.length
     case measure => have := HK.out.2; simp at this; omega
     case rel => exact ⟨kind, n + 1, t, r1, c1', _, _, _, zs1, us1, gs1, _, rfl, by go_num, ⟨rbase_set HO.out _ _ _ _ _⟩, ⟨vmove HO.out HV1.out _ _ _ _ _⟩, ⟨HD.out, rfl⟩, HL⟩
theorem oculusref07_Parse.calls (k : Nat) (a0 : ByteArray) (e n r c : Int) (zs : List S60) (us : List S62) (gs : List S64) (w : World) (h : oculusref07_Parse.f k a0 = some (e, n, r, c, zs, us, gs)) :
  Calls Tryz.prog 6 #[.string a0] w fun en w' => RAns7 w w' en e n r c zs us gs := by
 unfold oculusref07_Parse.f at h
 by_cases hs : (a0.size : Int) > 4000
 ·rw [if_pos hs] at h
  simp only [Option.some.injEq, Prod.mk.injEq] at h
  obtain ⟨rfl, rfl, rfl, rfl, rfl, rfl, rfl⟩ := h
  exact rparse_long a0 w hs
 ·rw [if_neg hs] at h
  obtain ⟨L, hL, h⟩ := Option.bind_eq_some_iff.mp h
  exact rparse_short k a0 L e n r c zs us gs w hs hL h
end Go.Proofs.YtbboanfggaknjaaGreatDoor.X
namespace Go.Proofs.YtbboanfggaknjaaGreatDoor.X
open Go.RowKit Go.Proofs.YtbboanfggaknjaaGreatDoorW.PrintWords Go.Proofs.YtbboanfggaknjaaGreatDoorW.PrintLast Go.Proofs.YtbboanfggaknjaaGreatDoorW.PrintMore
attribute [local go_sem] max2_int min2_int max_two min_two max_three min_three max_four min_four
set_option linter.unusedVariables false
set_option linter.unusedSimpArgs false
theorem eqA60 (d : Nat) (w : World) (x0 y0 : Int) (x1 y1 : Int) (x2 y2 : Int) (x3 y3 : Int) (x4 y4 : Int) (x5 y5 : Int) :
  (Op.equalIn (d + 4) 60 (.agg #[.int .i64 x0, .int .i64 x1, .int .i64 x2, .int .i64 x3, .int .i64 x4, .int .u64 x5]) (.agg #[.int .i64 y0, .int .i64 y1, .int .i64 y2, .int .i64 y3, .int .i64 y4, .int .u64 y5])).run Tryz.prog w = .ok (((x0 == y0 && (x1 == y1)) && ((x2 == y2 && (x3 == y3)))) && ((x4 == y4 && (x5 == y5)))) w := by
 refine eqA_of Tryz.underlying60 (by kernel_rfl) ?_
 refine eqf_cons (by rfl) (by go_simp) (by go_simp) (eqA55 (d + 0) w _ _ _ _ _ _ _ _) ?_
 exact eqf_last (by rfl) (by go_simp) (by go_simp) (eqA58 (d + 1) w _ _ _ _)
theorem eqA62 (d : Nat) (w : World) (x0 y0 : ByteArray) (x1 y1 : Int) (x2 y2 : Int) :
  (Op.equalIn (d + 3) 62 (.agg #[.string x0, .int .i64 x1, .int .u64 x2]) (.agg #[.string y0, .int .i64 y1, .int .u64 y2])).run Tryz.prog w = .ok (x0.toList == y0.toList && ((x1 == y1 && (x2 == y2)))) w := by
 refine eqA_of Tryz.underlying62 (by kernel_rfl) ?_
 refine eqf_cons (by rfl) (by go_simp; rfl) (by go_simp; rfl) (by go_simp) ?_
 exact eqf_last (by rfl) (by go_simp) (by go_simp) (eqA58 (d + 0) w _ _ _ _)
theorem eqA64 (d : Nat) (w : World) (x0 y0 : ByteArray) (x1 y1 : Int) (x2 y2 : Int) (x3 y3 : Int) (x4 y4 : Int) :
  (Op.equalIn (d + 3) 64 (.agg #[.string x0, .int .i64 x1, .int .u64 x2, .int .i64 x3, .int .u64 x4]) (.agg #[.string y0, .int .i64 y1, .int .u64 y2, .int .i64 y3, .int .u64 y4])).run Tryz.prog w = .ok (x0.toList == y0.toList && ((x1 == y1 && (x2 == y2)) && ((x3 == y3 && (x4 == y4))))) w := by
 refine eqA_of Tryz.underlying64 (by kernel_rfl) ?_
 refine eqf_cons (by rfl) (by go_simp; rfl) (by go_simp; rfl) (by go_simp) ?_
 refine eqf_cons (by rfl) (by go_simp) (by go_simp) (eqA58 (d + 0) w _ _ _ _) ?_
 exact eqf_last (by rfl) (by go_simp) (by go_simp) (eqA58 (d + 0) w _ _ _ _)
end Go.Proofs.YtbboanfggaknjaaGreatDoor.X
namespace Go.Proofs.YtbboanfggaknjaaGreatDoor.X
open Go.RowKit Go.Proofs.YtbboanfggaknjaaGreatDoorW.PrintWords Go.Proofs.YtbboanfggaknjaaGreatDoorW.PrintLast Go.Proofs.YtbboanfggaknjaaGreatDoorW.PrintMore
attribute [local go_sem] max2_int min2_int max_two min_two max_three min_three max_four min_four
set_option linter.unusedVariables false
set_option linter.unusedSimpArgs false
attribute [local go_sem high] eqA60 eqA62 eqA64
mutual
def oculusref07_Same.j0 : Nat → Bool → Int → Int → List (S60) → List (S62) → List (S64) → Int → Int → List (S60) → List (S62) → List (S64) → Option (Bool)
 | 0, _, _, _, _, _, _, _, _, _, _, _ => none
 | k + 1, x46, x102000, x102001, x102002, x102003, x102004, x103000, x103001, x103002, x103003, x103004 => if x46 = true then (some false) else (oculusref07_Same.l0 k 0 x102000 x102001 x102002 x102003 x102004 x103000 x103001 x103002 x103003 x103004)
def oculusref07_Same.l0 : Nat → Int → Int → Int → List (S60) → List (S62) → List (S64) → Int → Int → List (S60) → List (S62) → List (S64) → Option (Bool)
 | 0, _, _, _, _, _, _, _, _, _, _, _ => none
 | k + 1, x5, x102000, x102001, x102002, x102003, x102004, x103000, x103001, x103002, x103003, x103004 => if x5 < (x102002.length : Int) then (if 0 ≤ x5 then (if x5 < (x103002.length : Int) then (if (((!(((rd_T60 x102002 x5).f0.f0.f0) == ((rd_T60 x103002 x5).f0.f0.f0)) || (!(((rd_T60 x102002 x5).f0.f0.f1) == ((rd_T60 x103002 x5).f0.f0.f1)))) || ((!(((rd_T60 x102002 x5).f0.f1.f0) == ((rd_T60 x103002 x5).f0.f1.f0)) || (!(((rd_T60 x102002 x5).f0.f1.f1) == ((rd_T60 x103002 x5).f0.f1.f1)))))) || ((!(((rd_T60 x102002 x5).f1.f0) == ((rd_T60 x103002 x5).f1.f0)) || (!(((rd_T60 x102002 x5).f1.f1) == ((rd_T60 x103002 x5).f1.f1)))))) = true then (some false) else (oculusref07_Same.l0 k (wrap64 (x5 + 1)) x102000 x102001 x102002 x102003 x102004 x103000 x103001 x103002 x103003 x103004)) else (none)) else (none)) else (oculusref07_Same.l1 k 0 x102000 x102001 x102002 x102003 x102004 x103000 x103001 x103002 x103003 x103004)
def oculusref07_Same.l1 : Nat → Int → Int → Int → List (S60) → List (S62) → List (S64) → Int → Int → List (S60) → List (S62) → List (S64) → Option (Bool)
 | 0, _, _, _, _, _, _, _, _, _, _, _ => none
 | k + 1, x6, x102000, x102001, x102002, x102003, x102004, x103000, x103001, x103002, x103003, x103004 => if x6 < (x102003.length : Int) then (if 0 ≤ x6 then (if x6 < (x103003.length : Int) then (if (!((((rd_T62 x102003 x6).f0).toList) == (((rd_T62 x103003 x6).f0).toList)) || ((!(((rd_T62 x102003 x6).f1.f0) == ((rd_T62 x103003 x6).f1.f0)) || (!(((rd_T62 x102003 x6).f1.f1) == ((rd_T62 x103003 x6).f1.f1)))))) = true then (some false) else (oculusref07_Same.l1 k (wrap64 (x6 + 1)) x102000 x102001 x102002 x102003 x102004 x103000 x103001 x103002 x103003 x103004)) else (none)) else (none)) else (oculusref07_Same.l2 k 0 x102000 x102001 x102002 x102003 x102004 x103000 x103001 x103002 x103003 x103004)
def oculusref07_Same.l2 : Nat → Int → Int → Int → List (S60) → List (S62) → List (S64) → Int → Int → List (S60) → List (S62) → List (S64) → Option (Bool)
 | 0, _, _, _, _, _, _, _, _, _, _, _ => none
 | k + 1, x7, x102000, x102001, x102002, x102003, x102004, x103000, x103001, x103002, x103003, x103004 => if x7 < (x102004.length : Int) then (if 0 ≤ x7 then (if x7 < (x103004.length : Int) then (if (!((((rd_T64 x102004 x7).f0).toList) == (((rd_T64 x103004 x7).f0).toList)) || ((!(((rd_T64 x102004 x7).f1.f0) == ((rd_T64 x103004 x7).f1.f0)) || (!(((rd_T64 x102004 x7).f1.f1) == ((rd_T64 x103004 x7).f1.f1)))) || ((!(((rd_T64 x102004 x7).f2.f0) == ((rd_T64 x103004 x7).f2.f0)) || (!(((rd_T64 x102004 x7).f2.f1) == ((rd_T64 x103004 x7).f2.f1))))))) = true then (some false) else (oculusref07_Same.l2 k (wrap64 (x7 + 1)) x102000 x102001 x102002 x102003 x102004 x103000 x103001 x103002 x103003 x103004)) else (none)) else (none)) else (some true)
end
def oculusref07_Same.f (k : Nat) (a0_0 : Int) (a0_1 : Int) (l0_2 : List (S60)) (l0_3 : List (S62)) (l0_4 : List (S64)) (a1_0 : Int) (a1_1 : Int) (l1_2 : List (S60)) (l1_3 : List (S62)) (l1_4 : List (S64)) : Option (Bool) := if a0_0 = a1_0 then (if a0_1 = a1_1 then (if (l0_2.length : Int) = (l1_2.length : Int) then (if (l0_3.length : Int) = (l1_3.length : Int) then (oculusref07_Same.j0 k ((l0_4.length : Int) != (l1_4.length : Int)) a0_0 a0_1 l0_2 l0_3 l0_4 a1_0 a1_1 l1_2 l1_3 l1_4) else (oculusref07_Same.j0 k true a0_0 a0_1 l0_2 l0_3 l0_4 a1_0 a1_1 l1_2 l1_3 l1_4)) else (oculusref07_Same.j0 k true a0_0 a0_1 l0_2 l0_3 l0_4 a1_0 a1_1 l1_2 l1_3 l1_4)) else (oculusref07_Same.j0 k true a0_0 a0_1 l0_2 l0_3 l0_4 a1_0 a1_1 l1_2 l1_3 l1_4)) else (oculusref07_Same.j0 k true a0_0 a0_1 l0_2 l0_3 l0_4 a1_0 a1_1 l1_2 l1_3 l1_4)
theorem oculusref07_Same.calls (k : Nat) (a0_0 : Int) (a0_1 : Int) (A0_2 : Option Addr) (c0_2 : Nat) (l0_2 : List (S60)) (A0_3 : Option Addr) (c0_3 : Nat) (l0_3 : List (S62)) (A0_4 : Option Addr) (c0_4 : Nat) (l0_4 : List (S64)) (a1_0 : Int) (a1_1 : Int) (A1_2 : Option Addr) (c1_2 : Nat) (l1_2 : List (S60)) (A1_3 : Option Addr) (c1_3 : Nat) (l1_3 : List (S62)) (A1_4 : Option Addr) (c1_4 : Nat) (l1_4 : List (S64)) (r : Bool) (w : World) (hr0_2 : Kd.C k60 w A0_2 l0_2.length l0_2) (hc0_2 : l0_2.length ≤ c0_2) (hr0_3 : Kd.C k62 w A0_3 l0_3.length l0_3) (hc0_3 : l0_3.length ≤ c0_3) (hr0_4 : Kd.C k64 w A0_4 l0_4.length l0_4) (hc0_4 : l0_4.length ≤ c0_4) (hr1_2 : Kd.C k60 w A1_2 l1_2.length l1_2) (hc1_2 : l1_2.length ≤ c1_2) (hr1_3 : Kd.C k62 w A1_3 l1_3.length l1_3) (hc1_3 : l1_3.length ≤ c1_3) (hr1_4 : Kd.C k64 w A1_4 l1_4.length l1_4) (hc1_4 : l1_4.length ≤ c1_4) (h : oculusref07_Same.f k a0_0 a0_1 l0_2 l0_3 l0_4 a1_0 a1_1 l1_2 l1_3 l1_4 = some r) :
  Calls Tryz.prog 7 #[.agg #[.int .i64 a0_0, .int .i64 a0_1, .slice A0_2 l0_2.length c0_2, .slice A0_3 l0_3.length c0_3, .slice A0_4 l0_4.length c0_4], .agg #[.int .i64 a1_0, .int .i64 a1_1, .slice A1_2 l1_2.length c1_2, .slice A1_3 l1_3.length c1_3, .slice A1_4 l1_4.length c1_4]] w fun e w' => e = .returned (.bool r) ∧ Below w.heap.size w w' := by
 have hu27 := Tryz.underlying27; have hu60 := Tryz.underlying60; have hu62 := Tryz.underlying62; have hu64 := Tryz.underlying64; have HR0_2 := A_ hr0_2; have HC0_2 := A_ hc0_2; clear hr0_2 hc0_2; have HR0_3 := A_ hr0_3; have HC0_3 := A_ hc0_3; clear hr0_3 hc0_3; have HR0_4 := A_ hr0_4; have HC0_4 := A_ hc0_4; clear hr0_4 hc0_4; have HR1_2 := A_ hr1_2; have HC1_2 := A_ hc1_2; clear hr1_2 hc1_2; have HR1_3 := A_ hr1_3; have HC1_3 := A_ hc1_3; clear hr1_3 hc1_3; have HR1_4 := A_ hr1_4; have HC1_4 := A_ hc1_4; clear hr1_4 hc1_4; have HB := A_ (Below.refl w.heap.size w)
 have H : (if a0_0 = a1_0 then (if a0_1 = a1_1 then (if (l0_2.length : Int) = (l1_2.length : Int) then (if (l0_3.length : Int) = (l1_3.length : Int) then (oculusref07_Same.j0 k ((l0_4.length : Int) != (l1_4.length : Int)) a0_0 a0_1 l0_2 l0_3 l0_4 a1_0 a1_1 l1_2 l1_3 l1_4) else (oculusref07_Same.j0 k true a0_0 a0_1 l0_2 l0_3 l0_4 a1_0 a1_1 l1_2 l1_3 l1_4)) else (oculusref07_Same.j0 k true a0_0 a0_1 l0_2 l0_3 l0_4 a1_0 a1_1 l1_2 l1_3 l1_4)) else (oculusref07_Same.j0 k true a0_0 a0_1 l0_2 l0_3 l0_4 a1_0 a1_1 l1_2 l1_3 l1_4)) else (oculusref07_Same.j0 k true a0_0 a0_1 l0_2 l0_3 l0_4 a1_0 a1_1 l1_2 l1_3 l1_4)) = some r := h
 clear h; have HC3 := A_ H; clear H
 go_enter Tryz.func7, Tryz.ntmps7
 go_upto_region 1 with (first | ((with_reducible refine gd_ 2 ?_); (try (refine gate_guard (by rfl) ?_; dsimp only)); refine be_ (N:=2) (cs := #[.int .i64 a0_0, .int .i64 a0_1, .slice A0_2 l0_2.length c0_2, .slice A0_3 l0_3.length c0_3, .slice A0_4 l0_4.length c0_4]) (t:=27) ?_; intro g1 hg w4 hbox hb; have B1 := A_ (hbox); replace HB := bs_ HB hb; clear hb hbox hg) | ((with_reducible refine gd_ 3 ?_); (try (refine gate_guard (by rfl) ?_; dsimp only)); refine be_ (N:=3) (cs := #[.int .i64 a1_0, .int .i64 a1_1, .slice A1_2 l1_2.length c1_2, .slice A1_3 l1_3.length c1_3, .slice A1_4 l1_4.length c1_4]) (t:=27) ?_; intro g2 hg w5 hbox hb; have B2 := A_ (hbox); replace B1 := bb_ B1 hb; replace HB := bs_ HB hb; clear hb hbox hg))
 repeat (go_quiet (first | ((with_reducible refine gd_ 2 ?_); (try (refine gate_guard (by rfl) ?_; dsimp only)); refine be_ (N:=2) (cs := #[.int .i64 a0_0, .int .i64 a0_1, .slice A0_2 l0_2.length c0_2, .slice A0_3 l0_3.length c0_3, .slice A0_4 l0_4.length c0_4]) (t:=27) ?_; intro g1 hg w4 hbox hb; have B1 := A_ (hbox); replace HB := bs_ HB hb; clear hb hbox hg) | ((with_reducible refine gd_ 3 ?_); (try (refine gate_guard (by rfl) ?_; dsimp only)); refine be_ (N:=3) (cs := #[.int .i64 a1_0, .int .i64 a1_1, .slice A1_2 l1_2.length c1_2, .slice A1_3 l1_3.length c1_3, .slice A1_4 l1_4.length c1_4]) (t:=27) ?_; intro g2 hg w5 hbox hb; have B2 := A_ (hbox); replace B1 := bb_ B1 hb; replace HB := bs_ HB hb; clear hb hbox hg)); go_upto_region 1 with (first | ((with_reducible refine gd_ 2 ?_); (try (refine gate_guard (by rfl) ?_; dsimp only)); refine be_ (N:=2) (cs := #[.int .i64 a0_0, .int .i64 a0_1, .slice A0_2 l0_2.length c0_2, .slice A0_3 l0_3.length c0_3, .slice A0_4 l0_4.length c0_4]) (t:=27) ?_; intro g1 hg w4 hbox hb; have B1 := A_ (hbox); replace HB := bs_ HB hb; clear hb hbox hg) | ((with_reducible refine gd_ 3 ?_); (try (refine gate_guard (by rfl) ?_; dsimp only)); refine be_ (N:=3) (cs := #[.int .i64 a1_0, .int .i64 a1_1, .slice A1_2 l1_2.length c1_2, .slice A1_3 l1_3.length c1_3, .slice A1_4 l1_4.length c1_4]) (t:=27) ?_; intro g2 hg w5 hbox hb; have B2 := A_ (hbox); replace B1 := bb_ B1 hb; replace HB := bs_ HB hb; clear hb hbox hg)))
 (try simp only [q_])
 go_cut [46] (fun v46 wc => ∃ (kq : Nat) (x46_2 : Bool), v46 = .bool x46_2 ∧ Aside0 (oculusref07_Same.j0 kq x46_2 a0_0 a0_1 l0_2 l0_3 l0_4 a1_0 a1_1 l1_2 l1_3 l1_4 = some r) ∧ Aside0 (kq ≤ k) ∧ Aside0 (wc.heap[g1]? = some (.cells #[.int .i64 a0_0, .int .i64 a0_1, (.slice A0_2 l0_2.length c0_2), (.slice A0_3 l0_3.length c0_3), (.slice A0_4 l0_4.length c0_4)] 27 (0, 0))) ∧ Aside0 (wc.heap[g2]? = some (.cells #[.int .i64 a1_0, .int .i64 a1_1, (.slice A1_2 l1_2.length c1_2), (.slice A1_3 l1_3.length c1_3), (.slice A1_4 l1_4.length c1_4)] 27 (0, 0))) ∧ Aside0 (Below w.heap.size w wc))
 case first =>
  have H := HC3.out; clear HC3
  by_cases c6 : a0_0 = a1_0
  ·rw [if_pos c6] at H; have ⟨c6b0,c6b1⟩ := e1_ c6; clear c6; (first | rw [c6b0] | (simp only [i64_w, i32_w]; rw [c6b0]) | skip)
   by_cases c7 : a0_1 = a1_1
   ·rw [if_pos c7] at H; have ⟨c7b0,c7b1⟩ := e1_ c7; clear c7
    by_cases c8 : (l0_2.length : Int) = (l1_2.length : Int)
    ·rw [if_pos c8] at H; have ⟨c8b0,c8b1⟩ := e1_ c8
     have c8b2 : (l0_2.length == l1_2.length) = true := by first | simpa using c8 | (simp at c8 ⊢; omega)
     clear c8
     by_cases c9 : (l0_3.length : Int) = (l1_3.length : Int)
     ·rw [if_pos c9] at H; have ⟨c9b0,c9b1⟩ := e1_ c9
      have c9b2 : (l0_3.length == l1_3.length) = true := by first | simpa using c9 | (simp at c9 ⊢; omega)
      clear c9
      have H' := A_ H
      clear H
      have hcz10_0 : w5.cell? ⟨g1, 0, none⟩ = some (.int .i64 a0_0) := bc_ B1 0 rfl
      have hcz10_1 : w5.cell? ⟨g1, 1, none⟩ = some (.int .i64 a0_1) := bc_ B1 1 rfl
      have hcz10_2 : w5.cell? ⟨g1, 2, none⟩ = some (.slice A0_2 l0_2.length c0_2) := bc_ B1 2 rfl
      have hcz10_3 : w5.cell? ⟨g1, 3, none⟩ = some (.slice A0_3 l0_3.length c0_3) := bc_ B1 3 rfl
      have hcz10_4 : w5.cell? ⟨g1, 4, none⟩ = some (.slice A0_4 l0_4.length c0_4) := bc_ B1 4 rfl
      have hcz11_0 : w5.cell? ⟨g2, 0, none⟩ = some (.int .i64 a1_0) := bc_ B2 0 rfl
      have hcz11_1 : w5.cell? ⟨g2, 1, none⟩ = some (.int .i64 a1_1) := bc_ B2 1 rfl
      have hcz11_2 : w5.cell? ⟨g2, 2, none⟩ = some (.slice A1_2 l1_2.length c1_2) := bc_ B2 2 rfl
      have hcz11_3 : w5.cell? ⟨g2, 3, none⟩ = some (.slice A1_3 l1_3.length c1_3) := bc_ B2 3 rfl
      have hcz11_4 : w5.cell? ⟨g2, 4, none⟩ = some (.slice A1_4 l1_4.length c1_4) := bc_ B2 4 rfl
      go_wp2
      repeat (go_quiet (fail); try go_wp2)
      go_meet
      case rel => exact ⟨_, (((l0_4.length : Int) != (l1_4.length : Int))), sq_, H', le_, ⟨pkx B1⟩, ⟨pkx B2⟩, ⟨pbx HB⟩⟩
     ·rw [if_neg c9] at H; have ⟨c9b0,c9b1⟩ := e0_ c9
      have c9b2 : (l0_3.length == l1_3.length) = false := by first | simpa using c9 | (simp at c9 ⊢; omega)
      have H' := A_ H
      clear H
      have hcz12_0 : w5.cell? ⟨g1, 0, none⟩ = some (.int .i64 a0_0) := bc_ B1 0 rfl
      have hcz12_1 : w5.cell? ⟨g1, 1, none⟩ = some (.int .i64 a0_1) := bc_ B1 1 rfl
      have hcz12_2 : w5.cell? ⟨g1, 2, none⟩ = some (.slice A0_2 l0_2.length c0_2) := bc_ B1 2 rfl
      have hcz12_3 : w5.cell? ⟨g1, 3, none⟩ = some (.slice A0_3 l0_3.length c0_3) := bc_ B1 3 rfl
      have hcz12_4 : w5.cell? ⟨g1, 4, none⟩ = some (.slice A0_4 l0_4.length c0_4) := bc_ B1 4 rfl
      have hcz13_0 : w5.cell? ⟨g2, 0, none⟩ = some (.int .i64 a1_0) := bc_ B2 0 rfl
      have hcz13_1 : w5.cell? ⟨g2, 1, none⟩ = some (.int .i64 a1_1) := bc_ B2 1 rfl
      have hcz13_2 : w5.cell? ⟨g2, 2, none⟩ = some (.slice A1_2 l1_2.length c1_2) := bc_ B2 2 rfl
      have hcz13_3 : w5.cell? ⟨g2, 3, none⟩ = some (.slice A1_3 l1_3.length c1_3) := bc_ B2 3 rfl
      have hcz13_4 : w5.cell? ⟨g2, 4, none⟩ = some (.slice A1_4 l1_4.length c1_4) := bc_ B2 4 rfl
      go_wp2
      repeat (go_quiet (fail); try go_wp2)
      go_meet
      case rel => exact ⟨_, (true), sq_, H', le_, ⟨pkx B1⟩, ⟨pkx B2⟩, ⟨pbx HB⟩⟩
    ·rw [if_neg c8] at H; have ⟨c8b0,c8b1⟩ := e0_ c8
     have c8b2 : (l0_2.length == l1_2.length) = false := by first | simpa using c8 | (simp at c8 ⊢; omega)
     have H' := A_ H
     clear H
     have hcz14_0 : w5.cell? ⟨g1, 0, none⟩ = some (.int .i64 a0_0) := bc_ B1 0 rfl
     have hcz14_1 : w5.cell? ⟨g1, 1, none⟩ = some (.int .i64 a0_1) := bc_ B1 1 rfl
     have hcz14_2 : w5.cell? ⟨g1, 2, none⟩ = some (.slice A0_2 l0_2.length c0_2) := bc_ B1 2 rfl
     have hcz14_3 : w5.cell? ⟨g1, 3, none⟩ = some (.slice A0_3 l0_3.length c0_3) := bc_ B1 3 rfl
     have hcz14_4 : w5.cell? ⟨g1, 4, none⟩ = some (.slice A0_4 l0_4.length c0_4) := bc_ B1 4 rfl
     have hcz15_0 : w5.cell? ⟨g2, 0, none⟩ = some (.int .i64 a1_0) := bc_ B2 0 rfl
     have hcz15_1 : w5.cell? ⟨g2, 1, none⟩ = some (.int .i64 a1_1) := bc_ B2 1 rfl
     have hcz15_2 : w5.cell? ⟨g2, 2, none⟩ = some (.slice A1_2 l1_2.length c1_2) := bc_ B2 2 rfl
     have hcz15_3 : w5.cell? ⟨g2, 3, none⟩ = some (.slice A1_3 l1_3.length c1_3) := bc_ B2 3 rfl
     have hcz15_4 : w5.cell? ⟨g2, 4, none⟩ = some (.slice A1_4 l1_4.length c1_4) := bc_ B2 4 rfl
     go_wp2
     repeat (go_quiet (fail); try go_wp2)
     go_meet
     case rel => exact ⟨_, (true), sq_, H', le_, ⟨pkx B1⟩, ⟨pkx B2⟩, ⟨pbx HB⟩⟩
   ·rw [if_neg c7] at H; have ⟨c7b0,c7b1⟩ := e0_ c7
    have H' := A_ H
    clear H
    have hcz16_0 : w5.cell? ⟨g1, 0, none⟩ = some (.int .i64 a0_0) := bc_ B1 0 rfl
    have hcz16_1 : w5.cell? ⟨g1, 1, none⟩ = some (.int .i64 a0_1) := bc_ B1 1 rfl
    have hcz16_2 : w5.cell? ⟨g1, 2, none⟩ = some (.slice A0_2 l0_2.length c0_2) := bc_ B1 2 rfl
    have hcz16_3 : w5.cell? ⟨g1, 3, none⟩ = some (.slice A0_3 l0_3.length c0_3) := bc_ B1 3 rfl
    have hcz16_4 : w5.cell? ⟨g1, 4, none⟩ = some (.slice A0_4 l0_4.length c0_4) := bc_ B1 4 rfl
    have hcz17_0 : w5.cell? ⟨g2, 0, none⟩ = some (.int .i64 a1_0) := bc_ B2 0 rfl
    have hcz17_1 : w5.cell? ⟨g2, 1, none⟩ = some (.int .i64 a1_1) := bc_ B2 1 rfl
    have hcz17_2 : w5.cell? ⟨g2, 2, none⟩ = some (.slice A1_2 l1_2.length c1_2) := bc_ B2 2 rfl
    have hcz17_3 : w5.cell? ⟨g2, 3, none⟩ = some (.slice A1_3 l1_3.length c1_3) := bc_ B2 3 rfl
    have hcz17_4 : w5.cell? ⟨g2, 4, none⟩ = some (.slice A1_4 l1_4.length c1_4) := bc_ B2 4 rfl
    go_wp2
    repeat (go_quiet (fail); try go_wp2)
    go_meet
    case rel => exact ⟨_, (true), sq_, H', le_, ⟨pkx B1⟩, ⟨pkx B2⟩, ⟨pbx HB⟩⟩
  ·rw [if_neg c6] at H; have ⟨c6b0,c6b1⟩ := e0_ c6; (first | rw [c6b0] | (simp only [i64_w, i32_w]; rw [c6b0]) | skip)
   have H' := A_ H
   clear H
   have hcz18_0 : w5.cell? ⟨g1, 0, none⟩ = some (.int .i64 a0_0) := bc_ B1 0 rfl
   have hcz18_1 : w5.cell? ⟨g1, 1, none⟩ = some (.int .i64 a0_1) := bc_ B1 1 rfl
   have hcz18_2 : w5.cell? ⟨g1, 2, none⟩ = some (.slice A0_2 l0_2.length c0_2) := bc_ B1 2 rfl
   have hcz18_3 : w5.cell? ⟨g1, 3, none⟩ = some (.slice A0_3 l0_3.length c0_3) := bc_ B1 3 rfl
   have hcz18_4 : w5.cell? ⟨g1, 4, none⟩ = some (.slice A0_4 l0_4.length c0_4) := bc_ B1 4 rfl
   have hcz19_0 : w5.cell? ⟨g2, 0, none⟩ = some (.int .i64 a1_0) := bc_ B2 0 rfl
   have hcz19_1 : w5.cell? ⟨g2, 1, none⟩ = some (.int .i64 a1_1) := bc_ B2 1 rfl
   have hcz19_2 : w5.cell? ⟨g2, 2, none⟩ = some (.slice A1_2 l1_2.length c1_2) := bc_ B2 2 rfl
   have hcz19_3 : w5.cell? ⟨g2, 3, none⟩ = some (.slice A1_3 l1_3.length c1_3) := bc_ B2 3 rfl
   have hcz19_4 : w5.cell? ⟨g2, 4, none⟩ = some (.slice A1_4 l1_4.length c1_4) := bc_ B2 4 rfl
   go_wp2
   repeat (go_quiet (fail); try go_wp2)
   go_meet
   case rel => exact ⟨_, (true), sq_, H', le_, ⟨pkx B1⟩, ⟨pkx B2⟩, ⟨pbx HB⟩⟩
 case rest =>
  clear HC3
  obtain ⟨kq, x46_2, rfl, HA, HJ2, B1, B2, HB⟩ := hcut
  cases kq with
  | zero => exact absurd HA.out (by simp [oculusref07_Same.j0])
  | succ kj2 =>
   have H := HA.out; clear HA
   simp only [oculusref07_Same.j0] at H
   by_cases c20 : x46_2 = true
   ·subst c20
    replace H := it_ H; obtain rfl := Option.some.inj H
    go_wp2
    repeat (go_quiet (fail); try go_wp2)
    go_ret
    exact fi_ (pbx HB)
   ·replace c20 := Bool.eq_false_iff.mpr c20; subst c20
    replace H := ie_ H
    have H' := A_ H
    clear H
    go_wp2
    repeat (go_quiet (fail); try go_wp2)
    go_loopg [5] kj2 (fun kq v5 w' => ∃ (x5_2 : Int), v5 = .int .i64 x5_2 ∧ Aside0 (oculusref07_Same.l0 kq x5_2 a0_0 a0_1 l0_2 l0_3 l0_4 a1_0 a1_1 l1_2 l1_3 l1_4 = some r) ∧ Aside0 (kq ≤ kj2) ∧ Aside0 (w'.heap[g1]? = some (.cells #[.int .i64 a0_0, .int .i64 a0_1, (.slice A0_2 l0_2.length c0_2), (.slice A0_3 l0_3.length c0_3), (.slice A0_4 l0_4.length c0_4)] 27 (0, 0))) ∧ Aside0 (w'.heap[g2]? = some (.cells #[.int .i64 a1_0, .int .i64 a1_1, (.slice A1_2 l1_2.length c1_2), (.slice A1_3 l1_3.length c1_3), (.slice A1_4 l1_4.length c1_4)] 27 (0, 0))) ∧ Aside0 (Below w.heap.size w w'))
    case atStart => exact ⟨(0), sq_, H', ⟨Nat.le_refl _⟩, ⟨pkx B1⟩, ⟨pkx B2⟩, ⟨pbx HB⟩⟩
    case round =>
     clear H'; (try clear c20)
     obtain ⟨x5_2, rfl, HA, HK2, B1, B2, HB⟩ := hrel
     cases gk with
     | zero => exact absurd HA.out (by simp [oculusref07_Same.l0])
     | succ k2 =>
      have H := HA.out; clear HA
      simp only [oculusref07_Same.l0] at H
      by_cases c21 : x5_2 < (l0_2.length : Int)
      ·rw [if_pos c21] at H; have c21b0 := decide_eq_true c21; clear c21
       by_cases c22 : 0 ≤ x5_2
       ·rw [if_pos c22] at H; have c22b0 := decide_eq_true c22; clear c22
        by_cases c23 : x5_2 < (l1_2.length : Int)
        ·rw [if_pos c23] at H; have c23b0 := decide_eq_true c23; clear c23
         by_cases c24 : (((!(((rd_T60 l0_2 x5_2).f0.f0.f0) == ((rd_T60 l1_2 x5_2).f0.f0.f0)) || (!(((rd_T60 l0_2 x5_2).f0.f0.f1) == ((rd_T60 l1_2 x5_2).f0.f0.f1)))) || ((!(((rd_T60 l0_2 x5_2).f0.f1.f0) == ((rd_T60 l1_2 x5_2).f0.f1.f0)) || (!(((rd_T60 l0_2 x5_2).f0.f1.f1) == ((rd_T60 l1_2 x5_2).f0.f1.f1)))))) || ((!(((rd_T60 l0_2 x5_2).f1.f0) == ((rd_T60 l1_2 x5_2).f1.f0)) || (!(((rd_T60 l0_2 x5_2).f1.f1) == ((rd_T60 l1_2 x5_2).f1.f1)))))) = true
         ·rw [if_pos c24] at H
          have c24b0 : (((!(((rd_T60 l0_2 x5_2).f0.f0.f0) == ((rd_T60 l1_2 x5_2).f0.f0.f0)) || (!(((rd_T60 l0_2 x5_2).f0.f0.f1) == ((rd_T60 l1_2 x5_2).f0.f0.f1)))) || ((!(((rd_T60 l0_2 x5_2).f0.f1.f0) == ((rd_T60 l1_2 x5_2).f0.f1.f0)) || (!(((rd_T60 l0_2 x5_2).f0.f1.f1) == ((rd_T60 l1_2 x5_2).f0.f1.f1)))))) || ((!(((rd_T60 l0_2 x5_2).f1.f0) == ((rd_T60 l1_2 x5_2).f1.f0)) || (!(((rd_T60 l0_2 x5_2).f1.f1) == ((rd_T60 l1_2 x5_2).f1.f1)))))) = true := c24
          clear c24; obtain rfl := Option.some.inj H
          have hcz25_0 : wr.cell? ⟨g1, 0, none⟩ = some (.int .i64 a0_0) := bc_ B1 0 rfl
          have hcz25_1 : wr.cell? ⟨g1, 1, none⟩ = some (.int .i64 a0_1) := bc_ B1 1 rfl
          have hcz25_2 : wr.cell? ⟨g1, 2, none⟩ = some (.slice A0_2 l0_2.length c0_2) := bc_ B1 2 rfl
          have hcz25_3 : wr.cell? ⟨g1, 3, none⟩ = some (.slice A0_3 l0_3.length c0_3) := bc_ B1 3 rfl
          have hcz25_4 : wr.cell? ⟨g1, 4, none⟩ = some (.slice A0_4 l0_4.length c0_4) := bc_ B1 4 rfl
          have p103 : 0 ≤ (x5_2 : Int) := of_decide_eq_true as_
          have q103 : x5_2 < (l0_2.length : Int) := of_decide_eq_true as_
          obtain ⟨ad103, e103, hx103_0, hx103_1, hx103_2, hx103_3, hx103_4, hx103_5⟩ := at_T60 HR0_2.out x5_2 p103 q103
          cases e103
          replace hx103_0 := (HB.out.cell (World.block_lt_of_cell? w _ hx103_0)).trans hx103_0; replace hx103_1 := (HB.out.cell (World.block_lt_of_cell? w _ hx103_1)).trans hx103_1; replace hx103_2 := (HB.out.cell (World.block_lt_of_cell? w _ hx103_2)).trans hx103_2; replace hx103_3 := (HB.out.cell (World.block_lt_of_cell? w _ hx103_3)).trans hx103_3; replace hx103_4 := (HB.out.cell (World.block_lt_of_cell? w _ hx103_4)).trans hx103_4; replace hx103_5 := (HB.out.cell (World.block_lt_of_cell? w _ hx103_5)).trans hx103_5; replace p103 := eq_true p103; replace q103 := eq_true q103
          have hcz26_0 : wr.cell? ⟨g2, 0, none⟩ = some (.int .i64 a1_0) := bc_ B2 0 rfl
          have hcz26_1 : wr.cell? ⟨g2, 1, none⟩ = some (.int .i64 a1_1) := bc_ B2 1 rfl
          have hcz26_2 : wr.cell? ⟨g2, 2, none⟩ = some (.slice A1_2 l1_2.length c1_2) := bc_ B2 2 rfl
          have hcz26_3 : wr.cell? ⟨g2, 3, none⟩ = some (.slice A1_3 l1_3.length c1_3) := bc_ B2 3 rfl
          have hcz26_4 : wr.cell? ⟨g2, 4, none⟩ = some (.slice A1_4 l1_4.length c1_4) := bc_ B2 4 rfl
          have p104 : 0 ≤ (x5_2 : Int) := of_decide_eq_true as_
          have q104 : x5_2 < (l1_2.length : Int) := of_decide_eq_true as_
          obtain ⟨ad104, e104, hx104_0, hx104_1, hx104_2, hx104_3, hx104_4, hx104_5⟩ := at_T60 HR1_2.out x5_2 p104 q104
          cases e104
          replace hx104_0 := (HB.out.cell (World.block_lt_of_cell? w _ hx104_0)).trans hx104_0; replace hx104_1 := (HB.out.cell (World.block_lt_of_cell? w _ hx104_1)).trans hx104_1; replace hx104_2 := (HB.out.cell (World.block_lt_of_cell? w _ hx104_2)).trans hx104_2; replace hx104_3 := (HB.out.cell (World.block_lt_of_cell? w _ hx104_3)).trans hx104_3; replace hx104_4 := (HB.out.cell (World.block_lt_of_cell? w _ hx104_4)).trans hx104_4; replace hx104_5 := (HB.out.cell (World.block_lt_of_cell? w _ hx104_5)).trans hx104_5; replace p104 := eq_true p104; replace q104 := eq_true q104
          go_wp2
          repeat (go_quiet (fail); try go_wp2)
          go_ret
          exact fi_ (pbx HB)
         ·rw [if_neg c24] at H
          have c24b0 : (((!(((rd_T60 l0_2 x5_2).f0.f0.f0) == ((rd_T60 l1_2 x5_2).f0.f0.f0)) || (!(((rd_T60 l0_2 x5_2).f0.f0.f1) == ((rd_T60 l1_2 x5_2).f0.f0.f1)))) || ((!(((rd_T60 l0_2 x5_2).f0.f1.f0) == ((rd_T60 l1_2 x5_2).f0.f1.f0)) || (!(((rd_T60 l0_2 x5_2).f0.f1.f1) == ((rd_T60 l1_2 x5_2).f0.f1.f1)))))) || ((!(((rd_T60 l0_2 x5_2).f1.f0) == ((rd_T60 l1_2 x5_2).f1.f0)) || (!(((rd_T60 l0_2 x5_2).f1.f1) == ((rd_T60 l1_2 x5_2).f1.f1)))))) = false := by simpa using c24
          clear c24
          have H' := A_ H
          clear H
          have hcz27_0 : wr.cell? ⟨g1, 0, none⟩ = some (.int .i64 a0_0) := bc_ B1 0 rfl
          have hcz27_1 : wr.cell? ⟨g1, 1, none⟩ = some (.int .i64 a0_1) := bc_ B1 1 rfl
          have hcz27_2 : wr.cell? ⟨g1, 2, none⟩ = some (.slice A0_2 l0_2.length c0_2) := bc_ B1 2 rfl
          have hcz27_3 : wr.cell? ⟨g1, 3, none⟩ = some (.slice A0_3 l0_3.length c0_3) := bc_ B1 3 rfl
          have hcz27_4 : wr.cell? ⟨g1, 4, none⟩ = some (.slice A0_4 l0_4.length c0_4) := bc_ B1 4 rfl
          have p103 : 0 ≤ (x5_2 : Int) := of_decide_eq_true as_
          have q103 : x5_2 < (l0_2.length : Int) := of_decide_eq_true as_
          obtain ⟨ad103, e103, hx103_0, hx103_1, hx103_2, hx103_3, hx103_4, hx103_5⟩ := at_T60 HR0_2.out x5_2 p103 q103
          cases e103
          replace hx103_0 := (HB.out.cell (World.block_lt_of_cell? w _ hx103_0)).trans hx103_0; replace hx103_1 := (HB.out.cell (World.block_lt_of_cell? w _ hx103_1)).trans hx103_1; replace hx103_2 := (HB.out.cell (World.block_lt_of_cell? w _ hx103_2)).trans hx103_2; replace hx103_3 := (HB.out.cell (World.block_lt_of_cell? w _ hx103_3)).trans hx103_3; replace hx103_4 := (HB.out.cell (World.block_lt_of_cell? w _ hx103_4)).trans hx103_4; replace hx103_5 := (HB.out.cell (World.block_lt_of_cell? w _ hx103_5)).trans hx103_5; replace p103 := eq_true p103; replace q103 := eq_true q103
          have hcz28_0 : wr.cell? ⟨g2, 0, none⟩ = some (.int .i64 a1_0) := bc_ B2 0 rfl
          have hcz28_1 : wr.cell? ⟨g2, 1, none⟩ = some (.int .i64 a1_1) := bc_ B2 1 rfl
          have hcz28_2 : wr.cell? ⟨g2, 2, none⟩ = some (.slice A1_2 l1_2.length c1_2) := bc_ B2 2 rfl
          have hcz28_3 : wr.cell? ⟨g2, 3, none⟩ = some (.slice A1_3 l1_3.length c1_3) := bc_ B2 3 rfl
          have hcz28_4 : wr.cell? ⟨g2, 4, none⟩ = some (.slice A1_4 l1_4.length c1_4) := bc_ B2 4 rfl
          have p104 : 0 ≤ (x5_2 : Int) := of_decide_eq_true as_
          have q104 : x5_2 < (l1_2.length : Int) := of_decide_eq_true as_
          obtain ⟨ad104, e104, hx104_0, hx104_1, hx104_2, hx104_3, hx104_4, hx104_5⟩ := at_T60 HR1_2.out x5_2 p104 q104
          cases e104
          replace hx104_0 := (HB.out.cell (World.block_lt_of_cell? w _ hx104_0)).trans hx104_0; replace hx104_1 := (HB.out.cell (World.block_lt_of_cell? w _ hx104_1)).trans hx104_1; replace hx104_2 := (HB.out.cell (World.block_lt_of_cell? w _ hx104_2)).trans hx104_2; replace hx104_3 := (HB.out.cell (World.block_lt_of_cell? w _ hx104_3)).trans hx104_3; replace hx104_4 := (HB.out.cell (World.block_lt_of_cell? w _ hx104_4)).trans hx104_4; replace hx104_5 := (HB.out.cell (World.block_lt_of_cell? w _ hx104_5)).trans hx104_5; replace p104 := eq_true p104; replace q104 := eq_true q104
          go_wp2
          repeat (go_quiet (fail); try go_wp2)
          go_roundg k2
          case measure => have := HJ2.out; have := HK2.out; omega
          case rel => exact ⟨(wrap64 (x5_2 + 1)), sq_, H', ⟨by have := HJ2.out; have := HK2.out; omega⟩, ⟨pkx B1⟩, ⟨pkx B2⟩, ⟨pbx HB⟩⟩
        ·rw [if_neg c23] at H
         exact absurd H (by simp)
       ·rw [if_neg c22] at H
        exact absurd H (by simp)
      ·rw [if_neg c21] at H; have c21b0 := decide_eq_false c21; clear c21
       have H' := A_ H
       clear H
       have hcz29_0 : wr.cell? ⟨g1, 0, none⟩ = some (.int .i64 a0_0) := bc_ B1 0 rfl
       have hcz29_1 : wr.cell? ⟨g1, 1, none⟩ = some (.int .i64 a0_1) := bc_ B1 1 rfl
       have hcz29_2 : wr.cell? ⟨g1, 2, none⟩ = some (.slice A0_2 l0_2.length c0_2) := bc_ B1 2 rfl
       have hcz29_3 : wr.cell? ⟨g1, 3, none⟩ = some (.slice A0_3 l0_3.length c0_3) := bc_ B1 3 rfl
       have hcz29_4 : wr.cell? ⟨g1, 4, none⟩ = some (.slice A0_4 l0_4.length c0_4) := bc_ B1 4 rfl
       go_wp2
       repeat (go_quiet (fail); try go_wp2)
       go_loopg [6] k2 (fun kq v6 w' => ∃ (x6_3 : Int), v6 = .int .i64 x6_3 ∧ Aside0 (oculusref07_Same.l1 kq x6_3 a0_0 a0_1 l0_2 l0_3 l0_4 a1_0 a1_1 l1_2 l1_3 l1_4 = some r) ∧ Aside0 (kq ≤ k2) ∧ Aside0 (w'.heap[g1]? = some (.cells #[.int .i64 a0_0, .int .i64 a0_1, (.slice A0_2 l0_2.length c0_2), (.slice A0_3 l0_3.length c0_3), (.slice A0_4 l0_4.length c0_4)] 27 (0, 0))) ∧ Aside0 (w'.heap[g2]? = some (.cells #[.int .i64 a1_0, .int .i64 a1_1, (.slice A1_2 l1_2.length c1_2), (.slice A1_3 l1_3.length c1_3), (.slice A1_4 l1_4.length c1_4)] 27 (0, 0))) ∧ Aside0 (Below w.heap.size w w'))
       case atStart => exact ⟨(0), sq_, H', ⟨Nat.le_refl _⟩, ⟨pkx B1⟩, ⟨pkx B2⟩, ⟨pbx HB⟩⟩
       case round =>
        clear H'; (try clear c20); (try clear c21); (try clear c21b0)
        (try clear hcz29_0); (try clear hcz29_1); (try clear hcz29_2); (try clear hcz29_3); (try clear hcz29_4); obtain ⟨x6_3, rfl, HA, HK3, B1, B2, HB⟩ := hrel
        cases gk with
        | zero => exact absurd HA.out (by simp [oculusref07_Same.l1])
        | succ k3 =>
         have H := HA.out; clear HA
         simp only [oculusref07_Same.l1] at H
         by_cases c30 : x6_3 < (l0_3.length : Int)
         ·rw [if_pos c30] at H; have c30b0 := decide_eq_true c30; clear c30
          by_cases c31 : 0 ≤ x6_3
          ·rw [if_pos c31] at H; have c31b0 := decide_eq_true c31; clear c31
           by_cases c32 : x6_3 < (l1_3.length : Int)
           ·rw [if_pos c32] at H; have c32b0 := decide_eq_true c32; clear c32
            by_cases c33 : (!((((rd_T62 l0_3 x6_3).f0).toList) == (((rd_T62 l1_3 x6_3).f0).toList)) || ((!(((rd_T62 l0_3 x6_3).f1.f0) == ((rd_T62 l1_3 x6_3).f1.f0)) || (!(((rd_T62 l0_3 x6_3).f1.f1) == ((rd_T62 l1_3 x6_3).f1.f1)))))) = true
            ·rw [if_pos c33] at H
             have c33b0 : (!((((rd_T62 l0_3 x6_3).f0).toList) == (((rd_T62 l1_3 x6_3).f0).toList)) || ((!(((rd_T62 l0_3 x6_3).f1.f0) == ((rd_T62 l1_3 x6_3).f1.f0)) || (!(((rd_T62 l0_3 x6_3).f1.f1) == ((rd_T62 l1_3 x6_3).f1.f1)))))) = true := c33
             clear c33; obtain rfl := Option.some.inj H
             have hcz34_0 : wr.cell? ⟨g1, 0, none⟩ = some (.int .i64 a0_0) := bc_ B1 0 rfl
             have hcz34_1 : wr.cell? ⟨g1, 1, none⟩ = some (.int .i64 a0_1) := bc_ B1 1 rfl
             have hcz34_2 : wr.cell? ⟨g1, 2, none⟩ = some (.slice A0_2 l0_2.length c0_2) := bc_ B1 2 rfl
             have hcz34_3 : wr.cell? ⟨g1, 3, none⟩ = some (.slice A0_3 l0_3.length c0_3) := bc_ B1 3 rfl
             have hcz34_4 : wr.cell? ⟨g1, 4, none⟩ = some (.slice A0_4 l0_4.length c0_4) := bc_ B1 4 rfl
             have p105 : 0 ≤ (x6_3 : Int) := of_decide_eq_true as_
             have q105 : x6_3 < (l0_3.length : Int) := of_decide_eq_true as_
             obtain ⟨ad105, e105, hx105_0, hx105_1, hx105_2⟩ := at_T62 HR0_3.out x6_3 p105 q105
             cases e105
             replace hx105_0 := (HB.out.cell (World.block_lt_of_cell? w _ hx105_0)).trans hx105_0; replace hx105_1 := (HB.out.cell (World.block_lt_of_cell? w _ hx105_1)).trans hx105_1; replace hx105_2 := (HB.out.cell (World.block_lt_of_cell? w _ hx105_2)).trans hx105_2; replace p105 := eq_true p105; replace q105 := eq_true q105
             have hcz35_0 : wr.cell? ⟨g2, 0, none⟩ = some (.int .i64 a1_0) := bc_ B2 0 rfl
             have hcz35_1 : wr.cell? ⟨g2, 1, none⟩ = some (.int .i64 a1_1) := bc_ B2 1 rfl
             have hcz35_2 : wr.cell? ⟨g2, 2, none⟩ = some (.slice A1_2 l1_2.length c1_2) := bc_ B2 2 rfl
             have hcz35_3 : wr.cell? ⟨g2, 3, none⟩ = some (.slice A1_3 l1_3.length c1_3) := bc_ B2 3 rfl
             have hcz35_4 : wr.cell? ⟨g2, 4, none⟩ = some (.slice A1_4 l1_4.length c1_4) := bc_ B2 4 rfl
             have p106 : 0 ≤ (x6_3 : Int) := of_decide_eq_true as_
             have q106 : x6_3 < (l1_3.length : Int) := of_decide_eq_true as_
             obtain ⟨ad106, e106, hx106_0, hx106_1, hx106_2⟩ := at_T62 HR1_3.out x6_3 p106 q106
             cases e106
             replace hx106_0 := (HB.out.cell (World.block_lt_of_cell? w _ hx106_0)).trans hx106_0; replace hx106_1 := (HB.out.cell (World.block_lt_of_cell? w _ hx106_1)).trans hx106_1; replace hx106_2 := (HB.out.cell (World.block_lt_of_cell? w _ hx106_2)).trans hx106_2; replace p106 := eq_true p106; replace q106 := eq_true q106
             go_wp2
             repeat (go_quiet (fail); try go_wp2)
             go_ret
             exact fi_ (pbx HB)
            ·rw [if_neg c33] at H
             have c33b0 : (!((((rd_T62 l0_3 x6_3).f0).toList) == (((rd_T62 l1_3 x6_3).f0).toList)) || ((!(((rd_T62 l0_3 x6_3).f1.f0) == ((rd_T62 l1_3 x6_3).f1.f0)) || (!(((rd_T62 l0_3 x6_3).f1.f1) == ((rd_T62 l1_3 x6_3).f1.f1)))))) = false := by simpa using c33
             clear c33
             have H' := A_ H
             clear H
             have hcz36_0 : wr.cell? ⟨g1, 0, none⟩ = some (.int .i64 a0_0) := bc_ B1 0 rfl
             have hcz36_1 : wr.cell? ⟨g1, 1, none⟩ = some (.int .i64 a0_1) := bc_ B1 1 rfl
             have hcz36_2 : wr.cell? ⟨g1, 2, none⟩ = some (.slice A0_2 l0_2.length c0_2) := bc_ B1 2 rfl
             have hcz36_3 : wr.cell? ⟨g1, 3, none⟩ = some (.slice A0_3 l0_3.length c0_3) := bc_ B1 3 rfl
             have hcz36_4 : wr.cell? ⟨g1, 4, none⟩ = some (.slice A0_4 l0_4.length c0_4) := bc_ B1 4 rfl
             have p105 : 0 ≤ (x6_3 : Int) := of_decide_eq_true as_
             have q105 : x6_3 < (l0_3.length : Int) := of_decide_eq_true as_
             obtain ⟨ad105, e105, hx105_0, hx105_1, hx105_2⟩ := at_T62 HR0_3.out x6_3 p105 q105
             cases e105
             replace hx105_0 := (HB.out.cell (World.block_lt_of_cell? w _ hx105_0)).trans hx105_0; replace hx105_1 := (HB.out.cell (World.block_lt_of_cell? w _ hx105_1)).trans hx105_1; replace hx105_2 := (HB.out.cell (World.block_lt_of_cell? w _ hx105_2)).trans hx105_2; replace p105 := eq_true p105; replace q105 := eq_true q105
             have hcz37_0 : wr.cell? ⟨g2, 0, none⟩ = some (.int .i64 a1_0) := bc_ B2 0 rfl
             have hcz37_1 : wr.cell? ⟨g2, 1, none⟩ = some (.int .i64 a1_1) := bc_ B2 1 rfl
             have hcz37_2 : wr.cell? ⟨g2, 2, none⟩ = some (.slice A1_2 l1_2.length c1_2) := bc_ B2 2 rfl
             have hcz37_3 : wr.cell? ⟨g2, 3, none⟩ = some (.slice A1_3 l1_3.length c1_3) := bc_ B2 3 rfl
             have hcz37_4 : wr.cell? ⟨g2, 4, none⟩ = some (.slice A1_4 l1_4.length c1_4) := bc_ B2 4 rfl
             have p106 : 0 ≤ (x6_3 : Int) := of_decide_eq_true as_
             have q106 : x6_3 < (l1_3.length : Int) := of_decide_eq_true as_
             obtain ⟨ad106, e106, hx106_0, hx106_1, hx106_2⟩ := at_T62 HR1_3.out x6_3 p106 q106
             cases e106
             replace hx106_0 := (HB.out.cell (World.block_lt_of_cell? w _ hx106_0)).trans hx106_0; replace hx106_1 := (HB.out.cell (World.block_lt_of_cell? w _ hx106_1)).trans hx106_1; replace hx106_2 := (HB.out.cell (World.block_lt_of_cell? w _ hx106_2)).trans hx106_2; replace p106 := eq_true p106; replace q106 := eq_true q106
             go_wp2
             repeat (go_quiet (fail); try go_wp2)
             go_roundg k3
             case measure => have := HJ2.out; have := HK2.out; have := HK3.out; omega
             case rel => exact ⟨(wrap64 (x6_3 + 1)), sq_, H', ⟨by have := HJ2.out; have := HK2.out; have := HK3.out; omega⟩, ⟨pkx B1⟩, ⟨pkx B2⟩, ⟨pbx HB⟩⟩
           ·rw [if_neg c32] at H
            exact absurd H (by simp)
          ·rw [if_neg c31] at H
           exact absurd H (by simp)
         ·rw [if_neg c30] at H; have c30b0 := decide_eq_false c30; clear c30
          have H' := A_ H
          clear H
          have hcz38_0 : wr.cell? ⟨g1, 0, none⟩ = some (.int .i64 a0_0) := bc_ B1 0 rfl
          have hcz38_1 : wr.cell? ⟨g1, 1, none⟩ = some (.int .i64 a0_1) := bc_ B1 1 rfl
          have hcz38_2 : wr.cell? ⟨g1, 2, none⟩ = some (.slice A0_2 l0_2.length c0_2) := bc_ B1 2 rfl
          have hcz38_3 : wr.cell? ⟨g1, 3, none⟩ = some (.slice A0_3 l0_3.length c0_3) := bc_ B1 3 rfl
          have hcz38_4 : wr.cell? ⟨g1, 4, none⟩ = some (.slice A0_4 l0_4.length c0_4) := bc_ B1 4 rfl
          go_wp2
          repeat (go_quiet (fail); try go_wp2)
          go_loopg [7] k3 (fun kq v7 w' => ∃ (x7_4 : Int), v7 = .int .i64 x7_4 ∧ Aside0 (oculusref07_Same.l2 kq x7_4 a0_0 a0_1 l0_2 l0_3 l0_4 a1_0 a1_1 l1_2 l1_3 l1_4 = some r) ∧ Aside0 (kq ≤ k3) ∧ Aside0 (w'.heap[g1]? = some (.cells #[.int .i64 a0_0, .int .i64 a0_1, (.slice A0_2 l0_2.length c0_2), (.slice A0_3 l0_3.length c0_3), (.slice A0_4 l0_4.length c0_4)] 27 (0, 0))) ∧ Aside0 (w'.heap[g2]? = some (.cells #[.int .i64 a1_0, .int .i64 a1_1, (.slice A1_2 l1_2.length c1_2), (.slice A1_3 l1_3.length c1_3), (.slice A1_4 l1_4.length c1_4)] 27 (0, 0))) ∧ Aside0 (Below w.heap.size w w'))
          case atStart => exact ⟨(0), sq_, H', ⟨Nat.le_refl _⟩, ⟨pkx B1⟩, ⟨pkx B2⟩, ⟨pbx HB⟩⟩
          case round =>
           clear H'; (try clear c20); (try clear c21); (try clear c21b0); (try clear c30); (try clear c30b0)
           (try clear hcz29_0); (try clear hcz29_1); (try clear hcz29_2); (try clear hcz29_3); (try clear hcz29_4)
           (try clear hcz38_0); (try clear hcz38_1); (try clear hcz38_2); (try clear hcz38_3); (try clear hcz38_4); obtain ⟨x7_4, rfl, HA, HK4, B1, B2, HB⟩ := hrel
           cases gk with
           | zero => exact absurd HA.out (by simp [oculusref07_Same.l2])
           | succ k4 =>
            have H := HA.out; clear HA
            simp only [oculusref07_Same.l2] at H
            by_cases c39 : x7_4 < (l0_4.length : Int)
            ·rw [if_pos c39] at H; have c39b0 := decide_eq_true c39; clear c39
             by_cases c40 : 0 ≤ x7_4
             ·rw [if_pos c40] at H; have c40b0 := decide_eq_true c40; clear c40
              by_cases c41 : x7_4 < (l1_4.length : Int)
              ·rw [if_pos c41] at H; have c41b0 := decide_eq_true c41; clear c41
               by_cases c42 : (!((((rd_T64 l0_4 x7_4).f0).toList) == (((rd_T64 l1_4 x7_4).f0).toList)) || ((!(((rd_T64 l0_4 x7_4).f1.f0) == ((rd_T64 l1_4 x7_4).f1.f0)) || (!(((rd_T64 l0_4 x7_4).f1.f1) == ((rd_T64 l1_4 x7_4).f1.f1)))) || ((!(((rd_T64 l0_4 x7_4).f2.f0) == ((rd_T64 l1_4 x7_4).f2.f0)) || (!(((rd_T64 l0_4 x7_4).f2.f1) == ((rd_T64 l1_4 x7_4).f2.f1))))))) = true
               ·rw [if_pos c42] at H
                have c42b0 : (!((((rd_T64 l0_4 x7_4).f0).toList) == (((rd_T64 l1_4 x7_4).f0).toList)) || ((!(((rd_T64 l0_4 x7_4).f1.f0) == ((rd_T64 l1_4 x7_4).f1.f0)) || (!(((rd_T64 l0_4 x7_4).f1.f1) == ((rd_T64 l1_4 x7_4).f1.f1)))) || ((!(((rd_T64 l0_4 x7_4).f2.f0) == ((rd_T64 l1_4 x7_4).f2.f0)) || (!(((rd_T64 l0_4 x7_4).f2.f1) == ((rd_T64 l1_4 x7_4).f2.f1))))))) = true := c42
                clear c42; obtain rfl := Option.some.inj H
                have hcz43_0 : wr.cell? ⟨g1, 0, none⟩ = some (.int .i64 a0_0) := bc_ B1 0 rfl
                have hcz43_1 : wr.cell? ⟨g1, 1, none⟩ = some (.int .i64 a0_1) := bc_ B1 1 rfl
                have hcz43_2 : wr.cell? ⟨g1, 2, none⟩ = some (.slice A0_2 l0_2.length c0_2) := bc_ B1 2 rfl
                have hcz43_3 : wr.cell? ⟨g1, 3, none⟩ = some (.slice A0_3 l0_3.length c0_3) := bc_ B1 3 rfl
                have hcz43_4 : wr.cell? ⟨g1, 4, none⟩ = some (.slice A0_4 l0_4.length c0_4) := bc_ B1 4 rfl
                have p107 : 0 ≤ (x7_4 : Int) := of_decide_eq_true as_
                have q107 : x7_4 < (l0_4.length : Int) := of_decide_eq_true as_
                obtain ⟨ad107, e107, hx107_0, hx107_1, hx107_2, hx107_3, hx107_4⟩ := at_T64 HR0_4.out x7_4 p107 q107
                cases e107
                replace hx107_0 := (HB.out.cell (World.block_lt_of_cell? w _ hx107_0)).trans hx107_0; replace hx107_1 := (HB.out.cell (World.block_lt_of_cell? w _ hx107_1)).trans hx107_1; replace hx107_2 := (HB.out.cell (World.block_lt_of_cell? w _ hx107_2)).trans hx107_2; replace hx107_3 := (HB.out.cell (World.block_lt_of_cell? w _ hx107_3)).trans hx107_3; replace hx107_4 := (HB.out.cell (World.block_lt_of_cell? w _ hx107_4)).trans hx107_4; replace p107 := eq_true p107; replace q107 := eq_true q107
                have hcz44_0 : wr.cell? ⟨g2, 0, none⟩ = some (.int .i64 a1_0) := bc_ B2 0 rfl
                have hcz44_1 : wr.cell? ⟨g2, 1, none⟩ = some (.int .i64 a1_1) := bc_ B2 1 rfl
                have hcz44_2 : wr.cell? ⟨g2, 2, none⟩ = some (.slice A1_2 l1_2.length c1_2) := bc_ B2 2 rfl
                have hcz44_3 : wr.cell? ⟨g2, 3, none⟩ = some (.slice A1_3 l1_3.length c1_3) := bc_ B2 3 rfl
                have hcz44_4 : wr.cell? ⟨g2, 4, none⟩ = some (.slice A1_4 l1_4.length c1_4) := bc_ B2 4 rfl
                have p108 : 0 ≤ (x7_4 : Int) := of_decide_eq_true as_
                have q108 : x7_4 < (l1_4.length : Int) := of_decide_eq_true as_
                obtain ⟨ad108, e108, hx108_0, hx108_1, hx108_2, hx108_3, hx108_4⟩ := at_T64 HR1_4.out x7_4 p108 q108
                cases e108
                replace hx108_0 := (HB.out.cell (World.block_lt_of_cell? w _ hx108_0)).trans hx108_0; replace hx108_1 := (HB.out.cell (World.block_lt_of_cell? w _ hx108_1)).trans hx108_1; replace hx108_2 := (HB.out.cell (World.block_lt_of_cell? w _ hx108_2)).trans hx108_2; replace hx108_3 := (HB.out.cell (World.block_lt_of_cell? w _ hx108_3)).trans hx108_3; replace hx108_4 := (HB.out.cell (World.block_lt_of_cell? w _ hx108_4)).trans hx108_4; replace p108 := eq_true p108; replace q108 := eq_true q108
                go_wp2
                repeat (go_quiet (fail); try go_wp2)
                go_ret
                exact fi_ (pbx HB)
               ·rw [if_neg c42] at H
                have c42b0 : (!((((rd_T64 l0_4 x7_4).f0).toList) == (((rd_T64 l1_4 x7_4).f0).toList)) || ((!(((rd_T64 l0_4 x7_4).f1.f0) == ((rd_T64 l1_4 x7_4).f1.f0)) || (!(((rd_T64 l0_4 x7_4).f1.f1) == ((rd_T64 l1_4 x7_4).f1.f1)))) || ((!(((rd_T64 l0_4 x7_4).f2.f0) == ((rd_T64 l1_4 x7_4).f2.f0)) || (!(((rd_T64 l0_4 x7_4).f2.f1) == ((rd_T64 l1_4 x7_4).f2.f1))))))) = false := by simpa using c42
                clear c42
                have H' := A_ H
                clear H
                have hcz45_0 : wr.cell? ⟨g1, 0, none⟩ = some (.int .i64 a0_0) := bc_ B1 0 rfl
                have hcz45_1 : wr.cell? ⟨g1, 1, none⟩ = some (.int .i64 a0_1) := bc_ B1 1 rfl
                have hcz45_2 : wr.cell? ⟨g1, 2, none⟩ = some (.slice A0_2 l0_2.length c0_2) := bc_ B1 2 rfl
                have hcz45_3 : wr.cell? ⟨g1, 3, none⟩ = some (.slice A0_3 l0_3.length c0_3) := bc_ B1 3 rfl
                have hcz45_4 : wr.cell? ⟨g1, 4, none⟩ = some (.slice A0_4 l0_4.length c0_4) := bc_ B1 4 rfl
                have p107 : 0 ≤ (x7_4 : Int) := of_decide_eq_true as_
                have q107 : x7_4 < (l0_4.length : Int) := of_decide_eq_true as_
                obtain ⟨ad107, e107, hx107_0, hx107_1, hx107_2, hx107_3, hx107_4⟩ := at_T64 HR0_4.out x7_4 p107 q107
                cases e107
                replace hx107_0 := (HB.out.cell (World.block_lt_of_cell? w _ hx107_0)).trans hx107_0; replace hx107_1 := (HB.out.cell (World.block_lt_of_cell? w _ hx107_1)).trans hx107_1; replace hx107_2 := (HB.out.cell (World.block_lt_of_cell? w _ hx107_2)).trans hx107_2; replace hx107_3 := (HB.out.cell (World.block_lt_of_cell? w _ hx107_3)).trans hx107_3; replace hx107_4 := (HB.out.cell (World.block_lt_of_cell? w _ hx107_4)).trans hx107_4; replace p107 := eq_true p107; replace q107 := eq_true q107
                have hcz46_0 : wr.cell? ⟨g2, 0, none⟩ = some (.int .i64 a1_0) := bc_ B2 0 rfl
                have hcz46_1 : wr.cell? ⟨g2, 1, none⟩ = some (.int .i64 a1_1) := bc_ B2 1 rfl
                have hcz46_2 : wr.cell? ⟨g2, 2, none⟩ = some (.slice A1_2 l1_2.length c1_2) := bc_ B2 2 rfl
                have hcz46_3 : wr.cell? ⟨g2, 3, none⟩ = some (.slice A1_3 l1_3.length c1_3) := bc_ B2 3 rfl
                have hcz46_4 : wr.cell? ⟨g2, 4, none⟩ = some (.slice A1_4 l1_4.length c1_4) := bc_ B2 4 rfl
                have p108 : 0 ≤ (x7_4 : Int) := of_decide_eq_true as_
                have q108 : x7_4 < (l1_4.length : Int) := of_decide_eq_true as_
                obtain ⟨ad108, e108, hx108_0, hx108_1, hx108_2, hx108_3, hx108_4⟩ := at_T64 HR1_4.out x7_4 p108 q108
                cases e108
                replace hx108_0 := (HB.out.cell (World.block_lt_of_cell? w _ hx108_0)).trans hx108_0; replace hx108_1 := (HB.out.cell (World.block_lt_of_cell? w _ hx108_1)).trans hx108_1; replace hx108_2 := (HB.out.cell (World.block_lt_of_cell? w _ hx108_2)).trans hx108_2; replace hx108_3 := (HB.out.cell (World.block_lt_of_cell? w _ hx108_3)).trans hx108_3; replace hx108_4 := (HB.out.cell (World.block_lt_of_cell? w _ hx108_4)).trans hx108_4; replace p108 := eq_true p108; replace q108 := eq_true q108
                go_wp2
                repeat (go_quiet (fail); try go_wp2)
                go_roundg k4
                case measure => have := HJ2.out; have := HK2.out; have := HK3.out; have := HK4.out; omega
                case rel => exact ⟨(wrap64 (x7_4 + 1)), sq_, H', ⟨by have := HJ2.out; have := HK2.out; have := HK3.out; have := HK4.out; omega⟩, ⟨pkx B1⟩, ⟨pkx B2⟩, ⟨pbx HB⟩⟩
              ·rw [if_neg c41] at H
               exact absurd H (by simp)
             ·rw [if_neg c40] at H
              exact absurd H (by simp)
            ·rw [if_neg c39] at H; have c39b0 := decide_eq_false c39; clear c39; obtain rfl := Option.some.inj H
             have hcz47_0 : wr.cell? ⟨g1, 0, none⟩ = some (.int .i64 a0_0) := bc_ B1 0 rfl
             have hcz47_1 : wr.cell? ⟨g1, 1, none⟩ = some (.int .i64 a0_1) := bc_ B1 1 rfl
             have hcz47_2 : wr.cell? ⟨g1, 2, none⟩ = some (.slice A0_2 l0_2.length c0_2) := bc_ B1 2 rfl
             have hcz47_3 : wr.cell? ⟨g1, 3, none⟩ = some (.slice A0_3 l0_3.length c0_3) := bc_ B1 3 rfl
             have hcz47_4 : wr.cell? ⟨g1, 4, none⟩ = some (.slice A0_4 l0_4.length c0_4) := bc_ B1 4 rfl
             go_wp2
             repeat (go_quiet (fail); try go_wp2)
             go_ret
             exact fi_ (pbx HB)

end Go.Proofs.YtbboanfggaknjaaGreatDoor.X
/- The law PolicyReads as a function of a text, and its contract. -/
set_option linter.unusedVariables false
set_option linter.unusedSimpArgs false
namespace Go.Proofs.YtbboanfggaknjaaGreatDoor.X
open Go.RowKit Go.Proofs.YtbboanfggaknjaaGreatDoorW.PrintWords Go.Proofs.YtbboanfggaknjaaGreatDoorW.PrintLast Go.Proofs.YtbboanfggaknjaaGreatDoorW.PrintMore
attribute [local go_sem] Instr.field asAgg
def oculuslaw07_PolicyReads.f (k : Nat) (s : ByteArray) : Option Bool :=
 if (s.size : Int) > 5000 then some true else
 (policy_Parse.f k s).bind fun q => (oculusref07_Parse.f k s).bind fun w => (oculusref07_Same.f k q.2.2.1 q.2.2.2.1 q.2.2.2.2.1 q.2.2.2.2.2.1 q.2.2.2.2.2.2 w.2.2.1 w.2.2.2.1 w.2.2.2.2.1 w.2.2.2.2.2.1 w.2.2.2.2.2.2).bind fun b =>
 if b = true ∧ q.2.1 = w.2.1 ∧ q.1 = w.1 then
  if q.1 = 0 then (policy_Text.f k q.2.2.1 q.2.2.2.1 q.2.2.2.2.1 q.2.2.2.2.2.1 q.2.2.2.2.2.2).bind fun t => if t.data.toList = s.data.toList then some true else none
  else some true
 else none
theorem ba_ext7 {x y : ByteArray} (h : x.data.toList = y.data.toList) : x = y := by
 obtain ⟨⟨l⟩⟩ := x
 obtain ⟨⟨m⟩⟩ := y
 exact congrArg (fun l => ByteArray.mk (Array.mk l)) h
theorem oculuslaw07_PolicyReads.calls (k : Nat) (s : ByteArray) (r : Bool) (w : World) (hT : Aside0 (Tab w)) (h : oculuslaw07_PolicyReads.f k s = some r) :
  Calls Tryz.prog 3 #[.string s] w fun e w' => e = .returned (.bool r) ∧ Below w.heap.size w w' := by
 have hu26 := Tryz.underlying27
 have hu32 := Tryz.underlying32
 unfold oculuslaw07_PolicyReads.f at h
 by_cases hs : (s.size : Int) > 5000
 ·rw [if_pos hs] at h
  obtain rfl : true = r := Option.some.inj h
  have d2 : decide ((s.size : Int) > 5000) = true := decide_eq_true hs
  have d3 : decide (5000 < s.size) = true := decide_eq_true (by omega)
  clear hs h
  go_enter Tryz.func3, Tryz.ntmps3
  go_wp2_with (go_at_call 4; (with_reducible refine (oculuslaw07_alive.calls 0 true _ hT rfl).mono ?_); rintro e w6 ⟨rfl, hb⟩; have HB := Aside0.mk hb; clear hb)
  go_ret
  exact ⟨rfl, HB.out⟩
 ·rw [if_neg hs] at h
  have d2 : decide ((s.size : Int) > 5000) = false := decide_eq_false hs
  have d3 : decide (5000 < s.size) = false := decide_eq_false (by omega)
  clear hs
  obtain ⟨⟨q1, q2, q3, q4, zs, us, gs⟩, Q1, H⟩ := Option.bind_eq_some_iff.mp h
  obtain ⟨⟨r1, r2, r3, r4, zs2, us2, gs2⟩, R1, H2⟩ := Option.bind_eq_some_iff.mp H
  obtain ⟨bb, M1, H3⟩ := Option.bind_eq_some_iff.mp H2
  clear H H2
  by_cases hq : bb = true ∧ q2 = r2 ∧ q1 = r1
  case neg => rw [if_neg hq] at H3; cases H3
  rw [if_pos hq] at H3
  obtain ⟨hq1, hq2, hq3⟩ := hq
  subst hq1 hq2 hq3
  have HQ1 := Aside0.mk Q1
  have HR1 := Aside0.mk R1
  have HM := Aside0.mk M1
  have HH := Aside0.mk H3
  clear h H3 Q1 R1 M1
  go_enter Tryz.func3, Tryz.ntmps3
  go_upto_region 4 with (go_at_call 5; (with_reducible refine (policy_Parse.calls k s q1 q2 q3 q4 zs us gs _ hT HQ1.out).mono ?_); rintro e w5 ⟨vz, vu, vg, rfl, hz, hu, hg, hb⟩; obtain ⟨Az, cz, rfl⟩ := Kd.R_slice hz; obtain ⟨Au, cu, rfl⟩ := Kd.R_slice hu; obtain ⟨Ag, cg, rfl⟩ := Kd.R_slice hg; have HS : Aside0 (Rows7 w5 Az cz zs Au cu us Ag cg gs) := ⟨⟨(Kd.R_reads' hz).2.2, (Kd.R_reads' hz).2.1, (Kd.R_reads' hu).2.2, (Kd.R_reads' hu).2.1, (Kd.R_reads' hg).2.2, (Kd.R_reads' hg).2.1⟩⟩; clear hz hu hg; have HB := Aside0.mk hb; replace hT := tb_ hb hT; clear hb)
  have hb := new_below w5 (.cells #[.int .i64 q3, .int .i64 q4, .slice Az zs.length cz, .slice Au us.length cu, .slice Ag gs.length cg] 27)
  have HP := Aside0.mk (blk_new w5 (.cells #[.int .i64 q3, .int .i64 q4, .slice Az zs.length cz, .slice Au us.length cu, .slice Ag gs.length cg] 27))
  replace HB := Aside0.mk (below_step HB.out hb); replace hT := tb_ hb hT; replace HS := Rows7.below HS hb
  clear hb HQ1
  generalize w5.alloc (.cells #[.int .i64 q3, .int .i64 q4, .slice Az zs.length cz, .slice Au us.length cu, .slice Ag gs.length cg] 27) = w1 at HB hT HP HS ⊢
  generalize w5.heap.size = g at HP ⊢
  go_upto_region 5 with (go_at_call 6; (with_reducible refine (oculusref07_Parse.calls k s q1 q2 r3 r4 zs2 us2 gs2 _ HR1.out).mono ?_); rintro e w7 ⟨vz, vu, vg, rfl, hz, hu, hg, hb⟩; obtain ⟨Bz, dz, rfl⟩ := Kd.R_slice hz; obtain ⟨Bu, du, rfl⟩ := Kd.R_slice hu; obtain ⟨Bg, dg, rfl⟩ := Kd.R_slice hg; have HS2 : Aside0 (Rows7 w7 Bz dz zs2 Bu du us2 Bg dg gs2) := ⟨⟨(Kd.R_reads' hz).2.2, (Kd.R_reads' hz).2.1, (Kd.R_reads' hu).2.2, (Kd.R_reads' hu).2.1, (Kd.R_reads' hg).2.2, (Kd.R_reads' hg).2.1⟩⟩; clear hz hu hg; replace HB := Aside0.mk (below_step HB.out hb); replace hT := tb_ hb hT; replace HP := Aside0.mk (blk_below HP.out hb); replace HS := Rows7.below HS hb; clear hb)
  have hb := new_below w7 (.cells #[.int .i64 r3, .int .i64 r4, .slice Bz zs2.length dz, .slice Bu us2.length du, .slice Bg gs2.length dg, .int .i64 q2, .int .i64 q1] 32)
  have HQ := Aside0.mk (blk_new w7 (.cells #[.int .i64 r3, .int .i64 r4, .slice Bz zs2.length dz, .slice Bu us2.length du, .slice Bg gs2.length dg, .int .i64 q2, .int .i64 q1] 32))
  replace HB := Aside0.mk (below_step HB.out hb); replace hT := tb_ hb hT; replace HP := Aside0.mk (blk_below HP.out hb); replace HS := Rows7.below HS hb; replace HS2 := Rows7.below HS2 hb
  clear hb HR1
  generalize w7.alloc (.cells #[.int .i64 r3, .int .i64 r4, .slice Bz zs2.length dz, .slice Bu us2.length du, .slice Bg gs2.length dg, .int .i64 q2, .int .i64 q1] 32) = w2 at HB hT HP HS HS2 HQ ⊢
  generalize w7.heap.size = g2 at HQ ⊢
  obtain ⟨y0, y1, y2, y3, y4⟩ := cells5_ HP.out
  obtain ⟨x0, x1, x2, x3, x4, x5, x6⟩ := cells7_ HQ.out
  have H := HH.out
  clear HH
  have dn : (q2 != q2) = false := bne_eq_false_iff_eq.mpr rfl
  have de : (q1 != q1) = false := bne_eq_false_iff_eq.mpr rfl
  by_cases he : q1 = 0
  ·rw [if_pos he] at H
   subst he
   obtain ⟨t, T1, H5⟩ := Option.bind_eq_some_iff.mp H
   clear H
   by_cases ht : t.data.toList = s.data.toList
   case neg => rw [if_neg ht] at H5; cases H5
   rw [if_pos ht] at H5
   obtain rfl : true = r := Option.some.inj H5
   obtain rfl := ba_ext7 ht
   have HT1 := Aside0.mk T1
   have dt : (t.toList == t.toList) = true := beq_iff_eq.mpr rfl
   clear H5 T1 ht
   go_wp2_with (first
    | (go_at_call 7; (with_reducible refine (oculusref07_Same.calls k q3 q4 Az cz zs Au cu us Ag cg gs r3 r4 Bz dz zs2 Bu du us2 Bg dg gs2 true _ HS.out.z HS.out.zl HS.out.u HS.out.ul HS.out.g HS.out.gl HS2.out.z HS2.out.zl HS2.out.u HS2.out.ul HS2.out.g HS2.out.gl HM.out).mono ?_); rintro e w11 ⟨rfl, hb⟩; replace HB := Aside0.mk (below_step HB.out hb); replace hT := tb_ hb hT; replace HP := Aside0.mk (blk_below HP.out hb); replace HS := Rows7.below HS hb; replace HQ := Aside0.mk (blk_below HQ.out hb); replace HS2 := Rows7.below HS2 hb; clear hb y0 y1 y2 y3 y4 x0 x1 x2 x3 x4 x5 x6; obtain ⟨y0, y1, y2, y3, y4⟩ := cells5_ HP.out; obtain ⟨x0, x1, x2, x3, x4, x5, x6⟩ := cells7_ HQ.out)
    | (go_at_call 8; (with_reducible refine (policy_Text.calls k q3 q4 Az cz zs Au cu us Ag cg gs t _ hT HS.out.z HS.out.zl HS.out.u HS.out.ul HS.out.g HS.out.gl HT1.out).mono ?_); rintro e w8 ⟨rfl, hb⟩; replace HB := Aside0.mk (below_step HB.out hb); replace hT := tb_ hb hT; replace HP := Aside0.mk (blk_below HP.out hb); replace HS := Rows7.below HS hb; replace HQ := Aside0.mk (blk_below HQ.out hb); replace HS2 := Rows7.below HS2 hb; clear hb y0 y1 y2 y3 y4 x0 x1 x2 x3 x4 x5 x6; obtain ⟨y0, y1, y2, y3, y4⟩ := cells5_ HP.out; obtain ⟨x0, x1, x2, x3, x4, x5, x6⟩ := cells7_ HQ.out)
    | (go_at_call 4; (with_reducible refine (oculuslaw07_alive.calls 0 true _ hT rfl).mono ?_); rintro e w6 ⟨rfl, hb⟩; replace HB := Aside0.mk (below_step HB.out hb); replace hT := tb_ hb hT; replace HP := Aside0.mk (blk_below HP.out hb); replace HS := Rows7.below HS hb; replace HQ := Aside0.mk (blk_below HQ.out hb); replace HS2 := Rows7.below HS2 hb; clear hb y0 y1 y2 y3 y4 x0 x1 x2 x3 x4 x5 x6; obtain ⟨y0, y1, y2, y3, y4⟩ := cells5_ HP.out; obtain ⟨x0, x1, x2, x3, x4, x5, x6⟩ := cells7_ HQ.out))
   go_ret
   exact ⟨rfl, HB.out⟩
  ·rw [if_neg he] at H
   obtain rfl : true = r := Option.some.inj H
   have d0 : (q1 == 0) = false := beq_eq_false_iff_ne.mpr he
   have d1 : (q1 != 0) = true := bne_iff_ne.mpr he
   clear H he
   go_wp2_with (first
    | (go_at_call 7; (with_reducible refine (oculusref07_Same.calls k q3 q4 Az cz zs Au cu us Ag cg gs r3 r4 Bz dz zs2 Bu du us2 Bg dg gs2 true _ HS.out.z HS.out.zl HS.out.u HS.out.ul HS.out.g HS.out.gl HS2.out.z HS2.out.zl HS2.out.u HS2.out.ul HS2.out.g HS2.out.gl HM.out).mono ?_); rintro e w11 ⟨rfl, hb⟩; replace HB := Aside0.mk (below_step HB.out hb); replace hT := tb_ hb hT; replace HP := Aside0.mk (blk_below HP.out hb); replace HS := Rows7.below HS hb; replace HQ := Aside0.mk (blk_below HQ.out hb); replace HS2 := Rows7.below HS2 hb; clear hb y0 y1 y2 y3 y4 x0 x1 x2 x3 x4 x5 x6; obtain ⟨y0, y1, y2, y3, y4⟩ := cells5_ HP.out; obtain ⟨x0, x1, x2, x3, x4, x5, x6⟩ := cells7_ HQ.out)
    | (go_at_call 4; (with_reducible refine (oculuslaw07_alive.calls 0 true _ hT rfl).mono ?_); rintro e w6 ⟨rfl, hb⟩; replace HB := Aside0.mk (below_step HB.out hb); replace hT := tb_ hb hT; replace HP := Aside0.mk (blk_below HP.out hb); replace HS := Rows7.below HS hb; replace HQ := Aside0.mk (blk_below HQ.out hb); replace HS2 := Rows7.below HS2 hb; clear hb y0 y1 y2 y3 y4 x0 x1 x2 x3 x4 x5 x6; obtain ⟨y0, y1, y2, y3, y4⟩ := cells5_ HP.out; obtain ⟨x0, x1, x2, x3, x4, x5, x6⟩ := cells7_ HQ.out))
   go_ret
   exact ⟨rfl, HB.out⟩
end Go.Proofs.YtbboanfggaknjaaGreatDoor.X
/- A general opening of a row's arguments: what a value of a type reads as, as a term of a kind 'Kd', with the bounds that the row's reach gives. -/
set_option linter.unusedVariables false
set_option linter.unusedSimpArgs false
namespace Go.Proofs.YtbboanfggaknjaaGreatDoor.Opn
open Go.ChangeShapes Go.WideShapes Go.RowKit Go.Proofs.YtbboanfggaknjaaGreatDoorW.PrintWords
def Opens {α : Type} (P : Program) (t : TypeId) (d : Kd α) (good : α → Prop) : Prop :=
 ∀ {H : Type} {enc : TypeId × Value → H} {w : World} {base : Nat} {spare : Nat → Bool} {held : Bool} {fuel : Nat} {cs : List Value} {x : DataW H × List MemPlace},
  DataW.trod enc P w base spare held fuel t cs = some x → (∀ m ∈ x.1.weights P t, m ≤ reachBytes) → ∃ a, d.K w a cs ∧ good a
theorem Opens.imp {α : Type} {P : Program} {t : TypeId} {d : Kd α} {good good' : α → Prop} (h : Opens P t d good) (hg : ∀ a, good a → good' a) : Opens P t d good' := by
 intro H enc w base spare held fuel cs x hx hw
 obtain ⟨a, ha, hga⟩ := h hx hw
 exact ⟨a, ha, hg a hga⟩
theorem opens_string {P : Program} {t : TypeId} (ht : P.underlying t = some .string) : Opens P t Kd.string (fun s => s.size ≤ reachBytes) := by
 intro H enc w base spare held fuel cs x hx hw
 obtain ⟨s, rfl, rfl, _⟩ := DataW.trod_string ht hx
 refine ⟨s, rfl, ?_⟩
 have := hw s.data.toList.length (by simp [DataW.weights])
 simpa using this
theorem Opens.iso {α β : Type} {P : Program} {t : TypeId} {d : Kd α} {good : α → Prop} (h : Opens P t d good) (f : β → α) (g : α → β) (hfg : ∀ a, f (g a) = a) : Opens P t (Kd.iso d f) (fun x => good (f x)) := by
 intro H enc w base spare held fuel cs x hx hw
 obtain ⟨a, ha, hga⟩ := h hx hw
 refine ⟨g a, ?_, by show good (f (g a)); rw [hfg]; exact hga⟩
 show d.K w (f (g a)) cs
 rw [hfg]
 exact ha
end Go.Proofs.YtbboanfggaknjaaGreatDoor.Opn
/- The openings of the arguments of the law PolicyReads, and its pure statement. -/
set_option linter.unusedVariables false
namespace Go.Proofs.YtbboanfggaknjaaGreatDoor.X
open Go.RowKit Go.Proofs.YtbboanfggaknjaaGreatDoorW.PrintWords Go.Proofs.YtbboanfggaknjaaGreatDoorW.PrintLast Go.Proofs.YtbboanfggaknjaaGreatDoorW.PrintMore Go.Proofs.YtbboanfggaknjaaGreatDoor.Opn
def oculuslaw07_PolicyReads.PureX : Prop := ∀ (a0 : ByteArray), (a0.size ≤ reachBytes) → ∃ k, oculuslaw07_PolicyReads.f k a0 = some true
end Go.Proofs.YtbboanfggaknjaaGreatDoor.X
/- What addr and its reference answer: letters, numbers, names. -/
set_option linter.unusedVariables false
set_option linter.unusedSimpArgs false
namespace Go.Proofs.YtbboanfggaknjaaGreatDoor.X.AD
open Go.RowKit Go.Proofs.YtbboanfggaknjaaGreatDoorW.PrintWords Go.Proofs.YtbboanfggaknjaaGreatDoorW.PrintLast Go.Proofs.YtbboanfggaknjaaGreatDoorW.PrintMore
def u8 (n : Nat) : UInt8 := UInt8.ofNat n
def letL (c : Nat) : List UInt8 := if c < 26 then [u8 (65 + c)] else [u8 (64 + c / 26), u8 (65 + c % 26)]
def digL (n : Nat) : List UInt8 := if n < 10 then [u8 (48 + n)] else if n < 100 then [u8 (48 + n / 10), u8 (48 + n % 10)] else [u8 (48 + n / 100), u8 (48 + n / 10 % 10), u8 (48 + n % 10)]
theorem itoa_digL (n : Nat) (h : n < 1000) : Lib.itoa (n : Int) = digL n := by
 unfold Lib.itoa digL u8
 rw [if_neg (by omega), Int.toNat_natCast]
 by_cases h1 : n < 10
 ·rw [if_pos h1, Lib.decDigits, dif_pos h1]
 ·rw [if_neg h1, Lib.decDigits, dif_neg h1]
  by_cases h2 : n < 100
  ·rw [if_pos h2, Lib.decDigits, dif_pos (by omega)]; rfl
  ·rw [if_neg h2, Lib.decDigits, dif_neg (by omega), Lib.decDigits, dif_pos (by omega)]
   rw [Nat.div_div_eq_div_mul]; rfl
theorem itoa_eq (n : Nat) (h : n < 1000) : strconv_Itoa.f (n : Int) = some (tx (digL n)) := by
 unfold strconv_Itoa.f
 rw [if_pos (by omega), itoa_digL n h]; rfl
theorem sn1 (a : Nat) : strOfNums [(a : Int)] = tx [u8 a] := rfl
theorem sn2 (a b : Nat) : strOfNums [(a : Int), (b : Int)] = tx [u8 a, u8 b] := rfl
theorem tdiv26 (c : Nat) : Int.tdiv (c : Int) 26 = ((c / 26 : Nat) : Int) := by rw [Int.tdiv_eq_ediv_of_nonneg (by omega)]; omega
theorem tmod26 (c : Nat) : Int.tmod (c : Int) 26 = ((c % 26 : Nat) : Int) := by rw [Int.tmod_eq_emod_of_nonneg (by omega)]; omega
theorem tdiv10 (c : Nat) : Int.tdiv (c : Int) 10 = ((c / 10 : Nat) : Int) := by rw [Int.tdiv_eq_ediv_of_nonneg (by omega)]; omega
theorem tmod10 (c : Nat) : Int.tmod (c : Int) 10 = ((c % 10 : Nat) : Int) := by rw [Int.tmod_eq_emod_of_nonneg (by omega)]; omega
theorem wn (x : Int) (n : Nat) (h : x = (n : Int)) (hn : n < 256) : wrap64 x % 256 = (n : Int) := by rw [w64 (by omega) (by omega)]; omega
def ltrI (c : Int) : List UInt8 := if c < 0 ∨ c ≥ 702 then [] else letL c.toNat
theorem letters_ev (c : Int) : Ev (fun k => addr_Letters.f k c) (tx (ltrI c)) := by
 unfold addr_Letters.f ltrI
 by_cases h : c < 0 ∨ c ≥ 702
 ·rw [if_pos h]
  have hj : Ev (fun k => addr_Letters.j0 k c true) (tx []) := by
   refine Ev.step (fun k => addr_Letters.j0.eq_2 _ _ _) ?_
   exact ev_pos rfl (Ev.now _)
  refine ev_ite (fun _ => hj) (fun h1 => ?_)
  rw [decide_eq_true (by omega)]
  exact hj
 ·rw [if_neg h]
  refine ev_neg (by omega) ?_
  rw [decide_eq_false (by omega)]
  refine Ev.step (fun k => addr_Letters.j0.eq_2 _ _ _) ?_
  refine ev_neg (by simp) ?_
  obtain ⟨n, rfl⟩ : ∃ n : Nat, c = (n : Int) := ⟨c.toNat, by omega⟩
  rw [Int.toNat_natCast]
  unfold letL
  refine ev_ite (fun h1 => ev_some fun _ => ?_) (fun h1 => ev_some fun _ => ?_)
  ·rw [if_pos (by omega), wn _ (65 + n) (by omega) (by omega), sn1]
  ·have e1 : wrap64 (wrap64 (65 + wrap64 (((n / 26 : Nat) : Int))) - 1) % 256 = ((64 + n / 26 : Nat) : Int) := by
    rw [w64 (x := ((n / 26 : Nat) : Int)) (by omega) (by omega), w64 (x := 65 + ((n / 26 : Nat) : Int)) (by omega) (by omega)]
    exact wn _ _ (by omega) (by omega)
   have e2 : wrap64 (65 + ((n % 26 : Nat) : Int)) % 256 = ((65 + n % 26 : Nat) : Int) := wn _ _ (by omega) (by omega)
   rw [if_neg (by omega), tdiv26, tmod26, e1, e2, sn2]
theorem rletters_ev (c : Int) : Ev (fun k => oculusref03_Letters.f k c) (tx (ltrI c)) := by
 unfold oculusref03_Letters.f ltrI
 by_cases h : c < 0 ∨ c ≥ 702
 ·rw [if_pos h]
  have hj : Ev (fun k => oculusref03_Letters.j0 k c true) (tx []) := by
   refine Ev.step (fun k => oculusref03_Letters.j0.eq_2 _ _ _) ?_
   exact ev_pos rfl (Ev.now _)
  refine ev_ite (fun _ => hj) (fun h1 => ?_)
  rw [decide_eq_true (by omega)]
  exact hj
 ·rw [if_neg h]
  refine ev_neg (by omega) ?_
  rw [decide_eq_false (by omega)]
  refine Ev.step (fun k => oculusref03_Letters.j0.eq_2 _ _ _) ?_
  refine ev_neg (by simp) ?_
  obtain ⟨n, rfl⟩ : ∃ n : Nat, c = (n : Int) := ⟨c.toNat, by omega⟩
  rw [Int.toNat_natCast]
  unfold letL
  refine ev_ite (fun h1 => ev_some fun _ => ?_) (fun h1 => ev_some fun _ => ?_)
  ·rw [if_pos (by omega), wn _ (65 + n) (by omega) (by omega), sn1]
  ·have e1 : wrap64 (64 + wrap64 (((n / 26 : Nat) : Int))) % 256 = ((64 + n / 26 : Nat) : Int) := by
    rw [w64 (x := ((n / 26 : Nat) : Int)) (by omega) (by omega)]
    exact wn _ _ (by omega) (by omega)
   have e2 : wrap64 (65 + ((n % 26 : Nat) : Int)) % 256 = ((65 + n % 26 : Nat) : Int) := wn _ _ (by omega) (by omega)
   rw [if_neg (by omega), tdiv26, tmod26, e1, e2, sn2]
theorem digits_l0_zero (l : List UInt8) : Ev (fun k => oculusref01_Digits.l0 k 0 (tx l)) (tx l) := by
 refine Ev.step (fun k => oculusref01_Digits.l0.eq_2 _ _ _) ?_
 exact ev_neg (by omega) (Ev.now _)
theorem digits_l0_more (n : Nat) (h0 : 0 < n) (h : n < 1000) (l q : List UInt8) (hl : l.length < 10) (hn : Ev (fun k => oculusref01_Digits.l0 k ((n / 10 : Nat) : Int) (tx (u8 (48 + n % 10) :: l))) (tx q)) : Ev (fun k => oculusref01_Digits.l0 k (n : Int) (tx l)) (tx q) := by
 refine Ev.step (fun k => oculusref01_Digits.l0.eq_2 _ _ _) ?_
 refine ev_pos (by omega) (ev_bsome ?_)
 have e2 : wrap64 (48 + Int.tmod (n : Int) 10) % 256 = ((48 + n % 10 : Nat) : Int) := by rw [tmod10]; exact wn _ _ (by omega) (by omega)
 rw [e2, sn1, tdiv10, w64 (by omega) (by omega)]
 refine ev_pos (by rw [size_tx, size_tx]; simp; omega) ?_
 rw [tx_append]
 exact hn
theorem digits_ev (n : Nat) (h : n < 1000) : Ev (fun k => oculusref01_Digits.f k (n : Int)) (tx (digL n)) := by
 unfold oculusref01_Digits.f
 have e2 : wrap64 (48 + Int.tmod (n : Int) 10) % 256 = ((48 + n % 10 : Nat) : Int) := by rw [tmod10]; exact wn _ _ (by omega) (by omega)
 rw [e2, sn1, tdiv10, w64 (by omega) (by omega)]
 unfold digL
 by_cases h1 : n < 10
 ·rw [if_pos h1, show n / 10 = 0 by omega, show n % 10 = n by omega]
  exact digits_l0_zero _
 ·rw [if_neg h1]
  by_cases h2 : n < 100
  ·rw [if_pos h2]
   refine digits_l0_more _ (by omega) (by omega) _ _ (by simp) ?_
   rw [show n / 10 / 10 = 0 by omega, show n / 10 % 10 = n / 10 by omega]
   exact digits_l0_zero _
  ·rw [if_neg h2]
   refine digits_l0_more _ (by omega) (by omega) _ _ (by simp) ?_
   refine digits_l0_more _ (by omega) (by omega) _ _ (by simp) ?_
   rw [show n / 10 / 10 / 10 = 0 by omega, show n / 10 / 10 % 10 = n / 100 by omega]
   exact digits_l0_zero _
def mayI (r c : Int) : Bool := decide (0 ≤ r ∧ r < 999 ∧ 0 ≤ c ∧ c < 702)
theorem amay_eq (a b : Int) : addr_May.f a b = some (mayI a b) := by
 unfold addr_May.f mayI
 by_cases h1 : a ≥ 0
 ·rw [if_pos h1]
  by_cases h2 : a < 999
  ·rw [if_pos h2]
   by_cases h3 : b ≥ 0
   ·rw [if_pos h3, Option.some.injEq, decide_eq_decide]; omega
   ·rw [if_neg h3, decide_eq_false (by omega)]
  ·rw [if_neg h2, decide_eq_false (by omega)]
 ·rw [if_neg h1, decide_eq_false (by omega)]
theorem rmay_eq (a b : Int) : oculusref03_May.f a b = some (mayI a b) := by
 unfold oculusref03_May.f mayI
 by_cases h1 : a ≥ 0
 ·rw [if_pos h1]
  by_cases h2 : a ≤ 998
  ·rw [if_pos h2]
   by_cases h3 : b ≥ 0
   ·rw [if_pos h3, Option.some.injEq, decide_eq_decide]; omega
   ·rw [if_neg h3, decide_eq_false (by omega)]
  ·rw [if_neg h2, decide_eq_false (by omega)]
 ·rw [if_neg h1, decide_eq_false (by omega)]
def nameL (r c : Int) : List UInt8 := if mayI r c = true then letL c.toNat ++ digL (r.toNat + 1) else []
theorem letL_len (n : Nat) : (letL n).length ≤ 2 := by unfold letL; split <;> simp
theorem digL_len (n : Nat) : (digL n).length ≤ 3 := by unfold digL; (repeat' split) <;> simp
theorem name_ev (r c : Int) : Ev (fun k => addr_Name.f k r c) (tx (nameL r c)) := by
 unfold addr_Name.f nameL
 refine ev_bind (ev_some fun _ => amay_eq r c) ?_
 by_cases h : mayI r c = true
 ·rw [if_pos h]
  refine ev_pos h ?_
  unfold mayI at h
  have hb := of_decide_eq_true h
  have hl := letters_ev c
  unfold ltrI at hl
  rw [if_neg (by omega)] at hl
  refine ev_bind hl ?_
  have e : wrap64 (r + 1) = ((r.toNat + 1 : Nat) : Int) := by rw [w64 (by omega) (by omega)]; omega
  rw [e, itoa_eq _ (by omega)]
  refine ev_bsome ?_
  have h1 := letL_len c.toNat
  have h2 := digL_len (r.toNat + 1)
  refine ev_pos (by rw [size_tx, size_tx]; omega) (ev_some fun _ => by rw [tx_append])
 ·rw [if_neg h]; exact ev_neg h (Ev.now _)
end Go.Proofs.YtbboanfggaknjaaGreatDoor.X.AD
/- What addr.Column, Number, Parse and their reference answer. -/
set_option linter.unusedVariables false
set_option linter.unusedSimpArgs false
namespace Go.Proofs.YtbboanfggaknjaaGreatDoor.X.AD
open Go.RowKit Go.Proofs.YtbboanfggaknjaaGreatDoorW.PrintWords Go.Proofs.YtbboanfggaknjaaGreatDoorW.PrintLast Go.Proofs.YtbboanfggaknjaaGreatDoorW.PrintMore
def isU (b : UInt8) : Bool := decide (65 ≤ b.toNat ∧ b.toNat ≤ 90)
def isD (b : UInt8) : Bool := decide (48 ≤ b.toNat ∧ b.toNat ≤ 57)
def colF : Int → List UInt8 → Int × Bool
 | n, [] => (n - 1, true)
 | n, b :: l => if isU b = true then colF (n * 26 + ((b.toNat : Int) - 65) + 1) l else (0, false)
def colS (l : List UInt8) : Int × Bool := if l.length < 1 ∨ l.length > 2 then (0, false) else colF 0 l
def numF : Int → List UInt8 → Int × Bool
 | n, [] => (n - 1, true)
 | n, b :: l => if isD b = true then numF (n * 10 + ((b.toNat : Int) - 48)) l else (0, false)
def numS (l : List UInt8) : Int × Bool := if l.length < 1 ∨ l.length > 3 ∨ l.head? = some 48 then (0, false) else numF 0 l
theorem col_l0 (l : List UInt8) (hl : l.length ≤ 2) : ∀ d i n, i + d = l.length → 0 ≤ n → ((i = 0 → n = 0) ∧ (i = 1 → n ≤ 26) ∧ n ≤ 1000) → Ev (fun k => addr_Column.l0 k (tx l) n (l.length : Int) (i : Int)) (colF n (l.drop i))
 | 0, i, n, h, h0, h1 => by
  rw [List.drop_eq_nil_of_le (by omega)]
  refine Ev.step (fun k => addr_Column.l0.eq_2 _ _ _ _ _) ?_
  refine ev_neg (by omega) ?_
  rw [w64 (by omega) (by omega)]
  exact Ev.now _
 | d + 1, i, n, h, h0, h1 => by
  have hlt : i < l.length := by omega
  have hz := size_tx l
  have hb := bt_tx l i hlt
  have hu := u8_lt l[i]
  rw [List.drop_eq_getElem_cons hlt]
  refine Ev.step (fun k => addr_Column.l0.eq_2 _ _ _ _ _) ?_
  refine ev_pos (by omega) (ev_pos (by omega) (ev_pos (by omega) ?_))
  simp only [hb, colF]
  by_cases g1 : ((l[i]).toNat : Int) < 65
  ·rw [if_neg (by unfold isU; simp; omega)]; exact ev_pos g1 (Ev.now _)
  ·refine ev_neg g1 ?_
   by_cases g2 : ((l[i]).toNat : Int) > 90
   ·rw [if_neg (by unfold isU; simp; omega)]; exact ev_pos g2 (Ev.now _)
   ·rw [if_pos (by unfold isU; simp; omega)]
    refine ev_neg g2 ?_
    rw [w64s (n := 100) (by omega) (by omega)]
    rw [show (((l[i]).toNat : Int) - 65) % 256 = ((l[i]).toNat : Int) - 65 by omega, w64 (x := n * 26) (by omega) (by omega), w64 (x := n * 26 + (((l[i]).toNat : Int) - 65)) (by omega) (by omega), w64 (by omega) (by omega)]
    exact col_l0 l hl d (i + 1) _ (by omega) (by omega) (by
     rcases (by omega : i = 0 ∨ i = 1) with rfl | rfl
     ·have := h1.1 rfl; omega
     ·have := h1.2.1 rfl; omega)
theorem column_ev (l : List UInt8) : Ev (fun k => addr_Column.f k (tx l)) (colS l) := by
 have hz := size_tx l
 unfold addr_Column.f colS
 have hj : Ev (fun k => addr_Column.j0 k (tx l) true) (0, false) := by
  refine Ev.step (fun k => addr_Column.j0.eq_2 _ _ _) ?_
  exact ev_pos rfl (Ev.now _)
 by_cases h : l.length < 1 ∨ l.length > 2
 ·rw [if_pos h]
  refine ev_ite (fun _ => hj) (fun g => ?_)
  rw [decide_eq_true (by omega)]
  exact hj
 ·rw [if_neg h]
  refine ev_neg (by omega) ?_
  rw [decide_eq_false (by omega)]
  refine Ev.step (fun k => addr_Column.j0.eq_2 _ _ _) ?_
  refine ev_neg (by simp) ?_
  rw [hz]
  exact col_l0 l (by omega) l.length 0 0 (by omega) (by omega) (by omega)
theorem num_l0 (l : List UInt8) (hl : l.length ≤ 3) : ∀ d i n, i + d = l.length → 0 ≤ n → ((i = 0 → n = 0) ∧ (i = 1 → n ≤ 9) ∧ (i = 2 → n ≤ 99) ∧ n ≤ 999) → Ev (fun k => addr_Number.l0 k (tx l) n (l.length : Int) (i : Int)) (numF n (l.drop i))
 | 0, i, n, h, h0, h1 => by
  rw [List.drop_eq_nil_of_le (by omega)]
  refine Ev.step (fun k => addr_Number.l0.eq_2 _ _ _ _ _) ?_
  refine ev_neg (by omega) ?_
  rw [w64 (by omega) (by omega)]
  exact Ev.now _
 | d + 1, i, n, h, h0, h1 => by
  have hlt : i < l.length := by omega
  have hz := size_tx l
  have hb := bt_tx l i hlt
  have hu := u8_lt l[i]
  rw [List.drop_eq_getElem_cons hlt]
  refine Ev.step (fun k => addr_Number.l0.eq_2 _ _ _ _ _) ?_
  refine ev_pos (by omega) (ev_pos (by omega) (ev_pos (by omega) ?_))
  simp only [hb, numF]
  by_cases g1 : ((l[i]).toNat : Int) < 48
  ·rw [if_neg (by unfold isD; simp; omega)]; exact ev_pos g1 (Ev.now _)
  ·refine ev_neg g1 ?_
   by_cases g2 : ((l[i]).toNat : Int) > 57
   ·rw [if_neg (by unfold isD; simp; omega)]; exact ev_pos g2 (Ev.now _)
   ·rw [if_pos (by unfold isD; simp; omega)]
    refine ev_neg g2 ?_
    rw [w64s (n := 100) (by omega) (by omega)]
    rw [show (((l[i]).toNat : Int) - 48) % 256 = ((l[i]).toNat : Int) - 48 by omega, w64 (x := n * 10) (by omega) (by omega), w64 (by omega) (by omega)]
    exact num_l0 l hl d (i + 1) _ (by omega) (by omega) (by
     rcases (by omega : i = 0 ∨ i = 1 ∨ i = 2) with rfl | rfl | rfl
     ·have := h1.1 rfl; omega
     ·have := h1.2.1 rfl; omega
     ·have := h1.2.2.1 rfl; omega)
theorem number_ev (l : List UInt8) : Ev (fun k => addr_Number.f k (tx l)) (numS l) := by
 have hz := size_tx l
 unfold addr_Number.f numS
 have hj : Ev (fun k => addr_Number.j0 k (tx l) true) (0, false) := by
  refine Ev.step (fun k => addr_Number.j0.eq_2 _ _ _) ?_
  exact ev_pos rfl (Ev.now _)
 by_cases h1 : l.length < 1
 ·rw [if_pos (Or.inl h1)]; exact ev_pos (by omega) hj
 ·refine ev_neg (by omega) ?_
  by_cases h2 : l.length > 3
  ·rw [if_pos (Or.inr (Or.inl h2))]; exact ev_pos (by omega) hj
  ·refine ev_neg (by omega) (ev_pos (by omega) ?_)
   obtain ⟨b, m, rfl⟩ : ∃ b m, l = b :: m := by cases l with | nil => simp at h1 | cons b m => exact ⟨b, m, rfl⟩
   have hb0 : bt (tx (b :: m)) 0 = (b.toNat : Int) := bt_tx0 b m
   rw [hb0]
   by_cases h3 : b = 48
   ·subst h3
    rw [if_pos (Or.inr (Or.inr (by rfl : (48 :: m : List UInt8).head? = some 48)))]
    exact hj
   ·have hne : (((b.toNat : Int)) == 48) = false := by
     rw [beq_eq_false_iff_ne]
     intro e
     exact h3 (u8_inj (by show b.toNat = 48; omega))
    rw [if_neg (by rintro (hh | hh | hh); exact h1 hh; exact h2 hh; exact h3 (Option.some.inj hh)), hne]
    refine Ev.step (fun k => addr_Number.j0.eq_2 _ _ _) ?_
    refine ev_neg (by simp) ?_
    rw [hz]
    exact num_l0 (b :: m) (by omega) (b :: m).length 0 0 (by omega) (by omega) (by omega)
def parS (l : List UInt8) : Int × Int × Bool :=
 if (colS (l.takeWhile isU)).2 = true then (if (numS (l.dropWhile isU)).2 = true then ((numS (l.dropWhile isU)).1, (colS (l.takeWhile isU)).1, true) else (0, 0, false)) else (0, 0, false)
theorem parse_j1 (a r : List UInt8) : Ev (fun k => addr_Parse.j1 k (tx (a ++ r)) (a.length : Int)) (if (colS a).2 = true then (if (numS r).2 = true then ((numS r).1, (colS a).1, true) else (0, 0, false)) else (0, 0, false)) := by
 have hz := size_tx (a ++ r)
 rw [List.length_append] at hz
 refine Ev.step (fun k => addr_Parse.j1.eq_2 _ _ _) ?_
 refine ev_pos (by omega) (ev_pos (by omega) ?_)
 rw [Int.toNat_natCast, ext_head, ext_tail, by_tx, List.take_left' rfl, List.drop_left' rfl]
 refine ev_bind (column_ev a) (ev_bind (number_ev r) ?_)
 refine ev_ite (fun h1 => ev_ite (fun h2 => ?_) (fun h2 => ?_)) (fun h1 => ?_)
 ·rw [if_pos h1, if_pos h2]; exact Ev.now _
 ·rw [if_pos h1, if_neg h2]; exact Ev.now _
 ·rw [if_neg h1]; exact Ev.now _
theorem parse_l0 (a r : List UInt8) (ha : ∀ x ∈ a, isU x = true) (hr : ∀ b m, r = b :: m → isU b = false) (hl : a.length + r.length ≤ 5000) : ∀ d i, i + d = a.length → Ev (fun k => addr_Parse.l0 k (tx (a ++ r)) (i : Int)) (if (colS a).2 = true then (if (numS r).2 = true then ((numS r).1, (colS a).1, true) else (0, 0, false)) else (0, 0, false))
 | 0, i, h => by
  have hz := size_tx (a ++ r)
  rw [List.length_append] at hz
  have hi : i = a.length := by omega
  subst hi
  refine Ev.step (fun k => addr_Parse.l0.eq_2 _ _ _) ?_
  cases r with
  | nil =>
   have hz' : (tx (a ++ [])).size = a.length := by rw [size_tx, List.append_nil]
   exact ev_neg (by omega) (parse_j1 a [])
  | cons b m =>
   have hb : bt (tx (a ++ b :: m)) (a.length : Int) = (b.toNat : Int) := by
    rw [bt_tx _ a.length (by simp)]
    simp
   have hu := hr b m rfl
   unfold isU at hu
   rw [decide_eq_false_iff_not] at hu
   refine ev_pos (by simp at hz; omega) (ev_pos (by omega) ?_)
   rw [hb]
   refine ev_ite (fun g1 => ?_) (fun _ => parse_j1 a (b :: m))
   exact ev_neg (by omega) (parse_j1 a (b :: m))
 | d + 1, i, h => by
  have hz := size_tx (a ++ r)
  rw [List.length_append] at hz
  have hlt : i < a.length := by omega
  have hb : bt (tx (a ++ r)) (i : Int) = ((a[i]).toNat : Int) := by
   rw [bt_tx _ i (by simp; omega), List.getElem_append_left hlt]
  have hu := ha _ (List.getElem_mem hlt)
  unfold isU at hu
  rw [decide_eq_true_eq] at hu
  refine Ev.step (fun k => addr_Parse.l0.eq_2 _ _ _) ?_
  refine ev_pos (by omega) (ev_pos (by omega) ?_)
  rw [hb, w64s (n := 10000) (by omega) (by omega)]
  exact ev_pos (by omega) (ev_pos (by omega) (parse_l0 a r ha hr hl d (i + 1) (by omega)))
theorem parse_ev (l : List UInt8) (hl : l.length ≤ 5000) : Ev (fun k => addr_Parse.f k (tx l)) (parS l) := by
 unfold addr_Parse.f parS
 have e : l.takeWhile isU ++ l.dropWhile isU = l := List.takeWhile_append_dropWhile
 have hlen := congrArg List.length e
 rw [List.length_append] at hlen
 have := parse_l0 (l.takeWhile isU) (l.dropWhile isU) (fun x hx => by
   have := List.all_takeWhile (l := l) (p := isU)
   exact List.all_eq_true.1 this x hx) (fun b m hbm => by
   cases hb : isU b with
   | false => rfl
   | true =>
    have hh := List.head?_dropWhile_not isU l
    rw [hbm] at hh
    simp [hb] at hh) (by omega) (l.takeWhile isU).length 0 (by omega)
 rw [e] at this
 exact this
end Go.Proofs.YtbboanfggaknjaaGreatDoor.X.AD
/- The reference's searches: the column of letters, the row of a number, the cell of a name. -/
set_option linter.unusedVariables false
set_option linter.unusedSimpArgs false
namespace Go.Proofs.YtbboanfggaknjaaGreatDoor.X.AD
open Go.RowKit Go.Proofs.YtbboanfggaknjaaGreatDoorW.PrintWords Go.Proofs.YtbboanfggaknjaaGreatDoorW.PrintLast Go.Proofs.YtbboanfggaknjaaGreatDoorW.PrintMore
def srch (f : Nat → List UInt8) (t : List UInt8) : Nat → Nat → Int × Bool
 | 0, _ => (0, false)
 | d + 1, i => if f i = t then ((i : Int), true) else srch f t d (i + 1)
theorem srch_miss (f : Nat → List UInt8) (t : List UInt8) : ∀ d i, (∀ j, i ≤ j → j < i + d → f j ≠ t) → srch f t d i = (0, false)
 | 0, _, _ => rfl
 | d + 1, i, h => by
  simp only [srch]
  rw [if_neg (h i (by omega) (by omega)), srch_miss f t d (i + 1) (fun j h1 h2 => h j (by omega) (by omega))]
theorem srch_hit (f : Nat → List UInt8) (t : List UInt8) (j : Nat) (hj : f j = t) : ∀ d i, i ≤ j → j < i + d → (∀ m, m < j → f m ≠ t) → srch f t d i = ((j : Int), true)
 | 0, i, h1, h2, _ => by omega
 | d + 1, i, h1, h2, h3 => by
  simp only [srch]
  by_cases e : i = j
  ·subst e; rw [if_pos hj]
  ·rw [if_neg (h3 i (by omega)), srch_hit f t j hj d (i + 1) (by omega) (by omega) h3]
theorem txl (l m : List UInt8) : ((tx l).toList = (tx m).toList) ↔ l = m := by rw [toList_by, toList_by, by_tx, by_tx]
theorem rcolumn_ev (t : List UInt8) : Ev (fun k => oculusref03_Column.f k (tx t)) (srch letL t 702 0) := by
 have hl : ∀ d i : Nat, i + d = 702 → Ev (fun k => oculusref03_Column.l0 k (tx t) (i : Int)) (srch letL t d i) := by
  intro d
  induction d with
  | zero =>
   intro i h
   refine Ev.step (fun k => oculusref03_Column.l0.eq_2 _ _ _) ?_
   exact ev_neg (by omega) (Ev.now _)
  | succ d ih =>
   intro i h
   refine Ev.step (fun k => oculusref03_Column.l0.eq_2 _ _ _) ?_
   refine ev_pos (by omega) ?_
   have hr := rletters_ev (i : Int)
   unfold ltrI at hr
   rw [if_neg (by omega), Int.toNat_natCast] at hr
   refine ev_bind hr ?_
   simp only [srch]
   refine ev_ite (fun g => ?_) (fun g => ?_)
   ·rw [if_pos ((txl _ _).1 g)]; exact Ev.now _
   ·rw [if_neg (fun e => g ((txl _ _).2 e)), w64s (n := 10000) (by omega) (by omega)]
    exact ih (i + 1) (by omega)
 exact hl 702 0 (by omega)
theorem rnumber_ev (t : List UInt8) : Ev (fun k => oculusref03_Number.f k (tx t)) (srch (fun i => digL (i + 1)) t 999 0) := by
 have hl : ∀ d i : Nat, i + d = 999 → Ev (fun k => oculusref03_Number.l0 k (tx t) (i : Int)) (srch (fun i => digL (i + 1)) t d i) := by
  intro d
  induction d with
  | zero =>
   intro i h
   refine Ev.step (fun k => oculusref03_Number.l0.eq_2 _ _ _) ?_
   exact ev_neg (by omega) (Ev.now _)
  | succ d ih =>
   intro i h
   refine Ev.step (fun k => oculusref03_Number.l0.eq_2 _ _ _) ?_
   refine ev_pos (by omega) ?_
   rw [w64s (n := 10000) (by omega) (by omega)]
   refine ev_bind (digits_ev (i + 1) (by omega)) ?_
   simp only [srch]
   refine ev_ite (fun g => ?_) (fun g => ?_)
   ·rw [if_pos ((txl _ _).1 g)]; exact Ev.now _
   ·rw [if_neg (fun e => g ((txl _ _).2 e))]
    exact ih (i + 1) (by omega)
 exact hl 999 0 (by omega)
theorem col_let : ∀ n : Fin 702, colS (letL n.val) = ((n.val : Int), true) := by decide +kernel
theorem num_dig : ∀ n : Fin 999, numS (digL (n.val + 1)) = ((n.val : Int), true) := by decide +kernel
theorem u8_of (a : UInt8) : u8 a.toNat = a := by
 apply u8_inj
 show (UInt8.ofNat a.toNat).toNat = a.toNat
 simp
theorem u8_eq (a : UInt8) (n : Nat) (h : n = a.toNat) : u8 n = a := by rw [h, u8_of]
theorem col_ok (t : List UInt8) (h : (colS t).2 = true) : ∃ n : Nat, n < 702 ∧ letL n = t := by
 unfold colS at h
 match t, h with
 | [], h => simp at h
 | [a], h =>
  simp only [List.length_singleton, colF] at h
  by_cases ha : isU a = true
  ·unfold isU at ha
   have ha := of_decide_eq_true ha
   refine ⟨a.toNat - 65, by omega, ?_⟩
   unfold letL
   rw [if_pos (by omega), u8_eq a _ (by omega)]
  ·rw [if_neg (by omega), if_neg ha] at h; simp at h
 | [a, b], h =>
  simp only [List.length_cons, List.length_nil, colF] at h
  rw [if_neg (by omega)] at h
  by_cases ha : isU a = true
  ·rw [if_pos ha] at h
   by_cases hb : isU b = true
   ·unfold isU at ha hb
    have ha := of_decide_eq_true ha
    have hb := of_decide_eq_true hb
    refine ⟨(a.toNat - 64) * 26 + (b.toNat - 65), by omega, ?_⟩
    unfold letL
    rw [if_neg (by omega), u8_eq a _ (by omega), u8_eq b _ (by omega)]
   ·rw [if_neg hb] at h; simp at h
  ·rw [if_neg ha] at h; simp at h
 | a :: b :: c :: l, h =>
  rw [if_pos (by simp)] at h; simp at h
theorem col_false (t : List UInt8) (h : ¬ (colS t).2 = true) : colS t = (0, false) := by
 have : ∀ (l : List UInt8) (n : Int), ¬ (colF n l).2 = true → colF n l = (0, false) := by
  intro l
  induction l with
  | nil => intro n h; simp [colF] at h
  | cons b l ih =>
   intro n h
   simp only [colF] at h ⊢
   by_cases hb : isU b = true
   ·rw [if_pos hb] at h ⊢; exact ih _ h
   ·rw [if_neg hb]
 unfold colS at h ⊢
 split
 ·rfl
 ·rename_i g
  rw [if_neg g] at h
  exact this _ _ h
theorem srch_col (t : List UInt8) : srch letL t 702 0 = colS t := by
 by_cases h : (colS t).2 = true
 ·obtain ⟨n, hn, rfl⟩ := col_ok t h
  rw [col_let ⟨n, hn⟩]
  refine srch_hit letL _ n rfl 702 0 (by omega) (by omega) (fun m hm e => ?_)
  have h1 := col_let ⟨m, by omega⟩
  have h2 := col_let ⟨n, hn⟩
  simp only at h1 h2
  rw [e, h2] at h1
  simp only [Prod.mk.injEq] at h1
  omega
 ·rw [col_false t h]
  refine srch_miss letL t 702 0 (fun j _ hj e => h ?_)
  rw [← e, col_let ⟨j, by omega⟩]
theorem num_ok (t : List UInt8) (h : (numS t).2 = true) : ∃ n : Nat, n < 999 ∧ digL (n + 1) = t := by
 unfold numS at h
 have hd : ∀ {b : UInt8}, isD b = true → 48 ≤ b.toNat ∧ b.toNat ≤ 57 := fun {b} hb => by unfold isD at hb; exact of_decide_eq_true hb
 match t, h with
 | [], h => simp at h
 | a :: l, h =>
  by_cases g : (a :: l).length < 1 ∨ (a :: l).length > 3 ∨ (a :: l).head? = some 48
  ·rw [if_pos g] at h; simp at h
  ·rw [if_neg g] at h
   have h0 : a ≠ 48 := fun e => g (Or.inr (Or.inr (by rw [e]; rfl)))
   have h0' : a.toNat ≠ 48 := fun e => h0 (u8_inj e)
   simp only [numF] at h
   by_cases ha : isD a = true
   ·rw [if_pos ha] at h
    have ha := hd ha
    match l, h, g with
    | [], _, _ =>
     refine ⟨a.toNat - 49, by omega, ?_⟩
     unfold digL
     rw [if_pos (by omega), u8_eq a _ (by omega)]
    | [b], h, _ =>
     simp only [numF] at h
     by_cases hb : isD b = true
     ·have hb := hd hb
      refine ⟨(a.toNat - 48) * 10 + (b.toNat - 48) - 1, by omega, ?_⟩
      unfold digL
      rw [if_neg (by omega), if_pos (by omega), u8_eq a _ (by omega), u8_eq b _ (by omega)]
     ·rw [if_neg hb] at h; simp at h
    | [b, c], h, _ =>
     simp only [numF] at h
     by_cases hb : isD b = true
     ·rw [if_pos hb] at h
      by_cases hc : isD c = true
      ·have hb := hd hb
       have hc := hd hc
       refine ⟨(a.toNat - 48) * 100 + (b.toNat - 48) * 10 + (c.toNat - 48) - 1, by omega, ?_⟩
       unfold digL
       rw [if_neg (by omega), if_neg (by omega), u8_eq a _ (by omega), u8_eq b _ (by omega), u8_eq c _ (by omega)]
      ·rw [if_neg hc] at h; simp at h
     ·rw [if_neg hb] at h; simp at h
    | b :: c :: e :: m, _, g => exact absurd (Or.inr (Or.inl (by simp))) g
   ·rw [if_neg ha] at h; simp at h
theorem num_false (t : List UInt8) (h : ¬ (numS t).2 = true) : numS t = (0, false) := by
 have : ∀ (l : List UInt8) (n : Int), ¬ (numF n l).2 = true → numF n l = (0, false) := by
  intro l
  induction l with
  | nil => intro n h; simp [numF] at h
  | cons b l ih =>
   intro n h
   simp only [numF] at h ⊢
   by_cases hb : isD b = true
   ·rw [if_pos hb] at h ⊢; exact ih _ h
   ·rw [if_neg hb]
 unfold numS at h ⊢
 split
 ·rfl
 ·rename_i g
  rw [if_neg g] at h
  exact this _ _ h
theorem srch_num (t : List UInt8) : srch (fun i => digL (i + 1)) t 999 0 = numS t := by
 by_cases h : (numS t).2 = true
 ·obtain ⟨n, hn, rfl⟩ := num_ok t h
  rw [num_dig ⟨n, hn⟩]
  refine srch_hit _ _ n rfl 999 0 (by omega) (by omega) (fun m hm e => ?_)
  have h1 := num_dig ⟨m, by omega⟩
  have h2 := num_dig ⟨n, hn⟩
  simp only at h1 h2 e
  rw [e, h2] at h1
  simp only [Prod.mk.injEq] at h1
  omega
 ·rw [num_false t h]
  refine srch_miss _ t 999 0 (fun j _ hj e => h ?_)
  rw [← e, num_dig ⟨j, by omega⟩]
end Go.Proofs.YtbboanfggaknjaaGreatDoor.X.AD
/- The reference's Parse is the code's. -/
set_option linter.unusedVariables false
set_option linter.unusedSimpArgs false
namespace Go.Proofs.YtbboanfggaknjaaGreatDoor.X.AD
open Go.RowKit Go.Proofs.YtbboanfggaknjaaGreatDoorW.PrintWords Go.Proofs.YtbboanfggaknjaaGreatDoorW.PrintLast Go.Proofs.YtbboanfggaknjaaGreatDoorW.PrintMore
theorem rcol_ev (t : List UInt8) : Ev (fun k => oculusref03_Column.f k (tx t)) (colS t) := by rw [← srch_col]; exact rcolumn_ev t
theorem rnum_ev (t : List UInt8) : Ev (fun k => oculusref03_Number.f k (tx t)) (numS t) := by rw [← srch_num]; exact rnumber_ev t
def stepS (l : List UInt8) (i : Nat) (q : Int × Int × Bool) : Int × Int × Bool := if (colS (l.take i)).2 = true then (if (numS (l.drop i)).2 = true then ((numS (l.drop i)).1, (colS (l.take i)).1, true) else q) else q
def rpS (l : List UInt8) : Int × Int × Bool := if 1 ≤ l.length then stepS l 1 (if 2 ≤ l.length then stepS l 2 (0, 0, false) else (0, 0, false)) else (0, 0, false)
theorem rparse_j1f (l : List UInt8) (i : Int) : Ev (fun k => oculusref03_Parse.j1 k (tx l) i false) (0, 0, false) := by
 refine Ev.step (fun k => oculusref03_Parse.j1.eq_2 _ _ _ _) ?_
 exact ev_neg (by simp) (Ev.now _)
theorem rparse_step (l : List UInt8) (i : Nat) (hi : 1 ≤ i ∧ i ≤ 2) (q : Int × Int × Bool) (hn : Ev (fun k => oculusref03_Parse.l0 k (tx l) ((i + 1 : Nat) : Int)) q) : Ev (fun k => oculusref03_Parse.l0 k (tx l) (i : Int)) (if i ≤ l.length then stepS l i q else (0, 0, false)) := by
 have hz := size_tx l
 refine Ev.step (fun k => oculusref03_Parse.l0.eq_2 _ _ _) ?_
 refine ev_pos (by omega) ?_
 by_cases h : i ≤ l.length
 ·rw [if_pos h, decide_eq_true (by omega)]
  refine Ev.step (fun k => oculusref03_Parse.j1.eq_2 _ _ _ _) ?_
  refine ev_pos rfl (ev_pos (by omega) (ev_pos (by omega) ?_))
  rw [Int.toNat_natCast, ext_head, ext_tail, by_tx, w64s (n := 100) (by omega) (by omega)]
  refine ev_bind (rcol_ev _) (ev_bind (rnum_ev _) ?_)
  unfold stepS
  refine ev_ite (fun h1 => ev_ite (fun h2 => ?_) (fun h2 => ?_)) (fun h1 => ?_)
  ·rw [if_pos h1, if_pos h2]; exact Ev.now _
  ·rw [if_pos h1, if_neg h2]; exact hn
  ·rw [if_neg h1]; exact hn
 ·rw [if_neg h, decide_eq_false (by omega)]
  exact rparse_j1f l i
theorem rparse_ev (l : List UInt8) : Ev (fun k => oculusref03_Parse.f k (tx l)) (rpS l) := by
 unfold oculusref03_Parse.f rpS
 refine rparse_step l 1 (by omega) _ (rparse_step l 2 (by omega) _ ?_)
 refine Ev.step (fun k => oculusref03_Parse.l0.eq_2 _ _ _) ?_
 exact ev_neg (by omega) (rparse_j1f l _)
theorem num_upper (b : UInt8) (l : List UInt8) (hb : isU b = true) : ¬ (numS (b :: l)).2 = true := by
 unfold isU at hb
 have hb := of_decide_eq_true hb
 unfold numS
 split
 ·simp
 ·simp only [numF]
  rw [if_neg (by unfold isD; simp; omega)]
  simp
theorem num_nil : ¬ (numS []).2 = true := by simp [numS]
theorem col_one (a : UInt8) : (colS [a]).2 = true ↔ isU a = true := by
 unfold colS
 rw [if_neg (by simp)]
 simp only [colF]
 by_cases h : isU a = true
 ·rw [if_pos h]; simp [h]
 ·rw [if_neg h]; simp [h]
theorem col_two (a b : UInt8) : (colS [a, b]).2 = true ↔ (isU a = true ∧ isU b = true) := by
 unfold colS
 rw [if_neg (by simp)]
 simp only [colF]
 by_cases h : isU a = true
 ·rw [if_pos h]
  by_cases g : isU b = true
  ·rw [if_pos g]; simp [h, g]
  ·rw [if_neg g]; simp [g]
 ·rw [if_neg h]; simp [h]
theorem rp_one (a : UInt8) : rpS [a] = if (colS [a]).2 = true then (if (numS []).2 = true then ((numS []).1, (colS [a]).1, true) else (0, 0, false)) else (0, 0, false) := rfl
theorem rp_two (a b : UInt8) (m : List UInt8) : rpS (a :: b :: m) = if (colS [a]).2 = true then (if (numS (b :: m)).2 = true then ((numS (b :: m)).1, (colS [a]).1, true) else (if (colS [a, b]).2 = true then (if (numS m).2 = true then ((numS m).1, (colS [a, b]).1, true) else (0, 0, false)) else (0, 0, false))) else (if (colS [a, b]).2 = true then (if (numS m).2 = true then ((numS m).1, (colS [a, b]).1, true) else (0, 0, false)) else (0, 0, false)) := by
 unfold rpS
 rw [if_pos (show 1 ≤ (a :: b :: m).length by simp), if_pos (show 2 ≤ (a :: b :: m).length by simp)]
 rfl
def parF (a r : List UInt8) : Int × Int × Bool := if (colS a).2 = true then (if (numS r).2 = true then ((numS r).1, (colS a).1, true) else (0, 0, false)) else (0, 0, false)
theorem par_F (l : List UInt8) : parS l = parF (l.takeWhile isU) (l.dropWhile isU) := rfl
theorem parF_num {a r : List UInt8} (h : ¬ (numS r).2 = true) : parF a r = (0, 0, false) := by unfold parF; rw [if_neg h]; split <;> rfl
theorem parF_col {a r : List UInt8} (h : ¬ (colS a).2 = true) : parF a r = (0, 0, false) := by unfold parF; rw [if_neg h]
theorem par_rp (l : List UInt8) : parS l = rpS l := by
 rw [par_F]
 match l with
 | [] => exact parF_num num_nil
 | [a] =>
  rw [rp_one, if_neg num_nil]
  by_cases h : isU a = true
  ·rw [List.takeWhile_cons_of_pos h, List.dropWhile_cons_of_pos h, List.dropWhile_nil, parF_num num_nil]
   split <;> rfl
  ·rw [List.takeWhile_cons_of_neg h, parF_col (by simp [colS])]
   split <;> rfl
 | a :: b :: m =>
  rw [rp_two]
  by_cases h : isU a = true
  ·rw [List.takeWhile_cons_of_pos h, List.dropWhile_cons_of_pos h]
   by_cases g : isU b = true
   ·rw [List.takeWhile_cons_of_pos g, List.dropWhile_cons_of_pos g, if_neg (num_upper b m g)]
    have e2 : parF (a :: b :: m.takeWhile isU) (m.dropWhile isU) = (if (colS [a, b]).2 = true then (if (numS m).2 = true then ((numS m).1, (colS [a, b]).1, true) else (0, 0, false)) else (0, 0, false)) := by
     cases m with
     | nil => rfl
     | cons c r =>
      by_cases k : isU c = true
      ·rw [List.takeWhile_cons_of_pos k, parF_col (by unfold colS; rw [if_pos (by simp)]; simp), if_neg (num_upper c r k)]
       split <;> rfl
      ·rw [List.takeWhile_cons_of_neg k, List.dropWhile_cons_of_neg k]; rfl
    rw [e2, if_pos ((col_one a).2 h)]
   ·rw [List.takeWhile_cons_of_neg g, List.dropWhile_cons_of_neg g, if_neg (fun k => g ((col_two a b).1 k).2)]
    unfold parF
    split <;> rfl
  ·rw [List.takeWhile_cons_of_neg h, parF_col (by simp [colS]), if_neg (fun k => h ((col_one a).1 k)), if_neg (fun k => h ((col_two a b).1 k).1)]
end Go.Proofs.YtbboanfggaknjaaGreatDoor.X.AD
/- A cell's name, read; what is read, named: plain. -/
set_option linter.unusedVariables false
set_option linter.unusedSimpArgs false
namespace Go.Proofs.YtbboanfggaknjaaGreatDoor.X.AD
open Go.RowKit Go.Proofs.YtbboanfggaknjaaGreatDoor.X Go.Proofs.YtbboanfggaknjaaGreatDoorW.PrintWords Go.Proofs.YtbboanfggaknjaaGreatDoorW.PrintLast Go.Proofs.YtbboanfggaknjaaGreatDoorW.PrintMore
theorem par_back {l : List UInt8} {r c : Int} (h : parS l = (r, c, true)) : mayI r c = true ∧ nameL r c = l := by
 rw [par_F] at h
 have ha : l.takeWhile isU ++ l.dropWhile isU = l := List.takeWhile_append_dropWhile
 unfold parF at h
 by_cases h1 : (colS (l.takeWhile isU)).2 = true
 ·rw [if_pos h1] at h
  by_cases h2 : (numS (l.dropWhile isU)).2 = true
  ·rw [if_pos h2] at h
   obtain ⟨n, hn, e1⟩ := col_ok _ h1
   obtain ⟨m, hm, e2⟩ := num_ok _ h2
   simp only [Prod.mk.injEq] at h
   have c1 := col_let ⟨n, hn⟩
   have c2 := num_dig ⟨m, hm⟩
   simp only at c1 c2
   rw [← e1, ← e2, c1, c2] at h
   simp only at h
   obtain ⟨rfl, rfl, _⟩ := h
   have hm2 : mayI (m : Int) (n : Int) = true := by unfold mayI; rw [decide_eq_true_eq]; omega
   refine ⟨hm2, ?_⟩
   unfold nameL
   rw [if_pos hm2, Int.toNat_natCast, Int.toNat_natCast, e1, e2, ha]
  ·rw [if_neg h2] at h; simp at h
 ·rw [if_neg h1] at h; simp at h
end Go.Proofs.YtbboanfggaknjaaGreatDoor.X.AD
/- What the references of cats and label answer: plain, with enough rounds. -/
set_option linter.unusedVariables false
set_option linter.unusedSimpArgs false
namespace Go.Proofs.YtbboanfggaknjaaGreatDoor.X
open Go.RowKit Go.Proofs.YtbboanfggaknjaaGreatDoorW.PrintWords Go.Proofs.YtbboanfggaknjaaGreatDoorW.PrintLast Go.Proofs.YtbboanfggaknjaaGreatDoorW.PrintMore
theorem bit_l0 : ∀ (d a c i : Nat), i + d = c → c ≤ 63 → a < 18446744073709551616 → Ev (fun k => oculusref01_Bit.l0 k (a : Int) (c : Int) (i : Int)) ((a / 2 ^ d) % 2 == 1) := by
 intro d
 induction d with
 | zero =>
  intro a c i hi hc ha
  refine Ev.step (f := fun _ => some ((a / 2 ^ 0) % 2 == 1)) (fun k => ?_) (Ev.now _)
  simp only [oculusref01_Bit.l0]
  rw [if_neg (by omega)]
  congr 1
  rw [Bool.eq_iff_iff]
  simp only [beq_iff_eq]
  have : ((a : Int).tmod 2) = ((a % 2 : Nat) : Int) := by rw [Int.tmod_eq_emod_of_nonneg (by omega)]; omega
  rw [this]
  simp
  omega
 | succ d ih =>
  intro a c i hi hc ha
  refine Ev.step (f := fun k => oculusref01_Bit.l0 k ((a / 2 : Nat) : Int) (c : Int) ((i + 1 : Nat) : Int)) (fun k => ?_) ?_
  ·simp only [oculusref01_Bit.l0]
   rw [if_pos (by omega), w64s (n := 64) (by omega) (by omega)]
   congr 1
   rw [IntKind.wrap_u64, Int.tdiv_eq_ediv_of_nonneg (by omega)]
   omega
  ·have := ih (a / 2) c (i + 1) (by omega) hc (by omega)
   rw [Nat.div_div_eq_div_mul, show 2 * 2 ^ d = 2 ^ (d + 1) by rw [Nat.pow_succ]; omega] at this
   exact this
def bitS (a : Nat) (c : Int) : Bool := decide (0 ≤ c) && (decide (c ≤ 63) && a.testBit c.toNat)
theorem bit_ev (a : Nat) (c : Int) (ha : a < 18446744073709551616) : Ev (fun k => oculusref01_Bit.f k (a : Int) c) (bitS a c) := by
 unfold oculusref01_Bit.f bitS
 by_cases h1 : c < 0
 ·simp only [if_pos h1]
  refine Ev.step (f := fun _ => some false) (fun k => by simp [oculusref01_Bit.j0]) ?_
  rw [decide_eq_false (by omega)]
  exact Ev.now _
 ·simp only [if_neg h1]
  by_cases h2 : c > 63
  ·refine Ev.step (f := fun _ => some false) (fun k => by simp [oculusref01_Bit.j0, h2]) ?_
   rw [decide_eq_false (show ¬ c ≤ 63 by omega)]
   simp
   exact Ev.now _
  ·refine Ev.step (f := fun k => oculusref01_Bit.l0 k (a : Int) c 0) (fun k => by simp [oculusref01_Bit.j0, h2]) ?_
   obtain ⟨n, rfl⟩ := Int.eq_ofNat_of_zero_le (show 0 ≤ c by omega)
   have := bit_l0 n a n 0 (by omega) (by omega) ha
   rw [decide_eq_true (show (0 : Int) ≤ n by omega), decide_eq_true (show (n : Int) ≤ 63 by omega)]
   simp only [Bool.true_and, Int.toNat_natCast, Nat.testBit_eq_decide_div_mod_eq]
   rw [show decide (a / 2 ^ n % 2 = 1) = (a / 2 ^ n % 2 == 1) from (Bool.beq_eq_decide_eq _ _).symm]
   exact this
theorem bitS_nat (a c : Nat) (h : c < 64) : bitS a (c : Int) = a.testBit c := by
 unfold bitS
 rw [decide_eq_true (by omega), decide_eq_true (by omega)]
 simp
theorem pow_lt64 {i : Nat} (h : i ≤ 63) : 2 ^ i < 18446744073709551616 := Nat.lt_of_le_of_lt (Nat.pow_le_pow_right (by omega) h) (by decide)
theorem one_l0 : ∀ (d c i : Nat), i + d = c → c ≤ 63 → Ev (fun k => oculusref01_One.l0 k (c : Int) ((2 ^ i : Nat) : Int) (i : Int)) ((2 ^ c : Nat) : Int) := by
 intro d
 induction d with
 | zero =>
  intro c i hi hc
  obtain rfl : i = c := by omega
  refine Ev.step (f := fun _ => some ((2 ^ i : Nat) : Int)) (fun k => ?_) (Ev.now _)
  simp only [oculusref01_One.l0]
  rw [if_neg (by omega)]
 | succ d ih =>
  intro c i hi hc
  refine Ev.step (f := fun k => oculusref01_One.l0 k (c : Int) ((2 ^ (i + 1) : Nat) : Int) ((i + 1 : Nat) : Int)) (fun k => ?_) (ih c (i + 1) (by omega) hc)
  simp only [oculusref01_One.l0]
  rw [if_pos (by omega), w64s (n := 64) (by omega) (by omega)]
  congr 1
  have := pow_lt64 (i := i + 1) (by omega)
  rw [IntKind.wrap_u64]
  rw [Nat.pow_succ] at this ⊢
  omega
theorem one_ev (c : Nat) (hc : c ≤ 63) : Ev (fun k => oculusref01_One.f k (c : Int)) ((2 ^ c : Nat) : Int) := by
 unfold oculusref01_One.f
 exact one_l0 c c 0 (by omega) hc
end Go.Proofs.YtbboanfggaknjaaGreatDoor.X
/- Labels as a lattice: plain. -/
set_option linter.unusedVariables false
set_option linter.unusedSimpArgs false
namespace Go.Proofs.YtbboanfggaknjaaGreatDoor.X
open Go.RowKit Go.Proofs.YtbboanfggaknjaaGreatDoorW.PrintWords Go.Proofs.YtbboanfggaknjaaGreatDoorW.PrintLast Go.Proofs.YtbboanfggaknjaaGreatDoorW.PrintMore
theorem wf_of_u64 {x : Int} (h0 : 0 ≤ x) (h1 : x < 18446744073709551616) : (Lit.int .u64 x).wf = true := by
 simp [Lit.wf, IntKind.min, IntKind.max, IntKind.signed, IntKind.bits]
 omega
end Go.Proofs.YtbboanfggaknjaaGreatDoor.X
/- Sets of 64 bits as lists of their bits: plain. -/
set_option linter.unusedVariables false
set_option linter.unusedSimpArgs false
namespace Go.Proofs.YtbboanfggaknjaaGreatDoor.X
open Go.RowKit Go.Proofs.YtbboanfggaknjaaGreatDoorW.PrintWords Go.Proofs.YtbboanfggaknjaaGreatDoorW.PrintLast Go.Proofs.YtbboanfggaknjaaGreatDoorW.PrintMore
def bitsL (s : Nat) : List Nat := (List.range 64).filter fun i => s.testBit i
theorem filter_low (n t : Nat) (p q : Nat → Bool) (ht : t < n) (h1 : p t = true) (h2 : ∀ i, i < t → p i = false) (h3 : ∀ i, q i = (p i && decide (i ≠ t))) : (List.range n).filter p = t :: (List.range n).filter q := by
 obtain ⟨d, rfl⟩ : ∃ d, n = t + (1 + d) := ⟨n - t - 1, by omega⟩
 rw [List.range_add, List.filter_append, List.filter_append]
 have e1 : (List.range t).filter p = [] := by
  rw [List.filter_eq_nil_iff]; intro i hi; rw [List.mem_range] at hi; rw [h2 i hi]; simp
 have e2 : (List.range t).filter q = [] := by
  rw [List.filter_eq_nil_iff]; intro i hi; rw [List.mem_range] at hi; rw [h3, h2 i hi]; simp
 rw [e1, e2, List.nil_append, List.nil_append, Nat.add_comm 1 d, List.range_succ_eq_map, List.map_cons, List.filter_cons, List.filter_cons]
 have hq : q t = false := by rw [h3]; simp
 rw [Nat.add_zero, if_pos h1, if_neg (by rw [hq]; simp)]
 congr 1
 apply List.filter_congr
 intro i hi
 simp only [List.mem_map, List.mem_range] at hi
 obtain ⟨j, ⟨k, hk, rfl⟩, rfl⟩ := hi
 rw [h3, decide_eq_true (by omega), Bool.and_true]
theorem low_bits (t m i : Nat) : (2 ^ t * (2 * m + 1)).testBit i = (decide (t ≤ i) && (2 * m + 1).testBit (i - t)) := by
 rw [Nat.mul_comm, Nat.testBit_mul_two_pow]
theorem low_prev (t m : Nat) : (2 ^ t * (2 * m + 1)) &&& (2 ^ t * (2 * m + 1) - 1) = 2 ^ t * (2 * m) := by
 apply Nat.eq_of_testBit_eq
 intro i
 have hp : 0 < 2 ^ t := Nat.two_pow_pos t
 have e : 2 ^ t * (2 * m + 1) - 1 = 2 ^ t * (2 * m) + (2 ^ t - 1) := by rw [Nat.mul_add]; omega
 rw [Nat.testBit_and, e, Nat.testBit_two_pow_mul_add _ (by omega), low_bits, Nat.mul_comm (2 ^ t), Nat.testBit_mul_two_pow]
 by_cases h : t ≤ i
 ·rw [if_neg (by omega), decide_eq_true h, Bool.true_and, Bool.true_and]
  obtain ⟨j, rfl⟩ : ∃ j, i = t + j := ⟨i - t, by omega⟩
  rw [show t + j - t = j by omega]
  cases j with
  | zero => simp [Nat.testBit_zero]
  | succ j => rw [Nat.testBit_succ, Nat.testBit_succ, show (2 * m + 1) / 2 = m by omega, show 2 * m / 2 = m by omega, Bool.and_self]
 ·rw [decide_eq_false h]; simp
theorem bitsL_cons (s : Nat) (hs : s < 18446744073709551616) (h0 : s ≠ 0) : bitsL s = Lib.ctz 64 s :: bitsL (s &&& (s - 1)) ∧ s &&& (s - 1) < s ∧ Lib.ctz 64 s < 64 := by
 unfold Lib.ctz
 rw [if_neg h0]
 obtain ⟨m, hm, hk⟩ := Lib.ctzFrom_spec 64 s (by omega) (by omega)
 generalize Lib.ctzFrom 64 s = t at *
 have hp : 0 < 2 ^ t := Nat.two_pow_pos t
 refine ⟨?_, ?_, hk⟩
 ·subst hm
  unfold bitsL
  rw [low_prev]
  refine filter_low 64 t _ _ hk ?_ ?_ ?_
  ·rw [low_bits]; simp
  ·intro i hi; rw [low_bits, decide_eq_false (by omega)]; rfl
  ·intro i
   rw [low_bits, Nat.mul_comm (2 ^ t), Nat.testBit_mul_two_pow]
   by_cases h : t ≤ i
   ·rw [decide_eq_true h, Bool.true_and, Bool.true_and]
    obtain ⟨j, rfl⟩ : ∃ j, i = t + j := ⟨i - t, by omega⟩
    rw [show t + j - t = j by omega]
    cases j with
    | zero => simp [Nat.testBit_zero]
    | succ j => rw [Nat.testBit_succ, Nat.testBit_succ, show (2 * m + 1) / 2 = m by omega, show 2 * m / 2 = m by omega, decide_eq_true (by omega), Bool.and_true]
   ·rw [decide_eq_false h]; simp
 ·subst hm
  rw [low_prev, Nat.mul_add]
  omega
end Go.Proofs.YtbboanfggaknjaaGreatDoor.X
/- Sets as texts: plain. -/
set_option linter.unusedVariables false
set_option linter.unusedSimpArgs false
namespace Go.Proofs.YtbboanfggaknjaaGreatDoor.X
open Go.RowKit Go.Proofs.YtbboanfggaknjaaGreatDoorW.PrintWords Go.Proofs.YtbboanfggaknjaaGreatDoorW.PrintLast Go.Proofs.YtbboanfggaknjaaGreatDoorW.PrintMore
def splC (c : UInt8) : List UInt8 → List (List UInt8)
 | [] => [[]]
 | b :: l => if b = c then [] :: splC c l else match splC c l with
  | [] => [[b]]
  | p :: ps => (b :: p) :: ps
def joiC (c : UInt8) : List (List UInt8) → List UInt8
 | [] => []
 | [p] => p
 | p :: q :: ps => p ++ c :: joiC c (q :: ps)
theorem splC_ne (c : UInt8) : ∀ l, ∃ p ps, splC c l = p :: ps
 | [] => ⟨_, _, rfl⟩
 | b :: l => by
  obtain ⟨p, ps, h⟩ := splC_ne c l
  unfold splC
  split
  ·exact ⟨_, _, rfl⟩
  ·rw [h]; exact ⟨_, _, rfl⟩
theorem splC_cons_eq (c : UInt8) (l : List UInt8) : splC c (c :: l) = [] :: splC c l := by rw [splC, if_pos rfl]
theorem splC_cons_ne {b c : UInt8} (h : b ≠ c) {l : List UInt8} {p : List UInt8} {ps : List (List UInt8)} (hl : splC c l = p :: ps) : splC c (b :: l) = (b :: p) :: ps := by rw [splC, if_neg h, hl]
theorem joiC_splC (c : UInt8) : ∀ l, joiC c (splC c l) = l
 | [] => rfl
 | b :: l => by
  obtain ⟨p, ps, h⟩ := splC_ne c l
  have ih := joiC_splC c l
  rw [h] at ih
  by_cases hb : b = c
  ·subst hb
   rw [splC_cons_eq, h]
   show [] ++ b :: joiC b (p :: ps) = _
   rw [ih]; rfl
  ·rw [splC_cons_ne hb h]
   cases ps with
   | nil => show b :: p = _; rw [← ih]; rfl
   | cons q qs =>
    show (b :: p) ++ c :: joiC c (q :: qs) = _
    rw [← ih]; rfl
theorem splC_plain (c : UInt8) : ∀ p : List UInt8, c ∉ p → splC c p = [p]
 | [], _ => rfl
 | b :: p, h => by
  simp only [List.mem_cons, not_or] at h
  exact splC_cons_ne (fun e => h.1 e.symm) (splC_plain c p h.2)
theorem splC_app (c : UInt8) (l : List UInt8) : ∀ p : List UInt8, c ∉ p → splC c (p ++ c :: l) = p :: splC c l
 | [], _ => splC_cons_eq c l
 | b :: p, h => by
  simp only [List.mem_cons, not_or] at h
  exact splC_cons_ne (fun e => h.1 e.symm) (splC_app c l p h.2)
theorem splC_joiC (c : UInt8) : ∀ (p : List UInt8) (ps : List (List UInt8)), (∀ q ∈ p :: ps, c ∉ q) → splC c (joiC c (p :: ps)) = p :: ps
 | p, [], h => splC_plain c p (h p (by simp))
 | p, q :: ps, h => by
  show splC c (p ++ c :: joiC c (q :: ps)) = _
  rw [splC_app c _ p (h p (by simp)), splC_joiC c q ps (fun x hx => h x (List.mem_cons_of_mem _ hx))]
theorem splC_length (c : UInt8) : ∀ l : List UInt8, (splC c l).length ≤ l.length + 1
 | [] => by simp [splC]
 | b :: l => by
  have ih := splC_length c l
  obtain ⟨p, ps, h⟩ := splC_ne c l
  by_cases hb : b = c
  ·subst hb; rw [splC_cons_eq]; simp; omega
  ·rw [splC_cons_ne hb h]; rw [h] at ih; simpa using Nat.le_succ_of_le ih
theorem splC_piece (c : UInt8) : ∀ l : List UInt8, ∀ p ∈ splC c l, p.length ≤ l.length
 | [], p, hp => by simp [splC] at hp; subst hp; simp
 | b :: l, p, hp => by
  have ih := splC_piece c l
  obtain ⟨q, qs, h⟩ := splC_ne c l
  by_cases hb : b = c
  ·subst hb; rw [splC_cons_eq] at hp
   rcases List.mem_cons.1 hp with rfl | hp
   ·simp
   ·have := ih p hp; simp; omega
  ·rw [splC_cons_ne hb h] at hp; rw [h] at ih
   rcases List.mem_cons.1 hp with rfl | hp
   ·have := ih q (by simp); simp; omega
   ·have := ih p (List.mem_cons_of_mem _ hp); simp; omega
theorem index_one_cons (b c : UInt8) (l : List UInt8) (h : b ≠ c) : Lib.index (b :: l) [c] = if Lib.index l [c] == -1 then -1 else Lib.index l [c] + 1 := by
 rw [Lib.index]
 rw [if_neg (by simp [List.isPrefixOf]; exact fun e => h e.symm)]
theorem split_one (c : UInt8) : ∀ l : List UInt8, Lib.splitK [c] 0 (Lib.count l [c]) l = splC c l
 | [] => by rw [Lib.count_one]; rfl
 | b :: l => by
  have ih := split_one c l
  by_cases hb : b = c
  ·subst hb
   rw [Lib.count_cons_eq, Nat.add_comm, Lib.splitK, splC_cons_eq]
   have hi : Lib.index (b :: l) [b] = 0 := by rw [Lib.index, if_pos (by simp [List.isPrefixOf])]
   rw [hi, if_neg (by decide)]
   simp only [Int.toNat_zero, Nat.add_zero, List.take_zero, List.length_cons, List.length_nil, Nat.zero_add, List.drop_succ_cons, List.drop_zero, ih]
  ·rw [Lib.count_cons_ne b c l hb]
   have hix := index_one_cons b c l hb
   cases hk : Lib.count l [c] with
   | zero =>
    rw [hk] at ih
    have ih' : [l] = splC c l := ih
    rw [splC_cons_ne hb ih'.symm]; rfl
   | succ k =>
    rw [hk] at ih
    have hne : Lib.index l [c] ≠ -1 := fun e => by rw [Lib.count_miss e] at hk; omega
    have hge := Lib.index_ge l [c]
    obtain ⟨i, hi⟩ : ∃ i : Nat, Lib.index l [c] = (i : Int) := ⟨(Lib.index l [c]).toNat, by omega⟩
    rw [Lib.splitK, hi, if_neg (by rw [beq_iff_eq]; omega)] at ih
    rw [splC_cons_ne hb ih.symm]
    rw [Lib.splitK, hix, hi, if_neg (show ¬ ((i : Int) == -1) = true by rw [beq_iff_eq]; omega), if_neg (by rw [beq_iff_eq]; omega)]
    have e : ((i : Int) + 1).toNat = i + 1 := by omega
    rw [e]
    simp only [Int.toNat_natCast, Nat.add_zero, List.length_cons, List.length_nil, Nat.zero_add, List.take_succ_cons, List.drop_succ_cons]
def du8 (n : Nat) : UInt8 := UInt8.ofNat n
def digT (n : Nat) : List UInt8 := if n < 10 then [du8 (48 + n)] else [du8 (48 + n / 10), du8 (48 + n % 10)]
theorem du8_nat (n : Nat) (h : n < 256) : (du8 n).toNat = n := by unfold du8; rw [UInt8.toNat_ofNat']; omega
theorem digT_plain : ∀ n, n < 100 → (44 : UInt8) ∉ digT n ∧ (58 : UInt8) ∉ digT n := by decide +kernel
theorem digT_len (n : Nat) : 1 ≤ (digT n).length ∧ (digT n).length ≤ 2 := by unfold digT; split <;> simp
def numZ : List UInt8 → Option Nat
 | [a] => if 48 ≤ a.toNat ∧ a.toNat ≤ 57 then some (a.toNat - 48) else none
 | [a, b] => if a.toNat ≠ 48 ∧ (48 ≤ a.toNat ∧ a.toNat ≤ 57) ∧ (48 ≤ b.toNat ∧ b.toNat ≤ 57) ∧ (a.toNat - 48) * 10 + (b.toNat - 48) < 64 then some ((a.toNat - 48) * 10 + (b.toNat - 48)) else none
 | _ => none
theorem numZ_digT : ∀ n, n < 64 → numZ (digT n) = some n := by decide +kernel
theorem u8eq {a : UInt8} {n : Nat} (h : a.toNat = n) (hn : n < 256) : a = du8 n := UInt8.toNat_inj.1 (by rw [du8_nat n hn, h])
theorem numZ_back : ∀ (w : List UInt8) (n : Nat), numZ w = some n → n < 64 ∧ digT n = w
 | [], _, h => by simp [numZ] at h
 | [a], n, h => by
  replace h : (if 48 ≤ a.toNat ∧ a.toNat ≤ 57 then some (a.toNat - 48) else none) = some n := h
  split at h
  ·rename_i g
   obtain rfl := Option.some.inj h
   refine ⟨by omega, ?_⟩
   unfold digT
   rw [if_pos (by omega)]
   congr 1
   exact (u8eq (by omega) (by omega)).symm
  ·cases h
 | [a, b], n, h => by
  replace h : (if a.toNat ≠ 48 ∧ (48 ≤ a.toNat ∧ a.toNat ≤ 57) ∧ (48 ≤ b.toNat ∧ b.toNat ≤ 57) ∧ (a.toNat - 48) * 10 + (b.toNat - 48) < 64 then some ((a.toNat - 48) * 10 + (b.toNat - 48)) else none) = some n := h
  split at h
  ·rename_i g
   obtain rfl := Option.some.inj h
   refine ⟨by omega, ?_⟩
   unfold digT
   rw [if_neg (by omega)]
   have ha : du8 (48 + ((a.toNat - 48) * 10 + (b.toNat - 48)) / 10) = a := (u8eq (by omega) (by omega)).symm
   have hb : du8 (48 + ((a.toNat - 48) * 10 + (b.toNat - 48)) % 10) = b := (u8eq (by omega) (by omega)).symm
   rw [ha, hb]
  ·cases h
 | a :: b :: c :: l, _, h => by simp [numZ] at h
def foldS (s : Nat) (ns : List Nat) : Nat := ns.foldl (fun s c => s ||| 2 ^ c) s
def Rise : Nat → List Nat → Prop
 | _, [] => True
 | s, c :: l => s < 2 ^ c ∧ c < 64 ∧ Rise (s ||| 2 ^ c) l
theorem or_pow_lt (s c : Nat) (h : s < 2 ^ c) : s ||| 2 ^ c < 2 ^ (c + 1) := Nat.or_lt_two_pow (by rw [Nat.pow_succ]; omega) (by rw [Nat.pow_succ]; have := Nat.two_pow_pos c; omega)
theorem bitsL_snoc (s c : Nat) (h : s < 2 ^ c) (hc : c < 64) : bitsL (s ||| 2 ^ c) = bitsL s ++ [c] := by
 unfold bitsL
 obtain ⟨d, hd⟩ : ∃ d, 64 = c + (1 + d) := ⟨63 - c, by omega⟩
 rw [hd, List.range_add, List.filter_append, List.filter_append]
 have e1 : (List.range c).filter (fun i => (s ||| 2 ^ c).testBit i) = (List.range c).filter fun i => s.testBit i := by
  apply List.filter_congr
  intro i hi
  rw [List.mem_range] at hi
  rw [Nat.testBit_or, Nat.testBit_two_pow, decide_eq_false (by omega), Bool.or_false]
 rw [e1, Nat.add_comm 1 d, List.range_succ_eq_map, List.map_cons, List.filter_cons, List.filter_cons, Nat.add_zero]
 have hs : s.testBit c = false := Nat.testBit_lt_two_pow h
 rw [if_pos (by rw [Nat.testBit_or, Nat.testBit_two_pow]; simp), if_neg (by rw [hs]; simp)]
 have n1 : ∀ (t : Nat), t < 2 ^ (c + 1) → (List.map (fun x => c + x) (List.map Nat.succ (List.range d))).filter (fun i => t.testBit i) = [] := by
  intro t ht
  rw [List.filter_eq_nil_iff]
  intro i hi
  simp only [List.mem_map, List.mem_range] at hi
  obtain ⟨j, ⟨k, hk, rfl⟩, rfl⟩ := hi
  rw [Nat.testBit_lt_two_pow (Nat.lt_of_lt_of_le ht (Nat.pow_le_pow_right (by omega) (by omega)))]
  simp
 rw [n1 _ (or_pow_lt s c h), n1 _ (by rw [Nat.pow_succ]; omega), List.append_nil]
theorem rise_fold : ∀ (ns : List Nat) (s : Nat), Rise s ns → s < 18446744073709551616 → bitsL (foldS s ns) = bitsL s ++ ns ∧ foldS s ns < 18446744073709551616
 | [], s, _, hs => ⟨by simp [foldS], hs⟩
 | c :: l, s, h, hs => by
  obtain ⟨h1, h2, h3⟩ := h
  have hlt : s ||| 2 ^ c < 18446744073709551616 := Nat.lt_of_lt_of_le (or_pow_lt s c h1) (Nat.pow_le_pow_right (by omega) (show c + 1 ≤ 64 by omega) : 2 ^ (c + 1) ≤ 2 ^ 64)
  have := rise_fold l (s ||| 2 ^ c) h3 hlt
  refine ⟨?_, this.2⟩
  show bitsL (foldS (s ||| 2 ^ c) l) = _
  rw [this.1, bitsL_snoc s c h1 h2]; simp
theorem rise_of : ∀ (l : List Nat) (s : Nat), l.Pairwise (· < ·) → (∀ c ∈ l, s < 2 ^ c ∧ c < 64) → Rise s l
 | [], _, _, _ => trivial
 | c :: l, s, hp, h => by
  rw [List.pairwise_cons] at hp
  refine ⟨(h c (by simp)).1, (h c (by simp)).2, rise_of l _ hp.2 fun d hd => ⟨?_, (h d (List.mem_cons_of_mem _ hd)).2⟩⟩
  exact Nat.lt_of_lt_of_le (or_pow_lt s c (h c (by simp)).1) (Nat.pow_le_pow_right (by omega) (hp.1 d hd))
theorem bitsL_inj {a b : Nat} (ha : a < 18446744073709551616) (hb : b < 18446744073709551616) (h : bitsL a = bitsL b) : a = b := by
 apply Nat.eq_of_testBit_eq
 intro i
 by_cases hi : i < 64
 ·have : i ∈ bitsL a ↔ i ∈ bitsL b := by rw [h]
  unfold bitsL at this
  simp only [List.mem_filter, List.mem_range, hi, true_and] at this
  rw [Bool.eq_iff_iff]; exact this
 ·have hp : (18446744073709551616 : Nat) ≤ 2 ^ i := (Nat.pow_le_pow_right (by omega) (show 64 ≤ i by omega) : 2 ^ 64 ≤ 2 ^ i)
  rw [Nat.testBit_lt_two_pow (by omega), Nat.testBit_lt_two_pow (by omega)]
theorem bitsL_rise (s : Nat) : Rise 0 (bitsL s) := by
 refine rise_of _ _ ?_ ?_
 ·exact List.Pairwise.filter _ List.pairwise_lt_range
 ·intro c hc
  unfold bitsL at hc
  rw [List.mem_filter, List.mem_range] at hc
  exact ⟨Nat.two_pow_pos c, hc.1⟩
theorem fold_bits (s : Nat) (hs : s < 18446744073709551616) : foldS 0 (bitsL s) = s := by
 have := rise_fold _ 0 (bitsL_rise s) (by omega)
 exact bitsL_inj this.2 hs (by rw [this.1]; rfl)
theorem bitsL_lt {s c : Nat} (h : c ∈ bitsL s) : c < 64 := by
 unfold bitsL at h
 rw [List.mem_filter, List.mem_range] at h
 exact h.1
def txtS (s : Nat) : List UInt8 := joiC 44 ((bitsL s).map digT)
def parC : Nat → List (List UInt8) → Option Nat
 | s, [] => some s
 | s, w :: ws => match numZ w with
  | none => none
  | some c => if s / 2 ^ c = 0 then parC (s ||| 2 ^ c) ws else none
def parT (t : List UInt8) : Option Nat := if t = [] then some 0 else parC 0 (splC 44 t)
theorem parC_rise : ∀ (ns : List Nat) (s : Nat), Rise s ns → parC s (ns.map digT) = some (foldS s ns)
 | [], s, _ => rfl
 | c :: l, s, h => by
  obtain ⟨h1, h2, h3⟩ := h
  rw [List.map_cons]
  unfold parC
  rw [numZ_digT c h2]
  show (if s / 2 ^ c = 0 then _ else _) = _
  rw [if_pos (Nat.div_eq_of_lt h1), parC_rise l _ h3]; rfl
theorem parC_back : ∀ (ws : List (List UInt8)) (s y : Nat), parC s ws = some y → ∃ ns, ws = ns.map digT ∧ Rise s ns ∧ y = foldS s ns
 | [], s, y, h => ⟨[], rfl, trivial, (Option.some.inj h).symm⟩
 | w :: ws, s, y, h => by
  unfold parC at h
  cases hw : numZ w with
  | none => rw [hw] at h; cases h
  | some c =>
   rw [hw] at h
   replace h : (if s / 2 ^ c = 0 then parC (s ||| 2 ^ c) ws else none) = some y := h
   split at h
   ·rename_i g
    obtain ⟨hc, hd⟩ := numZ_back w c hw
    obtain ⟨ns, h1, h2, h3⟩ := parC_back ws _ y h
    have hlt : s < 2 ^ c := by
     rcases Nat.lt_or_ge s (2 ^ c) with hh | hh
     ·exact hh
     ·have := Nat.div_pos hh (Nat.two_pow_pos c); omega
    exact ⟨c :: ns, by rw [List.map_cons, hd, h1], ⟨hlt, hc, h2⟩, h3⟩
   ·cases h
theorem txtS_zero : txtS 0 = [] := by kernel_rfl
theorem bitsL_pos {s : Nat} (hs : s < 18446744073709551616) (h : s ≠ 0) : ∃ c l, bitsL s = c :: l := ⟨_, _, (bitsL_cons s hs h).1⟩
theorem txtS_spl (s : Nat) (hs : s < 18446744073709551616) (h : s ≠ 0) : splC 44 (txtS s) = (bitsL s).map digT := by
 obtain ⟨c, l, e⟩ := bitsL_pos hs h
 unfold txtS
 rw [e, List.map_cons]
 refine splC_joiC 44 _ _ ?_
 intro q hq
 rw [← List.map_cons, ← e, List.mem_map] at hq
 obtain ⟨d, hd, rfl⟩ := hq
 exact (digT_plain d (by have := bitsL_lt hd; omega)).1
theorem txtS_ne (s : Nat) (hs : s < 18446744073709551616) (h : s ≠ 0) : txtS s ≠ [] := by
 intro e0
 have := txtS_spl s hs h
 obtain ⟨c, l, e⟩ := bitsL_pos hs h
 rw [e0, e] at this
 have h2 := digT_len c
 have h3 : [] = digT c := (List.cons.inj this).1
 rw [← h3] at h2
 simp at h2
theorem par_txt (s : Nat) (hs : s < 18446744073709551616) : parT (txtS s) = some s := by
 unfold parT
 by_cases h : s = 0
 ·subst h; rw [if_pos txtS_zero]
 ·rw [if_neg (txtS_ne s hs h), txtS_spl s hs h, parC_rise _ _ (bitsL_rise s), fold_bits s hs]
theorem par_back (t : List UInt8) (y : Nat) (h : parT t = some y) : txtS y = t ∧ y < 18446744073709551616 := by
 unfold parT at h
 split at h
 ·rename_i g
  obtain rfl := Option.some.inj h
  exact ⟨by rw [txtS_zero, g], by omega⟩
 ·obtain ⟨ns, h1, h2, h3⟩ := parC_back _ _ _ h
  have := rise_fold ns 0 h2 (by omega)
  refine ⟨?_, by rw [h3]; exact this.2⟩
  unfold txtS
  rw [h3, this.1]
  show joiC 44 (ns.map digT) = t
  rw [← h1, joiC_splC]
def putS (s : Nat) (n : Int) : Nat := if 0 ≤ n ∧ n < 64 then s ||| 2 ^ n.toNat else s
def scanL : Nat → Int → List UInt8 → Nat
 | s, n, [] => putS s n
 | s, n, c :: l => if (48 ≤ c.toNat ∧ c.toNat ≤ 57) ∧ n < 100 then scanL s ((if n < 0 then 0 else n) * 10 + (c.toNat : Int) - 48) l else scanL (putS s n) (-1) l
theorem scan_dig (s n : Nat) (hn : n < 64) (l : List UInt8) : scanL s (-1) (digT n ++ l) = scanL s (n : Int) l := by
 unfold digT
 split
 ·have e := du8_nat (48 + n) (by omega)
  show scanL s (-1) (du8 (48 + n) :: l) = _
  rw [scanL, if_pos (by rw [e]; omega), e]
  congr 1
  simp; omega
 ·have e := du8_nat (48 + n / 10) (by omega)
  have e2 := du8_nat (48 + n % 10) (by omega)
  show scanL s (-1) (du8 (48 + n / 10) :: du8 (48 + n % 10) :: l) = _
  rw [scanL, if_pos (by rw [e]; omega), e, scanL, if_pos (by rw [e2]; refine ⟨by omega, ?_⟩; simp; omega), e2]
  congr 1
  simp only [show ((-1 : Int) < 0) = True by simp, if_true]
  rw [if_neg (by omega)]
  omega
theorem scan_join : ∀ (ns : List Nat) (c s : Nat), (∀ d ∈ c :: ns, d < 64) → scanL s (-1) (joiC 44 ((c :: ns).map digT)) = foldS s (c :: ns)
 | [], c, s, h => by
  have hc := h c (by simp)
  show scanL s (-1) (digT c) = _
  have := scan_dig s c hc []
  rw [List.append_nil] at this
  rw [this, scanL, putS, if_pos (by omega)]; rfl
 | d :: ns, c, s, h => by
  have hc := h c (by simp)
  show scanL s (-1) (digT c ++ 44 :: joiC 44 ((d :: ns).map digT)) = _
  rw [scan_dig s c hc, scanL, if_neg (by simp [show (44 : UInt8).toNat = 44 from rfl]), putS, if_pos (by omega), scan_join ns d _ (fun x hx => h x (List.mem_cons_of_mem _ hx))]; rfl
theorem scan_txt (s : Nat) (hs : s < 18446744073709551616) : scanL 0 (-1) (txtS s) = s := by
 by_cases h : s = 0
 ·subst h; rw [txtS_zero]; rfl
 ·obtain ⟨c, l, e⟩ := bitsL_pos hs h
  unfold txtS
  rw [e, scan_join l c 0 (fun d hd => bitsL_lt (s := s) (by rw [e]; exact hd)), ← e, fold_bits s hs]
theorem txtS_len (s : Nat) : (txtS s).length ≤ 192 := by
 have hl : (bitsL s).length ≤ 64 := by unfold bitsL; exact Nat.le_trans (List.length_filter_le _ _) (by simp)
 have key : ∀ ns : List Nat, (joiC 44 (ns.map digT)).length ≤ 3 * ns.length := by
  intro ns
  induction ns with
  | nil => simp [joiC]
  | cons c l ih =>
   cases l with
   | nil => have := digT_len c; show (digT c).length ≤ _; simp; omega
   | cons d l =>
    have := digT_len c
    show (digT c ++ 44 :: joiC 44 ((d :: l).map digT)).length ≤ _
    rw [List.length_append, List.length_cons, List.length_cons]
    omega
 have := key (bitsL s)
 unfold txtS
 omega
end Go.Proofs.YtbboanfggaknjaaGreatDoor.X
/- What strings.Cut at one byte answers. -/
set_option linter.unusedVariables false
set_option linter.unusedSimpArgs false
namespace Go.Proofs.YtbboanfggaknjaaGreatDoor.X
open Go.RowKit Go.Proofs.YtbboanfggaknjaaGreatDoorW.PrintWords Go.Proofs.YtbboanfggaknjaaGreatDoorW.PrintLast Go.Proofs.YtbboanfggaknjaaGreatDoorW.PrintMore
def cutL (c : UInt8) : List UInt8 → List UInt8 × List UInt8 × Bool
 | [] => ([], [], false)
 | b :: l => if b = c then ([], l, true) else (b :: (cutL c l).1, (cutL c l).2.1, (cutL c l).2.2)
theorem index_cut (c : UInt8) : ∀ l : List UInt8, (Lib.indexByte l c = -1 ∧ (cutL c l).1 = l ∧ (cutL c l).2.1 = [] ∧ (cutL c l).2.2 = false) ∨
  ∃ n : Nat, Lib.indexByte l c = (n : Int) ∧ n < l.length ∧ (cutL c l).1 = l.take n ∧ (cutL c l).2.1 = l.drop (n + 1) ∧ (cutL c l).2.2 = true
 | [] => Or.inl ⟨rfl, rfl, rfl, rfl⟩
 | b :: l => by
  by_cases h : b = c
  ·refine Or.inr ⟨0, ?_, by simp, ?_, ?_, ?_⟩
   ·simp [Lib.indexByte, h]
   ·simp [cutL, h]
   ·simp [cutL, h]
   ·simp [cutL, h]
  ·rcases index_cut c l with ⟨h1, h2, h3, h4⟩ | ⟨n, h1, h2, h3, h4, h5⟩
   ·left
    refine ⟨?_, ?_, ?_, ?_⟩
    ·simp [Lib.indexByte, h, h1]
    ·simp [cutL, h, h2]
    ·simp [cutL, h, h3]
    ·simp [cutL, h, h4]
   ·right
    refine ⟨n + 1, ?_, by simp; omega, ?_, ?_, ?_⟩
    ·simp only [Lib.indexByte, beq_eq_false_iff_ne.2 h, h1]
     rw [if_neg (by simp), if_neg (by first | (simp; done) | (simp; omega))]
     omega
    ·simp [cutL, h, h3]
    ·simp [cutL, h, h4]
    ·simp [cutL, h, h5]
theorem cut_eq (s : ByteArray) (c : UInt8) (hs : s.size ≤ 4611686018427387904) : strings_Cut.f s (tx [c]) = some (tx (cutL c (by_ s)).1, tx (cutL c (by_ s)).2.1, (cutL c (by_ s)).2.2) := by
 unfold strings_Cut.f stringslite_Cut.f stringslite_Index.f
 have h1 : (tx [c]).size = 1 := by rw [size_tx]; rfl
 have h2 : (tx [c])[0]'(by rw [h1]; decide) = c := rfl
 rw [dif_pos h1, h2]
 simp only [Option.bind_some]
 rcases index_cut c (by_ s) with ⟨g1, g2, g3, g4⟩ | ⟨n, g1, g2, g3, g4, g5⟩
 ·rw [show Lib.indexByte s.data.toList c = -1 from g1, if_neg (by decide), g2, g3, g4, tx_by]
  rfl
 ·have hl := size_by s
  rw [show Lib.indexByte s.data.toList c = (n : Int) from g1, if_pos (by omega), if_pos (by omega), if_pos (by omega), h1]
  have hw : wrap64 ((n : Int) + ((1 : Nat) : Int)) = ((n + 1 : Nat) : Int) := by unfold wrap64; omega
  rw [hw, if_pos (by omega), if_pos (by omega), g3, g4, g5]
  simp only [Option.bind_some, Int.toNat_natCast, ext_head, ext_tail]
theorem cutL_length (c : UInt8) (l : List UInt8) : (cutL c l).1.length ≤ l.length ∧ (cutL c l).2.1.length ≤ l.length := by
 rcases index_cut c l with ⟨g1, g2, g3, g4⟩ | ⟨n, g1, g2, g3, g4, g5⟩
 ·rw [g2, g3]; simp
 ·rw [g3, g4]; simp; omega
end Go.Proofs.YtbboanfggaknjaaGreatDoor.X
/- Labels as texts: plain. -/
set_option linter.unusedVariables false
set_option linter.unusedSimpArgs false
namespace Go.Proofs.YtbboanfggaknjaaGreatDoor.X
open Go.RowKit Go.Proofs.YtbboanfggaknjaaGreatDoorW.PrintWords Go.Proofs.YtbboanfggaknjaaGreatDoorW.PrintLast Go.Proofs.YtbboanfggaknjaaGreatDoorW.PrintMore
theorem cutL_plain (c : UInt8) : ∀ p : List UInt8, c ∉ p → cutL c p = (p, [], false)
 | [], _ => rfl
 | b :: p, h => by
  simp only [List.mem_cons, not_or] at h
  rw [cutL, if_neg (fun e => h.1 e.symm), cutL_plain c p h.2]
theorem cutL_app (c : UInt8) (l : List UInt8) : ∀ p : List UInt8, c ∉ p → cutL c (p ++ c :: l) = (p, l, true)
 | [], _ => by show cutL c (c :: l) = _; rw [cutL, if_pos rfl]
 | b :: p, h => by
  simp only [List.mem_cons, not_or] at h
  show cutL c (b :: (p ++ c :: l)) = _
  rw [cutL, if_neg (fun e => h.1 e.symm), cutL_app c l p h.2]
theorem cutL_back (c : UInt8) : ∀ l : List UInt8, ((cutL c l).2.2 = true ∧ l = (cutL c l).1 ++ c :: (cutL c l).2.1) ∨ ((cutL c l).2.2 = false ∧ l = (cutL c l).1 ∧ (cutL c l).2.1 = [])
 | [] => Or.inr ⟨rfl, rfl, rfl⟩
 | b :: l => by
  by_cases h : b = c
  ·left; subst h; rw [cutL, if_pos rfl]; exact ⟨rfl, rfl⟩
  ·rw [cutL, if_neg h]
   rcases cutL_back c l with ⟨h1, h2⟩ | ⟨h1, h2, h3⟩
   ·left; refine ⟨h1, ?_⟩
    show b :: l = b :: ((cutL c l).1 ++ c :: (cutL c l).2.1)
    rw [← h2]
   ·right; refine ⟨h1, ?_, h3⟩
    show b :: l = b :: (cutL c l).1
    rw [← h2]
theorem cutL_no (c : UInt8) : ∀ l : List UInt8, c ∉ (cutL c l).1
 | [] => by simp [cutL]
 | b :: l => by
  by_cases h : b = c
  ·subst h; rw [cutL, if_pos rfl]; simp
  ·rw [cutL, if_neg h]
   simp only [List.mem_cons, not_or]
   exact ⟨fun e => h e.symm, cutL_no c l⟩
def topL : List UInt8 := [116, 111, 112]
def full64 : Nat := 18446744073709551615
def mayL (lv : Int) : Bool := decide (0 ≤ lv ∧ lv ≤ 15)
def labT (lv : Int) (c : Nat) : List UInt8 :=
 if 0 ≤ lv ∧ lv ≤ 15 then (if lv = 15 ∧ c = full64 then topL else if c = 0 then digT lv.toNat else digT lv.toNat ++ 58 :: txtS c) else []
def levZ (h : List UInt8) : Int := match numZ h with
 | some n => if n < 16 then (n : Int) else -1
 | none => -1
theorem levZ_dig (n : Nat) (h : n < 16) : levZ (digT n) = (n : Int) := by
 unfold levZ
 rw [numZ_digT n (by omega)]
 show (if n < 16 then (n : Int) else -1) = _
 rw [if_pos h]
theorem levZ_back (h : List UInt8) : levZ h = -1 ∨ ∃ n : Nat, n < 16 ∧ levZ h = (n : Int) ∧ digT n = h := by
 unfold levZ
 cases e : numZ h with
 | none => exact Or.inl rfl
 | some n =>
  show (if n < 16 then (n : Int) else -1) = -1 ∨ ∃ m : Nat, m < 16 ∧ (if n < 16 then (n : Int) else -1) = (m : Int) ∧ digT m = h
  by_cases g : n < 16
  ·right; exact ⟨n, g, by rw [if_pos g], (numZ_back h n e).2⟩
  ·left; rw [if_neg g]
theorem levZ_eq (h : List UInt8) (n : Nat) (hn : n < 16) : digT n = h ↔ levZ h = (n : Int) := by
 constructor
 ·intro e; rw [← e, levZ_dig n hn]
 ·intro e
  rcases levZ_back h with g | ⟨m, g1, g2, g3⟩
  ·omega
  ·have : m = n := by omega
   subst this; exact g3
def labP (t : List UInt8) : Option (Int × Nat) :=
 if t = topL then some (15, full64)
 else match parT (cutL 58 t).2.1 with
  | none => none
  | some s => if levZ (cutL 58 t).1 < 0 ∨ (cutL 58 t).2.2 ≠ decide (s ≠ 0) ∨ (levZ (cutL 58 t).1 = 15 ∧ s = full64) then none else some (levZ (cutL 58 t).1, s)
theorem digT_top : ∀ n, n < 16 → digT n ≠ topL := by decide +kernel
theorem full_ne : full64 ≠ 0 := by decide
theorem digT_col (n : Nat) (h : n < 16) : (58 : UInt8) ∉ digT n := (digT_plain n (by omega)).2
theorem lab_top (n : Nat) (h : n < 16) (l : List UInt8) : digT n ++ 58 :: l ≠ topL := by
 intro e
 have : (58 : UInt8) ∈ topL := by rw [← e]; simp
 revert this; decide
theorem labP_txt (lv : Int) (c : Nat) (hc : c < 18446744073709551616) : labP (labT lv c) = if 0 ≤ lv ∧ lv ≤ 15 then some (lv, c) else none := by
 unfold labT
 by_cases h : 0 ≤ lv ∧ lv ≤ 15
 ·rw [if_pos h, if_pos h]
  obtain ⟨n, rfl⟩ : ∃ n : Nat, lv = (n : Int) := ⟨lv.toNat, by omega⟩
  have hn : n < 16 := by omega
  by_cases ht : (n : Int) = 15 ∧ c = full64
  ·rw [if_pos ht]
   unfold labP
   rw [if_pos rfl, ht.1, ht.2]
  ·rw [if_neg ht]
   by_cases h0 : c = 0
   ·subst h0
    rw [if_pos rfl, Int.toNat_natCast]
    unfold labP
    rw [if_neg (digT_top n hn), cutL_plain 58 _ (digT_col n hn)]
    show (match parT [] with | none => none | some s => if levZ (digT n) < 0 ∨ false ≠ decide (s ≠ 0) ∨ (levZ (digT n) = 15 ∧ s = full64) then none else some (levZ (digT n), s)) = _
    rw [show parT [] = some 0 from rfl]
    show (if levZ (digT n) < 0 ∨ false ≠ decide ((0 : Nat) ≠ 0) ∨ (levZ (digT n) = 15 ∧ 0 = full64) then none else some (levZ (digT n), 0)) = _
    rw [levZ_dig n hn, if_neg]
    rintro (g | g | g)
    ·omega
    ·simp at g
    ·exact full_ne g.2.symm
   ·rw [if_neg h0, Int.toNat_natCast]
    unfold labP
    rw [if_neg (lab_top n hn _), cutL_app 58 _ _ (digT_col n hn)]
    show (match parT (txtS c) with | none => none | some s => if levZ (digT n) < 0 ∨ true ≠ decide (s ≠ 0) ∨ (levZ (digT n) = 15 ∧ s = full64) then none else some (levZ (digT n), s)) = _
    rw [par_txt c hc]
    show (if levZ (digT n) < 0 ∨ true ≠ decide (c ≠ 0) ∨ (levZ (digT n) = 15 ∧ c = full64) then none else some (levZ (digT n), c)) = _
    rw [levZ_dig n hn, if_neg]
    rintro (g | g | g)
    ·omega
    ·simp [h0] at g
    ·exact ht g
 ·rw [if_neg h, if_neg h]; kernel_rfl
theorem labP_back (t : List UInt8) (lv : Int) (c : Nat) (h : labP t = some (lv, c)) : labT lv c = t ∧ (0 ≤ lv ∧ lv ≤ 15) ∧ c < 18446744073709551616 := by
 unfold labP at h
 by_cases ht : t = topL
 ·rw [if_pos ht] at h
  obtain ⟨rfl, rfl⟩ := Prod.mk.inj (Option.some.inj h)
  refine ⟨?_, by omega, by unfold full64; omega⟩
  unfold labT
  rw [if_pos (by omega), if_pos ⟨rfl, rfl⟩, ht]
 ·rw [if_neg ht] at h
  cases hp : parT (cutL 58 t).2.1 with
  | none => rw [hp] at h; cases h
  | some s =>
   rw [hp] at h
   replace h : (if levZ (cutL 58 t).1 < 0 ∨ (cutL 58 t).2.2 ≠ decide (s ≠ 0) ∨ (levZ (cutL 58 t).1 = 15 ∧ s = full64) then none else some (levZ (cutL 58 t).1, s)) = some (lv, c) := h
   split at h
   ·cases h
   ·rename_i g
    obtain ⟨h1, rfl⟩ := Prod.mk.inj (Option.some.inj h)
    obtain ⟨e1, e2⟩ := par_back _ _ hp
    simp only [not_or] at g
    obtain ⟨g1, g2, g3⟩ := g
    rcases levZ_back (cutL 58 t).1 with k | ⟨n, k1, k2, k3⟩
    ·omega
    ·rw [k2] at h1 g3
     subst h1
     refine ⟨?_, by omega, e2⟩
     unfold labT
     rw [if_pos (by omega), if_neg g3, Int.toNat_natCast, k3]
     simp only [ne_eq, Decidable.not_not] at g2
     rcases cutL_back 58 t with ⟨m1, m2⟩ | ⟨m1, m2, m3⟩
     ·rw [m1] at g2
      rw [if_neg (by simpa using g2.symm), e1, ← m2]
     ·rw [m1] at g2
      rw [if_pos (by simpa using g2.symm), ← m2]
theorem labT_len (lv : Int) (c : Nat) : (labT lv c).length ≤ 200 := by
 unfold labT
 split
 ·split
  ·decide
  ·have h1 := digT_len lv.toNat
   have h2 := txtS_len c
   split
   ·omega
   ·rw [List.length_append, List.length_cons]; omega
 ·simp
end Go.Proofs.YtbboanfggaknjaaGreatDoor.X
/- Spans as texts. -/
set_option linter.unusedVariables false
set_option linter.unusedSimpArgs false
namespace Go.Proofs.YtbboanfggaknjaaGreatDoor.X.AD
open Go.RowKit Go.Proofs.YtbboanfggaknjaaGreatDoorW.PrintWords Go.Proofs.YtbboanfggaknjaaGreatDoorW.PrintLast Go.Proofs.YtbboanfggaknjaaGreatDoorW.PrintMore
def mayZ (a b c d : Int) : Bool := decide ((0 ≤ a ∧ a < 999 ∧ 0 ≤ b ∧ b < 702) ∧ (0 ≤ c ∧ c < 999 ∧ 0 ≤ d ∧ d < 702))
theorem addr_may_eq (a b : Int) : addr_May.f a b = some (decide (0 ≤ a ∧ a < 999 ∧ 0 ≤ b ∧ b < 702)) := by
 unfold addr_May.f
 by_cases h1 : a ≥ 0
 ·rw [if_pos h1]
  by_cases h2 : a < 999
  ·rw [if_pos h2]
   by_cases h3 : b ≥ 0
   ·rw [if_pos h3, Option.some.injEq, decide_eq_decide]; omega
   ·rw [if_neg h3, decide_eq_false (by omega)]
  ·rw [if_neg h2, decide_eq_false (by omega)]
 ·rw [if_neg h1, decide_eq_false (by omega)]
theorem span_may_eq (a b c d : Int) : span_May.f a b c d = some (mayZ a b c d) := by
 unfold span_May.f mayZ
 rw [addr_may_eq, Option.bind_some]
 by_cases h : 0 ≤ a ∧ a < 999 ∧ 0 ≤ b ∧ b < 702
 ·rw [decide_eq_true h, if_pos rfl, addr_may_eq, Option.bind_some, Option.some.injEq, decide_eq_decide]
  exact ⟨fun g => ⟨h, g⟩, fun g => g.2⟩
 ·rw [decide_eq_false h, if_neg (by simp), decide_eq_false (fun g => h g.1)]
theorem rmayd_eq (a b : Int) : oculusref03_May.f a b = some (decide (0 ≤ a ∧ a < 999 ∧ 0 ≤ b ∧ b < 702)) := by
 unfold oculusref03_May.f
 by_cases h1 : a ≥ 0
 ·rw [if_pos h1]
  by_cases h2 : a ≤ 998
  ·rw [if_pos h2]
   by_cases h3 : b ≥ 0
   ·rw [if_pos h3, Option.some.injEq, decide_eq_decide]; omega
   ·rw [if_neg h3, decide_eq_false (by omega)]
  ·rw [if_neg h2, decide_eq_false (by omega)]
 ·rw [if_neg h1, decide_eq_false (by omega)]
theorem rspan_may_eq (a b c d : Int) : oculusref04_May.f a b c d = some (mayZ a b c d) := by
 unfold oculusref04_May.f mayZ
 rw [rmayd_eq, Option.bind_some]
 by_cases h : 0 ≤ a ∧ a < 999 ∧ 0 ≤ b ∧ b < 702
 ·rw [decide_eq_true h, if_pos rfl, rmayd_eq, Option.bind_some, Option.some.injEq, decide_eq_decide]
  exact ⟨fun g => ⟨h, g⟩, fun g => g.2⟩
 ·rw [decide_eq_false h, if_neg (by simp), decide_eq_false (fun g => h g.1)]
def spP (l : List UInt8) : Int × Int × Int × Int × Bool :=
 if (parS (cutL 58 l).1).2.2 = true then
  (if (cutL 58 l).2.2 = true then
   (if (parS (cutL 58 l).2.1).2.2 = true then
    (if (parS (cutL 58 l).1).1 = (parS (cutL 58 l).2.1).1 ∧ (parS (cutL 58 l).1).2.1 = (parS (cutL 58 l).2.1).2.1 then (0, 0, 0, 0, false)
    else ((parS (cutL 58 l).1).1, (parS (cutL 58 l).1).2.1, (parS (cutL 58 l).2.1).1, (parS (cutL 58 l).2.1).2.1, true))
   else (0, 0, 0, 0, false))
  else ((parS (cutL 58 l).1).1, (parS (cutL 58 l).1).2.1, (parS (cutL 58 l).1).1, (parS (cutL 58 l).1).2.1, true))
 else (0, 0, 0, 0, false)
theorem spparse_ev (l : List UInt8) (hl : l.length ≤ 5000) : Ev (fun k => span_Parse.f k (tx l)) (spP l) := by
 have hc := cutL_length 58 l
 unfold span_Parse.f spP
 have e := cut_eq (tx l) 58 (by rw [size_tx]; omega)
 rw [by_tx] at e
 refine ev_bind (ev_some fun _ => e) ?_
 refine ev_bind (parse_ev _ (by omega)) ?_
 have hp2 := parse_ev (cutL 58 l).2.1 (by omega)
 generalize parS (cutL 58 l).1 = p1 at *
 generalize parS (cutL 58 l).2.1 = p2 at *
 refine ev_ite (fun h1 => ?_) (fun h1 => ?_)
 ·rw [if_pos h1]
  refine Ev.step (fun k => span_Parse.j0.eq_2 _ _ _ _ _ _) ?_
  cases h2 : (cutL 58 l).2.2 with
  | false =>
   rw [if_neg (by simp)]
   exact ev_pos rfl (Ev.now _)
  | true =>
   rw [if_pos rfl]
   refine ev_neg (by simp) (ev_bind hp2 ?_)
   refine ev_pos h1 (ev_ite (fun h3 => ?_) (fun h3 => ?_))
   ·rw [if_pos h3]
    refine ev_ite (fun h4 => ?_) (fun h4 => ?_)
    ·rw [if_pos (by simpa using h4)]; exact Ev.now _
    ·rw [if_neg (by simpa using h4)]; exact Ev.now _
   ·rw [if_neg h3]; exact Ev.now _
 ·rw [if_neg h1]
  refine Ev.step (fun k => span_Parse.j0.eq_2 _ _ _ _ _ _) ?_
  refine ev_neg (by simp) (ev_bind hp2 ?_)
  exact ev_neg h1 (Ev.now _)
def txtL (a b c d : Int) : List UInt8 := if mayZ a b c d = true then (if a = c ∧ b = d then nameL a b else nameL a b ++ 58 :: nameL c d) else []
theorem nameL_len (a b : Int) : (nameL a b).length ≤ 5 := by
 unfold nameL
 split
 ·rw [List.length_append]
  have h1 := letL_len b.toNat
  have h2 := digL_len (a.toNat + 1)
  omega
 ·simp
theorem text_ev (a b c d : Int) : Ev (fun k => span_Text.f k a b c d) (tx (txtL a b c d)) := by
 unfold span_Text.f txtL
 refine ev_bind (ev_some fun _ => span_may_eq a b c d) ?_
 refine Ev.step (fun k => span_Text.j0.eq_2 _ _ _ _ _ _) ?_
 cases h : mayZ a b c d with
 | false => rw [if_neg (by simp)]; exact ev_pos rfl (Ev.now _)
 | true =>
  rw [if_pos rfl]
  refine ev_neg (by simp) ?_
  have l1 := nameL_len a b
  have l2 := nameL_len c d
  refine ev_ite (fun g => ?_) (fun g => ?_)
  ·rw [if_pos (by simpa using g)]
   exact ev_bind (name_ev a b) (Ev.now _)
  ·rw [if_neg (by simpa using g)]
   refine ev_bind (name_ev a b) (ev_pos (by rw [size_tx]; omega) ?_)
   refine ev_bind (name_ev c d) ?_
   have e : tx (nameL a b) ++ (⟨#[58]⟩ : ByteArray) ++ tx (nameL c d) = tx (nameL a b ++ 58 :: nameL c d) := by
    rw [show (⟨#[58]⟩ : ByteArray) = tx [58] from rfl, tx_append, tx_append]; simp
   have e0 : tx (nameL a b) ++ (⟨#[58]⟩ : ByteArray) = tx (nameL a b ++ [58]) := by rw [show (⟨#[58]⟩ : ByteArray) = tx [58] from rfl, tx_append]
   refine ev_pos (by rw [e0, size_tx, size_tx, List.length_append]; simp; omega) ?_
   rw [e]
   exact Ev.now _
theorem rpar (l : List UInt8) : Ev (fun k => oculusref03_Parse.f k (tx l)) (parS l) := by
 have := rparse_ev l
 rw [← par_rp l] at this
 exact this
theorem may_two (a b c d : Int) : mayZ a b c d = (mayI a b && mayI c d) := by
 unfold mayZ mayI
 rw [← Bool.decide_and]
theorem let_col : ∀ n : Fin 702, (58 : UInt8) ∉ letL n.val := by decide +kernel
theorem dig_col : ∀ n : Fin 1000, (58 : UInt8) ∉ digL n.val := by decide +kernel
theorem name_col (r c : Int) : (58 : UInt8) ∉ nameL r c := by
 unfold nameL
 by_cases h : mayI r c = true
 ·rw [if_pos h]
  unfold mayI at h
  have hb := of_decide_eq_true h
  have h1 := let_col ⟨c.toNat, by omega⟩
  have h2 := dig_col ⟨r.toNat + 1, by omega⟩
  simp only [List.mem_append, not_or]
  exact ⟨h1, h2⟩
 ·rw [if_neg h]; simp
theorem par_form {l : List UInt8} (h : (parS l).2.2 = true) : mayI (parS l).1 (parS l).2.1 = true ∧ nameL (parS l).1 (parS l).2.1 = l ∧ (58 : UInt8) ∉ l ∧ l.length ≤ 5 := by
 obtain ⟨h1, h2⟩ := par_back (l := l) (r := (parS l).1) (c := (parS l).2.1) (by rw [← h])
 have h3 := name_col (parS l).1 (parS l).2.1
 have h4 := nameL_len (parS l).1 (parS l).2.1
 rw [h2] at h3 h4
 exact ⟨h1, h2, h3, h4⟩
theorem sp_back {l : List UInt8} {a b c d : Int} (h : spP l = (a, b, c, d, true)) : txtL a b c d = l := by
 unfold spP at h
 by_cases h1 : (parS (cutL 58 l).1).2.2 = true
 ·rw [if_pos h1] at h
  obtain ⟨m1, n1, _, _⟩ := par_form h1
  by_cases h2 : (cutL 58 l).2.2 = true
  ·rw [if_pos h2] at h
   by_cases h3 : (parS (cutL 58 l).2.1).2.2 = true
   ·rw [if_pos h3] at h
    obtain ⟨m2, n2, _, _⟩ := par_form h3
    split at h
    ·simp at h
    ·rename_i h4
     simp only [Prod.mk.injEq] at h
     obtain ⟨rfl, rfl, rfl, rfl, _⟩ := h
     unfold txtL
     rw [if_pos (by rw [may_two, m1, m2]; rfl), if_neg h4, n1, n2]
     rcases cutL_back 58 l with ⟨_, k⟩ | ⟨k, _⟩
     ·exact k.symm
     ·rw [h2] at k; cases k
   ·rw [if_neg h3] at h; simp at h
  ·rw [if_neg h2] at h
   simp only [Prod.mk.injEq] at h
   obtain ⟨rfl, rfl, rfl, rfl, _⟩ := h
   unfold txtL
   rw [if_pos (by rw [may_two, m1]; rfl), if_pos ⟨rfl, rfl⟩, n1]
   rcases cutL_back 58 l with ⟨k, _⟩ | ⟨_, k, _⟩
   ·exact absurd k h2
   ·exact k.symm
 ·rw [if_neg h1] at h; simp at h
theorem rsp_j1f (l : List UInt8) (i : Int) : Ev (fun k => oculusref04_Parse.j1 k (tx l) i false) (0, 0, 0, 0, false) :=
 Ev.step (fun k => oculusref04_Parse.j1.eq_2 ..) (ev_neg (by simp) (Ev.now _))
theorem rsp_late (l : List UInt8) (hl : l.length ≤ 5000) (n : Nat) (hn : n < l.length) (hc : l[n] = 58) : ∀ (m i : Nat), i + m = l.length → n < i → Ev (fun k => oculusref04_Parse.l0 k (tx l) (i : Int)) (0, 0, 0, 0, false)
 | 0, i, hi, _ => by
  refine Ev.step (fun k => oculusref04_Parse.l0.eq_2 ..) ?_
  rw [size_tx]
  exact ev_neg (by omega) (rsp_j1f l _)
 | m + 1, i, hi, hni => by
  have ih := rsp_late l hl n hn hc m (i + 1) (by omega) (by omega)
  refine Ev.step (fun k => oculusref04_Parse.l0.eq_2 ..) ?_
  rw [size_tx]
  refine ev_pos (by omega) ?_
  by_cases h10 : i < 10
  ·rw [decide_eq_true (by omega)]
   refine Ev.step (fun k => oculusref04_Parse.j1.eq_2 ..) (ev_pos rfl ?_)
   rw [size_tx, bt_tx l i (by omega), w64s (n := 10000) (by omega) (by omega)]
   refine ev_pos (by omega) (ev_pos (by omega) (ev_ite (fun _ => ?_) (fun _ => ih)))
   refine ev_pos (by omega) ?_
   rw [Int.toNat_natCast, ext_head, by_tx]
   refine ev_bind (rpar _) (ev_pos (by omega) (ev_pos (by omega) ?_))
   have e5 : (tx l).extract (((i + 1 : Nat) : Int)).toNat l.length = tx (l.drop (i + 1)) := by
    have := ext_tail (tx l) (i + 1)
    rw [size_tx, by_tx] at this
    rw [Int.toNat_natCast]; exact this
   rw [e5]
   refine ev_bind (rpar _) (ev_neg ?_ ih)
   intro h
   have := (par_form h).2.2.1
   refine this ?_
   rw [← hc]
   have : l[n] = (l.take i)[n]'(by rw [List.length_take]; omega) := by rw [List.getElem_take]
   rw [this]
   exact List.getElem_mem _
  ·rw [decide_eq_false (by omega)]
   exact rsp_j1f l _
theorem rsp_none (l : List UInt8) (hl : l.length ≤ 5000) (h : (58 : UInt8) ∉ l) : ∀ (m i : Nat), i + m = l.length → Ev (fun k => oculusref04_Parse.l0 k (tx l) (i : Int)) (0, 0, 0, 0, false)
 | 0, i, hi => by
  refine Ev.step (fun k => oculusref04_Parse.l0.eq_2 ..) ?_
  rw [size_tx]
  exact ev_neg (by omega) (rsp_j1f l _)
 | m + 1, i, hi => by
  have ih := rsp_none l hl h m (i + 1) (by omega)
  refine Ev.step (fun k => oculusref04_Parse.l0.eq_2 ..) ?_
  rw [size_tx]
  refine ev_pos (by omega) ?_
  by_cases h10 : i < 10
  ·rw [decide_eq_true (by omega)]
   refine Ev.step (fun k => oculusref04_Parse.j1.eq_2 ..) (ev_pos rfl ?_)
   rw [size_tx, bt_tx l i (by omega), w64s (n := 10000) (by omega) (by omega)]
   refine ev_pos (by omega) (ev_pos (by omega) (ev_neg ?_ ih))
   intro e
   refine h ?_
   have : l[i] = 58 := u8_inj (by have : (58 : UInt8).toNat = 58 := rfl; omega)
   rw [← this]; exact List.getElem_mem _
  ·rw [decide_eq_false (by omega)]
   exact rsp_j1f l _
theorem rsp_at (p q : List UInt8) (hp : (58 : UInt8) ∉ p) (hl : (p ++ 58 :: q).length ≤ 5000) : ∀ (m i : Nat), i + m = p.length → Ev (fun k => oculusref04_Parse.l0 k (tx (p ++ 58 :: q)) (i : Int))
  (if (parS p).2.2 = true ∧ (parS q).2.2 = true ∧ ¬ ((parS p).1 = (parS q).1 ∧ (parS p).2.1 = (parS q).2.1) then ((parS p).1, (parS p).2.1, (parS q).1, (parS q).2.1, true) else (0, 0, 0, 0, false))
 | 0, i, hi => by
  obtain rfl : i = p.length := by omega
  have hlen : (p ++ 58 :: q).length = p.length + (q.length + 1) := by rw [List.length_append]; rfl
  have hg : (p ++ 58 :: q)[p.length]'(by omega) = 58 := by simp
  refine Ev.step (fun k => oculusref04_Parse.l0.eq_2 ..) ?_
  rw [size_tx]
  refine ev_pos (by omega) ?_
  by_cases h10 : p.length < 10
  ·rw [decide_eq_true (by omega)]
   refine Ev.step (fun k => oculusref04_Parse.j1.eq_2 ..) (ev_pos rfl ?_)
   rw [size_tx, bt_tx _ p.length (by omega), w64s (n := 10000) (by omega) (by omega), hg]
   refine ev_pos (by omega) (ev_pos (by omega) (ev_pos rfl (ev_pos (by omega) ?_)))
   rw [Int.toNat_natCast, ext_head, by_tx, List.take_left]
   refine ev_bind (rpar _) (ev_pos (by omega) (ev_pos (by omega) ?_))
   have e5 : (tx (p ++ 58 :: q)).extract (((p.length + 1 : Nat) : Int)).toNat (p ++ 58 :: q).length = tx q := by
    have := ext_tail (tx (p ++ 58 :: q)) (p.length + 1)
    rw [size_tx, by_tx] at this
    rw [Int.toNat_natCast, this, ← List.drop_drop, List.drop_left]; rfl
   rw [e5]
   have late := rsp_late (p ++ 58 :: q) hl p.length (by omega) hg (q.length) (p.length + 1) (by omega) (by omega)
   refine ev_bind (rpar _) (ev_ite (fun h1 => ?_) (fun h1 => ?_))
   ·refine ev_ite (fun h2 => ?_) (fun h2 => ?_)
    ·refine ev_ite (fun h3 => ?_) (fun h3 => ?_)
     ·have h3' : ¬ ((parS p).1 = (parS q).1 ∧ (parS p).2.1 = (parS q).2.1) := by
       rintro ⟨e1, e2⟩
       rw [e1, e2] at h3
       simp at h3
      rw [if_pos ⟨h1, h2, h3'⟩]
      exact Ev.now _
     ·have h3' : (parS p).1 = (parS q).1 ∧ (parS p).2.1 = (parS q).2.1 := by
       simp only [Bool.or_eq_true, Bool.not_eq_true', beq_eq_false_iff_ne, not_or, Decidable.not_not, ne_eq] at h3
       exact h3
      rw [if_neg (fun k => k.2.2 h3')]
      exact late
    ·rw [if_neg (fun k => h2 k.2.1)]; exact late
   ·rw [if_neg (fun k => h1 k.1)]; exact late
  ·rw [decide_eq_false (by omega)]
   rw [if_neg (fun k => by have := (par_form k.1).2.2.2; omega)]
   exact rsp_j1f _ _
 | m + 1, i, hi => by
  have ih := rsp_at p q hp hl m (i + 1) (by omega)
  have hlen : (p ++ 58 :: q).length = p.length + (q.length + 1) := by rw [List.length_append]; rfl
  refine Ev.step (fun k => oculusref04_Parse.l0.eq_2 ..) ?_
  rw [size_tx]
  refine ev_pos (by omega) ?_
  by_cases h10 : i < 10
  ·rw [decide_eq_true (by omega)]
   refine Ev.step (fun k => oculusref04_Parse.j1.eq_2 ..) (ev_pos rfl ?_)
   rw [size_tx, bt_tx _ i (by omega), w64s (n := 10000) (by omega) (by omega)]
   refine ev_pos (by omega) (ev_pos (by omega) (ev_neg ?_ ih))
   intro e
   refine hp ?_
   have e1 : (p ++ 58 :: q)[i]'(by omega) = 58 := u8_inj (by have : (58 : UInt8).toNat = 58 := rfl; omega)
   rw [List.getElem_append_left (by omega)] at e1
   rw [← e1]; exact List.getElem_mem _
  ·rw [decide_eq_false (by omega)]
   rw [if_neg (fun k => by have := (par_form k.1).2.2.2; omega)]
   exact rsp_j1f _ _
theorem rspparse_ev (l : List UInt8) (hl : l.length ≤ 5000) : Ev (fun k => oculusref04_Parse.f k (tx l)) (spP l) := by
 unfold oculusref04_Parse.f
 refine ev_bind (rpar l) (ev_ite (fun h => ?_) (fun h => ?_))
 ·obtain ⟨_, _, h3, _⟩ := par_form h
  have : spP l = ((parS l).1, (parS l).2.1, (parS l).1, (parS l).2.1, true) := by
   unfold spP
   rw [cutL_plain 58 l h3]
   rw [if_pos h, if_neg (by simp)]
  rw [this]
  exact Ev.now _
 ·by_cases hc : (58 : UInt8) ∈ l
  ·rcases cutL_back 58 l with ⟨k1, k2⟩ | ⟨k1, k2, k3⟩
   ·have hno := cutL_no 58 l
    have hl' := hl
    rw [k2] at hl'
    have := rsp_at (cutL 58 l).1 (cutL 58 l).2.1 hno hl' _ 0 (Nat.zero_add _)
    rw [← k2] at this
    have e : spP l = if (parS (cutL 58 l).1).2.2 = true ∧ (parS (cutL 58 l).2.1).2.2 = true ∧ ¬ ((parS (cutL 58 l).1).1 = (parS (cutL 58 l).2.1).1 ∧ (parS (cutL 58 l).1).2.1 = (parS (cutL 58 l).2.1).2.1) then ((parS (cutL 58 l).1).1, (parS (cutL 58 l).1).2.1, (parS (cutL 58 l).2.1).1, (parS (cutL 58 l).2.1).2.1, true) else (0, 0, 0, 0, false) := by
     unfold spP
     rw [if_pos k1]
     by_cases g1 : (parS (cutL 58 l).1).2.2 = true
     ·rw [if_pos g1]
      by_cases g2 : (parS (cutL 58 l).2.1).2.2 = true
      ·rw [if_pos g2]
       by_cases g3 : (parS (cutL 58 l).1).1 = (parS (cutL 58 l).2.1).1 ∧ (parS (cutL 58 l).1).2.1 = (parS (cutL 58 l).2.1).2.1
       ·rw [if_pos g3, if_neg (fun k => k.2.2 g3)]
       ·rw [if_neg g3, if_pos ⟨g1, g2, g3⟩]
      ·rw [if_neg g2, if_neg (fun k => g2 k.2.1)]
     ·rw [if_neg g1, if_neg (fun k => g1 k.1)]
    rw [e]
    exact this
   ·exact absurd (k2 ▸ hc) (cutL_no 58 l)
  ·have : spP l = (0, 0, 0, 0, false) := by
    unfold spP
    rw [cutL_plain 58 l hc]
    rw [if_neg h]
   rw [this]
   exact rsp_none l hl hc l.length 0 (by omega)
theorem txtL_len (a b c d : Int) : (txtL a b c d).length ≤ 11 := by
 unfold txtL
 have l1 := nameL_len a b
 have l2 := nameL_len c d
 split
 ·split
  ·omega
  ·rw [List.length_append, List.length_cons]; omega
 ·simp
end Go.Proofs.YtbboanfggaknjaaGreatDoor.X.AD
