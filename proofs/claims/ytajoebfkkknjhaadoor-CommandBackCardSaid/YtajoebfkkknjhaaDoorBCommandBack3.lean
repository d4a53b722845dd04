/- Contracts of the functions that the law CommandBack reaches, and what they answer (a session's own texts, joined; part 3). -/
import Derived.Deep.RegionHeld3
import Derived.Test.YtajoebfkkknjhaaDoorBCommandBack2
set_option maxHeartbeats 8000000
set_option maxRecDepth 100000
/- The contract of command.Parse: a command in memory is filled in by command.args. -/
set_option linter.unusedVariables false
set_option linter.unusedSimpArgs false
namespace Go.Proofs.YtajoebfkkknjhaaDoor.X
open Go.RowKit Go.Proofs.YtajoebfkkknjhaaDoorW.PrintWords Go.Proofs.YtajoebfkkknjhaaDoorW.PrintLast Go.Proofs.YtajoebfkkknjhaaDoorW.PrintMore
def command_Parse.f (k : Nat) (a0 : ByteArray) : Option (ByteArray × Int × Int × Int × Int × Int × Int × Int × Int × Int × ByteArray × Int × Int) :=
 if (a0.size : Int) > 1000 then some (⟨#[]⟩, 0, 0, 0, 0, 0, 0, 0, 0, 0, ⟨#[]⟩, 0, 3) else
 (strings_Cut.f a0 ⟨#[32]⟩).bind fun c1 => (strings_Cut.f c1.2.1 ⟨#[32]⟩).bind fun c2 => (strings_Cut.f c2.2.1 ⟨#[32]⟩).bind fun c3 =>
 (label_Parse.f k c2.1).bind fun lp => (command_verb.f k c3.1).bind fun v => (right_Name.f k c1.1).bind fun nm =>
 if nm = true then (if lp.2.2 = true then (if v = 0 then some (⟨#[]⟩, 0, 0, 0, 0, 0, 0, 0, 0, 0, ⟨#[]⟩, 0, 1) else
  (command_args.f k c1.1 lp.1 lp.2.1 v 0 0 0 0 0 0 ⟨#[]⟩ 0 c3.2.1 c3.2.2).bind fun r =>
   if r.1 = true then some (r.2.1, r.2.2.1, r.2.2.2.1, r.2.2.2.2.1, r.2.2.2.2.2.1, r.2.2.2.2.2.2.1, r.2.2.2.2.2.2.2.1, r.2.2.2.2.2.2.2.2.1, r.2.2.2.2.2.2.2.2.2.1, r.2.2.2.2.2.2.2.2.2.2.1, r.2.2.2.2.2.2.2.2.2.2.2.1, r.2.2.2.2.2.2.2.2.2.2.2.2, 0)
   else some (⟨#[]⟩, 0, 0, 0, 0, 0, 0, 0, 0, 0, ⟨#[]⟩, 0, 1))
  else some (⟨#[]⟩, 0, 0, 0, 0, 0, 0, 0, 0, 0, ⟨#[]⟩, 0, 1)) else some (⟨#[]⟩, 0, 0, 0, 0, 0, 0, 0, 0, 0, ⟨#[]⟩, 0, 1)
section
variable {P : Program} {ops : Array Oper} {o : Oper} {a : Act} {Q : Exit → Act → World → Prop} {Kc : Act → World → Prop}
theorem store_step44 {W w1 : World} (hw : Region.wanted o (yielded ops a.tmps) = true) (hN : o.dst = none) (hrun : (execOp a.eval o).run P W = .ok .skip w1) (h : ∀ w', w' = w1 → Kc a w') : if Region.wanted o (yielded ops a.tmps) = true then Oper.wp P o a W Kc Q else Kc (a.put none undef) W := by
 rw [if_pos hw]
 unfold Oper.wp
 rw [hrun]
 show Kc (a.put o.dst undef) w1
 rw [hN]
 exact h _ rfl
end
noncomputable def parse44_T : Bool × List (List Nat × List Nat) := rtab .any (opsOf Tryd.f6 7)
def parse44_B : List Nat := [0, 0, 0, 4, 15, 0, 63]
theorem parse44_tab : rtab .any (opsOf Tryd.f6 7) = parse44_T := rfl
theorem parse44_bits : waitsOk parse44_T.2 parse44_B = true := by kernel_rfl
theorem parse44_long (a0 : ByteArray) (w : World) (h : (a0.size : Int) > 1000) :
  Calls Tryd.prog 6 #[.string a0] w fun e w' => e = .returned (.tuple #[.agg #[.string (⟨#[]⟩ : ByteArray), .int .i64 0, .int .u64 0, .int .i64 0, .int .i64 0, .int .i64 0, .int .i64 0, .int .i64 0, .int .i64 0, .int .i64 0, .string (⟨#[]⟩ : ByteArray), .int .i64 0], .int .i64 3]) ∧ Below w.heap.size w w' := by
 have hu := Tryd.underlying31
 have hd1 : decide ((a0.size : Int) > 1000) = true := decide_eq_true h
 have hd2 : decide (1000 < a0.size) = true := decide_eq_true (by omega)
 have HB := Aside0.mk (Below.refl w.heap.size w)
 go_enter Tryd.func6, Tryd.ntmps6
 go_wp2_with (first | ((with_reducible refine gate_dst (N := 2) rfl ?_); refine box_event ?hg (N := 2) ?hd (cs := #[.string (⟨#[]⟩ : ByteArray), .int .i64 0, .int .u64 0, .int .i64 0, .int .i64 0, .int .i64 0, .int .i64 0, .int .i64 0, .int .i64 0, .int .i64 0, .string (⟨#[]⟩ : ByteArray), .int .i64 0]) (t := 31) ?hr ?_; (case hd => rfl); (case hg => rfl); (case hr => first | (go_simp; done) | (go_simp; rfl)); intro g1 hg w1 hbox hb; have GE_g1 := Aside0.mk ((by rw [hg]; exact (below_size (pbx HB)) : w.heap.size ≤ g1)); replace HB := Aside0.mk (below_step (pbx HB) hb); have B_g1 := Aside0.mk hbox; clear hb hbox hg; have c_g1_0 : w1.cell? ⟨g1, 0, none⟩ = some (.string (⟨#[]⟩ : ByteArray)) := (blk_cell B_g1.out 0).trans rfl; have c_g1_1 : w1.cell? ⟨g1, 1, none⟩ = some (.int .i64 0) := (blk_cell B_g1.out 1).trans rfl; have c_g1_2 : w1.cell? ⟨g1, 2, none⟩ = some (.int .u64 0) := (blk_cell B_g1.out 2).trans rfl; have c_g1_3 : w1.cell? ⟨g1, 3, none⟩ = some (.int .i64 0) := (blk_cell B_g1.out 3).trans rfl; have c_g1_4 : w1.cell? ⟨g1, 4, none⟩ = some (.int .i64 0) := (blk_cell B_g1.out 4).trans rfl; have c_g1_5 : w1.cell? ⟨g1, 5, none⟩ = some (.int .i64 0) := (blk_cell B_g1.out 5).trans rfl; have c_g1_6 : w1.cell? ⟨g1, 6, none⟩ = some (.int .i64 0) := (blk_cell B_g1.out 6).trans rfl; have c_g1_7 : w1.cell? ⟨g1, 7, none⟩ = some (.int .i64 0) := (blk_cell B_g1.out 7).trans rfl; have c_g1_8 : w1.cell? ⟨g1, 8, none⟩ = some (.int .i64 0) := (blk_cell B_g1.out 8).trans rfl; have c_g1_9 : w1.cell? ⟨g1, 9, none⟩ = some (.int .i64 0) := (blk_cell B_g1.out 9).trans rfl; have c_g1_10 : w1.cell? ⟨g1, 10, none⟩ = some (.string (⟨#[]⟩ : ByteArray)) := (blk_cell B_g1.out 10).trans rfl; have c_g1_11 : w1.cell? ⟨g1, 11, none⟩ = some (.int .i64 0) := (blk_cell B_g1.out 11).trans rfl; have f_g1_0 := blk_frozen B_g1.out 0; have f_g1_1 := blk_frozen B_g1.out 1; have f_g1_2 := blk_frozen B_g1.out 2; have f_g1_3 := blk_frozen B_g1.out 3; have f_g1_4 := blk_frozen B_g1.out 4; have f_g1_5 := blk_frozen B_g1.out 5; have f_g1_6 := blk_frozen B_g1.out 6; have f_g1_7 := blk_frozen B_g1.out 7; have f_g1_8 := blk_frozen B_g1.out 8; have f_g1_9 := blk_frozen B_g1.out 9; have f_g1_10 := blk_frozen B_g1.out 10; have f_g1_11 := blk_frozen B_g1.out 11))
 refine bodyPost_ret (results_ct rfl _ _ g1 31 #[.string (⟨#[]⟩ : ByteArray), .int .i64 0, .int .u64 0, .int .i64 0, .int .i64 0, .int .i64 0, .int .i64 0, .int .i64 0, .int .i64 0, .int .i64 0, .string (⟨#[]⟩ : ByteArray), .int .i64 0] (0, 0) _ rfl (by (with_reducible repeat (first | refine blk_drewN ?_ _ | refine blk_drew ?_ | refine blk_alloc ?_ _)); refine blk_put (cs := #[.string (⟨#[]⟩ : ByteArray), .int .i64 0, .int .u64 0, .int .i64 0, .int .i64 0, .int .i64 0, .int .i64 0, .int .i64 0, .int .i64 0, .int .i64 0, .string (⟨#[]⟩ : ByteArray), .int .i64 0]) ?_ 11 _ rfl; (with_reducible repeat (first | refine blk_drewN ?_ _ | refine blk_drew ?_ | refine blk_alloc ?_ _)); refine blk_put (cs := #[.string (⟨#[]⟩ : ByteArray), .int .i64 0, .int .u64 0, .int .i64 0, .int .i64 0, .int .i64 0, .int .i64 0, .int .i64 0, .int .i64 0, .int .i64 0, .string (⟨#[]⟩ : ByteArray), .int .i64 0]) ?_ 10 _ rfl; (with_reducible repeat (first | refine blk_drewN ?_ _ | refine blk_drew ?_ | refine blk_alloc ?_ _)); refine blk_put (cs := #[.string (⟨#[]⟩ : ByteArray), .int .i64 0, .int .u64 0, .int .i64 0, .int .i64 0, .int .i64 0, .int .i64 0, .int .i64 0, .int .i64 0, .int .i64 0, .string (⟨#[]⟩ : ByteArray), .int .i64 0]) ?_ 9 _ rfl; (with_reducible repeat (first | refine blk_drewN ?_ _ | refine blk_drew ?_ | refine blk_alloc ?_ _)); refine blk_put (cs := #[.string (⟨#[]⟩ : ByteArray), .int .i64 0, .int .u64 0, .int .i64 0, .int .i64 0, .int .i64 0, .int .i64 0, .int .i64 0, .int .i64 0, .int .i64 0, .string (⟨#[]⟩ : ByteArray), .int .i64 0]) ?_ 8 _ rfl; (with_reducible repeat (first | refine blk_drewN ?_ _ | refine blk_drew ?_ | refine blk_alloc ?_ _)); refine blk_put (cs := #[.string (⟨#[]⟩ : ByteArray), .int .i64 0, .int .u64 0, .int .i64 0, .int .i64 0, .int .i64 0, .int .i64 0, .int .i64 0, .int .i64 0, .int .i64 0, .string (⟨#[]⟩ : ByteArray), .int .i64 0]) ?_ 7 _ rfl; (with_reducible repeat (first | refine blk_drewN ?_ _ | refine blk_drew ?_ | refine blk_alloc ?_ _)); refine blk_put (cs := #[.string (⟨#[]⟩ : ByteArray), .int .i64 0, .int .u64 0, .int .i64 0, .int .i64 0, .int .i64 0, .int .i64 0, .int .i64 0, .int .i64 0, .int .i64 0, .string (⟨#[]⟩ : ByteArray), .int .i64 0]) ?_ 6 _ rfl; (with_reducible repeat (first | refine blk_drewN ?_ _ | refine blk_drew ?_ | refine blk_alloc ?_ _)); refine blk_put (cs := #[.string (⟨#[]⟩ : ByteArray), .int .i64 0, .int .u64 0, .int .i64 0, .int .i64 0, .int .i64 0, .int .i64 0, .int .i64 0, .int .i64 0, .int .i64 0, .string (⟨#[]⟩ : ByteArray), .int .i64 0]) ?_ 5 _ rfl; (with_reducible repeat (first | refine blk_drewN ?_ _ | refine blk_drew ?_ | refine blk_alloc ?_ _)); refine blk_put (cs := #[.string (⟨#[]⟩ : ByteArray), .int .i64 0, .int .u64 0, .int .i64 0, .int .i64 0, .int .i64 0, .int .i64 0, .int .i64 0, .int .i64 0, .int .i64 0, .string (⟨#[]⟩ : ByteArray), .int .i64 0]) ?_ 4 _ rfl; (with_reducible repeat (first | refine blk_drewN ?_ _ | refine blk_drew ?_ | refine blk_alloc ?_ _)); refine blk_put (cs := #[.string (⟨#[]⟩ : ByteArray), .int .i64 0, .int .u64 0, .int .i64 0, .int .i64 0, .int .i64 0, .int .i64 0, .int .i64 0, .int .i64 0, .int .i64 0, .string (⟨#[]⟩ : ByteArray), .int .i64 0]) ?_ 3 _ rfl; (with_reducible repeat (first | refine blk_drewN ?_ _ | refine blk_drew ?_ | refine blk_alloc ?_ _)); refine blk_put (cs := #[.string (⟨#[]⟩ : ByteArray), .int .i64 0, .int .u64 0, .int .i64 0, .int .i64 0, .int .i64 0, .int .i64 0, .int .i64 0, .int .i64 0, .int .i64 0, .string (⟨#[]⟩ : ByteArray), .int .i64 0]) ?_ 2 _ rfl; (with_reducible repeat (first | refine blk_drewN ?_ _ | refine blk_drew ?_ | refine blk_alloc ?_ _)); refine blk_put (cs := #[.string (⟨#[]⟩ : ByteArray), .int .i64 0, .int .u64 0, .int .i64 0, .int .i64 0, .int .i64 0, .int .i64 0, .int .i64 0, .int .i64 0, .int .i64 0, .string (⟨#[]⟩ : ByteArray), .int .i64 0]) ?_ 1 _ rfl; (with_reducible repeat (first | refine blk_drewN ?_ _ | refine blk_drew ?_ | refine blk_alloc ?_ _)); refine blk_put (cs := #[.string (⟨#[]⟩ : ByteArray), .int .i64 0, .int .u64 0, .int .i64 0, .int .i64 0, .int .i64 0, .int .i64 0, .int .i64 0, .int .i64 0, .int .i64 0, .string (⟨#[]⟩ : ByteArray), .int .i64 0]) ?_ 0 _ rfl; (with_reducible repeat (first | refine blk_drewN ?_ _ | refine blk_drew ?_ | refine blk_alloc ?_ _)); exact B_g1.out) Tryd.underlying31 rfl (by kernel_rfl)) rfl ?_
 exact ⟨rfl, by repeat (first | (with_reducible first | exact HB.out | apply below_alloc | apply pw_below_drewN | apply below_drew1 | refine below_set ?_ GE_g1.out) | exact HB.out)⟩
set_option maxHeartbeats 16000000 in
theorem parse44_short (k : Nat) (a0 s1 q1 s2 q2 s3 q3 : ByteArray) (b1 b2 b3 : Bool) (lv ct v : Int) (ok nm : Bool) (w : World) (hT : Aside0 (Tab w)) (h : ¬ (a0.size : Int) > 1000) (A1 : strings_Cut.f a0 ⟨#[32]⟩ = some (s1, q1, b1)) (A2 : strings_Cut.f q1 ⟨#[32]⟩ = some (s2, q2, b2)) (A3 : strings_Cut.f q2 ⟨#[32]⟩ = some (s3, q3, b3)) (A4 : label_Parse.f k s2 = some (lv, ct, ok)) (A5 : command_verb.f k s3 = some v) (A6 : right_Name.f k s1 = some nm) (r1 : ByteArray) (r2 r3 r4 r5 r6 r7 r8 r9 r10 : Int) (r11 : ByteArray) (r12 r13 : Int) (H0 : (if nm = true then (if ok = true then (if v = 0 then some ((⟨#[]⟩ : ByteArray), 0, 0, 0, 0, 0, 0, 0, 0, 0, (⟨#[]⟩ : ByteArray), 0, 1) else (command_args.f k s1 lv ct v 0 0 0 0 0 0 ⟨#[]⟩ 0 q3 b3).bind fun r => if r.1 = true then some (r.2.1, r.2.2.1, r.2.2.2.1, r.2.2.2.2.1, r.2.2.2.2.2.1, r.2.2.2.2.2.2.1, r.2.2.2.2.2.2.2.1, r.2.2.2.2.2.2.2.2.1, r.2.2.2.2.2.2.2.2.2.1, r.2.2.2.2.2.2.2.2.2.2.1, r.2.2.2.2.2.2.2.2.2.2.2.1, r.2.2.2.2.2.2.2.2.2.2.2.2, 0) else some ((⟨#[]⟩ : ByteArray), 0, 0, 0, 0, 0, 0, 0, 0, 0, (⟨#[]⟩ : ByteArray), 0, 1)) else some ((⟨#[]⟩ : ByteArray), 0, 0, 0, 0, 0, 0, 0, 0, 0, (⟨#[]⟩ : ByteArray), 0, 1)) else some ((⟨#[]⟩ : ByteArray), 0, 0, 0, 0, 0, 0, 0, 0, 0, (⟨#[]⟩ : ByteArray), 0, 1)) = some (r1, r2, r3, r4, r5, r6, r7, r8, r9, r10, r11, r12, r13)) :
  Calls Tryd.prog 6 #[.string a0] w fun e w' => e = .returned (.tuple #[.agg #[.string r1, .int .i64 r2, .int .u64 r3, .int .i64 r4, .int .i64 r5, .int .i64 r6, .int .i64 r7, .int .i64 r8, .int .i64 r9, .int .i64 r10, .string r11, .int .i64 r12], .int .i64 r13]) ∧ Below w.heap.size w w' := by
 have HH := Aside0.mk H0
 clear H0
 have hu := Tryd.underlying31
 have hu2 := Tryd.underlying25
 have hd1 : decide ((a0.size : Int) > 1000) = false := decide_eq_false h
 have hd2 : decide (1000 < a0.size) = false := decide_eq_false (by omega)
 have HA1 := Aside0.mk A1
 have HA2 := Aside0.mk A2
 have HA3 := Aside0.mk A3
 have HA4 := Aside0.mk A4
 have HA5 := Aside0.mk A5
 have HA6 := Aside0.mk A6
 clear A1 A2 A3 A4 A5 A6 h
 have HB := Aside0.mk (Below.refl w.heap.size w)
 go_enter Tryd.func6, Tryd.ntmps6
 go_upto_region 7 with (first | ((with_reducible refine gate_dst (N := 2) rfl ?_); refine box_event ?hg (N := 2) ?hd (cs := #[.string (⟨#[]⟩ : ByteArray), .int .i64 0, .int .u64 0, .int .i64 0, .int .i64 0, .int .i64 0, .int .i64 0, .int .i64 0, .int .i64 0, .int .i64 0, .string (⟨#[]⟩ : ByteArray), .int .i64 0]) (t := 31) ?hr ?_; (case hd => rfl); (case hg => rfl); (case hr => first | (go_simp; done) | (go_simp; rfl)); intro g1 hg w1 hbox hb; have GE_g1 := Aside0.mk ((by rw [hg]; exact (below_size (pbx HB)) : w.heap.size ≤ g1)); replace HB := Aside0.mk (below_step (pbx HB) hb); have B_g1 := Aside0.mk hbox; clear hb hbox hg) | ((with_reducible refine gate_callee (f := 11) rfl ?_); refine goesL_ (some 20) rfl rfl Tryd.func11 (by kernel_rfl) rfl #[.string a0, .string ⟨#[32]⟩] rfl (by (try simp only [List.map_toArray, List.map_cons, List.map_nil]); first | done | rfl) ?_; (with_reducible refine (strings_Cut.calls a0 ⟨#[32]⟩ s1 q1 b1 _ HA1.out).mono ?_); rintro e w2 ⟨rfl, hd⟩; refine ⟨_, rfl, ?_⟩; have hb := hd.below; clear hd; replace B_g1 := Aside0.mk (blk_below (pkx B_g1) hb); replace HB := Aside0.mk (below_step (pbx HB) hb); clear hb) | ((with_reducible refine gate_callee (f := 11) rfl ?_); refine goesL_ (some 26) rfl rfl Tryd.func11 (by kernel_rfl) rfl #[.string q1, .string ⟨#[32]⟩] rfl (by (try simp only [List.map_toArray, List.map_cons, List.map_nil]); first | done | rfl) ?_; (with_reducible refine (strings_Cut.calls q1 ⟨#[32]⟩ s2 q2 b2 _ HA2.out).mono ?_); rintro e w3 ⟨rfl, hd⟩; refine ⟨_, rfl, ?_⟩; have hb := hd.below; clear hd; replace B_g1 := Aside0.mk (blk_below (pkx B_g1) hb); replace HB := Aside0.mk (below_step (pbx HB) hb); clear hb) | ((with_reducible refine gate_callee (f := 11) rfl ?_); refine goesL_ (some 32) rfl rfl Tryd.func11 (by kernel_rfl) rfl #[.string q2, .string ⟨#[32]⟩] rfl (by (try simp only [List.map_toArray, List.map_cons, List.map_nil]); first | done | rfl) ?_; (with_reducible refine (strings_Cut.calls q2 ⟨#[32]⟩ s3 q3 b3 _ HA3.out).mono ?_); rintro e w4 ⟨rfl, hd⟩; refine ⟨_, rfl, ?_⟩; have hb := hd.below; clear hd; replace B_g1 := Aside0.mk (blk_below (pkx B_g1) hb); replace HB := Aside0.mk (below_step (pbx HB) hb); clear hb) | ((with_reducible refine gate_callee (f := 12) rfl ?_); refine goesL_ (some 38) rfl rfl Tryd.func12 (by kernel_rfl) rfl #[.string s2] rfl (by (try simp only [List.map_toArray, List.map_cons, List.map_nil]); first | done | rfl) ?_; (with_reducible refine (label_Parse.calls k s2 lv ct ok _ (by refine tb_ ?_ hT; exact pbx HB) HA4.out).mono ?_); rintro e w5 ⟨rfl, hb⟩; refine ⟨_, rfl, ?_⟩; replace B_g1 := Aside0.mk (blk_below (pkx B_g1) hb); replace HB := Aside0.mk (below_step (pbx HB) hb); clear hb) | ((with_reducible refine gate_dst (N := 11) rfl ?_); refine box_event ?hg (N := 11) ?hd (cs := #[.int .i64 0, .int .u64 0]) (t := 25) ?hr ?_; (case hd => rfl); (case hg => rfl); (case hr => first | (go_simp; done) | (go_simp; rfl)); intro g2 hg w6 hbox hb; have N_g1_g2 := Aside0.mk ((by rw [hg]; exact Nat.ne_of_lt (blk_lt (pkx B_g1)) : g1 ≠ g2)); have N_g2_g1 := Aside0.mk ((by rw [hg]; exact Nat.ne_of_gt (blk_lt (pkx B_g1)) : g2 ≠ g1)); have GE_g2 := Aside0.mk ((by rw [hg]; exact (below_size (pbx HB)) : w.heap.size ≤ g2)); replace B_g1 := Aside0.mk (blk_below (pkx B_g1) hb); replace HB := Aside0.mk (below_step (pbx HB) hb); have B_g2 := Aside0.mk hbox; clear hb hbox hg; have c_g2_0 : w6.cell? ⟨g2, 0, none⟩ = some (.int .i64 0) := (blk_cell B_g2.out 0).trans rfl; have c_g2_1 : w6.cell? ⟨g2, 1, none⟩ = some (.int .u64 0) := (blk_cell B_g2.out 1).trans rfl; have f_g2_0 := blk_frozen B_g2.out 0; have f_g2_1 := blk_frozen B_g2.out 1) | ((with_reducible refine gate_store (t := 25) (p := 11) rfl ?_); refine store_event (t := 25) (p := 11) (v := ?vo) (w1 := (w6.setCell ⟨g2, 0, none⟩ (.int .i64 lv)).setCell ⟨g2, 1, none⟩ (.int .u64 ct)) ?hg ?ho ?hn ?hr ?_; (case ho => rfl); (case hg => rfl); (case hn => rfl); (case hr => first | (go_simp; done) | (go_simp; rfl)); intro w7 hw; have n1_ : Aside0 (w7.heap[g1]? = some (.cells #[.string (⟨#[]⟩ : ByteArray), .int .i64 0, .int .u64 0, .int .i64 0, .int .i64 0, .int .i64 0, .int .i64 0, .int .i64 0, .int .i64 0, .int .i64 0, .string (⟨#[]⟩ : ByteArray), .int .i64 0] 31 (0, 0))) := ⟨by rw [hw]; refine blk_far ?_ N_g1_g2.out _; refine blk_far ?_ N_g1_g2.out _; exact B_g1.out⟩; have n2_ : Aside0 (w7.heap[g2]? = some (.cells #[.int .i64 lv, .int .u64 ct] 25 (0, 0))) := ⟨by rw [hw]; refine blk_put (cs := #[.int .i64 lv, .int .u64 0]) ?_ 1 _ rfl; refine blk_put (cs := #[.int .i64 0, .int .u64 0]) ?_ 0 _ rfl; exact B_g2.out⟩; have n3_ : Aside0 (Below w.heap.size w w7) := ⟨by rw [hw]; refine below_set ?_ GE_g2.out; refine below_set ?_ GE_g2.out; exact HB.out⟩; clear B_g1 B_g2 HB hw c_g2_0 c_g2_1 f_g2_0 f_g2_1; have B_g1 := n1_; have B_g2 := n2_; have HB := n3_; clear n1_ n2_ n3_))
 go_cut [13] (fun v13 wc => ∃ (g3 : Nat), v13 = .pointer (some ⟨g3, 0, none⟩) ∧ Aside0 (wc.heap[g1]? = some (.cells #[.string (⟨#[]⟩ : ByteArray), .int .i64 0, .int .u64 0, .int .i64 0, .int .i64 0, .int .i64 0, .int .i64 0, .int .i64 0, .int .i64 0, .int .i64 0, .string (⟨#[]⟩ : ByteArray), .int .i64 0] 31 (0, 0))) ∧ Aside0 (wc.heap[g3]? = some (.cells #[.string s1, .int .i64 lv, .int .u64 ct, .int .i64 v, .int .i64 0, .int .i64 0, .int .i64 0, .int .i64 0, .int .i64 0, .int .i64 0, .string (⟨#[]⟩ : ByteArray), .int .i64 0] 31 (0, 0))) ∧ Aside0 (w.heap.size ≤ g3) ∧ Aside0 (g1 ≠ g3) ∧ Aside0 (g3 ≠ g1) ∧ Aside0 (Below w.heap.size w wc))
 case first =>
  refine start_ (n := 7) (S := fun w' => w'.cell? ⟨g2, 0, none⟩ = some (.int .i64 lv) ∧ w'.cell? ⟨g2, 1, none⟩ = some (.int .u64 ct)) (ds := []) #[false, false, false, false, false, false, false] (by kernel_rfl) rfl rfl ⟨(blk_cell (blk_drew B_g2.out) 0).trans rfl, (blk_cell (blk_drew B_g2.out) 1).trans rfl⟩ (fun hHeld => ?_); refine with_tabW parse44_tab parse44_bits (fun HT_ HW_ => ?_)
  have n1_ := Aside0.mk (blk_drew B_g1.out)
  have n2_ := Aside0.mk (blk_drew B_g2.out)
  have n3_ := Aside0.mk (below_drew1 HB.out)
  clear B_g1 B_g2 HB
  generalize w7.drew = w8 at n1_ n2_ n3_ hHeld ⊢
  have B_g1 := n1_
  have B_g2 := n2_
  have HB := n3_
  clear n1_ n2_ n3_
  refine pure_ (i := 0) (N := some 41) (v := ?_) (a' := ?_) #[true, false, false, false, false, false, false] rfl rfl (any_of HT_.out (by kernel_rfl)) (fun _ _ _ h => h) (Or.inl ⟨by rfl, ?_⟩) ?_ ?_
  rotate_left
  ·intro w'
   go_simp
   with_reducible rfl
  rotate_left
  ·simp only [Act.put, List.setIfInBounds_toArray, List.set_cons_zero, List.set_cons_succ, i64_w, i32_w]
   rfl
  refine take_ (i := 1) (N := some 42) (v := ?_) (a' := ?_) #[true, true, false, false, false, false, false] rfl rfl (take_ofW HT_.out HW_.out (by kernel_rfl)) (fun _ _ _ h => h) (Or.inl ⟨by rfl, ?_⟩) hHeld ?_ ?_
  rotate_left
  ·rintro w' ⟨s0, s1⟩
   go_simp
   with_reducible rfl
  rotate_left
  ·simp only [Act.put, List.setIfInBounds_toArray, List.set_cons_zero, List.set_cons_succ, i64_w, i32_w]
   rfl
  refine pure_ (i := 2) (N := some 43) (v := ?_) (a' := ?_) #[true, true, true, false, false, false, false] rfl rfl (any_of HT_.out (by kernel_rfl)) (fun _ _ _ h => h) (Or.inl ⟨by rfl, ?_⟩) ?_ ?_
  rotate_left
  ·intro w'
   go_simp
   with_reducible rfl
  rotate_left
  ·simp only [Act.put, List.setIfInBounds_toArray, List.set_cons_zero, List.set_cons_succ, i64_w, i32_w]
   rfl
  refine two_ (i := 3) (j := 5) (Ni := some 44) (Nj := some 13) #[true, true, true, true, false, false, false] #[true, true, true, false, false, true, false] rfl rfl rfl rfl (two_of HT_.out (by kernel_rfl)) (by decide) (by decide) (fun K hK => ?_) (fun K hK => ?_)
  ·skip
   refine goes_ Tryd.func13 (by kernel_rfl) rfl #[.string s3] (by rfl) rfl rfl (by (try simp only [List.map_toArray, List.map_cons, List.map_nil]); first | done | rfl) ?_
   with_reducible refine (command_verb.calls k s3 v _ HA5.out).mono ?_
   rintro e wa ⟨rfl, hd⟩
   refine ⟨_, rfl, ?_⟩
   have hb := hd.below
   replace B_g1 := Aside0.mk (blk_below (pkx B_g1) hb)
   replace B_g2 := Aside0.mk (blk_below (pkx B_g2) hb)
   replace HB := Aside0.mk (below_step (pbx HB) hb)
   clear hb hd
   refine hK.out _ _ ⟨(blk_cell B_g2.out 0).trans rfl, (blk_cell B_g2.out 1).trans rfl⟩ (fun hHeld => ?_)
   clear hK K
   refine norm_ (a' := ?_) ?_ ?_
   rotate_left
   ·show Act.put _ (some 44) _ = _
    simp only [Act.put, List.setIfInBounds_toArray, List.set_cons_zero, List.set_cons_succ, i64_w, i32_w]
    rfl
   refine pure_ (i := 4) (N := some 45) (v := ?_) (a' := ?_) #[true, true, true, true, true, false, false] rfl rfl (any_of HT_.out (by kernel_rfl)) (fun _ _ _ h => h) (Or.inl ⟨by rfl, ?_⟩) ?_ ?_
   rotate_left
   ·intro w'
    go_simp
    with_reducible rfl
   rotate_left
   ·simp only [Act.put, List.setIfInBounds_toArray, List.set_cons_zero, List.set_cons_succ, i64_w, i32_w]
    rfl
   refine one_ (i := 5) (N := some 13) #[true, true, true, true, true, true, false] rfl rfl (one_of HT_.out (by kernel_rfl)) (by decide) (fun K hK => ?_)
   refine box_step ?hg (N := 13) ?hd (cs := #[.string (⟨#[]⟩ : ByteArray), .int .i64 0, .int .u64 0, .int .i64 0, .int .i64 0, .int .i64 0, .int .i64 0, .int .i64 0, .int .i64 0, .int .i64 0, .string (⟨#[]⟩ : ByteArray), .int .i64 0]) (t := 31) ?hr ?_
   (case hd => rfl)
   (case hg => rfl)
   (case hr => first | (go_simp; done) | (go_simp; rfl))
   intro g3 hg wb hbox hb
   have N_g1_g3 := Aside0.mk ((by rw [hg]; exact Nat.ne_of_lt (blk_lt (pkx B_g1)) : g1 ≠ g3)); have N_g3_g1 := Aside0.mk ((by rw [hg]; exact Nat.ne_of_gt (blk_lt (pkx B_g1)) : g3 ≠ g1))
   have N_g2_g3 := Aside0.mk ((by rw [hg]; exact Nat.ne_of_lt (blk_lt (pkx B_g2)) : g2 ≠ g3)); have N_g3_g2 := Aside0.mk ((by rw [hg]; exact Nat.ne_of_gt (blk_lt (pkx B_g2)) : g3 ≠ g2))
   have GE_g3 := Aside0.mk ((by rw [hg]; exact (below_size (pbx HB)) : w.heap.size ≤ g3))
   replace B_g1 := Aside0.mk (blk_below (pkx B_g1) hb)
   replace B_g2 := Aside0.mk (blk_below (pkx B_g2) hb)
   replace HB := Aside0.mk (below_step (pbx HB) hb)
   have B_g3 := Aside0.mk hbox
   clear hb hbox hg
   refine hK.out _ _ ⟨(blk_cell B_g2.out 0).trans rfl, (blk_cell B_g2.out 1).trans rfl⟩ (fun hHeld => ?_)
   clear hK K
   refine norm_ (a' := ?_) ?_ ?_
   rotate_left
   ·show Act.put _ (some 13) _ = _
    simp only [Act.put, List.setIfInBounds_toArray, List.set_cons_zero, List.set_cons_succ, i64_w, i32_w]
    rfl
   have c_g3_0 : wb.cell? ⟨g3, 0, none⟩ = some (.string (⟨#[]⟩ : ByteArray)) := (blk_cell B_g3.out 0).trans rfl
   have c_g3_1 : wb.cell? ⟨g3, 1, none⟩ = some (.int .i64 0) := (blk_cell B_g3.out 1).trans rfl
   have c_g3_2 : wb.cell? ⟨g3, 2, none⟩ = some (.int .u64 0) := (blk_cell B_g3.out 2).trans rfl
   have c_g3_3 : wb.cell? ⟨g3, 3, none⟩ = some (.int .i64 0) := (blk_cell B_g3.out 3).trans rfl
   have c_g3_4 : wb.cell? ⟨g3, 4, none⟩ = some (.int .i64 0) := (blk_cell B_g3.out 4).trans rfl
   have c_g3_5 : wb.cell? ⟨g3, 5, none⟩ = some (.int .i64 0) := (blk_cell B_g3.out 5).trans rfl
   have c_g3_6 : wb.cell? ⟨g3, 6, none⟩ = some (.int .i64 0) := (blk_cell B_g3.out 6).trans rfl
   have c_g3_7 : wb.cell? ⟨g3, 7, none⟩ = some (.int .i64 0) := (blk_cell B_g3.out 7).trans rfl
   have c_g3_8 : wb.cell? ⟨g3, 8, none⟩ = some (.int .i64 0) := (blk_cell B_g3.out 8).trans rfl
   have c_g3_9 : wb.cell? ⟨g3, 9, none⟩ = some (.int .i64 0) := (blk_cell B_g3.out 9).trans rfl
   have c_g3_10 : wb.cell? ⟨g3, 10, none⟩ = some (.string (⟨#[]⟩ : ByteArray)) := (blk_cell B_g3.out 10).trans rfl
   have c_g3_11 : wb.cell? ⟨g3, 11, none⟩ = some (.int .i64 0) := (blk_cell B_g3.out 11).trans rfl
   have f_g3_0 := blk_frozen B_g3.out 0
   have f_g3_1 := blk_frozen B_g3.out 1
   have f_g3_2 := blk_frozen B_g3.out 2
   have f_g3_3 := blk_frozen B_g3.out 3
   have f_g3_4 := blk_frozen B_g3.out 4
   have f_g3_5 := blk_frozen B_g3.out 5
   have f_g3_6 := blk_frozen B_g3.out 6
   have f_g3_7 := blk_frozen B_g3.out 7
   have f_g3_8 := blk_frozen B_g3.out 8
   have f_g3_9 := blk_frozen B_g3.out 9
   have f_g3_10 := blk_frozen B_g3.out 10
   have f_g3_11 := blk_frozen B_g3.out 11
   refine one_ (i := 6) (N := none) #[true, true, true, true, true, true, true] rfl rfl (one_of HT_.out (by kernel_rfl)) (by decide) (fun K hK => ?_)
   refine store_step44 (w1 := ((((((((((((wb.setCell ⟨g3, 0, none⟩ (.string s1)).setCell ⟨g3, 1, none⟩ (.int .i64 lv)).setCell ⟨g3, 2, none⟩ (.int .u64 ct)).setCell ⟨g3, 3, none⟩ (.int .i64 v)).setCell ⟨g3, 4, none⟩ (.int .i64 0)).setCell ⟨g3, 5, none⟩ (.int .i64 0)).setCell ⟨g3, 6, none⟩ (.int .i64 0)).setCell ⟨g3, 7, none⟩ (.int .i64 0)).setCell ⟨g3, 8, none⟩ (.int .i64 0)).setCell ⟨g3, 9, none⟩ (.int .i64 0)).setCell ⟨g3, 10, none⟩ (.string (⟨#[]⟩ : ByteArray))).setCell ⟨g3, 11, none⟩ (.int .i64 0))) ?hw ?hN ?hr ?_
   (case hw => rfl)
   (case hN => rfl)
   (case hr => first | (go_simp; done) | (go_simp; rfl))
   intro w9 hw
   have n1_ : Aside0 (w9.heap[g1]? = some (.cells #[.string (⟨#[]⟩ : ByteArray), .int .i64 0, .int .u64 0, .int .i64 0, .int .i64 0, .int .i64 0, .int .i64 0, .int .i64 0, .int .i64 0, .int .i64 0, .string (⟨#[]⟩ : ByteArray), .int .i64 0] 31 (0, 0))) := ⟨by rw [hw]; refine blk_far ?_ N_g1_g3.out _; refine blk_far ?_ N_g1_g3.out _; refine blk_far ?_ N_g1_g3.out _; refine blk_far ?_ N_g1_g3.out _; refine blk_far ?_ N_g1_g3.out _; refine blk_far ?_ N_g1_g3.out _; refine blk_far ?_ N_g1_g3.out _; refine blk_far ?_ N_g1_g3.out _; refine blk_far ?_ N_g1_g3.out _; refine blk_far ?_ N_g1_g3.out _; refine blk_far ?_ N_g1_g3.out _; refine blk_far ?_ N_g1_g3.out _; exact B_g1.out⟩
   have n2_ : Aside0 (w9.heap[g2]? = some (.cells #[.int .i64 lv, .int .u64 ct] 25 (0, 0))) := ⟨by rw [hw]; refine blk_far ?_ N_g2_g3.out _; refine blk_far ?_ N_g2_g3.out _; refine blk_far ?_ N_g2_g3.out _; refine blk_far ?_ N_g2_g3.out _; refine blk_far ?_ N_g2_g3.out _; refine blk_far ?_ N_g2_g3.out _; refine blk_far ?_ N_g2_g3.out _; refine blk_far ?_ N_g2_g3.out _; refine blk_far ?_ N_g2_g3.out _; refine blk_far ?_ N_g2_g3.out _; refine blk_far ?_ N_g2_g3.out _; refine blk_far ?_ N_g2_g3.out _; exact B_g2.out⟩
   have n3_ : Aside0 (w9.heap[g3]? = some (.cells #[.string s1, .int .i64 lv, .int .u64 ct, .int .i64 v, .int .i64 0, .int .i64 0, .int .i64 0, .int .i64 0, .int .i64 0, .int .i64 0, .string (⟨#[]⟩ : ByteArray), .int .i64 0] 31 (0, 0))) := ⟨by rw [hw]; refine blk_put (cs := #[.string s1, .int .i64 lv, .int .u64 ct, .int .i64 v, .int .i64 0, .int .i64 0, .int .i64 0, .int .i64 0, .int .i64 0, .int .i64 0, .string (⟨#[]⟩ : ByteArray), .int .i64 0]) ?_ 11 _ rfl; refine blk_put (cs := #[.string s1, .int .i64 lv, .int .u64 ct, .int .i64 v, .int .i64 0, .int .i64 0, .int .i64 0, .int .i64 0, .int .i64 0, .int .i64 0, .string (⟨#[]⟩ : ByteArray), .int .i64 0]) ?_ 10 _ rfl; refine blk_put (cs := #[.string s1, .int .i64 lv, .int .u64 ct, .int .i64 v, .int .i64 0, .int .i64 0, .int .i64 0, .int .i64 0, .int .i64 0, .int .i64 0, .string (⟨#[]⟩ : ByteArray), .int .i64 0]) ?_ 9 _ rfl; refine blk_put (cs := #[.string s1, .int .i64 lv, .int .u64 ct, .int .i64 v, .int .i64 0, .int .i64 0, .int .i64 0, .int .i64 0, .int .i64 0, .int .i64 0, .string (⟨#[]⟩ : ByteArray), .int .i64 0]) ?_ 8 _ rfl; refine blk_put (cs := #[.string s1, .int .i64 lv, .int .u64 ct, .int .i64 v, .int .i64 0, .int .i64 0, .int .i64 0, .int .i64 0, .int .i64 0, .int .i64 0, .string (⟨#[]⟩ : ByteArray), .int .i64 0]) ?_ 7 _ rfl; refine blk_put (cs := #[.string s1, .int .i64 lv, .int .u64 ct, .int .i64 v, .int .i64 0, .int .i64 0, .int .i64 0, .int .i64 0, .int .i64 0, .int .i64 0, .string (⟨#[]⟩ : ByteArray), .int .i64 0]) ?_ 6 _ rfl; refine blk_put (cs := #[.string s1, .int .i64 lv, .int .u64 ct, .int .i64 v, .int .i64 0, .int .i64 0, .int .i64 0, .int .i64 0, .int .i64 0, .int .i64 0, .string (⟨#[]⟩ : ByteArray), .int .i64 0]) ?_ 5 _ rfl; refine blk_put (cs := #[.string s1, .int .i64 lv, .int .u64 ct, .int .i64 v, .int .i64 0, .int .i64 0, .int .i64 0, .int .i64 0, .int .i64 0, .int .i64 0, .string (⟨#[]⟩ : ByteArray), .int .i64 0]) ?_ 4 _ rfl; refine blk_put (cs := #[.string s1, .int .i64 lv, .int .u64 ct, .int .i64 0, .int .i64 0, .int .i64 0, .int .i64 0, .int .i64 0, .int .i64 0, .int .i64 0, .string (⟨#[]⟩ : ByteArray), .int .i64 0]) ?_ 3 _ rfl; refine blk_put (cs := #[.string s1, .int .i64 lv, .int .u64 0, .int .i64 0, .int .i64 0, .int .i64 0, .int .i64 0, .int .i64 0, .int .i64 0, .int .i64 0, .string (⟨#[]⟩ : ByteArray), .int .i64 0]) ?_ 2 _ rfl; refine blk_put (cs := #[.string s1, .int .i64 0, .int .u64 0, .int .i64 0, .int .i64 0, .int .i64 0, .int .i64 0, .int .i64 0, .int .i64 0, .int .i64 0, .string (⟨#[]⟩ : ByteArray), .int .i64 0]) ?_ 1 _ rfl; refine blk_put (cs := #[.string (⟨#[]⟩ : ByteArray), .int .i64 0, .int .u64 0, .int .i64 0, .int .i64 0, .int .i64 0, .int .i64 0, .int .i64 0, .int .i64 0, .int .i64 0, .string (⟨#[]⟩ : ByteArray), .int .i64 0]) ?_ 0 _ rfl; exact B_g3.out⟩
   have n4_ : Aside0 (Below w.heap.size w w9) := ⟨by rw [hw]; refine below_set ?_ GE_g3.out; refine below_set ?_ GE_g3.out; refine below_set ?_ GE_g3.out; refine below_set ?_ GE_g3.out; refine below_set ?_ GE_g3.out; refine below_set ?_ GE_g3.out; refine below_set ?_ GE_g3.out; refine below_set ?_ GE_g3.out; refine below_set ?_ GE_g3.out; refine below_set ?_ GE_g3.out; refine below_set ?_ GE_g3.out; refine below_set ?_ GE_g3.out; exact HB.out⟩
   clear B_g1 B_g2 B_g3 HB hw c_g3_0 f_g3_0 c_g3_1 f_g3_1 c_g3_2 f_g3_2 c_g3_3 f_g3_3 c_g3_4 f_g3_4 c_g3_5 f_g3_5 c_g3_6 f_g3_6 c_g3_7 f_g3_7 c_g3_8 f_g3_8 c_g3_9 f_g3_9 c_g3_10 f_g3_10 c_g3_11 f_g3_11
   have B_g1 := n1_
   have B_g2 := n2_
   have B_g3 := n3_
   have HB := n4_
   clear n1_ n2_ n3_ n4_
   refine hK.out _ _ ⟨(blk_cell B_g2.out 0).trans rfl, (blk_cell B_g2.out 1).trans rfl⟩ (fun hHeld => ?_)
   clear hK K
   refine done_ (done_of HT_.out (by kernel_rfl)) ?_
   try go_wp2
   go_meet
   case rel => exact ⟨_, rfl, B_g1, B_g3, GE_g3, N_g1_g3, N_g3_g1, HB⟩
  ·skip
   refine box_step ?hg (N := 13) ?hd (cs := #[.string (⟨#[]⟩ : ByteArray), .int .i64 0, .int .u64 0, .int .i64 0, .int .i64 0, .int .i64 0, .int .i64 0, .int .i64 0, .int .i64 0, .int .i64 0, .string (⟨#[]⟩ : ByteArray), .int .i64 0]) (t := 31) ?hr ?_
   (case hd => rfl)
   (case hg => rfl)
   (case hr => first | (go_simp; done) | (go_simp; rfl))
   intro g3 hg wa hbox hb
   have N_g1_g3 := Aside0.mk ((by rw [hg]; exact Nat.ne_of_lt (blk_lt (pkx B_g1)) : g1 ≠ g3)); have N_g3_g1 := Aside0.mk ((by rw [hg]; exact Nat.ne_of_gt (blk_lt (pkx B_g1)) : g3 ≠ g1))
   have N_g2_g3 := Aside0.mk ((by rw [hg]; exact Nat.ne_of_lt (blk_lt (pkx B_g2)) : g2 ≠ g3)); have N_g3_g2 := Aside0.mk ((by rw [hg]; exact Nat.ne_of_gt (blk_lt (pkx B_g2)) : g3 ≠ g2))
   have GE_g3 := Aside0.mk ((by rw [hg]; exact (below_size (pbx HB)) : w.heap.size ≤ g3))
   replace B_g1 := Aside0.mk (blk_below (pkx B_g1) hb)
   replace B_g2 := Aside0.mk (blk_below (pkx B_g2) hb)
   replace HB := Aside0.mk (below_step (pbx HB) hb)
   have B_g3 := Aside0.mk hbox
   clear hb hbox hg
   refine hK.out _ _ ⟨(blk_cell B_g2.out 0).trans rfl, (blk_cell B_g2.out 1).trans rfl⟩ (fun hHeld => ?_)
   clear hK K
   refine norm_ (a' := ?_) ?_ ?_
   rotate_left
   ·show Act.put _ (some 13) _ = _
    simp only [Act.put, List.setIfInBounds_toArray, List.set_cons_zero, List.set_cons_succ, i64_w, i32_w]
    rfl
   refine one_ (i := 3) (N := some 44) #[true, true, true, true, false, true, false] rfl rfl (one_of HT_.out (by kernel_rfl)) (by decide) (fun K hK => ?_)
   refine goes_ Tryd.func13 (by kernel_rfl) rfl #[.string s3] (by rfl) rfl rfl (by (try simp only [List.map_toArray, List.map_cons, List.map_nil]); first | done | rfl) ?_
   with_reducible refine (command_verb.calls k s3 v _ HA5.out).mono ?_
   rintro e wb ⟨rfl, hd⟩
   refine ⟨_, rfl, ?_⟩
   have hb := hd.below
   replace B_g1 := Aside0.mk (blk_below (pkx B_g1) hb)
   replace B_g2 := Aside0.mk (blk_below (pkx B_g2) hb)
   replace B_g3 := Aside0.mk (blk_below (pkx B_g3) hb)
   replace HB := Aside0.mk (below_step (pbx HB) hb)
   clear hb hd
   refine hK.out _ _ ⟨(blk_cell B_g2.out 0).trans rfl, (blk_cell B_g2.out 1).trans rfl⟩ (fun hHeld => ?_)
   clear hK K
   refine norm_ (a' := ?_) ?_ ?_
   rotate_left
   ·show Act.put _ (some 44) _ = _
    simp only [Act.put, List.setIfInBounds_toArray, List.set_cons_zero, List.set_cons_succ, i64_w, i32_w]
    rfl
   refine pure_ (i := 4) (N := some 45) (v := ?_) (a' := ?_) #[true, true, true, true, true, true, false] rfl rfl (any_of HT_.out (by kernel_rfl)) (fun _ _ _ h => h) (Or.inl ⟨by rfl, ?_⟩) ?_ ?_
   rotate_left
   ·intro w'
    go_simp
    with_reducible rfl
   rotate_left
   ·simp only [Act.put, List.setIfInBounds_toArray, List.set_cons_zero, List.set_cons_succ, i64_w, i32_w]
    rfl
   have c_g3_0 : wb.cell? ⟨g3, 0, none⟩ = some (.string (⟨#[]⟩ : ByteArray)) := (blk_cell B_g3.out 0).trans rfl
   have c_g3_1 : wb.cell? ⟨g3, 1, none⟩ = some (.int .i64 0) := (blk_cell B_g3.out 1).trans rfl
   have c_g3_2 : wb.cell? ⟨g3, 2, none⟩ = some (.int .u64 0) := (blk_cell B_g3.out 2).trans rfl
   have c_g3_3 : wb.cell? ⟨g3, 3, none⟩ = some (.int .i64 0) := (blk_cell B_g3.out 3).trans rfl
   have c_g3_4 : wb.cell? ⟨g3, 4, none⟩ = some (.int .i64 0) := (blk_cell B_g3.out 4).trans rfl
   have c_g3_5 : wb.cell? ⟨g3, 5, none⟩ = some (.int .i64 0) := (blk_cell B_g3.out 5).trans rfl
   have c_g3_6 : wb.cell? ⟨g3, 6, none⟩ = some (.int .i64 0) := (blk_cell B_g3.out 6).trans rfl
   have c_g3_7 : wb.cell? ⟨g3, 7, none⟩ = some (.int .i64 0) := (blk_cell B_g3.out 7).trans rfl
   have c_g3_8 : wb.cell? ⟨g3, 8, none⟩ = some (.int .i64 0) := (blk_cell B_g3.out 8).trans rfl
   have c_g3_9 : wb.cell? ⟨g3, 9, none⟩ = some (.int .i64 0) := (blk_cell B_g3.out 9).trans rfl
   have c_g3_10 : wb.cell? ⟨g3, 10, none⟩ = some (.string (⟨#[]⟩ : ByteArray)) := (blk_cell B_g3.out 10).trans rfl
   have c_g3_11 : wb.cell? ⟨g3, 11, none⟩ = some (.int .i64 0) := (blk_cell B_g3.out 11).trans rfl
   have f_g3_0 := blk_frozen B_g3.out 0
   have f_g3_1 := blk_frozen B_g3.out 1
   have f_g3_2 := blk_frozen B_g3.out 2
   have f_g3_3 := blk_frozen B_g3.out 3
   have f_g3_4 := blk_frozen B_g3.out 4
   have f_g3_5 := blk_frozen B_g3.out 5
   have f_g3_6 := blk_frozen B_g3.out 6
   have f_g3_7 := blk_frozen B_g3.out 7
   have f_g3_8 := blk_frozen B_g3.out 8
   have f_g3_9 := blk_frozen B_g3.out 9
   have f_g3_10 := blk_frozen B_g3.out 10
   have f_g3_11 := blk_frozen B_g3.out 11
   refine one_ (i := 6) (N := none) #[true, true, true, true, true, true, true] rfl rfl (one_of HT_.out (by kernel_rfl)) (by decide) (fun K hK => ?_)
   refine store_step44 (w1 := ((((((((((((wb.setCell ⟨g3, 0, none⟩ (.string s1)).setCell ⟨g3, 1, none⟩ (.int .i64 lv)).setCell ⟨g3, 2, none⟩ (.int .u64 ct)).setCell ⟨g3, 3, none⟩ (.int .i64 v)).setCell ⟨g3, 4, none⟩ (.int .i64 0)).setCell ⟨g3, 5, none⟩ (.int .i64 0)).setCell ⟨g3, 6, none⟩ (.int .i64 0)).setCell ⟨g3, 7, none⟩ (.int .i64 0)).setCell ⟨g3, 8, none⟩ (.int .i64 0)).setCell ⟨g3, 9, none⟩ (.int .i64 0)).setCell ⟨g3, 10, none⟩ (.string (⟨#[]⟩ : ByteArray))).setCell ⟨g3, 11, none⟩ (.int .i64 0))) ?hw ?hN ?hr ?_
   (case hw => rfl)
   (case hN => rfl)
   (case hr => first | (go_simp; done) | (go_simp; rfl))
   intro w9 hw
   have n1_ : Aside0 (w9.heap[g1]? = some (.cells #[.string (⟨#[]⟩ : ByteArray), .int .i64 0, .int .u64 0, .int .i64 0, .int .i64 0, .int .i64 0, .int .i64 0, .int .i64 0, .int .i64 0, .int .i64 0, .string (⟨#[]⟩ : ByteArray), .int .i64 0] 31 (0, 0))) := ⟨by rw [hw]; refine blk_far ?_ N_g1_g3.out _; refine blk_far ?_ N_g1_g3.out _; refine blk_far ?_ N_g1_g3.out _; refine blk_far ?_ N_g1_g3.out _; refine blk_far ?_ N_g1_g3.out _; refine blk_far ?_ N_g1_g3.out _; refine blk_far ?_ N_g1_g3.out _; refine blk_far ?_ N_g1_g3.out _; refine blk_far ?_ N_g1_g3.out _; refine blk_far ?_ N_g1_g3.out _; refine blk_far ?_ N_g1_g3.out _; refine blk_far ?_ N_g1_g3.out _; exact B_g1.out⟩
   have n2_ : Aside0 (w9.heap[g2]? = some (.cells #[.int .i64 lv, .int .u64 ct] 25 (0, 0))) := ⟨by rw [hw]; refine blk_far ?_ N_g2_g3.out _; refine blk_far ?_ N_g2_g3.out _; refine blk_far ?_ N_g2_g3.out _; refine blk_far ?_ N_g2_g3.out _; refine blk_far ?_ N_g2_g3.out _; refine blk_far ?_ N_g2_g3.out _; refine blk_far ?_ N_g2_g3.out _; refine blk_far ?_ N_g2_g3.out _; refine blk_far ?_ N_g2_g3.out _; refine blk_far ?_ N_g2_g3.out _; refine blk_far ?_ N_g2_g3.out _; refine blk_far ?_ N_g2_g3.out _; exact B_g2.out⟩
   have n3_ : Aside0 (w9.heap[g3]? = some (.cells #[.string s1, .int .i64 lv, .int .u64 ct, .int .i64 v, .int .i64 0, .int .i64 0, .int .i64 0, .int .i64 0, .int .i64 0, .int .i64 0, .string (⟨#[]⟩ : ByteArray), .int .i64 0] 31 (0, 0))) := ⟨by rw [hw]; refine blk_put (cs := #[.string s1, .int .i64 lv, .int .u64 ct, .int .i64 v, .int .i64 0, .int .i64 0, .int .i64 0, .int .i64 0, .int .i64 0, .int .i64 0, .string (⟨#[]⟩ : ByteArray), .int .i64 0]) ?_ 11 _ rfl; refine blk_put (cs := #[.string s1, .int .i64 lv, .int .u64 ct, .int .i64 v, .int .i64 0, .int .i64 0, .int .i64 0, .int .i64 0, .int .i64 0, .int .i64 0, .string (⟨#[]⟩ : ByteArray), .int .i64 0]) ?_ 10 _ rfl; refine blk_put (cs := #[.string s1, .int .i64 lv, .int .u64 ct, .int .i64 v, .int .i64 0, .int .i64 0, .int .i64 0, .int .i64 0, .int .i64 0, .int .i64 0, .string (⟨#[]⟩ : ByteArray), .int .i64 0]) ?_ 9 _ rfl; refine blk_put (cs := #[.string s1, .int .i64 lv, .int .u64 ct, .int .i64 v, .int .i64 0, .int .i64 0, .int .i64 0, .int .i64 0, .int .i64 0, .int .i64 0, .string (⟨#[]⟩ : ByteArray), .int .i64 0]) ?_ 8 _ rfl; refine blk_put (cs := #[.string s1, .int .i64 lv, .int .u64 ct, .int .i64 v, .int .i64 0, .int .i64 0, .int .i64 0, .int .i64 0, .int .i64 0, .int .i64 0, .string (⟨#[]⟩ : ByteArray), .int .i64 0]) ?_ 7 _ rfl; refine blk_put (cs := #[.string s1, .int .i64 lv, .int .u64 ct, .int .i64 v, .int .i64 0, .int .i64 0, .int .i64 0, .int .i64 0, .int .i64 0, .int .i64 0, .string (⟨#[]⟩ : ByteArray), .int .i64 0]) ?_ 6 _ rfl; refine blk_put (cs := #[.string s1, .int .i64 lv, .int .u64 ct, .int .i64 v, .int .i64 0, .int .i64 0, .int .i64 0, .int .i64 0, .int .i64 0, .int .i64 0, .string (⟨#[]⟩ : ByteArray), .int .i64 0]) ?_ 5 _ rfl; refine blk_put (cs := #[.string s1, .int .i64 lv, .int .u64 ct, .int .i64 v, .int .i64 0, .int .i64 0, .int .i64 0, .int .i64 0, .int .i64 0, .int .i64 0, .string (⟨#[]⟩ : ByteArray), .int .i64 0]) ?_ 4 _ rfl; refine blk_put (cs := #[.string s1, .int .i64 lv, .int .u64 ct, .int .i64 0, .int .i64 0, .int .i64 0, .int .i64 0, .int .i64 0, .int .i64 0, .int .i64 0, .string (⟨#[]⟩ : ByteArray), .int .i64 0]) ?_ 3 _ rfl; refine blk_put (cs := #[.string s1, .int .i64 lv, .int .u64 0, .int .i64 0, .int .i64 0, .int .i64 0, .int .i64 0, .int .i64 0, .int .i64 0, .int .i64 0, .string (⟨#[]⟩ : ByteArray), .int .i64 0]) ?_ 2 _ rfl; refine blk_put (cs := #[.string s1, .int .i64 0, .int .u64 0, .int .i64 0, .int .i64 0, .int .i64 0, .int .i64 0, .int .i64 0, .int .i64 0, .int .i64 0, .string (⟨#[]⟩ : ByteArray), .int .i64 0]) ?_ 1 _ rfl; refine blk_put (cs := #[.string (⟨#[]⟩ : ByteArray), .int .i64 0, .int .u64 0, .int .i64 0, .int .i64 0, .int .i64 0, .int .i64 0, .int .i64 0, .int .i64 0, .int .i64 0, .string (⟨#[]⟩ : ByteArray), .int .i64 0]) ?_ 0 _ rfl; exact B_g3.out⟩
   have n4_ : Aside0 (Below w.heap.size w w9) := ⟨by rw [hw]; refine below_set ?_ GE_g3.out; refine below_set ?_ GE_g3.out; refine below_set ?_ GE_g3.out; refine below_set ?_ GE_g3.out; refine below_set ?_ GE_g3.out; refine below_set ?_ GE_g3.out; refine below_set ?_ GE_g3.out; refine below_set ?_ GE_g3.out; refine below_set ?_ GE_g3.out; refine below_set ?_ GE_g3.out; refine below_set ?_ GE_g3.out; refine below_set ?_ GE_g3.out; exact HB.out⟩
   clear B_g1 B_g2 B_g3 HB hw c_g3_0 f_g3_0 c_g3_1 f_g3_1 c_g3_2 f_g3_2 c_g3_3 f_g3_3 c_g3_4 f_g3_4 c_g3_5 f_g3_5 c_g3_6 f_g3_6 c_g3_7 f_g3_7 c_g3_8 f_g3_8 c_g3_9 f_g3_9 c_g3_10 f_g3_10 c_g3_11 f_g3_11
   have B_g1 := n1_
   have B_g2 := n2_
   have B_g3 := n3_
   have HB := n4_
   clear n1_ n2_ n3_ n4_
   refine hK.out _ _ ⟨(blk_cell B_g2.out 0).trans rfl, (blk_cell B_g2.out 1).trans rfl⟩ (fun hHeld => ?_)
   clear hK K
   refine done_ (done_of HT_.out (by kernel_rfl)) ?_
   try go_wp2
   go_meet
   case rel => exact ⟨_, rfl, B_g1, B_g3, GE_g3, N_g1_g3, N_g3_g1, HB⟩
 case rest =>
  obtain ⟨g3, rfl, B_g1, B_g3, GE_g3, N_g1_g3, N_g3_g1, HB⟩ := hcut
  have H := HH.out
  clear HH
  cases nm with
  | false =>
   rw [if_neg (by decide)] at H
   simp only [Option.some.injEq, Prod.mk.injEq] at H
   obtain ⟨rfl, rfl, rfl, rfl, rfl, rfl, rfl, rfl, rfl, rfl, rfl, rfl, rfl⟩ := H
   go_wp2_with (first | ((with_reducible refine gate_callee (f := 14) rfl ?_); refine goesL_ (some 47) rfl rfl Tryd.func14 (by kernel_rfl) rfl #[.string s1] rfl (by (try simp only [List.map_toArray, List.map_cons, List.map_nil]); first | done | rfl) ?_; (with_reducible refine (right_Name.calls k s1 false _ HA6.out).mono ?_); rintro e w9 ⟨rfl, hd⟩; refine ⟨_, rfl, ?_⟩; have hb := hd.below; clear hd; replace B_g1 := Aside0.mk (blk_below (pkx B_g1) hb); replace B_g3 := Aside0.mk (blk_below (pkx B_g3) hb); replace HB := Aside0.mk (below_step (pbx HB) hb); clear hb; have c_g1_0 : w9.cell? ⟨g1, 0, none⟩ = some (.string (⟨#[]⟩ : ByteArray)) := (blk_cell B_g1.out 0).trans rfl; have c_g1_1 : w9.cell? ⟨g1, 1, none⟩ = some (.int .i64 0) := (blk_cell B_g1.out 1).trans rfl; have c_g1_2 : w9.cell? ⟨g1, 2, none⟩ = some (.int .u64 0) := (blk_cell B_g1.out 2).trans rfl; have c_g1_3 : w9.cell? ⟨g1, 3, none⟩ = some (.int .i64 0) := (blk_cell B_g1.out 3).trans rfl; have c_g1_4 : w9.cell? ⟨g1, 4, none⟩ = some (.int .i64 0) := (blk_cell B_g1.out 4).trans rfl; have c_g1_5 : w9.cell? ⟨g1, 5, none⟩ = some (.int .i64 0) := (blk_cell B_g1.out 5).trans rfl; have c_g1_6 : w9.cell? ⟨g1, 6, none⟩ = some (.int .i64 0) := (blk_cell B_g1.out 6).trans rfl; have c_g1_7 : w9.cell? ⟨g1, 7, none⟩ = some (.int .i64 0) := (blk_cell B_g1.out 7).trans rfl; have c_g1_8 : w9.cell? ⟨g1, 8, none⟩ = some (.int .i64 0) := (blk_cell B_g1.out 8).trans rfl; have c_g1_9 : w9.cell? ⟨g1, 9, none⟩ = some (.int .i64 0) := (blk_cell B_g1.out 9).trans rfl; have c_g1_10 : w9.cell? ⟨g1, 10, none⟩ = some (.string (⟨#[]⟩ : ByteArray)) := (blk_cell B_g1.out 10).trans rfl; have c_g1_11 : w9.cell? ⟨g1, 11, none⟩ = some (.int .i64 0) := (blk_cell B_g1.out 11).trans rfl; have f_g1_0 := blk_frozen B_g1.out 0; have f_g1_1 := blk_frozen B_g1.out 1; have f_g1_2 := blk_frozen B_g1.out 2; have f_g1_3 := blk_frozen B_g1.out 3; have f_g1_4 := blk_frozen B_g1.out 4; have f_g1_5 := blk_frozen B_g1.out 5; have f_g1_6 := blk_frozen B_g1.out 6; have f_g1_7 := blk_frozen B_g1.out 7; have f_g1_8 := blk_frozen B_g1.out 8; have f_g1_9 := blk_frozen B_g1.out 9; have f_g1_10 := blk_frozen B_g1.out 10; have f_g1_11 := blk_frozen B_g1.out 11; have c_g3_3 : w9.cell? ⟨g3, 3, none⟩ = some (.int .i64 v) := (blk_cell B_g3.out 3).trans rfl))
   refine bodyPost_ret (results_ct rfl _ _ g1 31 #[.string (⟨#[]⟩ : ByteArray), .int .i64 0, .int .u64 0, .int .i64 0, .int .i64 0, .int .i64 0, .int .i64 0, .int .i64 0, .int .i64 0, .int .i64 0, .string (⟨#[]⟩ : ByteArray), .int .i64 0] (0, 0) _ rfl (by (with_reducible repeat (first | refine blk_drewN ?_ _ | refine blk_drew ?_ | refine blk_alloc ?_ _)); refine blk_put (cs := #[.string (⟨#[]⟩ : ByteArray), .int .i64 0, .int .u64 0, .int .i64 0, .int .i64 0, .int .i64 0, .int .i64 0, .int .i64 0, .int .i64 0, .int .i64 0, .string (⟨#[]⟩ : ByteArray), .int .i64 0]) ?_ 11 _ rfl; (with_reducible repeat (first | refine blk_drewN ?_ _ | refine blk_drew ?_ | refine blk_alloc ?_ _)); refine blk_put (cs := #[.string (⟨#[]⟩ : ByteArray), .int .i64 0, .int .u64 0, .int .i64 0, .int .i64 0, .int .i64 0, .int .i64 0, .int .i64 0, .int .i64 0, .int .i64 0, .string (⟨#[]⟩ : ByteArray), .int .i64 0]) ?_ 10 _ rfl; (with_reducible repeat (first | refine blk_drewN ?_ _ | refine blk_drew ?_ | refine blk_alloc ?_ _)); refine blk_put (cs := #[.string (⟨#[]⟩ : ByteArray), .int .i64 0, .int .u64 0, .int .i64 0, .int .i64 0, .int .i64 0, .int .i64 0, .int .i64 0, .int .i64 0, .int .i64 0, .string (⟨#[]⟩ : ByteArray), .int .i64 0]) ?_ 9 _ rfl; (with_reducible repeat (first | refine blk_drewN ?_ _ | refine blk_drew ?_ | refine blk_alloc ?_ _)); refine blk_put (cs := #[.string (⟨#[]⟩ : ByteArray), .int .i64 0, .int .u64 0, .int .i64 0, .int .i64 0, .int .i64 0, .int .i64 0, .int .i64 0, .int .i64 0, .int .i64 0, .string (⟨#[]⟩ : ByteArray), .int .i64 0]) ?_ 8 _ rfl; (with_reducible repeat (first | refine blk_drewN ?_ _ | refine blk_drew ?_ | refine blk_alloc ?_ _)); refine blk_put (cs := #[.string (⟨#[]⟩ : ByteArray), .int .i64 0, .int .u64 0, .int .i64 0, .int .i64 0, .int .i64 0, .int .i64 0, .int .i64 0, .int .i64 0, .int .i64 0, .string (⟨#[]⟩ : ByteArray), .int .i64 0]) ?_ 7 _ rfl; (with_reducible repeat (first | refine blk_drewN ?_ _ | refine blk_drew ?_ | refine blk_alloc ?_ _)); refine blk_put (cs := #[.string (⟨#[]⟩ : ByteArray), .int .i64 0, .int .u64 0, .int .i64 0, .int .i64 0, .int .i64 0, .int .i64 0, .int .i64 0, .int .i64 0, .int .i64 0, .string (⟨#[]⟩ : ByteArray), .int .i64 0]) ?_ 6 _ rfl; (with_reducible repeat (first | refine blk_drewN ?_ _ | refine blk_drew ?_ | refine blk_alloc ?_ _)); refine blk_put (cs := #[.string (⟨#[]⟩ : ByteArray), .int .i64 0, .int .u64 0, .int .i64 0, .int .i64 0, .int .i64 0, .int .i64 0, .int .i64 0, .int .i64 0, .int .i64 0, .string (⟨#[]⟩ : ByteArray), .int .i64 0]) ?_ 5 _ rfl; (with_reducible repeat (first | refine blk_drewN ?_ _ | refine blk_drew ?_ | refine blk_alloc ?_ _)); refine blk_put (cs := #[.string (⟨#[]⟩ : ByteArray), .int .i64 0, .int .u64 0, .int .i64 0, .int .i64 0, .int .i64 0, .int .i64 0, .int .i64 0, .int .i64 0, .int .i64 0, .string (⟨#[]⟩ : ByteArray), .int .i64 0]) ?_ 4 _ rfl; (with_reducible repeat (first | refine blk_drewN ?_ _ | refine blk_drew ?_ | refine blk_alloc ?_ _)); refine blk_put (cs := #[.string (⟨#[]⟩ : ByteArray), .int .i64 0, .int .u64 0, .int .i64 0, .int .i64 0, .int .i64 0, .int .i64 0, .int .i64 0, .int .i64 0, .int .i64 0, .string (⟨#[]⟩ : ByteArray), .int .i64 0]) ?_ 3 _ rfl; (with_reducible repeat (first | refine blk_drewN ?_ _ | refine blk_drew ?_ | refine blk_alloc ?_ _)); refine blk_put (cs := #[.string (⟨#[]⟩ : ByteArray), .int .i64 0, .int .u64 0, .int .i64 0, .int .i64 0, .int .i64 0, .int .i64 0, .int .i64 0, .int .i64 0, .int .i64 0, .string (⟨#[]⟩ : ByteArray), .int .i64 0]) ?_ 2 _ rfl; (with_reducible repeat (first | refine blk_drewN ?_ _ | refine blk_drew ?_ | refine blk_alloc ?_ _)); refine blk_put (cs := #[.string (⟨#[]⟩ : ByteArray), .int .i64 0, .int .u64 0, .int .i64 0, .int .i64 0, .int .i64 0, .int .i64 0, .int .i64 0, .int .i64 0, .int .i64 0, .string (⟨#[]⟩ : ByteArray), .int .i64 0]) ?_ 1 _ rfl; (with_reducible repeat (first | refine blk_drewN ?_ _ | refine blk_drew ?_ | refine blk_alloc ?_ _)); refine blk_put (cs := #[.string (⟨#[]⟩ : ByteArray), .int .i64 0, .int .u64 0, .int .i64 0, .int .i64 0, .int .i64 0, .int .i64 0, .int .i64 0, .int .i64 0, .int .i64 0, .string (⟨#[]⟩ : ByteArray), .int .i64 0]) ?_ 0 _ rfl; (with_reducible repeat (first | refine blk_drewN ?_ _ | refine blk_drew ?_ | refine blk_alloc ?_ _)); exact B_g1.out) Tryd.underlying31 rfl (by kernel_rfl)) rfl ?_
   exact ⟨rfl, by repeat (first | (with_reducible first | exact HB.out | apply below_alloc | apply pw_below_drewN | apply below_drew1 | refine below_set ?_ GE_g1.out) | exact HB.out)⟩
  | true =>
   rw [if_pos rfl] at H
   cases ok with
   | false =>
    rw [if_neg (by decide)] at H
    simp only [Option.some.injEq, Prod.mk.injEq] at H
    obtain ⟨rfl, rfl, rfl, rfl, rfl, rfl, rfl, rfl, rfl, rfl, rfl, rfl, rfl⟩ := H
    go_wp2_with (first | ((with_reducible refine gate_callee (f := 14) rfl ?_); refine goesL_ (some 47) rfl rfl Tryd.func14 (by kernel_rfl) rfl #[.string s1] rfl (by (try simp only [List.map_toArray, List.map_cons, List.map_nil]); first | done | rfl) ?_; (with_reducible refine (right_Name.calls k s1 true _ HA6.out).mono ?_); rintro e w9 ⟨rfl, hd⟩; refine ⟨_, rfl, ?_⟩; have hb := hd.below; clear hd; replace B_g1 := Aside0.mk (blk_below (pkx B_g1) hb); replace B_g3 := Aside0.mk (blk_below (pkx B_g3) hb); replace HB := Aside0.mk (below_step (pbx HB) hb); clear hb; have c_g1_0 : w9.cell? ⟨g1, 0, none⟩ = some (.string (⟨#[]⟩ : ByteArray)) := (blk_cell B_g1.out 0).trans rfl; have c_g1_1 : w9.cell? ⟨g1, 1, none⟩ = some (.int .i64 0) := (blk_cell B_g1.out 1).trans rfl; have c_g1_2 : w9.cell? ⟨g1, 2, none⟩ = some (.int .u64 0) := (blk_cell B_g1.out 2).trans rfl; have c_g1_3 : w9.cell? ⟨g1, 3, none⟩ = some (.int .i64 0) := (blk_cell B_g1.out 3).trans rfl; have c_g1_4 : w9.cell? ⟨g1, 4, none⟩ = some (.int .i64 0) := (blk_cell B_g1.out 4).trans rfl; have c_g1_5 : w9.cell? ⟨g1, 5, none⟩ = some (.int .i64 0) := (blk_cell B_g1.out 5).trans rfl; have c_g1_6 : w9.cell? ⟨g1, 6, none⟩ = some (.int .i64 0) := (blk_cell B_g1.out 6).trans rfl; have c_g1_7 : w9.cell? ⟨g1, 7, none⟩ = some (.int .i64 0) := (blk_cell B_g1.out 7).trans rfl; have c_g1_8 : w9.cell? ⟨g1, 8, none⟩ = some (.int .i64 0) := (blk_cell B_g1.out 8).trans rfl; have c_g1_9 : w9.cell? ⟨g1, 9, none⟩ = some (.int .i64 0) := (blk_cell B_g1.out 9).trans rfl; have c_g1_10 : w9.cell? ⟨g1, 10, none⟩ = some (.string (⟨#[]⟩ : ByteArray)) := (blk_cell B_g1.out 10).trans rfl; have c_g1_11 : w9.cell? ⟨g1, 11, none⟩ = some (.int .i64 0) := (blk_cell B_g1.out 11).trans rfl; have f_g1_0 := blk_frozen B_g1.out 0; have f_g1_1 := blk_frozen B_g1.out 1; have f_g1_2 := blk_frozen B_g1.out 2; have f_g1_3 := blk_frozen B_g1.out 3; have f_g1_4 := blk_frozen B_g1.out 4; have f_g1_5 := blk_frozen B_g1.out 5; have f_g1_6 := blk_frozen B_g1.out 6; have f_g1_7 := blk_frozen B_g1.out 7; have f_g1_8 := blk_frozen B_g1.out 8; have f_g1_9 := blk_frozen B_g1.out 9; have f_g1_10 := blk_frozen B_g1.out 10; have f_g1_11 := blk_frozen B_g1.out 11; have c_g3_3 : w9.cell? ⟨g3, 3, none⟩ = some (.int .i64 v) := (blk_cell B_g3.out 3).trans rfl))
    refine bodyPost_ret (results_ct rfl _ _ g1 31 #[.string (⟨#[]⟩ : ByteArray), .int .i64 0, .int .u64 0, .int .i64 0, .int .i64 0, .int .i64 0, .int .i64 0, .int .i64 0, .int .i64 0, .int .i64 0, .string (⟨#[]⟩ : ByteArray), .int .i64 0] (0, 0) _ rfl (by (with_reducible repeat (first | refine blk_drewN ?_ _ | refine blk_drew ?_ | refine blk_alloc ?_ _)); refine blk_put (cs := #[.string (⟨#[]⟩ : ByteArray), .int .i64 0, .int .u64 0, .int .i64 0, .int .i64 0, .int .i64 0, .int .i64 0, .int .i64 0, .int .i64 0, .int .i64 0, .string (⟨#[]⟩ : ByteArray), .int .i64 0]) ?_ 11 _ rfl; (with_reducible repeat (first | refine blk_drewN ?_ _ | refine blk_drew ?_ | refine blk_alloc ?_ _)); refine blk_put (cs := #[.string (⟨#[]⟩ : ByteArray), .int .i64 0, .int .u64 0, .int .i64 0, .int .i64 0, .int .i64 0, .int .i64 0, .int .i64 0, .int .i64 0, .int .i64 0, .string (⟨#[]⟩ : ByteArray), .int .i64 0]) ?_ 10 _ rfl; (with_reducible repeat (first | refine blk_drewN ?_ _ | refine blk_drew ?_ | refine blk_alloc ?_ _)); refine blk_put (cs := #[.string (⟨#[]⟩ : ByteArray), .int .i64 0, .int .u64 0, .int .i64 0, .int .i64 0, .int .i64 0, .int .i64 0, .int .i64 0, .int .i64 0, .int .i64 0, .string (⟨#[]⟩ : ByteArray), .int .i64 0]) ?_ 9 _ rfl; (with_reducible repeat (first | refine blk_drewN ?_ _ | refine blk_drew ?_ | refine blk_alloc ?_ _)); refine blk_put (cs := #[.string (⟨#[]⟩ : ByteArray), .int .i64 0, .int .u64 0, .int .i64 0, .int .i64 0, .int .i64 0, .int .i64 0, .int .i64 0, .int .i64 0, .int .i64 0, .string (⟨#[]⟩ : ByteArray), .int .i64 0]) ?_ 8 _ rfl; (with_reducible repeat (first | refine blk_drewN ?_ _ | refine blk_drew ?_ | refine blk_alloc ?_ _)); refine blk_put (cs := #[.string (⟨#[]⟩ : ByteArray), .int .i64 0, .int .u64 0, .int .i64 0, .int .i64 0, .int .i64 0, .int .i64 0, .int .i64 0, .int .i64 0, .int .i64 0, .string (⟨#[]⟩ : ByteArray), .int .i64 0]) ?_ 7 _ rfl; (with_reducible repeat (first | refine blk_drewN ?_ _ | refine blk_drew ?_ | refine blk_alloc ?_ _)); refine blk_put (cs := #[.string (⟨#[]⟩ : ByteArray), .int .i64 0, .int .u64 0, .int .i64 0, .int .i64 0, .int .i64 0, .int .i64 0, .int .i64 0, .int .i64 0, .int .i64 0, .string (⟨#[]⟩ : ByteArray), .int .i64 0]) ?_ 6 _ rfl; (with_reducible repeat (first | refine blk_drewN ?_ _ | refine blk_drew ?_ | refine blk_alloc ?_ _)); refine blk_put (cs := #[.string (⟨#[]⟩ : ByteArray), .int .i64 0, .int .u64 0, .int .i64 0, .int .i64 0, .int .i64 0, .int .i64 0, .int .i64 0, .int .i64 0, .int .i64 0, .string (⟨#[]⟩ : ByteArray), .int .i64 0]) ?_ 5 _ rfl; (with_reducible repeat (first | refine blk_drewN ?_ _ | refine blk_drew ?_ | refine blk_alloc ?_ _)); refine blk_put (cs := #[.string (⟨#[]⟩ : ByteArray), .int .i64 0, .int .u64 0, .int .i64 0, .int .i64 0, .int .i64 0, .int .i64 0, .int .i64 0, .int .i64 0, .int .i64 0, .string (⟨#[]⟩ : ByteArray), .int .i64 0]) ?_ 4 _ rfl; (with_reducible repeat (first | refine blk_drewN ?_ _ | refine blk_drew ?_ | refine blk_alloc ?_ _)); refine blk_put (cs := #[.string (⟨#[]⟩ : ByteArray), .int .i64 0, .int .u64 0, .int .i64 0, .int .i64 0, .int .i64 0, .int .i64 0, .int .i64 0, .int .i64 0, .int .i64 0, .string (⟨#[]⟩ : ByteArray), .int .i64 0]) ?_ 3 _ rfl; (with_reducible repeat (first | refine blk_drewN ?_ _ | refine blk_drew ?_ | refine blk_alloc ?_ _)); refine blk_put (cs := #[.string (⟨#[]⟩ : ByteArray), .int .i64 0, .int .u64 0, .int .i64 0, .int .i64 0, .int .i64 0, .int .i64 0, .int .i64 0, .int .i64 0, .int .i64 0, .string (⟨#[]⟩ : ByteArray), .int .i64 0]) ?_ 2 _ rfl; (with_reducible repeat (first | refine blk_drewN ?_ _ | refine blk_drew ?_ | refine blk_alloc ?_ _)); refine blk_put (cs := #[.string (⟨#[]⟩ : ByteArray), .int .i64 0, .int .u64 0, .int .i64 0, .int .i64 0, .int .i64 0, .int .i64 0, .int .i64 0, .int .i64 0, .int .i64 0, .string (⟨#[]⟩ : ByteArray), .int .i64 0]) ?_ 1 _ rfl; (with_reducible repeat (first | refine blk_drewN ?_ _ | refine blk_drew ?_ | refine blk_alloc ?_ _)); refine blk_put (cs := #[.string (⟨#[]⟩ : ByteArray), .int .i64 0, .int .u64 0, .int .i64 0, .int .i64 0, .int .i64 0, .int .i64 0, .int .i64 0, .int .i64 0, .int .i64 0, .string (⟨#[]⟩ : ByteArray), .int .i64 0]) ?_ 0 _ rfl; (with_reducible repeat (first | refine blk_drewN ?_ _ | refine blk_drew ?_ | refine blk_alloc ?_ _)); exact B_g1.out) Tryd.underlying31 rfl (by kernel_rfl)) rfl ?_
    exact ⟨rfl, by repeat (first | (with_reducible first | exact HB.out | apply below_alloc | apply pw_below_drewN | apply below_drew1 | refine below_set ?_ GE_g1.out) | exact HB.out)⟩
   | true =>
    rw [if_pos rfl] at H
    by_cases hv : v = 0
    ·rw [if_pos hv] at H
     have hv0 : (v == 0) = true := beq_iff_eq.mpr hv
     have hv1 : decide (v = 0) = true := decide_eq_true hv
     clear hv
     simp only [Option.some.injEq, Prod.mk.injEq] at H
     obtain ⟨rfl, rfl, rfl, rfl, rfl, rfl, rfl, rfl, rfl, rfl, rfl, rfl, rfl⟩ := H
     go_wp2_with (first | ((with_reducible refine gate_callee (f := 14) rfl ?_); refine goesL_ (some 47) rfl rfl Tryd.func14 (by kernel_rfl) rfl #[.string s1] rfl (by (try simp only [List.map_toArray, List.map_cons, List.map_nil]); first | done | rfl) ?_; (with_reducible refine (right_Name.calls k s1 true _ HA6.out).mono ?_); rintro e w9 ⟨rfl, hd⟩; refine ⟨_, rfl, ?_⟩; have hb := hd.below; clear hd; replace B_g1 := Aside0.mk (blk_below (pkx B_g1) hb); replace B_g3 := Aside0.mk (blk_below (pkx B_g3) hb); replace HB := Aside0.mk (below_step (pbx HB) hb); clear hb; have c_g1_0 : w9.cell? ⟨g1, 0, none⟩ = some (.string (⟨#[]⟩ : ByteArray)) := (blk_cell B_g1.out 0).trans rfl; have c_g1_1 : w9.cell? ⟨g1, 1, none⟩ = some (.int .i64 0) := (blk_cell B_g1.out 1).trans rfl; have c_g1_2 : w9.cell? ⟨g1, 2, none⟩ = some (.int .u64 0) := (blk_cell B_g1.out 2).trans rfl; have c_g1_3 : w9.cell? ⟨g1, 3, none⟩ = some (.int .i64 0) := (blk_cell B_g1.out 3).trans rfl; have c_g1_4 : w9.cell? ⟨g1, 4, none⟩ = some (.int .i64 0) := (blk_cell B_g1.out 4).trans rfl; have c_g1_5 : w9.cell? ⟨g1, 5, none⟩ = some (.int .i64 0) := (blk_cell B_g1.out 5).trans rfl; have c_g1_6 : w9.cell? ⟨g1, 6, none⟩ = some (.int .i64 0) := (blk_cell B_g1.out 6).trans rfl; have c_g1_7 : w9.cell? ⟨g1, 7, none⟩ = some (.int .i64 0) := (blk_cell B_g1.out 7).trans rfl; have c_g1_8 : w9.cell? ⟨g1, 8, none⟩ = some (.int .i64 0) := (blk_cell B_g1.out 8).trans rfl; have c_g1_9 : w9.cell? ⟨g1, 9, none⟩ = some (.int .i64 0) := (blk_cell B_g1.out 9).trans rfl; have c_g1_10 : w9.cell? ⟨g1, 10, none⟩ = some (.string (⟨#[]⟩ : ByteArray)) := (blk_cell B_g1.out 10).trans rfl; have c_g1_11 : w9.cell? ⟨g1, 11, none⟩ = some (.int .i64 0) := (blk_cell B_g1.out 11).trans rfl; have f_g1_0 := blk_frozen B_g1.out 0; have f_g1_1 := blk_frozen B_g1.out 1; have f_g1_2 := blk_frozen B_g1.out 2; have f_g1_3 := blk_frozen B_g1.out 3; have f_g1_4 := blk_frozen B_g1.out 4; have f_g1_5 := blk_frozen B_g1.out 5; have f_g1_6 := blk_frozen B_g1.out 6; have f_g1_7 := blk_frozen B_g1.out 7; have f_g1_8 := blk_frozen B_g1.out 8; have f_g1_9 := blk_frozen B_g1.out 9; have f_g1_10 := blk_frozen B_g1.out 10; have f_g1_11 := blk_frozen B_g1.out 11; have c_g3_3 : w9.cell? ⟨g3, 3, none⟩ = some (.int .i64 v) := (blk_cell B_g3.out 3).trans rfl))
     refine bodyPost_ret (results_ct rfl _ _ g1 31 #[.string (⟨#[]⟩ : ByteArray), .int .i64 0, .int .u64 0, .int .i64 0, .int .i64 0, .int .i64 0, .int .i64 0, .int .i64 0, .int .i64 0, .int .i64 0, .string (⟨#[]⟩ : ByteArray), .int .i64 0] (0, 0) _ rfl (by (with_reducible repeat (first | refine blk_drewN ?_ _ | refine blk_drew ?_ | refine blk_alloc ?_ _)); refine blk_put (cs := #[.string (⟨#[]⟩ : ByteArray), .int .i64 0, .int .u64 0, .int .i64 0, .int .i64 0, .int .i64 0, .int .i64 0, .int .i64 0, .int .i64 0, .int .i64 0, .string (⟨#[]⟩ : ByteArray), .int .i64 0]) ?_ 11 _ rfl; (with_reducible repeat (first | refine blk_drewN ?_ _ | refine blk_drew ?_ | refine blk_alloc ?_ _)); refine blk_put (cs := #[.string (⟨#[]⟩ : ByteArray), .int .i64 0, .int .u64 0, .int .i64 0, .int .i64 0, .int .i64 0, .int .i64 0, .int .i64 0, .int .i64 0, .int .i64 0, .string (⟨#[]⟩ : ByteArray), .int .i64 0]) ?_ 10 _ rfl; (with_reducible repeat (first | refine blk_drewN ?_ _ | refine blk_drew ?_ | refine blk_alloc ?_ _)); refine blk_put (cs := #[.string (⟨#[]⟩ : ByteArray), .int .i64 0, .int .u64 0, .int .i64 0, .int .i64 0, .int .i64 0, .int .i64 0, .int .i64 0, .int .i64 0, .int .i64 0, .string (⟨#[]⟩ : ByteArray), .int .i64 0]) ?_ 9 _ rfl; (with_reducible repeat (first | refine blk_drewN ?_ _ | refine blk_drew ?_ | refine blk_alloc ?_ _)); refine blk_put (cs := #[.string (⟨#[]⟩ : ByteArray), .int .i64 0, .int .u64 0, .int .i64 0, .int .i64 0, .int .i64 0, .int .i64 0, .int .i64 0, .int .i64 0, .int .i64 0, .string (⟨#[]⟩ : ByteArray), .int .i64 0]) ?_ 8 _ rfl; (with_reducible repeat (first | refine blk_drewN ?_ _ | refine blk_drew ?_ | refine blk_alloc ?_ _)); refine blk_put (cs := #[.string (⟨#[]⟩ : ByteArray), .int .i64 0, .int .u64 0, .int .i64 0, .int .i64 0, .int .i64 0, .int .i64 0, .int .i64 0, .int .i64 0, .int .i64 0, .string (⟨#[]⟩ : ByteArray), .int .i64 0]) ?_ 7 _ rfl; (with_reducible repeat (first | refine blk_drewN ?_ _ | refine blk_drew ?_ | refine blk_alloc ?_ _)); refine blk_put (cs := #[.string (⟨#[]⟩ : ByteArray), .int .i64 0, .int .u64 0, .int .i64 0, .int .i64 0, .int .i64 0, .int .i64 0, .int .i64 0, .int .i64 0, .int .i64 0, .string (⟨#[]⟩ : ByteArray), .int .i64 0]) ?_ 6 _ rfl; (with_reducible repeat (first | refine blk_drewN ?_ _ | refine blk_drew ?_ | refine blk_alloc ?_ _)); refine blk_put (cs := #[.string (⟨#[]⟩ : ByteArray), .int .i64 0, .int .u64 0, .int .i64 0, .int .i64 0, .int .i64 0, .int .i64 0, .int .i64 0, .int .i64 0, .int .i64 0, .string (⟨#[]⟩ : ByteArray), .int .i64 0]) ?_ 5 _ rfl; (with_reducible repeat (first | refine blk_drewN ?_ _ | refine blk_drew ?_ | refine blk_alloc ?_ _)); refine blk_put (cs := #[.string (⟨#[]⟩ : ByteArray), .int .i64 0, .int .u64 0, .int .i64 0, .int .i64 0, .int .i64 0, .int .i64 0, .int .i64 0, .int .i64 0, .int .i64 0, .string (⟨#[]⟩ : ByteArray), .int .i64 0]) ?_ 4 _ rfl; (with_reducible repeat (first | refine blk_drewN ?_ _ | refine blk_drew ?_ | refine blk_alloc ?_ _)); refine blk_put (cs := #[.string (⟨#[]⟩ : ByteArray), .int .i64 0, .int .u64 0, .int .i64 0, .int .i64 0, .int .i64 0, .int .i64 0, .int .i64 0, .int .i64 0, .int .i64 0, .string (⟨#[]⟩ : ByteArray), .int .i64 0]) ?_ 3 _ rfl; (with_reducible repeat (first | refine blk_drewN ?_ _ | refine blk_drew ?_ | refine blk_alloc ?_ _)); refine blk_put (cs := #[.string (⟨#[]⟩ : ByteArray), .int .i64 0, .int .u64 0, .int .i64 0, .int .i64 0, .int .i64 0, .int .i64 0, .int .i64 0, .int .i64 0, .int .i64 0, .string (⟨#[]⟩ : ByteArray), .int .i64 0]) ?_ 2 _ rfl; (with_reducible repeat (first | refine blk_drewN ?_ _ | refine blk_drew ?_ | refine blk_alloc ?_ _)); refine blk_put (cs := #[.string (⟨#[]⟩ : ByteArray), .int .i64 0, .int .u64 0, .int .i64 0, .int .i64 0, .int .i64 0, .int .i64 0, .int .i64 0, .int .i64 0, .int .i64 0, .string (⟨#[]⟩ : ByteArray), .int .i64 0]) ?_ 1 _ rfl; (with_reducible repeat (first | refine blk_drewN ?_ _ | refine blk_drew ?_ | refine blk_alloc ?_ _)); refine blk_put (cs := #[.string (⟨#[]⟩ : ByteArray), .int .i64 0, .int .u64 0, .int .i64 0, .int .i64 0, .int .i64 0, .int .i64 0, .int .i64 0, .int .i64 0, .int .i64 0, .string (⟨#[]⟩ : ByteArray), .int .i64 0]) ?_ 0 _ rfl; (with_reducible repeat (first | refine blk_drewN ?_ _ | refine blk_drew ?_ | refine blk_alloc ?_ _)); exact B_g1.out) Tryd.underlying31 rfl (by kernel_rfl)) rfl ?_
     exact ⟨rfl, by repeat (first | (with_reducible first | exact HB.out | apply below_alloc | apply pw_below_drewN | apply below_drew1 | refine below_set ?_ GE_g1.out) | exact HB.out)⟩
    ·rw [if_neg hv] at H
     have hv0 : (v == 0) = false := beq_eq_false_iff_ne.mpr hv
     have hv1 : decide (v = 0) = false := decide_eq_false hv
     clear hv
     obtain ⟨⟨y0, y1, y2, y3, y4, y5, y6, y7, y8, y9, y10, y11, y12⟩, A7, H⟩ := Option.bind_eq_some_iff.1 H
     dsimp only at H
     have HA7 := Aside0.mk A7
     clear A7
     cases y0 with
     | false =>
      rw [if_neg (by decide)] at H
      simp only [Option.some.injEq, Prod.mk.injEq] at H
      obtain ⟨rfl, rfl, rfl, rfl, rfl, rfl, rfl, rfl, rfl, rfl, rfl, rfl, rfl⟩ := H
      go_wp2_with (first | ((with_reducible refine gate_callee (f := 14) rfl ?_); refine goesL_ (some 47) rfl rfl Tryd.func14 (by kernel_rfl) rfl #[.string s1] rfl (by (try simp only [List.map_toArray, List.map_cons, List.map_nil]); first | done | rfl) ?_; (with_reducible refine (right_Name.calls k s1 true _ HA6.out).mono ?_); rintro e w9 ⟨rfl, hd⟩; refine ⟨_, rfl, ?_⟩; have hb := hd.below; clear hd; replace B_g1 := Aside0.mk (blk_below (pkx B_g1) hb); replace B_g3 := Aside0.mk (blk_below (pkx B_g3) hb); replace HB := Aside0.mk (below_step (pbx HB) hb); clear hb; have c_g1_0 : w9.cell? ⟨g1, 0, none⟩ = some (.string (⟨#[]⟩ : ByteArray)) := (blk_cell B_g1.out 0).trans rfl; have c_g1_1 : w9.cell? ⟨g1, 1, none⟩ = some (.int .i64 0) := (blk_cell B_g1.out 1).trans rfl; have c_g1_2 : w9.cell? ⟨g1, 2, none⟩ = some (.int .u64 0) := (blk_cell B_g1.out 2).trans rfl; have c_g1_3 : w9.cell? ⟨g1, 3, none⟩ = some (.int .i64 0) := (blk_cell B_g1.out 3).trans rfl; have c_g1_4 : w9.cell? ⟨g1, 4, none⟩ = some (.int .i64 0) := (blk_cell B_g1.out 4).trans rfl; have c_g1_5 : w9.cell? ⟨g1, 5, none⟩ = some (.int .i64 0) := (blk_cell B_g1.out 5).trans rfl; have c_g1_6 : w9.cell? ⟨g1, 6, none⟩ = some (.int .i64 0) := (blk_cell B_g1.out 6).trans rfl; have c_g1_7 : w9.cell? ⟨g1, 7, none⟩ = some (.int .i64 0) := (blk_cell B_g1.out 7).trans rfl; have c_g1_8 : w9.cell? ⟨g1, 8, none⟩ = some (.int .i64 0) := (blk_cell B_g1.out 8).trans rfl; have c_g1_9 : w9.cell? ⟨g1, 9, none⟩ = some (.int .i64 0) := (blk_cell B_g1.out 9).trans rfl; have c_g1_10 : w9.cell? ⟨g1, 10, none⟩ = some (.string (⟨#[]⟩ : ByteArray)) := (blk_cell B_g1.out 10).trans rfl; have c_g1_11 : w9.cell? ⟨g1, 11, none⟩ = some (.int .i64 0) := (blk_cell B_g1.out 11).trans rfl; have f_g1_0 := blk_frozen B_g1.out 0; have f_g1_1 := blk_frozen B_g1.out 1; have f_g1_2 := blk_frozen B_g1.out 2; have f_g1_3 := blk_frozen B_g1.out 3; have f_g1_4 := blk_frozen B_g1.out 4; have f_g1_5 := blk_frozen B_g1.out 5; have f_g1_6 := blk_frozen B_g1.out 6; have f_g1_7 := blk_frozen B_g1.out 7; have f_g1_8 := blk_frozen B_g1.out 8; have f_g1_9 := blk_frozen B_g1.out 9; have f_g1_10 := blk_frozen B_g1.out 10; have f_g1_11 := blk_frozen B_g1.out 11; have c_g3_3 : w9.cell? ⟨g3, 3, none⟩ = some (.int .i64 v) := (blk_cell B_g3.out 3).trans rfl) | (go_at_call 15; have hI0 : IsS31 w w9 g3 s1 lv ct v 0 0 0 0 0 0 (⟨#[]⟩ : ByteArray) 0 := ⟨B_g3.out, GE_g3.out⟩; (with_reducible refine (command_args.calls k g3 s1 lv ct v 0 0 0 0 0 0 (⟨#[]⟩ : ByteArray) 0 q3 b3 false y1 y2 y3 y4 y5 y6 y7 y8 y9 y10 y11 y12 w _ hI0 (pbx HB) HA7.out).mono ?_); clear hI0; rintro e w10 ⟨rfl, hI, hb2, hk⟩; replace B_g1 := Aside0.mk ((hk.2 g1 (blk_lt B_g1.out) N_g1_g3.out (by simp)).trans B_g1.out); replace HB := Aside0.mk hb2; have B_y := Aside0.mk (And.left hI); clear hI hk hb2 B_g3; clear c_g1_0 f_g1_0 c_g1_1 f_g1_1 c_g1_2 f_g1_2 c_g1_3 f_g1_3 c_g1_4 f_g1_4 c_g1_5 f_g1_5 c_g1_6 f_g1_6 c_g1_7 f_g1_7 c_g1_8 f_g1_8 c_g1_9 f_g1_9 c_g1_10 f_g1_10 c_g1_11 f_g1_11 c_g3_3; have c_g1_0 : w10.cell? ⟨g1, 0, none⟩ = some (.string (⟨#[]⟩ : ByteArray)) := (blk_cell B_g1.out 0).trans rfl; have c_g1_1 : w10.cell? ⟨g1, 1, none⟩ = some (.int .i64 0) := (blk_cell B_g1.out 1).trans rfl; have c_g1_2 : w10.cell? ⟨g1, 2, none⟩ = some (.int .u64 0) := (blk_cell B_g1.out 2).trans rfl; have c_g1_3 : w10.cell? ⟨g1, 3, none⟩ = some (.int .i64 0) := (blk_cell B_g1.out 3).trans rfl; have c_g1_4 : w10.cell? ⟨g1, 4, none⟩ = some (.int .i64 0) := (blk_cell B_g1.out 4).trans rfl; have c_g1_5 : w10.cell? ⟨g1, 5, none⟩ = some (.int .i64 0) := (blk_cell B_g1.out 5).trans rfl; have c_g1_6 : w10.cell? ⟨g1, 6, none⟩ = some (.int .i64 0) := (blk_cell B_g1.out 6).trans rfl; have c_g1_7 : w10.cell? ⟨g1, 7, none⟩ = some (.int .i64 0) := (blk_cell B_g1.out 7).trans rfl; have c_g1_8 : w10.cell? ⟨g1, 8, none⟩ = some (.int .i64 0) := (blk_cell B_g1.out 8).trans rfl; have c_g1_9 : w10.cell? ⟨g1, 9, none⟩ = some (.int .i64 0) := (blk_cell B_g1.out 9).trans rfl; have c_g1_10 : w10.cell? ⟨g1, 10, none⟩ = some (.string (⟨#[]⟩ : ByteArray)) := (blk_cell B_g1.out 10).trans rfl; have c_g1_11 : w10.cell? ⟨g1, 11, none⟩ = some (.int .i64 0) := (blk_cell B_g1.out 11).trans rfl; have f_g1_0 := blk_frozen B_g1.out 0; have f_g1_1 := blk_frozen B_g1.out 1; have f_g1_2 := blk_frozen B_g1.out 2; have f_g1_3 := blk_frozen B_g1.out 3; have f_g1_4 := blk_frozen B_g1.out 4; have f_g1_5 := blk_frozen B_g1.out 5; have f_g1_6 := blk_frozen B_g1.out 6; have f_g1_7 := blk_frozen B_g1.out 7; have f_g1_8 := blk_frozen B_g1.out 8; have f_g1_9 := blk_frozen B_g1.out 9; have f_g1_10 := blk_frozen B_g1.out 10; have f_g1_11 := blk_frozen B_g1.out 11; have c_y_0 : w10.cell? ⟨g3, 0, none⟩ = some (.string y1) := (blk_cell B_y.out 0).trans rfl; have c_y_1 : w10.cell? ⟨g3, 1, none⟩ = some (.int .i64 y2) := (blk_cell B_y.out 1).trans rfl; have c_y_2 : w10.cell? ⟨g3, 2, none⟩ = some (.int .u64 y3) := (blk_cell B_y.out 2).trans rfl; have c_y_3 : w10.cell? ⟨g3, 3, none⟩ = some (.int .i64 y4) := (blk_cell B_y.out 3).trans rfl; have c_y_4 : w10.cell? ⟨g3, 4, none⟩ = some (.int .i64 y5) := (blk_cell B_y.out 4).trans rfl; have c_y_5 : w10.cell? ⟨g3, 5, none⟩ = some (.int .i64 y6) := (blk_cell B_y.out 5).trans rfl; have c_y_6 : w10.cell? ⟨g3, 6, none⟩ = some (.int .i64 y7) := (blk_cell B_y.out 6).trans rfl; have c_y_7 : w10.cell? ⟨g3, 7, none⟩ = some (.int .i64 y8) := (blk_cell B_y.out 7).trans rfl; have c_y_8 : w10.cell? ⟨g3, 8, none⟩ = some (.int .i64 y9) := (blk_cell B_y.out 8).trans rfl; have c_y_9 : w10.cell? ⟨g3, 9, none⟩ = some (.int .i64 y10) := (blk_cell B_y.out 9).trans rfl; have c_y_10 : w10.cell? ⟨g3, 10, none⟩ = some (.string y11) := (blk_cell B_y.out 10).trans rfl; have c_y_11 : w10.cell? ⟨g3, 11, none⟩ = some (.int .i64 y12) := (blk_cell B_y.out 11).trans rfl))
      refine bodyPost_ret (results_ct rfl _ _ g1 31 #[.string (⟨#[]⟩ : ByteArray), .int .i64 0, .int .u64 0, .int .i64 0, .int .i64 0, .int .i64 0, .int .i64 0, .int .i64 0, .int .i64 0, .int .i64 0, .string (⟨#[]⟩ : ByteArray), .int .i64 0] (0, 0) _ rfl (by (with_reducible repeat (first | refine blk_drewN ?_ _ | refine blk_drew ?_ | refine blk_alloc ?_ _)); refine blk_put (cs := #[.string (⟨#[]⟩ : ByteArray), .int .i64 0, .int .u64 0, .int .i64 0, .int .i64 0, .int .i64 0, .int .i64 0, .int .i64 0, .int .i64 0, .int .i64 0, .string (⟨#[]⟩ : ByteArray), .int .i64 0]) ?_ 11 _ rfl; (with_reducible repeat (first | refine blk_drewN ?_ _ | refine blk_drew ?_ | refine blk_alloc ?_ _)); refine blk_put (cs := #[.string (⟨#[]⟩ : ByteArray), .int .i64 0, .int .u64 0, .int .i64 0, .int .i64 0, .int .i64 0, .int .i64 0, .int .i64 0, .int .i64 0, .int .i64 0, .string (⟨#[]⟩ : ByteArray), .int .i64 0]) ?_ 10 _ rfl; (with_reducible repeat (first | refine blk_drewN ?_ _ | refine blk_drew ?_ | refine blk_alloc ?_ _)); refine blk_put (cs := #[.string (⟨#[]⟩ : ByteArray), .int .i64 0, .int .u64 0, .int .i64 0, .int .i64 0, .int .i64 0, .int .i64 0, .int .i64 0, .int .i64 0, .int .i64 0, .string (⟨#[]⟩ : ByteArray), .int .i64 0]) ?_ 9 _ rfl; (with_reducible repeat (first | refine blk_drewN ?_ _ | refine blk_drew ?_ | refine blk_alloc ?_ _)); refine blk_put (cs := #[.string (⟨#[]⟩ : ByteArray), .int .i64 0, .int .u64 0, .int .i64 0, .int .i64 0, .int .i64 0, .int .i64 0, .int .i64 0, .int .i64 0, .int .i64 0, .string (⟨#[]⟩ : ByteArray), .int .i64 0]) ?_ 8 _ rfl; (with_reducible repeat (first | refine blk_drewN ?_ _ | refine blk_drew ?_ | refine blk_alloc ?_ _)); refine blk_put (cs := #[.string (⟨#[]⟩ : ByteArray), .int .i64 0, .int .u64 0, .int .i64 0, .int .i64 0, .int .i64 0, .int .i64 0, .int .i64 0, .int .i64 0, .int .i64 0, .string (⟨#[]⟩ : ByteArray), .int .i64 0]) ?_ 7 _ rfl; (with_reducible repeat (first | refine blk_drewN ?_ _ | refine blk_drew ?_ | refine blk_alloc ?_ _)); refine blk_put (cs := #[.string (⟨#[]⟩ : ByteArray), .int .i64 0, .int .u64 0, .int .i64 0, .int .i64 0, .int .i64 0, .int .i64 0, .int .i64 0, .int .i64 0, .int .i64 0, .string (⟨#[]⟩ : ByteArray), .int .i64 0]) ?_ 6 _ rfl; (with_reducible repeat (first | refine blk_drewN ?_ _ | refine blk_drew ?_ | refine blk_alloc ?_ _)); refine blk_put (cs := #[.string (⟨#[]⟩ : ByteArray), .int .i64 0, .int .u64 0, .int .i64 0, .int .i64 0, .int .i64 0, .int .i64 0, .int .i64 0, .int .i64 0, .int .i64 0, .string (⟨#[]⟩ : ByteArray), .int .i64 0]) ?_ 5 _ rfl; (with_reducible repeat (first | refine blk_drewN ?_ _ | refine blk_drew ?_ | refine blk_alloc ?_ _)); refine blk_put (cs := #[.string (⟨#[]⟩ : ByteArray), .int .i64 0, .int .u64 0, .int .i64 0, .int .i64 0, .int .i64 0, .int .i64 0, .int .i64 0, .int .i64 0, .int .i64 0, .string (⟨#[]⟩ : ByteArray), .int .i64 0]) ?_ 4 _ rfl; (with_reducible repeat (first | refine blk_drewN ?_ _ | refine blk_drew ?_ | refine blk_alloc ?_ _)); refine blk_put (cs := #[.string (⟨#[]⟩ : ByteArray), .int .i64 0, .int .u64 0, .int .i64 0, .int .i64 0, .int .i64 0, .int .i64 0, .int .i64 0, .int .i64 0, .int .i64 0, .string (⟨#[]⟩ : ByteArray), .int .i64 0]) ?_ 3 _ rfl; (with_reducible repeat (first | refine blk_drewN ?_ _ | refine blk_drew ?_ | refine blk_alloc ?_ _)); refine blk_put (cs := #[.string (⟨#[]⟩ : ByteArray), .int .i64 0, .int .u64 0, .int .i64 0, .int .i64 0, .int .i64 0, .int .i64 0, .int .i64 0, .int .i64 0, .int .i64 0, .string (⟨#[]⟩ : ByteArray), .int .i64 0]) ?_ 2 _ rfl; (with_reducible repeat (first | refine blk_drewN ?_ _ | refine blk_drew ?_ | refine blk_alloc ?_ _)); refine blk_put (cs := #[.string (⟨#[]⟩ : ByteArray), .int .i64 0, .int .u64 0, .int .i64 0, .int .i64 0, .int .i64 0, .int .i64 0, .int .i64 0, .int .i64 0, .int .i64 0, .string (⟨#[]⟩ : ByteArray), .int .i64 0]) ?_ 1 _ rfl; (with_reducible repeat (first | refine blk_drewN ?_ _ | refine blk_drew ?_ | refine blk_alloc ?_ _)); refine blk_put (cs := #[.string (⟨#[]⟩ : ByteArray), .int .i64 0, .int .u64 0, .int .i64 0, .int .i64 0, .int .i64 0, .int .i64 0, .int .i64 0, .int .i64 0, .int .i64 0, .string (⟨#[]⟩ : ByteArray), .int .i64 0]) ?_ 0 _ rfl; (with_reducible repeat (first | refine blk_drewN ?_ _ | refine blk_drew ?_ | refine blk_alloc ?_ _)); exact B_g1.out) Tryd.underlying31 rfl (by kernel_rfl)) rfl ?_
      exact ⟨rfl, by repeat (first | (with_reducible first | exact HB.out | apply below_alloc | apply pw_below_drewN | apply below_drew1 | refine below_set ?_ GE_g1.out) | exact HB.out)⟩
     | true =>
      rw [if_pos rfl] at H
      simp only [Option.some.injEq, Prod.mk.injEq] at H
      obtain ⟨rfl, rfl, rfl, rfl, rfl, rfl, rfl, rfl, rfl, rfl, rfl, rfl, rfl⟩ := H
      go_wp2_with (first | ((with_reducible refine gate_callee (f := 14) rfl ?_); refine goesL_ (some 47) rfl rfl Tryd.func14 (by kernel_rfl) rfl #[.string s1] rfl (by (try simp only [List.map_toArray, List.map_cons, List.map_nil]); first | done | rfl) ?_; (with_reducible refine (right_Name.calls k s1 true _ HA6.out).mono ?_); rintro e w9 ⟨rfl, hd⟩; refine ⟨_, rfl, ?_⟩; have hb := hd.below; clear hd; replace B_g1 := Aside0.mk (blk_below (pkx B_g1) hb); replace B_g3 := Aside0.mk (blk_below (pkx B_g3) hb); replace HB := Aside0.mk (below_step (pbx HB) hb); clear hb; have c_g1_0 : w9.cell? ⟨g1, 0, none⟩ = some (.string (⟨#[]⟩ : ByteArray)) := (blk_cell B_g1.out 0).trans rfl; have c_g1_1 : w9.cell? ⟨g1, 1, none⟩ = some (.int .i64 0) := (blk_cell B_g1.out 1).trans rfl; have c_g1_2 : w9.cell? ⟨g1, 2, none⟩ = some (.int .u64 0) := (blk_cell B_g1.out 2).trans rfl; have c_g1_3 : w9.cell? ⟨g1, 3, none⟩ = some (.int .i64 0) := (blk_cell B_g1.out 3).trans rfl; have c_g1_4 : w9.cell? ⟨g1, 4, none⟩ = some (.int .i64 0) := (blk_cell B_g1.out 4).trans rfl; have c_g1_5 : w9.cell? ⟨g1, 5, none⟩ = some (.int .i64 0) := (blk_cell B_g1.out 5).trans rfl; have c_g1_6 : w9.cell? ⟨g1, 6, none⟩ = some (.int .i64 0) := (blk_cell B_g1.out 6).trans rfl; have c_g1_7 : w9.cell? ⟨g1, 7, none⟩ = some (.int .i64 0) := (blk_cell B_g1.out 7).trans rfl; have c_g1_8 : w9.cell? ⟨g1, 8, none⟩ = some (.int .i64 0) := (blk_cell B_g1.out 8).trans rfl; have c_g1_9 : w9.cell? ⟨g1, 9, none⟩ = some (.int .i64 0) := (blk_cell B_g1.out 9).trans rfl; have c_g1_10 : w9.cell? ⟨g1, 10, none⟩ = some (.string (⟨#[]⟩ : ByteArray)) := (blk_cell B_g1.out 10).trans rfl; have c_g1_11 : w9.cell? ⟨g1, 11, none⟩ = some (.int .i64 0) := (blk_cell B_g1.out 11).trans rfl; have f_g1_0 := blk_frozen B_g1.out 0; have f_g1_1 := blk_frozen B_g1.out 1; have f_g1_2 := blk_frozen B_g1.out 2; have f_g1_3 := blk_frozen B_g1.out 3; have f_g1_4 := blk_frozen B_g1.out 4; have f_g1_5 := blk_frozen B_g1.out 5; have f_g1_6 := blk_frozen B_g1.out 6; have f_g1_7 := blk_frozen B_g1.out 7; have f_g1_8 := blk_frozen B_g1.out 8; have f_g1_9 := blk_frozen B_g1.out 9; have f_g1_10 := blk_frozen B_g1.out 10; have f_g1_11 := blk_frozen B_g1.out 11; have c_g3_3 : w9.cell? ⟨g3, 3, none⟩ = some (.int .i64 v) := (blk_cell B_g3.out 3).trans rfl) | (go_at_call 15; have hI0 : IsS31 w w9 g3 s1 lv ct v 0 0 0 0 0 0 (⟨#[]⟩ : ByteArray) 0 := ⟨B_g3.out, GE_g3.out⟩; (with_reducible refine (command_args.calls k g3 s1 lv ct v 0 0 0 0 0 0 (⟨#[]⟩ : ByteArray) 0 q3 b3 true y1 y2 y3 y4 y5 y6 y7 y8 y9 y10 y11 y12 w _ hI0 (pbx HB) HA7.out).mono ?_); clear hI0; rintro e w10 ⟨rfl, hI, hb2, hk⟩; replace B_g1 := Aside0.mk ((hk.2 g1 (blk_lt B_g1.out) N_g1_g3.out (by simp)).trans B_g1.out); replace HB := Aside0.mk hb2; have B_y := Aside0.mk (And.left hI); clear hI hk hb2 B_g3; clear c_g1_0 f_g1_0 c_g1_1 f_g1_1 c_g1_2 f_g1_2 c_g1_3 f_g1_3 c_g1_4 f_g1_4 c_g1_5 f_g1_5 c_g1_6 f_g1_6 c_g1_7 f_g1_7 c_g1_8 f_g1_8 c_g1_9 f_g1_9 c_g1_10 f_g1_10 c_g1_11 f_g1_11 c_g3_3; have c_g1_0 : w10.cell? ⟨g1, 0, none⟩ = some (.string (⟨#[]⟩ : ByteArray)) := (blk_cell B_g1.out 0).trans rfl; have c_g1_1 : w10.cell? ⟨g1, 1, none⟩ = some (.int .i64 0) := (blk_cell B_g1.out 1).trans rfl; have c_g1_2 : w10.cell? ⟨g1, 2, none⟩ = some (.int .u64 0) := (blk_cell B_g1.out 2).trans rfl; have c_g1_3 : w10.cell? ⟨g1, 3, none⟩ = some (.int .i64 0) := (blk_cell B_g1.out 3).trans rfl; have c_g1_4 : w10.cell? ⟨g1, 4, none⟩ = some (.int .i64 0) := (blk_cell B_g1.out 4).trans rfl; have c_g1_5 : w10.cell? ⟨g1, 5, none⟩ = some (.int .i64 0) := (blk_cell B_g1.out 5).trans rfl; have c_g1_6 : w10.cell? ⟨g1, 6, none⟩ = some (.int .i64 0) := (blk_cell B_g1.out 6).trans rfl; have c_g1_7 : w10.cell? ⟨g1, 7, none⟩ = some (.int .i64 0) := (blk_cell B_g1.out 7).trans rfl; have c_g1_8 : w10.cell? ⟨g1, 8, none⟩ = some (.int .i64 0) := (blk_cell B_g1.out 8).trans rfl; have c_g1_9 : w10.cell? ⟨g1, 9, none⟩ = some (.int .i64 0) := (blk_cell B_g1.out 9).trans rfl; have c_g1_10 : w10.cell? ⟨g1, 10, none⟩ = some (.string (⟨#[]⟩ : ByteArray)) := (blk_cell B_g1.out 10).trans rfl; have c_g1_11 : w10.cell? ⟨g1, 11, none⟩ = some (.int .i64 0) := (blk_cell B_g1.out 11).trans rfl; have f_g1_0 := blk_frozen B_g1.out 0; have f_g1_1 := blk_frozen B_g1.out 1; have f_g1_2 := blk_frozen B_g1.out 2; have f_g1_3 := blk_frozen B_g1.out 3; have f_g1_4 := blk_frozen B_g1.out 4; have f_g1_5 := blk_frozen B_g1.out 5; have f_g1_6 := blk_frozen B_g1.out 6; have f_g1_7 := blk_frozen B_g1.out 7; have f_g1_8 := blk_frozen B_g1.out 8; have f_g1_9 := blk_frozen B_g1.out 9; have f_g1_10 := blk_frozen B_g1.out 10; have f_g1_11 := blk_frozen B_g1.out 11; have c_y_0 : w10.cell? ⟨g3, 0, none⟩ = some (.string y1) := (blk_cell B_y.out 0).trans rfl; have c_y_1 : w10.cell? ⟨g3, 1, none⟩ = some (.int .i64 y2) := (blk_cell B_y.out 1).trans rfl; have c_y_2 : w10.cell? ⟨g3, 2, none⟩ = some (.int .u64 y3) := (blk_cell B_y.out 2).trans rfl; have c_y_3 : w10.cell? ⟨g3, 3, none⟩ = some (.int .i64 y4) := (blk_cell B_y.out 3).trans rfl; have c_y_4 : w10.cell? ⟨g3, 4, none⟩ = some (.int .i64 y5) := (blk_cell B_y.out 4).trans rfl; have c_y_5 : w10.cell? ⟨g3, 5, none⟩ = some (.int .i64 y6) := (blk_cell B_y.out 5).trans rfl; have c_y_6 : w10.cell? ⟨g3, 6, none⟩ = some (.int .i64 y7) := (blk_cell B_y.out 6).trans rfl; have c_y_7 : w10.cell? ⟨g3, 7, none⟩ = some (.int .i64 y8) := (blk_cell B_y.out 7).trans rfl; have c_y_8 : w10.cell? ⟨g3, 8, none⟩ = some (.int .i64 y9) := (blk_cell B_y.out 8).trans rfl; have c_y_9 : w10.cell? ⟨g3, 9, none⟩ = some (.int .i64 y10) := (blk_cell B_y.out 9).trans rfl; have c_y_10 : w10.cell? ⟨g3, 10, none⟩ = some (.string y11) := (blk_cell B_y.out 10).trans rfl; have c_y_11 : w10.cell? ⟨g3, 11, none⟩ = some (.int .i64 y12) := (blk_cell B_y.out 11).trans rfl))
      refine bodyPost_ret (results_ct rfl _ _ g1 31 #[.string y1, .int .i64 y2, .int .u64 y3, .int .i64 y4, .int .i64 y5, .int .i64 y6, .int .i64 y7, .int .i64 y8, .int .i64 y9, .int .i64 y10, .string y11, .int .i64 y12] (0, 0) _ rfl (by (with_reducible repeat (first | refine blk_drewN ?_ _ | refine blk_drew ?_ | refine blk_alloc ?_ _)); refine blk_put (cs := #[.string y1, .int .i64 y2, .int .u64 y3, .int .i64 y4, .int .i64 y5, .int .i64 y6, .int .i64 y7, .int .i64 y8, .int .i64 y9, .int .i64 y10, .string y11, .int .i64 0]) ?_ 11 _ rfl; (with_reducible repeat (first | refine blk_drewN ?_ _ | refine blk_drew ?_ | refine blk_alloc ?_ _)); refine blk_put (cs := #[.string y1, .int .i64 y2, .int .u64 y3, .int .i64 y4, .int .i64 y5, .int .i64 y6, .int .i64 y7, .int .i64 y8, .int .i64 y9, .int .i64 y10, .string (⟨#[]⟩ : ByteArray), .int .i64 0]) ?_ 10 _ rfl; (with_reducible repeat (first | refine blk_drewN ?_ _ | refine blk_drew ?_ | refine blk_alloc ?_ _)); refine blk_put (cs := #[.string y1, .int .i64 y2, .int .u64 y3, .int .i64 y4, .int .i64 y5, .int .i64 y6, .int .i64 y7, .int .i64 y8, .int .i64 y9, .int .i64 0, .string (⟨#[]⟩ : ByteArray), .int .i64 0]) ?_ 9 _ rfl; (with_reducible repeat (first | refine blk_drewN ?_ _ | refine blk_drew ?_ | refine blk_alloc ?_ _)); refine blk_put (cs := #[.string y1, .int .i64 y2, .int .u64 y3, .int .i64 y4, .int .i64 y5, .int .i64 y6, .int .i64 y7, .int .i64 y8, .int .i64 0, .int .i64 0, .string (⟨#[]⟩ : ByteArray), .int .i64 0]) ?_ 8 _ rfl; (with_reducible repeat (first | refine blk_drewN ?_ _ | refine blk_drew ?_ | refine blk_alloc ?_ _)); refine blk_put (cs := #[.string y1, .int .i64 y2, .int .u64 y3, .int .i64 y4, .int .i64 y5, .int .i64 y6, .int .i64 y7, .int .i64 0, .int .i64 0, .int .i64 0, .string (⟨#[]⟩ : ByteArray), .int .i64 0]) ?_ 7 _ rfl; (with_reducible repeat (first | refine blk_drewN ?_ _ | refine blk_drew ?_ | refine blk_alloc ?_ _)); refine blk_put (cs := #[.string y1, .int .i64 y2, .int .u64 y3, .int .i64 y4, .int .i64 y5, .int .i64 y6, .int .i64 0, .int .i64 0, .int .i64 0, .int .i64 0, .string (⟨#[]⟩ : ByteArray), .int .i64 0]) ?_ 6 _ rfl; (with_reducible repeat (first | refine blk_drewN ?_ _ | refine blk_drew ?_ | refine blk_alloc ?_ _)); refine blk_put (cs := #[.string y1, .int .i64 y2, .int .u64 y3, .int .i64 y4, .int .i64 y5, .int .i64 0, .int .i64 0, .int .i64 0, .int .i64 0, .int .i64 0, .string (⟨#[]⟩ : ByteArray), .int .i64 0]) ?_ 5 _ rfl; (with_reducible repeat (first | refine blk_drewN ?_ _ | refine blk_drew ?_ | refine blk_alloc ?_ _)); refine blk_put (cs := #[.string y1, .int .i64 y2, .int .u64 y3, .int .i64 y4, .int .i64 0, .int .i64 0, .int .i64 0, .int .i64 0, .int .i64 0, .int .i64 0, .string (⟨#[]⟩ : ByteArray), .int .i64 0]) ?_ 4 _ rfl; (with_reducible repeat (first | refine blk_drewN ?_ _ | refine blk_drew ?_ | refine blk_alloc ?_ _)); refine blk_put (cs := #[.string y1, .int .i64 y2, .int .u64 y3, .int .i64 0, .int .i64 0, .int .i64 0, .int .i64 0, .int .i64 0, .int .i64 0, .int .i64 0, .string (⟨#[]⟩ : ByteArray), .int .i64 0]) ?_ 3 _ rfl; (with_reducible repeat (first | refine blk_drewN ?_ _ | refine blk_drew ?_ | refine blk_alloc ?_ _)); refine blk_put (cs := #[.string y1, .int .i64 y2, .int .u64 0, .int .i64 0, .int .i64 0, .int .i64 0, .int .i64 0, .int .i64 0, .int .i64 0, .int .i64 0, .string (⟨#[]⟩ : ByteArray), .int .i64 0]) ?_ 2 _ rfl; (with_reducible repeat (first | refine blk_drewN ?_ _ | refine blk_drew ?_ | refine blk_alloc ?_ _)); refine blk_put (cs := #[.string y1, .int .i64 0, .int .u64 0, .int .i64 0, .int .i64 0, .int .i64 0, .int .i64 0, .int .i64 0, .int .i64 0, .int .i64 0, .string (⟨#[]⟩ : ByteArray), .int .i64 0]) ?_ 1 _ rfl; (with_reducible repeat (first | refine blk_drewN ?_ _ | refine blk_drew ?_ | refine blk_alloc ?_ _)); refine blk_put (cs := #[.string (⟨#[]⟩ : ByteArray), .int .i64 0, .int .u64 0, .int .i64 0, .int .i64 0, .int .i64 0, .int .i64 0, .int .i64 0, .int .i64 0, .int .i64 0, .string (⟨#[]⟩ : ByteArray), .int .i64 0]) ?_ 0 _ rfl; (with_reducible repeat (first | refine blk_drewN ?_ _ | refine blk_drew ?_ | refine blk_alloc ?_ _)); exact B_g1.out) Tryd.underlying31 rfl (by kernel_rfl)) rfl ?_
      exact ⟨rfl, by repeat (first | (with_reducible first | exact HB.out | apply below_alloc | apply pw_below_drewN | apply below_drew1 | refine below_set ?_ GE_g1.out) | exact HB.out)⟩
theorem command_Parse.calls (k : Nat) (a0 : ByteArray) (r1 : ByteArray) (r2 r3 r4 r5 r6 r7 r8 r9 r10 : Int) (r11 : ByteArray) (r12 r13 : Int) (w : World) (hT : Aside0 (Tab w)) (h : command_Parse.f k a0 = some (r1, r2, r3, r4, r5, r6, r7, r8, r9, r10, r11, r12, r13)) :
  Calls Tryd.prog 6 #[.string a0] w fun e w' => e = .returned (.tuple #[.agg #[.string r1, .int .i64 r2, .int .u64 r3, .int .i64 r4, .int .i64 r5, .int .i64 r6, .int .i64 r7, .int .i64 r8, .int .i64 r9, .int .i64 r10, .string r11, .int .i64 r12], .int .i64 r13]) ∧ Below w.heap.size w w' := by
 unfold command_Parse.f at h
 by_cases hl : (a0.size : Int) > 1000
 ·rw [if_pos hl] at h
  simp only [Option.some.injEq, Prod.mk.injEq] at h
  obtain ⟨rfl, rfl, rfl, rfl, rfl, rfl, rfl, rfl, rfl, rfl, rfl, rfl, rfl⟩ := h
  exact parse44_long a0 w hl
 ·rw [if_neg hl] at h
  obtain ⟨⟨s1, q1, b1⟩, A1, h⟩ := Option.bind_eq_some_iff.1 h
  obtain ⟨⟨s2, q2, b2⟩, A2, h⟩ := Option.bind_eq_some_iff.1 h
  obtain ⟨⟨s3, q3, b3⟩, A3, h⟩ := Option.bind_eq_some_iff.1 h
  obtain ⟨⟨lv, ct, ok⟩, A4, h⟩ := Option.bind_eq_some_iff.1 h
  obtain ⟨v, A5, h⟩ := Option.bind_eq_some_iff.1 h
  obtain ⟨nm, A6, h⟩ := Option.bind_eq_some_iff.1 h
  exact parse44_short k a0 s1 q1 s2 q2 s3 q3 b1 b2 b3 lv ct v ok nm w hT hl A1 A2 A3 A4 A5 A6 r1 r2 r3 r4 r5 r6 r7 r8 r9 r10 r11 r12 r13 h
end Go.Proofs.YtajoebfkkknjhaaDoor.X
namespace Go.Proofs.YtajoebfkkknjhaaDoor.X
open Go.RowKit Go.Proofs.YtajoebfkkknjhaaDoorW.PrintWords Go.Proofs.YtajoebfkkknjhaaDoorW.PrintLast Go.Proofs.YtajoebfkkknjhaaDoorW.PrintMore
attribute [local go_sem] max2_int min2_int max_two min_two max_three min_three max_four min_four
set_option linter.unusedVariables false
set_option linter.unusedSimpArgs false
attribute [local go_sem high] eqA31
mutual
def command_Text.j1 : Nat → List ByteArray → ByteArray → Int → Int → Int → Int → Int → Int → Int → Int → Int → ByteArray → Int → Option (ByteArray)
 | 0, _, _, _, _, _, _, _, _, _, _, _, _, _ => none
 | k + 1, x3, x102000, x102001, x102002, x102003, x102004, x102005, x102006, x102007, x102008, x102009, x102010, x102011 => (strings_Join.f x3 (⟨#[32]⟩ : ByteArray)).bind fun t134 => ((command_Parse.f k t134).bind fun bt135 => (if bt135.2.2.2.2.2.2.2.2.2.2.2.2 = 0 then (if (!(bt135.1.toList == x102000.toList) || ((!(bt135.2.1 == x102001) || (!(bt135.2.2.1 == x102002))) || (!(bt135.2.2.2.1 == x102003) || ((!(bt135.2.2.2.2.1 == x102004) || (!(bt135.2.2.2.2.2.1 == x102005))) || (((!(bt135.2.2.2.2.2.2.1 == x102006) || (!(bt135.2.2.2.2.2.2.2.1 == x102007))) || ((!(bt135.2.2.2.2.2.2.2.2.1 == x102008) || (!(bt135.2.2.2.2.2.2.2.2.2.1 == x102009))))) || (!(bt135.2.2.2.2.2.2.2.2.2.2.1.toList == x102010.toList) || (!(bt135.2.2.2.2.2.2.2.2.2.2.2.1 == x102011)))))))) = true then (some (⟨#[]⟩ : ByteArray)) else (some t134)) else (some (⟨#[]⟩ : ByteArray))))
def command_Text.j0 : Nat → List ByteArray → Int → Bool → ByteArray → Int → Int → Int → Int → Int → Int → Int → Int → Int → ByteArray → Int → Option (ByteArray)
 | 0, _, _, _, _, _, _, _, _, _, _, _, _, _, _, _ => none
 | k + 1, x3, x17, x47, x102000, x102001, x102002, x102003, x102004, x102005, x102006, x102007, x102008, x102009, x102010, x102011 => if x47 = true then ((addr_Name.f k x102004 x102005).bind fun t126 => (if x3.length < 8796093022208 then (command_Text.j1 k (x3 ++ [t126]) x102000 x102001 x102002 x102003 x102004 x102005 x102006 x102007 x102008 x102009 x102010 x102011) else (none))) else (if x17 = 8 then ((strconv_Itoa.f x102011).bind fun t130 => (if x3.length < 8796093022208 then (command_Text.j1 k (x3 ++ [t130]) x102000 x102001 x102002 x102003 x102004 x102005 x102006 x102007 x102008 x102009 x102010 x102011) else (none))) else (command_Text.j1 k x3 x102000 x102001 x102002 x102003 x102004 x102005 x102006 x102007 x102008 x102009 x102010 x102011))
end
def command_Text.f (k : Nat) (a0_0 : ByteArray) (a0_1 : Int) (a0_2 : Int) (a0_3 : Int) (a0_4 : Int) (a0_5 : Int) (a0_6 : Int) (a0_7 : Int) (a0_8 : Int) (a0_9 : Int) (a0_10 : ByteArray) (a0_11 : Int) : Option (ByteArray) := (label_Text.f k a0_1 a0_2).bind fun t102 => ((command_word.f a0_3).bind fun t103 => ((some (([a0_0, t102, t103] : List ByteArray) : List ByteArray)).bind fun y104 => (if a0_3 = 1 then ((addr_Name.f k a0_4 a0_5).bind fun t107 => ((some (([t107, a0_10] : List ByteArray) : List ByteArray)).bind fun y108 => (if y104.length + y108.length < 8796093022208 then (command_Text.j1 k (y104 ++ y108) a0_0 a0_1 a0_2 a0_3 a0_4 a0_5 a0_6 a0_7 a0_8 a0_9 a0_10 a0_11) else (none)))) else (if a0_3 = 2 then ((span_Text.f k a0_6 a0_7 a0_8 a0_9).bind fun t114 => (if y104.length < 8796093022208 then (command_Text.j1 k (y104 ++ [t114]) a0_0 a0_1 a0_2 a0_3 a0_4 a0_5 a0_6 a0_7 a0_8 a0_9 a0_10 a0_11) else (none))) else (if a0_3 = 3 then ((addr_Name.f k a0_4 a0_5).bind fun t118 => ((span_Text.f k a0_6 a0_7 a0_8 a0_9).bind fun t119 => ((some (([t118, t119] : List ByteArray) : List ByteArray)).bind fun y120 => (if y104.length + y120.length < 8796093022208 then (command_Text.j1 k (y104 ++ y120) a0_0 a0_1 a0_2 a0_3 a0_4 a0_5 a0_6 a0_7 a0_8 a0_9 a0_10 a0_11) else (none))))) else (if a0_3 = 4 then (command_Text.j0 k y104 a0_3 (a0_3 == 4) a0_0 a0_1 a0_2 a0_3 a0_4 a0_5 a0_6 a0_7 a0_8 a0_9 a0_10 a0_11) else (command_Text.j0 k y104 a0_3 (a0_3 == 5) a0_0 a0_1 a0_2 a0_3 a0_4 a0_5 a0_6 a0_7 a0_8 a0_9 a0_10 a0_11)))))))
def command_Text.T1 : Bool × List (List Nat × List Nat) := (true, [([], []), ([0], [0]), ([], []), ([2], [2]), ([3], [3]), ([], []), ([5], [5]), ([6, 4], [6]), ([1, 4, 7], [1, 4, 7]), ([8, 7, 0, 1, 2, 3, 4, 5, 6, 7, 8], [8])])
def command_Text.B1 : List Nat := [0, 1, 0, 4, 12, 0, 32, 124, 255, 511]
theorem command_Text.tab1 : rtab .any (opsOf Tryd.f9 1) = command_Text.T1 := by kernel_rfl
theorem command_Text.bits1 : waitsOk command_Text.T1.2 command_Text.B1 = true := by kernel_rfl
def command_Text.T4 : Bool × List (List Nat × List Nat) := (true, [([], []), ([], []), ([1], [1]), ([2], [2]), ([], []), ([4], [4]), ([3, 5], [3, 5]), ([0, 6, 3], [0, 6]), ([7, 7, 0, 1, 2, 3, 4, 5, 6, 7], [0, 7])])
def command_Text.B4 : List Nat := [0, 0, 2, 6, 0, 16, 62, 127, 255]
theorem command_Text.tab4 : rtab .any (opsOf Tryd.f9 4) = command_Text.T4 := by kernel_rfl
theorem command_Text.bits4 : waitsOk command_Text.T4.2 command_Text.B4 = true := by kernel_rfl
def command_Text.T8 : Bool × List (List Nat × List Nat) := (true, [([], []), ([], []), ([1], [1]), ([2], [2]), ([], []), ([4], [4]), ([5, 3], [5]), ([3, 6], [3, 6]), ([0, 7, 6], [0, 7]), ([8, 8, 0, 1, 2, 3, 4, 5, 6, 7, 8], [0, 8])])
def command_Text.B8 : List Nat := [0, 0, 2, 6, 0, 16, 62, 126, 255, 511]
theorem command_Text.tab8 : rtab .any (opsOf Tryd.f9 8) = command_Text.T8 := by kernel_rfl
theorem command_Text.bits8 : waitsOk command_Text.T8.2 command_Text.B8 = true := by kernel_rfl
theorem command_Text.calls (k : Nat) (a0_0 : ByteArray) (a0_1 : Int) (a0_2 : Int) (a0_3 : Int) (a0_4 : Int) (a0_5 : Int) (a0_6 : Int) (a0_7 : Int) (a0_8 : Int) (a0_9 : Int) (a0_10 : ByteArray) (a0_11 : Int) (r : ByteArray) (w : World) (hT : Aside0 (Tab w)) (h : command_Text.f k a0_0 a0_1 a0_2 a0_3 a0_4 a0_5 a0_6 a0_7 a0_8 a0_9 a0_10 a0_11 = some r) :
  Calls Tryd.prog 9 #[.agg #[.string a0_0, .int .i64 a0_1, .int .u64 a0_2, .int .i64 a0_3, .int .i64 a0_4, .int .i64 a0_5, .int .i64 a0_6, .int .i64 a0_7, .int .i64 a0_8, .int .i64 a0_9, .string a0_10, .int .i64 a0_11]] w fun e w' => e = .returned (.string r) ∧ Below w.heap.size w w' := by
 have hu31 := Tryd.underlying31; have hu25 := Tryd.underlying25; have hu27 := Tryd.underlying27; have hu29 := Tryd.underlying29; have HB := A_ (Below.refl w.heap.size w)
 have H : ((label_Text.f k a0_1 a0_2).bind fun t102 => ((command_word.f a0_3).bind fun t103 => ((some (([a0_0, t102, t103] : List ByteArray) : List ByteArray)).bind fun y104 => (if a0_3 = 1 then ((addr_Name.f k a0_4 a0_5).bind fun t107 => ((some (([t107, a0_10] : List ByteArray) : List ByteArray)).bind fun y108 => (if y104.length + y108.length < 8796093022208 then (command_Text.j1 k (y104 ++ y108) a0_0 a0_1 a0_2 a0_3 a0_4 a0_5 a0_6 a0_7 a0_8 a0_9 a0_10 a0_11) else (none)))) else (if a0_3 = 2 then ((span_Text.f k a0_6 a0_7 a0_8 a0_9).bind fun t114 => (if y104.length < 8796093022208 then (command_Text.j1 k (y104 ++ [t114]) a0_0 a0_1 a0_2 a0_3 a0_4 a0_5 a0_6 a0_7 a0_8 a0_9 a0_10 a0_11) else (none))) else (if a0_3 = 3 then ((addr_Name.f k a0_4 a0_5).bind fun t118 => ((span_Text.f k a0_6 a0_7 a0_8 a0_9).bind fun t119 => ((some (([t118, t119] : List ByteArray) : List ByteArray)).bind fun y120 => (if y104.length + y120.length < 8796093022208 then (command_Text.j1 k (y104 ++ y120) a0_0 a0_1 a0_2 a0_3 a0_4 a0_5 a0_6 a0_7 a0_8 a0_9 a0_10 a0_11) else (none))))) else (if a0_3 = 4 then (command_Text.j0 k y104 a0_3 (a0_3 == 4) a0_0 a0_1 a0_2 a0_3 a0_4 a0_5 a0_6 a0_7 a0_8 a0_9 a0_10 a0_11) else (command_Text.j0 k y104 a0_3 (a0_3 == 5) a0_0 a0_1 a0_2 a0_3 a0_4 a0_5 a0_6 a0_7 a0_8 a0_9 a0_10 a0_11)))))))) = some r := h
 clear h; obtain ⟨t102, A2, H⟩ := bo_ H; obtain ⟨t103, A3, H⟩ := bo_ H; obtain ⟨y104, hy104⟩ : ∃ y_ : List ByteArray, y_ = (([a0_0, t102, t103] : List ByteArray)) := ⟨_, rfl⟩
 replace H : (if a0_3 = 1 then ((addr_Name.f k a0_4 a0_5).bind fun t107 => ((some (([t107, a0_10] : List ByteArray) : List ByteArray)).bind fun y108 => (if y104.length + y108.length < 8796093022208 then (command_Text.j1 k (y104 ++ y108) a0_0 a0_1 a0_2 a0_3 a0_4 a0_5 a0_6 a0_7 a0_8 a0_9 a0_10 a0_11) else (none)))) else (if a0_3 = 2 then ((span_Text.f k a0_6 a0_7 a0_8 a0_9).bind fun t114 => (if y104.length < 8796093022208 then (command_Text.j1 k (y104 ++ [t114]) a0_0 a0_1 a0_2 a0_3 a0_4 a0_5 a0_6 a0_7 a0_8 a0_9 a0_10 a0_11) else (none))) else (if a0_3 = 3 then ((addr_Name.f k a0_4 a0_5).bind fun t118 => ((span_Text.f k a0_6 a0_7 a0_8 a0_9).bind fun t119 => ((some (([t118, t119] : List ByteArray) : List ByteArray)).bind fun y120 => (if y104.length + y120.length < 8796093022208 then (command_Text.j1 k (y104 ++ y120) a0_0 a0_1 a0_2 a0_3 a0_4 a0_5 a0_6 a0_7 a0_8 a0_9 a0_10 a0_11) else (none))))) else (if a0_3 = 4 then (command_Text.j0 k y104 a0_3 (a0_3 == 4) a0_0 a0_1 a0_2 a0_3 a0_4 a0_5 a0_6 a0_7 a0_8 a0_9 a0_10 a0_11) else (command_Text.j0 k y104 a0_3 (a0_3 == 5) a0_0 a0_1 a0_2 a0_3 a0_4 a0_5 a0_6 a0_7 a0_8 a0_9 a0_10 a0_11))))) = some r := by first | (rw [hy104]; with_reducible exact H) | (have H2_ := (Option.bind_some _ _).symm.trans H; rw [hy104]; with_reducible exact H2_) | (have H2_ := (Option.bind_some _ _).symm.trans H; with_reducible exact H2_) | with_reducible exact H | (rw [hy104]; exact H) | exact H
 have Ny104 := A_ hy104; clear hy104; have HC4 := A_ H; clear H
 go_enter Tryd.func9, Tryd.ntmps9
 try go_wp2_with (first | ((with_reducible refine gd_ 1 ?_); refine be_ (N:=1) (cs := #[.string a0_0, .int .i64 a0_1, .int .u64 a0_2, .int .i64 a0_3, .int .i64 a0_4, .int .i64 a0_5, .int .i64 a0_6, .int .i64 a0_7, .int .i64 a0_8, .int .i64 a0_9, .string a0_10, .int .i64 a0_11]) (t:=31) ?_; intro g1 hg w5 hbox hb; have BK101 := A_ (hbox); have GW101 := hs_ HB hg; have GE101 := hs_ HB hg; replace HB := bs_ HB hb; clear hb hbox hg))
 (try (rw [drewN_self w5]; generalize hq_ : World.drewN w5 _ = w5; have n0_ : Aside0 (w5.heap[g1]? = some (.cells #[.string a0_0, .int .i64 a0_1, .int .u64 a0_2, .int .i64 a0_3, .int .i64 a0_4, .int .i64 a0_5, .int .i64 a0_6, .int .i64 a0_7, .int .i64 a0_8, .int .i64 a0_9, .string a0_10, .int .i64 a0_11] 31 (0, 0))) := ⟨by rw [← hq_]; exact (pkx BK101)⟩; have n1_ : Aside0 (Below w.heap.size w w5) := ⟨by rw [← hq_]; exact (pbx HB)⟩; clear BK101 HB hq_; have BK101 := n0_; have HB := n1_; clear n0_ n1_))
 replace BK101 := A_ (blk_drew BK101.out); replace HB := A_ (below_drew1 HB.out)
 refine start_ (n:=10) (S := fun w' => w'.cell? ⟨g1, 0, none⟩ = some (.string a0_0) ∧ w'.cell? ⟨g1, 1, none⟩ = some (.int .i64 a0_1) ∧ w'.cell? ⟨g1, 2, none⟩ = some (.int .u64 a0_2) ∧ w'.cell? ⟨g1, 3, none⟩ = some (.int .i64 a0_3) ∧ w'.cell? ⟨g1, 4, none⟩ = some (.int .i64 a0_4) ∧ w'.cell? ⟨g1, 5, none⟩ = some (.int .i64 a0_5) ∧ w'.cell? ⟨g1, 6, none⟩ = some (.int .i64 a0_6) ∧ w'.cell? ⟨g1, 7, none⟩ = some (.int .i64 a0_7) ∧ w'.cell? ⟨g1, 8, none⟩ = some (.int .i64 a0_8) ∧ w'.cell? ⟨g1, 9, none⟩ = some (.int .i64 a0_9) ∧ w'.cell? ⟨g1, 10, none⟩ = some (.string a0_10) ∧ w'.cell? ⟨g1, 11, none⟩ = some (.int .i64 a0_11)) (ds := []) #[F,F,F,F,F,F,F,F,F,F] (by kernel_rfl) rfl rfl ⟨bc_ BK101 0 rfl, bc_ BK101 1 rfl, bc_ BK101 2 rfl, bc_ BK101 3 rfl, bc_ BK101 4 rfl, bc_ BK101 5 rfl, bc_ BK101 6 rfl, bc_ BK101 7 rfl, bc_ BK101 8 rfl, bc_ BK101 9 rfl, bc_ BK101 10 rfl, bc_ BK101 11 rfl⟩ (fun hHeld => ?_); refine with_tabW command_Text.tab1 command_Text.bits1 (fun HT_ HW_ => ?_)
 generalize w5.drew = w6 at BK101 HB hHeld ⊢; refine pure_ (i:=0) (N:=some 7) (v:=?_) (a':=?_) ⟨m_ 10 1⟩ rfl rfl (ao_ HT_) (fun _ _ _ h=>h) (Or.inl ⟨rfl, ?_⟩) ?_ ?_; rotate_left
 ·intro w'; go_simp; with_reducible rfl
 rotate_left
 ·simp only [q_, i64_w, i32_w]; rfl
 refine pure_ (i:=2) (N:=some 9) (v:=?_) (a':=?_) ⟨m_ 10 5⟩ rfl rfl (ao_ HT_) (fun _ _ _ h=>h) (Or.inl ⟨rfl, ?_⟩) ?_ ?_; rotate_left
 ·intro w'; go_simp; with_reducible rfl
 rotate_left
 ·simp only [q_, i64_w, i32_w]; rfl
 refine pure_ (i:=5) (N:=some 12) (v:=?_) (a':=?_) ⟨m_ 10 37⟩ rfl rfl (ao_ HT_) (fun _ _ _ h=>h) (Or.inl ⟨rfl, ?_⟩) ?_ ?_; rotate_left
 ·intro w'; go_simp; with_reducible rfl
 rotate_left
 ·simp only [q_, i64_w, i32_w]; rfl
 refine take_ (i:=1) (N:=some 8) (v:=?_) (a':=?_) ⟨m_ 10 39⟩ rfl rfl (tw_ HT_ HW_) (fun _ _ _ h=>h) (Or.inl ⟨rfl, ?_⟩) hHeld ?_ ?_; rotate_left
 ·rintro w' ⟨s0, s1, s2, s3, s4, s5, s6, s7, s8, s9, s10, s11⟩; go_simp; with_reducible rfl
 rotate_left
 ·simp only [q_, i64_w, i32_w]; rfl
 refine take_ (i:=3) (N:=some 10) (v:=?_) (a':=?_) ⟨m_ 10 47⟩ rfl rfl (tw_ HT_ HW_) (fun _ _ _ h=>h) (Or.inl ⟨rfl, ?_⟩) hHeld ?_ ?_; rotate_left
 ·rintro w' ⟨s0, s1, s2, s3, s4, s5, s6, s7, s8, s9, s10, s11⟩; go_simp; with_reducible rfl
 rotate_left
 ·simp only [q_, i64_w, i32_w]; rfl
 refine take_ (i:=6) (N:=some 13) (v:=?_) (a':=?_) ⟨m_ 10 111⟩ rfl rfl (tw_ HT_ HW_) (fun _ _ _ h=>h) (Or.inl ⟨rfl, ?_⟩) hHeld ?_ ?_; rotate_left
 ·rintro w' ⟨s0, s1, s2, s3, s4, s5, s6, s7, s8, s9, s10, s11⟩; go_simp; with_reducible rfl
 rotate_left
 ·simp only [q_, i64_w, i32_w]; rfl
 refine one_ (i:=4) (N:=some 11) ⟨m_ 10 127⟩ rfl rfl (oo_ HT_) (by decide) (fun K hK => ?_); refine goes_ Tryd.func22 (by kernel_rfl) rfl #[.agg #[.int .i64 a0_1, .int .u64 a0_2]] (by rfl) rfl rfl ha_ ?_; with_reducible refine (label_Text.calls k a0_1 a0_2 t102 _ (by refine tb_ ?_ hT; repeat' (first | exact pbx HB | exact Below.refl _ _ | assumption | refine below_set ?_ (Aside0.out ?_))) A2.out).mono ?_; rintro e w7 ⟨rfl, hb⟩; refine ⟨_, rfl, ?_⟩
 replace BK101 := bb_ BK101 hb; replace HB := bs_ HB hb; (try clear hb); refine hK.out _ _ ⟨bc_ BK101 0 rfl, bc_ BK101 1 rfl, bc_ BK101 2 rfl, bc_ BK101 3 rfl, bc_ BK101 4 rfl, bc_ BK101 5 rfl, bc_ BK101 6 rfl, bc_ BK101 7 rfl, bc_ BK101 8 rfl, bc_ BK101 9 rfl, bc_ BK101 10 rfl, bc_ BK101 11 rfl⟩ (fun hHeld => ?_); clear hK K; refine norm_ (a':=?_) ?_ ?_; rotate_left
 ·show Act.put _ (some 11) _ = _; simp only [q_, i64_w, i32_w]; rfl
 refine one_ (i:=7) (N:=some 14) ⟨m_ 10 255⟩ rfl rfl (oo_ HT_) (by decide) (fun K hK => ?_); refine goes_ Tryd.func23 (by kernel_rfl) rfl #[.int .i64 a0_3] (by rfl) rfl rfl ha_ ?_; with_reducible refine (command_word.calls a0_3 t103 _ A3.out).mono ?_
 rintro e w' ⟨rfl, ⟨nd, rfl⟩⟩
 refine ⟨_, rfl, ?_⟩; refine hK.out _ _ ⟨bc_ BK101 0 rfl, bc_ BK101 1 rfl, bc_ BK101 2 rfl, bc_ BK101 3 rfl, bc_ BK101 4 rfl, bc_ BK101 5 rfl, bc_ BK101 6 rfl, bc_ BK101 7 rfl, bc_ BK101 8 rfl, bc_ BK101 9 rfl, bc_ BK101 10 rfl, bc_ BK101 11 rfl⟩ (fun hHeld => ?_); clear hK K; refine norm_ (a':=?_) ?_ ?_; rotate_left
 ·show Act.put _ (some 14) _ = _; simp only [q_, i64_w, i32_w]; rfl
 refine one_ (i:=8) (N:=some 15) ⟨m_ 10 511⟩ rfl rfl (oo_ HT_) (by decide) (fun K hK => ?_)
 refine Kd.R_lit_step Kd.string _ 9 ?hg (N:=15) ?hd (xs := ([a0_0, t102, t103] : List ByteArray)) (inner := [.string a0_0, .string t102, .string t103]) (ok := fun _ => True) (okp := fun _ => True) ?hr ?hp (fun _ hk => hk) trivial (Below.refl _ _) (Nat.le_refl _) (by simp) ?_; (case hd => rfl); (case hg => rfl); (case hr => first | (go_simp; done) | (go_simp; rfl)); (case hp => exact (Reps.one (show Kd.M Kd.string _ _ _ a0_0 [.string a0_0] from rfl) (Reps.one (show Kd.M Kd.string _ _ _ t102 [.string t102] from rfl) (Reps.one (show Kd.M Kd.string _ _ _ t103 [.string t103] from rfl) (Reps.none _ _)))))
 intro v105 w8 ho9 hb hg_ hnew_; clear hg_ hnew_; (first | rw [← Ny104.out] at ho9 | (simp only [Int.reduceToNat] at ho9; rw [← Ny104.out] at ho9))
 have HO106 := A_ (Kd.R_lower ho9 (below_size (pbx HB))); replace BK101 := bb_ BK101 hb; replace HB := bs_ HB hb; clear hb ho9; refine hK.out _ _ ⟨bc_ BK101 0 rfl, bc_ BK101 1 rfl, bc_ BK101 2 rfl, bc_ BK101 3 rfl, bc_ BK101 4 rfl, bc_ BK101 5 rfl, bc_ BK101 6 rfl, bc_ BK101 7 rfl, bc_ BK101 8 rfl, bc_ BK101 9 rfl, bc_ BK101 10 rfl, bc_ BK101 11 rfl⟩ (fun hHeld => ?_); clear hK K; refine norm_ (a':=?_) ?_ ?_; rotate_left
 ·show Act.put _ (some 15) _ = _; simp only [q_, i64_w, i32_w]; rfl
 refine pure_ (i:=9) (N:=some 3) (v:=?_) (a':=?_) ⟨m_ 10 1023⟩ rfl rfl (ao_ HT_) (fun _ _ _ h=>h) (Or.inl ⟨rfl, ?_⟩) ?_ ?_; rotate_left
 ·intro w'; go_simp; with_reducible rfl
 rotate_left
 ·simp only [q_, i64_w, i32_w]; rfl
 refine done_ (done_of HT_.out (by kernel_rfl)) ?_
 have hcz10_0 : w8.cell? ⟨g1, 0, none⟩ = some (.string a0_0) := bc_ BK101 0 rfl
 have hcz10_1 : w8.cell? ⟨g1, 1, none⟩ = some (.int .i64 a0_1) := bc_ BK101 1 rfl
 have hcz10_2 : w8.cell? ⟨g1, 2, none⟩ = some (.int .u64 a0_2) := bc_ BK101 2 rfl
 have hcz10_3 : w8.cell? ⟨g1, 3, none⟩ = some (.int .i64 a0_3) := bc_ BK101 3 rfl
 have hcz10_4 : w8.cell? ⟨g1, 4, none⟩ = some (.int .i64 a0_4) := bc_ BK101 4 rfl
 have hcz10_5 : w8.cell? ⟨g1, 5, none⟩ = some (.int .i64 a0_5) := bc_ BK101 5 rfl
 have hcz10_6 : w8.cell? ⟨g1, 6, none⟩ = some (.int .i64 a0_6) := bc_ BK101 6 rfl
 have hcz10_7 : w8.cell? ⟨g1, 7, none⟩ = some (.int .i64 a0_7) := bc_ BK101 7 rfl
 have hcz10_8 : w8.cell? ⟨g1, 8, none⟩ = some (.int .i64 a0_8) := bc_ BK101 8 rfl
 have hcz10_9 : w8.cell? ⟨g1, 9, none⟩ = some (.int .i64 a0_9) := bc_ BK101 9 rfl
 have hcz10_10 : w8.cell? ⟨g1, 10, none⟩ = some (.string a0_10) := bc_ BK101 10 rfl
 have hcz10_11 : w8.cell? ⟨g1, 11, none⟩ = some (.int .i64 a0_11) := bc_ BK101 11 rfl
 have hfz10_0 := blk_frozen BK101.out 0; have hfz10_1 := blk_frozen BK101.out 1; have hfz10_2 := blk_frozen BK101.out 2; have hfz10_3 := blk_frozen BK101.out 3; have hfz10_4 := blk_frozen BK101.out 4; have hfz10_5 := blk_frozen BK101.out 5; have hfz10_6 := blk_frozen BK101.out 6; have hfz10_7 := blk_frozen BK101.out 7; have hfz10_8 := blk_frozen BK101.out 8; have hfz10_9 := blk_frozen BK101.out 9; have hfz10_10 := blk_frozen BK101.out 10; have hfz10_11 := blk_frozen BK101.out 11
 go_upto_block 0 with (fail)
 go_cut [3] (fun v3 wc => ∃ (kq : Nat) (x3_3 : List ByteArray), Aside0 (command_Text.j1 kq x3_3 a0_0 a0_1 a0_2 a0_3 a0_4 a0_5 a0_6 a0_7 a0_8 a0_9 a0_10 a0_11 = some r) ∧ Aside0 (kq ≤ k) ∧ Aside0 (Kd.R Kd.string 9 wc w.heap.size (fun _ => True) v3 x3_3) ∧ Aside0 (wc.heap[g1]? = some (.cells #[.string a0_0, .int .i64 a0_1, .int .u64 a0_2, .int .i64 a0_3, .int .i64 a0_4, .int .i64 a0_5, .int .i64 a0_6, .int .i64 a0_7, .int .i64 a0_8, .int .i64 a0_9, .string a0_10, .int .i64 a0_11] 31 (0, 0))) ∧ Aside0 (Below w.heap.size w wc))
 case first =>
  have H := HC4.out; clear HC4
  by_cases c11 : a0_3 = 1
  ·rw [if_pos c11] at H; have ⟨c11b0,c11b1⟩ := e1_ c11; clear c11; (first | rw [c11b0] | (simp only [i64_w, i32_w]; rw [c11b0]) | skip)
   obtain ⟨t107, A12, H⟩ := bo_ H; obtain ⟨y108, hy108⟩ : ∃ y_ : List ByteArray, y_ = (([t107, a0_10] : List ByteArray)) := ⟨_, rfl⟩
   replace H : (if y104.length + y108.length < 8796093022208 then (command_Text.j1 k (y104 ++ y108) a0_0 a0_1 a0_2 a0_3 a0_4 a0_5 a0_6 a0_7 a0_8 a0_9 a0_10 a0_11) else (none)) = some r := by first | (rw [hy108]; with_reducible exact H) | (have H2_ := (Option.bind_some _ _).symm.trans H; rw [hy108]; with_reducible exact H2_) | (have H2_ := (Option.bind_some _ _).symm.trans H; with_reducible exact H2_) | with_reducible exact H | (rw [hy108]; exact H) | exact H
   have Ny108 := A_ hy108; clear hy108
   by_cases c13 : y104.length + y108.length < 8796093022208
   ·rw [if_pos c13] at H; have LMc13 := A_ c13; clear c13; obtain ⟨y111, hy111⟩ : ∃ y_ : List ByteArray, y_ = (y104 ++ y108) := ⟨_, rfl⟩
    replace H : (command_Text.j1 k y111 a0_0 a0_1 a0_2 a0_3 a0_4 a0_5 a0_6 a0_7 a0_8 a0_9 a0_10 a0_11) = some r := by first | (rw [hy111]; with_reducible exact H) | (have H2_ := (Option.bind_some _ _).symm.trans H; rw [hy111]; with_reducible exact H2_) | (have H2_ := (Option.bind_some _ _).symm.trans H; with_reducible exact H2_) | with_reducible exact H | (rw [hy111]; exact H) | exact H
    have Ny111 := A_ hy111; clear hy111
    have H' := A_ H
    clear H
    try go_wp2
    (try (rw [drewN_self w8]; generalize hq_ : World.drewN w8 _ = w8; have n0_ : Aside0 (Kd.R Kd.string 9 w8 w.heap.size (fun _ => True) v105 y104) := ⟨by rw [← hq_]; exact (ra_ HO106.out)⟩; have n1_ : Aside0 (w8.heap[g1]? = some (.cells #[.string a0_0, .int .i64 a0_1, .int .u64 a0_2, .int .i64 a0_3, .int .i64 a0_4, .int .i64 a0_5, .int .i64 a0_6, .int .i64 a0_7, .int .i64 a0_8, .int .i64 a0_9, .string a0_10, .int .i64 a0_11] 31 (0, 0))) := ⟨by rw [← hq_]; exact (pkx BK101)⟩; have n2_ : Aside0 (Below w.heap.size w w8) := ⟨by rw [← hq_]; exact (pbx HB)⟩; clear HO106 BK101 HB hq_; have HO106 := n0_; have BK101 := n1_; have HB := n2_; clear n0_ n1_ n2_))
    replace HO106 := A_ (Kd.R_drew HO106.out); replace BK101 := A_ (blk_drew BK101.out); replace HB := A_ (below_drew1 HB.out)
    refine start_ (n:=9) (S := fun w' => w'.cell? ⟨g1, 0, none⟩ = some (.string a0_0) ∧ w'.cell? ⟨g1, 1, none⟩ = some (.int .i64 a0_1) ∧ w'.cell? ⟨g1, 2, none⟩ = some (.int .u64 a0_2) ∧ w'.cell? ⟨g1, 3, none⟩ = some (.int .i64 a0_3) ∧ w'.cell? ⟨g1, 4, none⟩ = some (.int .i64 a0_4) ∧ w'.cell? ⟨g1, 5, none⟩ = some (.int .i64 a0_5) ∧ w'.cell? ⟨g1, 6, none⟩ = some (.int .i64 a0_6) ∧ w'.cell? ⟨g1, 7, none⟩ = some (.int .i64 a0_7) ∧ w'.cell? ⟨g1, 8, none⟩ = some (.int .i64 a0_8) ∧ w'.cell? ⟨g1, 9, none⟩ = some (.int .i64 a0_9) ∧ w'.cell? ⟨g1, 10, none⟩ = some (.string a0_10) ∧ w'.cell? ⟨g1, 11, none⟩ = some (.int .i64 a0_11)) (ds := []) #[F,F,F,F,F,F,F,F,F] (by kernel_rfl) rfl rfl ⟨bc_ BK101 0 rfl, bc_ BK101 1 rfl, bc_ BK101 2 rfl, bc_ BK101 3 rfl, bc_ BK101 4 rfl, bc_ BK101 5 rfl, bc_ BK101 6 rfl, bc_ BK101 7 rfl, bc_ BK101 8 rfl, bc_ BK101 9 rfl, bc_ BK101 10 rfl, bc_ BK101 11 rfl⟩ (fun hHeld => ?_); refine with_tabW command_Text.tab4 command_Text.bits4 (fun HT_ HW_ => ?_)
    generalize w8.drew = w14 at HO106 BK101 HB hHeld ⊢; refine pure_ (i:=0) (N:=some 20) (v:=?_) (a':=?_) ⟨m_ 9 1⟩ rfl rfl (ao_ HT_) (fun _ _ _ h=>h) (Or.inl ⟨rfl, ?_⟩) ?_ ?_; rotate_left
    ·intro w'; go_simp; with_reducible rfl
    rotate_left
    ·simp only [q_, i64_w, i32_w]; rfl
    refine pure_ (i:=1) (N:=some 21) (v:=?_) (a':=?_) ⟨m_ 9 3⟩ rfl rfl (ao_ HT_) (fun _ _ _ h=>h) (Or.inl ⟨rfl, ?_⟩) ?_ ?_; rotate_left
    ·intro w'; go_simp; with_reducible rfl
    rotate_left
    ·simp only [q_, i64_w, i32_w]; rfl
    refine pure_ (i:=4) (N:=some 24) (v:=?_) (a':=?_) ⟨m_ 9 19⟩ rfl rfl (ao_ HT_) (fun _ _ _ h=>h) (Or.inl ⟨rfl, ?_⟩) ?_ ?_; rotate_left
    ·intro w'; go_simp; with_reducible rfl
    rotate_left
    ·simp only [q_, i64_w, i32_w]; rfl
    refine take_ (i:=2) (N:=some 22) (v:=?_) (a':=?_) ⟨m_ 9 23⟩ rfl rfl (tw_ HT_ HW_) (fun _ _ _ h=>h) (Or.inl ⟨rfl, ?_⟩) hHeld ?_ ?_; rotate_left
    ·rintro w' ⟨s0, s1, s2, s3, s4, s5, s6, s7, s8, s9, s10, s11⟩; go_simp; with_reducible rfl
    rotate_left
    ·simp only [q_, i64_w, i32_w]; rfl
    refine take_ (i:=5) (N:=some 25) (v:=?_) (a':=?_) ⟨m_ 9 55⟩ rfl rfl (tw_ HT_ HW_) (fun _ _ _ h=>h) (Or.inl ⟨rfl, ?_⟩) hHeld ?_ ?_; rotate_left
    ·rintro w' ⟨s0, s1, s2, s3, s4, s5, s6, s7, s8, s9, s10, s11⟩; go_simp; with_reducible rfl
    rotate_left
    ·simp only [q_, i64_w, i32_w]; rfl
    refine one_ (i:=3) (N:=some 23) ⟨m_ 9 63⟩ rfl rfl (oo_ HT_) (by decide) (fun K hK => ?_); refine goes_ Tryd.func24 (by kernel_rfl) rfl #[.agg #[.int .i64 a0_4, .int .i64 a0_5]] (by rfl) rfl rfl ha_ ?_; with_reducible refine (addr_Name.calls k a0_4 a0_5 t107 _ (by refine tb_ ?_ hT; repeat' (first | exact pbx HB | exact Below.refl _ _ | assumption | refine below_set ?_ (Aside0.out ?_))) A12.out).mono ?_; rintro e w15 ⟨rfl, hb⟩; refine ⟨_, rfl, ?_⟩
    replace HO106 := A_ (Kd.R_below (ra_ HO106.out) hb); replace BK101 := bb_ BK101 hb; replace HB := bs_ HB hb
    (try clear hb); (try clear hk); refine hK.out _ _ ⟨bc_ BK101 0 rfl, bc_ BK101 1 rfl, bc_ BK101 2 rfl, bc_ BK101 3 rfl, bc_ BK101 4 rfl, bc_ BK101 5 rfl, bc_ BK101 6 rfl, bc_ BK101 7 rfl, bc_ BK101 8 rfl, bc_ BK101 9 rfl, bc_ BK101 10 rfl, bc_ BK101 11 rfl⟩ (fun hHeld => ?_); clear hK K; refine norm_ (a':=?_) ?_ ?_; rotate_left
    ·show Act.put _ (some 23) _ = _; simp only [q_, i64_w, i32_w]; rfl
    refine one_ (i:=6) (N:=some 26) ⟨m_ 9 127⟩ rfl rfl (oo_ HT_) (by decide) (fun K hK => ?_)
    refine Kd.R_lit_step Kd.string _ 9 ?hg (N:=26) ?hd (xs := ([t107, a0_10] : List ByteArray)) (inner := [.string t107, .string a0_10]) (ok := fun _ => True) (okp := fun _ => True) ?hr ?hp (fun _ hk => hk) trivial (Below.refl _ _) (Nat.le_refl _) (by simp) ?_; (case hd => rfl); (case hg => rfl); (case hr => first | (go_simp; done) | (go_simp; rfl)); (case hp => exact (Reps.one (show Kd.M Kd.string _ _ _ t107 [.string t107] from rfl) (Reps.one (show Kd.M Kd.string _ _ _ a0_10 [.string a0_10] from rfl) (Reps.none _ _))))
    intro v109 w16 ho17 hb hg_ hnew_; clear hg_ hnew_; (first | rw [← Ny108.out] at ho17 | (simp only [Int.reduceToNat] at ho17; rw [← Ny108.out] at ho17))
    have HO110 := A_ (Kd.R_lower (Kd.R_new' ho17 (Kd.R_lt (ra_ HO106.out))) (below_size (pbx HB))); replace HO106 := A_ (Kd.R_elder' (ra_ HO106.out) (Kd.R_base ho17) hb); replace BK101 := bb_ BK101 hb; replace HB := bs_ HB hb; clear hb ho17; obtain ⟨Ao19, co19, eo19⟩ := Kd.R_slice HO110.out
    (first | subst eo19 | (injection eo19 with f1_ f2_ f3_; have f4_ := f1_.symm; have f5_ := f3_.symm; clear f1_ f2_ f3_; subst f4_; subst f5_)); refine hK.out _ _ ⟨bc_ BK101 0 rfl, bc_ BK101 1 rfl, bc_ BK101 2 rfl, bc_ BK101 3 rfl, bc_ BK101 4 rfl, bc_ BK101 5 rfl, bc_ BK101 6 rfl, bc_ BK101 7 rfl, bc_ BK101 8 rfl, bc_ BK101 9 rfl, bc_ BK101 10 rfl, bc_ BK101 11 rfl⟩ (fun hHeld => ?_); clear hK K; refine norm_ (a':=?_) ?_ ?_; rotate_left
    ·show Act.put _ (some 26) _ = _; simp only [q_, i64_w, i32_w]; rfl
    refine one_ (i:=7) (N:=some 27) ⟨m_ 9 255⟩ rfl rfl (oo_ HT_) (by decide) (fun K hK => ?_)
    refine Kd.R_append_rows_step Kd.string (w0 := w) w.heap.size (by rfl) (.tmp 20) (.tmp 26) 48 9 (.string ⟨#[]⟩) 16 rfl Tryd.underlying48 info9 rfl (by decide) (by omega) v105 y104 y108 _ _ _ (fun k_ => some k_ ≠ (.slice Ao19 y108.length co19 : Value).ownBlock) (fun _ => False) rfl rfl ?aO ?aR (fun _ _ h => h) (fun _ h => h.elim) ?aF ?aB ?aS ?aL ?_
    (case aR => repeat (first | exact (Kd.R_reads' HO110.out).2.2 | (with_reducible refine Kd.C_alloc ?_ _) | (with_reducible refine Kd.C_drewN ?_ _) | (with_reducible refine Kd.C_drew ?_))); (case aB => exact (pbx HB)); (case aF => exact (fun k_ hk => Kd.fresh' (Kd.R_lt (ra_ HO110.out)) k_ hk)); (case aO => exact (by (with_reducible repeat (first | apply Kd.R_alloc | apply Kd.R_drewN | apply Kd.R_drew)); exact Kd.R_mono HO106.out (fun _ hk => hk.2))); (case aS => exact (below_size (pbx HB))); (case aL => have := LMc13.out; omega); intro v112 w18 ho hb hg hat
    rw [← Ny111.out] at ho; have HO113 := A_ (ho); replace BK101 := A_ (blk_grown (pkx BK101) hg (Kd.R_ne HO106.out BK101.out (by decide))); replace HO110 := A_ (Kd.R_after (ok := (fun _ => True)) (ra_ HO110.out) hg hat); replace HB := A_ (hb); clear HO106; clear ho hb hg hat
    refine hK.out _ _ ⟨bc_ BK101 0 rfl, bc_ BK101 1 rfl, bc_ BK101 2 rfl, bc_ BK101 3 rfl, bc_ BK101 4 rfl, bc_ BK101 5 rfl, bc_ BK101 6 rfl, bc_ BK101 7 rfl, bc_ BK101 8 rfl, bc_ BK101 9 rfl, bc_ BK101 10 rfl, bc_ BK101 11 rfl⟩ (fun hHeld => ?_); clear hK K; refine norm_ (a':=?_) ?_ ?_; rotate_left
    ·show Act.put _ (some 27) _ = _; simp only [q_, i64_w, i32_w]; rfl
    refine pure_ (i:=8) (N:=some 3) (v:=?_) (a':=?_) ⟨m_ 9 511⟩ rfl rfl (ao_ HT_) (fun _ _ _ h=>h) (Or.inl ⟨rfl, ?_⟩) ?_ ?_; rotate_left
    ·intro w'; go_simp; with_reducible rfl
    rotate_left
    ·simp only [q_, i64_w, i32_w]; rfl
    refine done_ (done_of HT_.out (by kernel_rfl)) ?_
    try go_wp2
    go_meet
    case rel => exact ⟨_, (y111), H', le_, ⟨by (with_reducible repeat (first | apply Kd.R_alloc | apply Kd.R_drewN | apply Kd.R_drew)); exact Kd.R_mono HO113.out (fun _ hk => trivial)⟩, ⟨pkx BK101⟩, ⟨pbx HB⟩⟩
   ·rw [if_neg c13] at H
    exact absurd H (by simp)
  ·rw [if_neg c11] at H; have ⟨c11b0,c11b1⟩ := e0_ c11; (first | rw [c11b0] | (simp only [i64_w, i32_w]; rw [c11b0]) | skip)
   by_cases c20 : a0_3 = 2
   ·rw [if_pos c20] at H; have ⟨c20b0,c20b1⟩ := e1_ c20; clear c20; obtain ⟨t114, A21, H⟩ := bo_ H
    by_cases c22 : y104.length < 8796093022208
    ·rw [if_pos c22] at H; have LMc22 := A_ c22; clear c22; obtain ⟨y115, hy115⟩ : ∃ y_ : List ByteArray, y_ = (y104 ++ [t114]) := ⟨_, rfl⟩
     replace H : (command_Text.j1 k y115 a0_0 a0_1 a0_2 a0_3 a0_4 a0_5 a0_6 a0_7 a0_8 a0_9 a0_10 a0_11) = some r := by first | (rw [hy115]; with_reducible exact H) | (have H2_ := (Option.bind_some _ _).symm.trans H; rw [hy115]; with_reducible exact H2_) | (have H2_ := (Option.bind_some _ _).symm.trans H; with_reducible exact H2_) | with_reducible exact H | (rw [hy115]; exact H) | exact H
     have Ny115 := A_ hy115; clear hy115
     have H' := A_ H
     clear H
     have hcz23_0 : w8.cell? ⟨g1, 0, none⟩ = some (.string a0_0) := bc_ BK101 0 rfl
     have hcz23_1 : w8.cell? ⟨g1, 1, none⟩ = some (.int .i64 a0_1) := bc_ BK101 1 rfl
     have hcz23_2 : w8.cell? ⟨g1, 2, none⟩ = some (.int .u64 a0_2) := bc_ BK101 2 rfl
     have hcz23_3 : w8.cell? ⟨g1, 3, none⟩ = some (.int .i64 a0_3) := bc_ BK101 3 rfl
     have hcz23_4 : w8.cell? ⟨g1, 4, none⟩ = some (.int .i64 a0_4) := bc_ BK101 4 rfl
     have hcz23_5 : w8.cell? ⟨g1, 5, none⟩ = some (.int .i64 a0_5) := bc_ BK101 5 rfl
     have hcz23_6 : w8.cell? ⟨g1, 6, none⟩ = some (.int .i64 a0_6) := bc_ BK101 6 rfl
     have hcz23_7 : w8.cell? ⟨g1, 7, none⟩ = some (.int .i64 a0_7) := bc_ BK101 7 rfl
     have hcz23_8 : w8.cell? ⟨g1, 8, none⟩ = some (.int .i64 a0_8) := bc_ BK101 8 rfl
     have hcz23_9 : w8.cell? ⟨g1, 9, none⟩ = some (.int .i64 a0_9) := bc_ BK101 9 rfl
     have hcz23_10 : w8.cell? ⟨g1, 10, none⟩ = some (.string a0_10) := bc_ BK101 10 rfl
     have hcz23_11 : w8.cell? ⟨g1, 11, none⟩ = some (.int .i64 a0_11) := bc_ BK101 11 rfl
     have hfz23_0 := blk_frozen BK101.out 0; have hfz23_1 := blk_frozen BK101.out 1; have hfz23_2 := blk_frozen BK101.out 2; have hfz23_3 := blk_frozen BK101.out 3; have hfz23_4 := blk_frozen BK101.out 4; have hfz23_5 := blk_frozen BK101.out 5; have hfz23_6 := blk_frozen BK101.out 6; have hfz23_7 := blk_frozen BK101.out 7; have hfz23_8 := blk_frozen BK101.out 8; have hfz23_9 := blk_frozen BK101.out 9; have hfz23_10 := blk_frozen BK101.out 10; have hfz23_11 := blk_frozen BK101.out 11
     go_wp2_with (first | ((with_reducible refine gate_callee (f:=25) rfl ?_); refine gL_ (some 33) rfl rfl Tryd.func25 rfl #[.agg #[.int .i64 a0_6, .int .i64 a0_7, .int .i64 a0_8, .int .i64 a0_9]] rfl ?_; (with_reducible refine (span_Text.calls k a0_6 a0_7 a0_8 a0_9 t114 _ (by refine tb_ ?_ hT; repeat' (first | exact pbx HB | exact Below.refl _ _ | assumption | refine below_set ?_ (Aside0.out ?_))) A21.out).mono ?_); rintro e w24 ⟨rfl, hb⟩; refine ⟨_, rfl, ?_⟩; replace HO106 := A_ (Kd.R_below (ra_ HO106.out) hb); replace BK101 := bb_ BK101 hb; replace HB := bs_ HB hb; (try clear hb); (try clear hk); ) | ((with_reducible refine gate_builtin (b := .append) (xs := #[.tmp 30, .tmp 34]) rfl ?_); at_builtin; refine Kd.R_append Kd.string (w0 := w) w.heap.size rfl (.tmp 30) (.tmp 34) 48 9 (.string ⟨#[]⟩) 16 rfl Tryd.underlying48 info9 rfl (by decide) (by omega) v105 y104 t114 [.string t114] (fun _ => True) (fun _ => False) rfl rfl ?aP (fun _ hk => hk.elim) ?aF ?aO ?aB ?aS ?aL ?_; (case aP => exact rfl); (case aB => exact (pbx HB)); (case aF => exact (fun _ _ => trivial)); (case aO => exact (ra_ HO106.out)); (case aS => exact (below_size (pbx HB))); (case aL => have := LMc22.out; omega); intro v116 w25 ho hb hg hat; rw [← Ny115.out] at ho; have HO117 := A_ (ho); replace BK101 := A_ (blk_grown (pkx BK101) hg (Kd.R_ne HO106.out BK101.out (by decide))); replace HB := A_ (hb); clear HO106; clear ho hb hg hat))
     go_meet
     case rel => exact ⟨_, (y115), H', le_, ⟨ra_ HO117.out⟩, ⟨pkx BK101⟩, ⟨pbx HB⟩⟩
    ·rw [if_neg c22] at H
     exact absurd H (by simp)
   ·rw [if_neg c20] at H; have ⟨c20b0,c20b1⟩ := e0_ c20
    by_cases c26 : a0_3 = 3
    ·rw [if_pos c26] at H; have ⟨c26b0,c26b1⟩ := e1_ c26; clear c26; obtain ⟨t118, A27, H⟩ := bo_ H; obtain ⟨t119, A28, H⟩ := bo_ H; obtain ⟨y120, hy120⟩ : ∃ y_ : List ByteArray, y_ = (([t118, t119] : List ByteArray)) := ⟨_, rfl⟩
     replace H : (if y104.length + y120.length < 8796093022208 then (command_Text.j1 k (y104 ++ y120) a0_0 a0_1 a0_2 a0_3 a0_4 a0_5 a0_6 a0_7 a0_8 a0_9 a0_10 a0_11) else (none)) = some r := by first | (rw [hy120]; with_reducible exact H) | (have H2_ := (Option.bind_some _ _).symm.trans H; rw [hy120]; with_reducible exact H2_) | (have H2_ := (Option.bind_some _ _).symm.trans H; with_reducible exact H2_) | with_reducible exact H | (rw [hy120]; exact H) | exact H
     have Ny120 := A_ hy120; clear hy120
     by_cases c29 : y104.length + y120.length < 8796093022208
     ·rw [if_pos c29] at H; have LMc29 := A_ c29; clear c29; obtain ⟨y123, hy123⟩ : ∃ y_ : List ByteArray, y_ = (y104 ++ y120) := ⟨_, rfl⟩
      replace H : (command_Text.j1 k y123 a0_0 a0_1 a0_2 a0_3 a0_4 a0_5 a0_6 a0_7 a0_8 a0_9 a0_10 a0_11) = some r := by first | (rw [hy123]; with_reducible exact H) | (have H2_ := (Option.bind_some _ _).symm.trans H; rw [hy123]; with_reducible exact H2_) | (have H2_ := (Option.bind_some _ _).symm.trans H; with_reducible exact H2_) | with_reducible exact H | (rw [hy123]; exact H) | exact H
      have Ny123 := A_ hy123; clear hy123
      have H' := A_ H
      clear H
      try go_wp2
      (try (rw [drewN_self w8]; generalize hq_ : World.drewN w8 _ = w8; have n0_ : Aside0 (Kd.R Kd.string 9 w8 w.heap.size (fun _ => True) v105 y104) := ⟨by rw [← hq_]; exact (ra_ HO106.out)⟩; have n1_ : Aside0 (w8.heap[g1]? = some (.cells #[.string a0_0, .int .i64 a0_1, .int .u64 a0_2, .int .i64 a0_3, .int .i64 a0_4, .int .i64 a0_5, .int .i64 a0_6, .int .i64 a0_7, .int .i64 a0_8, .int .i64 a0_9, .string a0_10, .int .i64 a0_11] 31 (0, 0))) := ⟨by rw [← hq_]; exact (pkx BK101)⟩; have n2_ : Aside0 (Below w.heap.size w w8) := ⟨by rw [← hq_]; exact (pbx HB)⟩; clear HO106 BK101 HB hq_; have HO106 := n0_; have BK101 := n1_; have HB := n2_; clear n0_ n1_ n2_))
      replace HO106 := A_ (Kd.R_drew HO106.out); replace BK101 := A_ (blk_drew BK101.out); replace HB := A_ (below_drew1 HB.out)
      refine start_ (n:=10) (S := fun w' => w'.cell? ⟨g1, 0, none⟩ = some (.string a0_0) ∧ w'.cell? ⟨g1, 1, none⟩ = some (.int .i64 a0_1) ∧ w'.cell? ⟨g1, 2, none⟩ = some (.int .u64 a0_2) ∧ w'.cell? ⟨g1, 3, none⟩ = some (.int .i64 a0_3) ∧ w'.cell? ⟨g1, 4, none⟩ = some (.int .i64 a0_4) ∧ w'.cell? ⟨g1, 5, none⟩ = some (.int .i64 a0_5) ∧ w'.cell? ⟨g1, 6, none⟩ = some (.int .i64 a0_6) ∧ w'.cell? ⟨g1, 7, none⟩ = some (.int .i64 a0_7) ∧ w'.cell? ⟨g1, 8, none⟩ = some (.int .i64 a0_8) ∧ w'.cell? ⟨g1, 9, none⟩ = some (.int .i64 a0_9) ∧ w'.cell? ⟨g1, 10, none⟩ = some (.string a0_10) ∧ w'.cell? ⟨g1, 11, none⟩ = some (.int .i64 a0_11)) (ds := []) #[F,F,F,F,F,F,F,F,F,F] (by kernel_rfl) rfl rfl ⟨bc_ BK101 0 rfl, bc_ BK101 1 rfl, bc_ BK101 2 rfl, bc_ BK101 3 rfl, bc_ BK101 4 rfl, bc_ BK101 5 rfl, bc_ BK101 6 rfl, bc_ BK101 7 rfl, bc_ BK101 8 rfl, bc_ BK101 9 rfl, bc_ BK101 10 rfl, bc_ BK101 11 rfl⟩ (fun hHeld => ?_); refine with_tabW command_Text.tab8 command_Text.bits8 (fun HT_ HW_ => ?_)
      generalize w8.drew = w30 at HO106 BK101 HB hHeld ⊢; refine pure_ (i:=0) (N:=some 38) (v:=?_) (a':=?_) ⟨m_ 10 1⟩ rfl rfl (ao_ HT_) (fun _ _ _ h=>h) (Or.inl ⟨rfl, ?_⟩) ?_ ?_; rotate_left
      ·intro w'; go_simp; with_reducible rfl
      rotate_left
      ·simp only [q_, i64_w, i32_w]; rfl
      refine pure_ (i:=1) (N:=some 39) (v:=?_) (a':=?_) ⟨m_ 10 3⟩ rfl rfl (ao_ HT_) (fun _ _ _ h=>h) (Or.inl ⟨rfl, ?_⟩) ?_ ?_; rotate_left
      ·intro w'; go_simp; with_reducible rfl
      rotate_left
      ·simp only [q_, i64_w, i32_w]; rfl
      refine pure_ (i:=4) (N:=some 42) (v:=?_) (a':=?_) ⟨m_ 10 19⟩ rfl rfl (ao_ HT_) (fun _ _ _ h=>h) (Or.inl ⟨rfl, ?_⟩) ?_ ?_; rotate_left
      ·intro w'; go_simp; with_reducible rfl
      rotate_left
      ·simp only [q_, i64_w, i32_w]; rfl
      refine take_ (i:=2) (N:=some 40) (v:=?_) (a':=?_) ⟨m_ 10 23⟩ rfl rfl (tw_ HT_ HW_) (fun _ _ _ h=>h) (Or.inl ⟨rfl, ?_⟩) hHeld ?_ ?_; rotate_left
      ·rintro w' ⟨s0, s1, s2, s3, s4, s5, s6, s7, s8, s9, s10, s11⟩; go_simp; with_reducible rfl
      rotate_left
      ·simp only [q_, i64_w, i32_w]; rfl
      refine take_ (i:=5) (N:=some 43) (v:=?_) (a':=?_) ⟨m_ 10 55⟩ rfl rfl (tw_ HT_ HW_) (fun _ _ _ h=>h) (Or.inl ⟨rfl, ?_⟩) hHeld ?_ ?_; rotate_left
      ·rintro w' ⟨s0, s1, s2, s3, s4, s5, s6, s7, s8, s9, s10, s11⟩; go_simp; with_reducible rfl
      rotate_left
      ·simp only [q_, i64_w, i32_w]; rfl
      refine one_ (i:=3) (N:=some 41) ⟨m_ 10 63⟩ rfl rfl (oo_ HT_) (by decide) (fun K hK => ?_); refine goes_ Tryd.func24 (by kernel_rfl) rfl #[.agg #[.int .i64 a0_4, .int .i64 a0_5]] (by rfl) rfl rfl ha_ ?_; with_reducible refine (addr_Name.calls k a0_4 a0_5 t118 _ (by refine tb_ ?_ hT; repeat' (first | exact pbx HB | exact Below.refl _ _ | assumption | refine below_set ?_ (Aside0.out ?_))) A27.out).mono ?_; rintro e w31 ⟨rfl, hb⟩; refine ⟨_, rfl, ?_⟩
      replace HO106 := A_ (Kd.R_below (ra_ HO106.out) hb); replace BK101 := bb_ BK101 hb; replace HB := bs_ HB hb
      (try clear hb); (try clear hk); refine hK.out _ _ ⟨bc_ BK101 0 rfl, bc_ BK101 1 rfl, bc_ BK101 2 rfl, bc_ BK101 3 rfl, bc_ BK101 4 rfl, bc_ BK101 5 rfl, bc_ BK101 6 rfl, bc_ BK101 7 rfl, bc_ BK101 8 rfl, bc_ BK101 9 rfl, bc_ BK101 10 rfl, bc_ BK101 11 rfl⟩ (fun hHeld => ?_); clear hK K; refine norm_ (a':=?_) ?_ ?_; rotate_left
      ·show Act.put _ (some 41) _ = _; simp only [q_, i64_w, i32_w]; rfl
      refine one_ (i:=6) (N:=some 44) ⟨m_ 10 127⟩ rfl rfl (oo_ HT_) (by decide) (fun K hK => ?_); refine goes_ Tryd.func25 (by kernel_rfl) rfl #[.agg #[.int .i64 a0_6, .int .i64 a0_7, .int .i64 a0_8, .int .i64 a0_9]] (by rfl) rfl rfl ha_ ?_; with_reducible refine (span_Text.calls k a0_6 a0_7 a0_8 a0_9 t119 _ (by refine tb_ ?_ hT; repeat' (first | exact pbx HB | exact Below.refl _ _ | assumption | refine below_set ?_ (Aside0.out ?_))) A28.out).mono ?_; rintro e w32 ⟨rfl, hb⟩; refine ⟨_, rfl, ?_⟩
      replace HO106 := A_ (Kd.R_below (ra_ HO106.out) hb); replace BK101 := bb_ BK101 hb; replace HB := bs_ HB hb
      (try clear hb); (try clear hk); refine hK.out _ _ ⟨bc_ BK101 0 rfl, bc_ BK101 1 rfl, bc_ BK101 2 rfl, bc_ BK101 3 rfl, bc_ BK101 4 rfl, bc_ BK101 5 rfl, bc_ BK101 6 rfl, bc_ BK101 7 rfl, bc_ BK101 8 rfl, bc_ BK101 9 rfl, bc_ BK101 10 rfl, bc_ BK101 11 rfl⟩ (fun hHeld => ?_); clear hK K; refine norm_ (a':=?_) ?_ ?_; rotate_left
      ·show Act.put _ (some 44) _ = _; simp only [q_, i64_w, i32_w]; rfl
      refine one_ (i:=7) (N:=some 45) ⟨m_ 10 255⟩ rfl rfl (oo_ HT_) (by decide) (fun K hK => ?_)
      refine Kd.R_lit_step Kd.string _ 9 ?hg (N:=45) ?hd (xs := ([t118, t119] : List ByteArray)) (inner := [.string t118, .string t119]) (ok := fun _ => True) (okp := fun _ => True) ?hr ?hp (fun _ hk => hk) trivial (Below.refl _ _) (Nat.le_refl _) (by simp) ?_; (case hd => rfl); (case hg => rfl); (case hr => first | (go_simp; done) | (go_simp; rfl)); (case hp => exact (Reps.one (show Kd.M Kd.string _ _ _ t118 [.string t118] from rfl) (Reps.one (show Kd.M Kd.string _ _ _ t119 [.string t119] from rfl) (Reps.none _ _))))
      intro v121 w33 ho34 hb hg_ hnew_; clear hg_ hnew_; (first | rw [← Ny120.out] at ho34 | (simp only [Int.reduceToNat] at ho34; rw [← Ny120.out] at ho34))
      have HO122 := A_ (Kd.R_lower (Kd.R_new' ho34 (Kd.R_lt (ra_ HO106.out))) (below_size (pbx HB))); replace HO106 := A_ (Kd.R_elder' (ra_ HO106.out) (Kd.R_base ho34) hb); replace BK101 := bb_ BK101 hb; replace HB := bs_ HB hb; clear hb ho34; obtain ⟨Ao36, co36, eo36⟩ := Kd.R_slice HO122.out
      (first | subst eo36 | (injection eo36 with f1_ f2_ f3_; have f4_ := f1_.symm; have f5_ := f3_.symm; clear f1_ f2_ f3_; subst f4_; subst f5_)); refine hK.out _ _ ⟨bc_ BK101 0 rfl, bc_ BK101 1 rfl, bc_ BK101 2 rfl, bc_ BK101 3 rfl, bc_ BK101 4 rfl, bc_ BK101 5 rfl, bc_ BK101 6 rfl, bc_ BK101 7 rfl, bc_ BK101 8 rfl, bc_ BK101 9 rfl, bc_ BK101 10 rfl, bc_ BK101 11 rfl⟩ (fun hHeld => ?_); clear hK K; refine norm_ (a':=?_) ?_ ?_; rotate_left
      ·show Act.put _ (some 45) _ = _; simp only [q_, i64_w, i32_w]; rfl
      refine one_ (i:=8) (N:=some 46) ⟨m_ 10 511⟩ rfl rfl (oo_ HT_) (by decide) (fun K hK => ?_)
      refine Kd.R_append_rows_step Kd.string (w0 := w) w.heap.size (by rfl) (.tmp 38) (.tmp 45) 48 9 (.string ⟨#[]⟩) 16 rfl Tryd.underlying48 info9 rfl (by decide) (by omega) v105 y104 y120 _ _ _ (fun k_ => some k_ ≠ (.slice Ao36 y120.length co36 : Value).ownBlock) (fun _ => False) rfl rfl ?aO ?aR (fun _ _ h => h) (fun _ h => h.elim) ?aF ?aB ?aS ?aL ?_
      (case aR => repeat (first | exact (Kd.R_reads' HO122.out).2.2 | (with_reducible refine Kd.C_alloc ?_ _) | (with_reducible refine Kd.C_drewN ?_ _) | (with_reducible refine Kd.C_drew ?_))); (case aB => exact (pbx HB)); (case aF => exact (fun k_ hk => Kd.fresh' (Kd.R_lt (ra_ HO122.out)) k_ hk)); (case aO => exact (by (with_reducible repeat (first | apply Kd.R_alloc | apply Kd.R_drewN | apply Kd.R_drew)); exact Kd.R_mono HO106.out (fun _ hk => hk.2))); (case aS => exact (below_size (pbx HB))); (case aL => have := LMc29.out; omega); intro v124 w35 ho hb hg hat
      rw [← Ny123.out] at ho; have HO125 := A_ (ho); replace BK101 := A_ (blk_grown (pkx BK101) hg (Kd.R_ne HO106.out BK101.out (by decide))); replace HO122 := A_ (Kd.R_after (ok := (fun _ => True)) (ra_ HO122.out) hg hat); replace HB := A_ (hb); clear HO106; clear ho hb hg hat
      refine hK.out _ _ ⟨bc_ BK101 0 rfl, bc_ BK101 1 rfl, bc_ BK101 2 rfl, bc_ BK101 3 rfl, bc_ BK101 4 rfl, bc_ BK101 5 rfl, bc_ BK101 6 rfl, bc_ BK101 7 rfl, bc_ BK101 8 rfl, bc_ BK101 9 rfl, bc_ BK101 10 rfl, bc_ BK101 11 rfl⟩ (fun hHeld => ?_); clear hK K; refine norm_ (a':=?_) ?_ ?_; rotate_left
      ·show Act.put _ (some 46) _ = _; simp only [q_, i64_w, i32_w]; rfl
      refine pure_ (i:=9) (N:=some 3) (v:=?_) (a':=?_) ⟨m_ 10 1023⟩ rfl rfl (ao_ HT_) (fun _ _ _ h=>h) (Or.inl ⟨rfl, ?_⟩) ?_ ?_; rotate_left
      ·intro w'; go_simp; with_reducible rfl
      rotate_left
      ·simp only [q_, i64_w, i32_w]; rfl
      refine done_ (done_of HT_.out (by kernel_rfl)) ?_
      try go_wp2
      go_meet
      case rel => exact ⟨_, (y123), H', le_, ⟨by (with_reducible repeat (first | apply Kd.R_alloc | apply Kd.R_drewN | apply Kd.R_drew)); exact Kd.R_mono HO125.out (fun _ hk => trivial)⟩, ⟨pkx BK101⟩, ⟨pbx HB⟩⟩
     ·rw [if_neg c29] at H
      exact absurd H (by simp)
    ·rw [if_neg c26] at H; have ⟨c26b0,c26b1⟩ := e0_ c26; have HC37 := A_ H; clear H
     go_upto_if 47 with (fail)
     go_cut [47] (fun v47 wc => ∃ (kq : Nat) (x47_36 : Bool), v47 = .bool x47_36 ∧ Aside0 (command_Text.j0 kq y104 a0_3 x47_36 a0_0 a0_1 a0_2 a0_3 a0_4 a0_5 a0_6 a0_7 a0_8 a0_9 a0_10 a0_11 = some r) ∧ Aside0 (kq ≤ k) ∧ Aside0 (Kd.R Kd.string 9 wc w.heap.size (fun _ => True) v105 y104) ∧ Aside0 (wc.heap[g1]? = some (.cells #[.string a0_0, .int .i64 a0_1, .int .u64 a0_2, .int .i64 a0_3, .int .i64 a0_4, .int .i64 a0_5, .int .i64 a0_6, .int .i64 a0_7, .int .i64 a0_8, .int .i64 a0_9, .string a0_10, .int .i64 a0_11] 31 (0, 0))) ∧ Aside0 (Below w.heap.size w wc))
     case first =>
      have H := HC37.out; clear HC37
      by_cases c38 : a0_3 = 4
      ·rw [if_pos c38] at H; have ⟨c38b0,c38b1⟩ := e1_ c38; clear c38; (first | rw [c38b0] | (simp only [i64_w, i32_w]; rw [c38b0]) | skip)
       have H' := A_ H
       clear H
       go_wp2
       go_meet
       case rel => exact ⟨_, ((a0_3 == 4)), sq_, H', le_, ⟨ra_ HO106.out⟩, ⟨pkx BK101⟩, ⟨pbx HB⟩⟩
      ·rw [if_neg c38] at H; have ⟨c38b0,c38b1⟩ := e0_ c38; (first | rw [c38b0] | (simp only [i64_w, i32_w]; rw [c38b0]) | skip)
       have H' := A_ H
       clear H
       go_wp2
       go_meet
       case rel => exact ⟨_, ((a0_3 == 5)), sq_, H', le_, ⟨ra_ HO106.out⟩, ⟨pkx BK101⟩, ⟨pbx HB⟩⟩
     case rest =>
      clear HC37; (try clear c11); (try clear c11b0); (try clear c11b1); (try clear c20); (try clear c20b0); (try clear c20b1); (try clear c26); (try clear c26b0); (try clear c26b1); (try clear hcz10_0); (try clear hcz10_1); (try clear hcz10_10); (try clear hcz10_11); (try clear hcz10_2); (try clear hcz10_3); (try clear hcz10_4); (try clear hcz10_5); (try clear hcz10_6); (try clear hcz10_7); (try clear hcz10_8); (try clear hcz10_9)
      (try clear hfz10_0); (try clear hfz10_1); (try clear hfz10_10); (try clear hfz10_11); (try clear hfz10_2); (try clear hfz10_3); (try clear hfz10_4); (try clear hfz10_5); (try clear hfz10_6); (try clear hfz10_7); (try clear hfz10_8); (try clear hfz10_9); obtain ⟨kq, x47_36, rfl, HA, HJ36, HO_3, BK101, HB⟩ := hcut
      cases kq with
      | zero => exact absurd HA.out (by simp [command_Text.j0])
      | succ kj36 =>
       have H := HA.out; clear HA
       simp only [command_Text.j0] at H
       by_cases c39 : x47_36 = true
       ·subst c39
        obtain ⟨t126, A40, H⟩ := bo_ (it_ H)
        by_cases c41 : y104.length < 8796093022208
        ·rw [if_pos c41] at H; have LMc41 := A_ c41; clear c41; obtain ⟨y127, hy127⟩ : ∃ y_ : List ByteArray, y_ = (y104 ++ [t126]) := ⟨_, rfl⟩
         replace H : (command_Text.j1 kj36 y127 a0_0 a0_1 a0_2 a0_3 a0_4 a0_5 a0_6 a0_7 a0_8 a0_9 a0_10 a0_11) = some r := by first | (rw [hy127]; with_reducible exact H) | (have H2_ := (Option.bind_some _ _).symm.trans H; rw [hy127]; with_reducible exact H2_) | (have H2_ := (Option.bind_some _ _).symm.trans H; with_reducible exact H2_) | with_reducible exact H | (rw [hy127]; exact H) | exact H
         have Ny127 := A_ hy127; clear hy127
         have H' := A_ H
         clear H
         have hcz42_0 : wc.cell? ⟨g1, 0, none⟩ = some (.string a0_0) := bc_ BK101 0 rfl
         have hcz42_1 : wc.cell? ⟨g1, 1, none⟩ = some (.int .i64 a0_1) := bc_ BK101 1 rfl
         have hcz42_2 : wc.cell? ⟨g1, 2, none⟩ = some (.int .u64 a0_2) := bc_ BK101 2 rfl
         have hcz42_3 : wc.cell? ⟨g1, 3, none⟩ = some (.int .i64 a0_3) := bc_ BK101 3 rfl
         have hcz42_4 : wc.cell? ⟨g1, 4, none⟩ = some (.int .i64 a0_4) := bc_ BK101 4 rfl
         have hcz42_5 : wc.cell? ⟨g1, 5, none⟩ = some (.int .i64 a0_5) := bc_ BK101 5 rfl
         have hcz42_6 : wc.cell? ⟨g1, 6, none⟩ = some (.int .i64 a0_6) := bc_ BK101 6 rfl
         have hcz42_7 : wc.cell? ⟨g1, 7, none⟩ = some (.int .i64 a0_7) := bc_ BK101 7 rfl
         have hcz42_8 : wc.cell? ⟨g1, 8, none⟩ = some (.int .i64 a0_8) := bc_ BK101 8 rfl
         have hcz42_9 : wc.cell? ⟨g1, 9, none⟩ = some (.int .i64 a0_9) := bc_ BK101 9 rfl
         have hcz42_10 : wc.cell? ⟨g1, 10, none⟩ = some (.string a0_10) := bc_ BK101 10 rfl
         have hcz42_11 : wc.cell? ⟨g1, 11, none⟩ = some (.int .i64 a0_11) := bc_ BK101 11 rfl
         have hfz42_0 := blk_frozen BK101.out 0; have hfz42_1 := blk_frozen BK101.out 1; have hfz42_2 := blk_frozen BK101.out 2; have hfz42_3 := blk_frozen BK101.out 3; have hfz42_4 := blk_frozen BK101.out 4; have hfz42_5 := blk_frozen BK101.out 5; have hfz42_6 := blk_frozen BK101.out 6; have hfz42_7 := blk_frozen BK101.out 7; have hfz42_8 := blk_frozen BK101.out 8; have hfz42_9 := blk_frozen BK101.out 9; have hfz42_10 := blk_frozen BK101.out 10; have hfz42_11 := blk_frozen BK101.out 11
         go_wp2_with (first | ((with_reducible refine gate_callee (f:=24) rfl ?_); refine gL_ (some 53) rfl rfl Tryd.func24 rfl #[.agg #[.int .i64 a0_4, .int .i64 a0_5]] rfl ?_; (with_reducible refine (addr_Name.calls kj36 a0_4 a0_5 t126 _ (by refine tb_ ?_ hT; repeat' (first | exact pbx HB | exact Below.refl _ _ | assumption | refine below_set ?_ (Aside0.out ?_))) A40.out).mono ?_); rintro e w43 ⟨rfl, hb⟩; refine ⟨_, rfl, ?_⟩; replace HO_3 := A_ (Kd.R_below (ra_ HO_3.out) hb); replace BK101 := bb_ BK101 hb; replace HB := bs_ HB hb; (try clear hb); (try clear hk); ) | ((with_reducible refine gate_builtin (b := .append) (xs := #[.tmp 50, .tmp 54]) rfl ?_); at_builtin; refine Kd.R_append Kd.string (w0 := w) w.heap.size rfl (.tmp 50) (.tmp 54) 48 9 (.string ⟨#[]⟩) 16 rfl Tryd.underlying48 info9 rfl (by decide) (by omega) v105 y104 t126 [.string t126] (fun _ => True) (fun _ => False) rfl rfl ?aP (fun _ hk => hk.elim) ?aF ?aO ?aB ?aS ?aL ?_; (case aP => exact rfl); (case aB => exact (pbx HB)); (case aF => exact (fun _ _ => trivial)); (case aO => exact (ra_ HO_3.out)); (case aS => exact (below_size (pbx HB))); (case aL => have := LMc41.out; omega); intro v128 w44 ho hb hg hat; rw [← Ny127.out] at ho; have HO129 := A_ (ho); replace BK101 := A_ (blk_grown (pkx BK101) hg (Kd.R_ne HO_3.out BK101.out (by decide))); replace HB := A_ (hb); clear HO_3; clear ho hb hg hat))
         go_meet
         case rel => exact ⟨_, (y127), H', ⟨by have := HJ36.out; first | omega | exact Nat.le_refl _⟩, ⟨ra_ HO129.out⟩, ⟨pkx BK101⟩, ⟨pbx HB⟩⟩
        ·rw [if_neg c41] at H
         exact absurd H (by simp)
       ·replace c39 := Bool.eq_false_iff.mpr c39; subst c39
        replace H := ie_ H
        by_cases c45 : a0_3 = 8
        ·rw [if_pos c45] at H; have ⟨c45b0,c45b1⟩ := e1_ c45; clear c45; obtain ⟨t130, A46, H⟩ := bo_ H
         by_cases c47 : y104.length < 8796093022208
         ·rw [if_pos c47] at H; have LMc47 := A_ c47; clear c47; obtain ⟨y131, hy131⟩ : ∃ y_ : List ByteArray, y_ = (y104 ++ [t130]) := ⟨_, rfl⟩
          replace H : (command_Text.j1 kj36 y131 a0_0 a0_1 a0_2 a0_3 a0_4 a0_5 a0_6 a0_7 a0_8 a0_9 a0_10 a0_11) = some r := by first | (rw [hy131]; with_reducible exact H) | (have H2_ := (Option.bind_some _ _).symm.trans H; rw [hy131]; with_reducible exact H2_) | (have H2_ := (Option.bind_some _ _).symm.trans H; with_reducible exact H2_) | with_reducible exact H | (rw [hy131]; exact H) | exact H
          have Ny131 := A_ hy131; clear hy131
          have H' := A_ H
          clear H
          have hcz48_0 : wc.cell? ⟨g1, 0, none⟩ = some (.string a0_0) := bc_ BK101 0 rfl
          have hcz48_1 : wc.cell? ⟨g1, 1, none⟩ = some (.int .i64 a0_1) := bc_ BK101 1 rfl
          have hcz48_2 : wc.cell? ⟨g1, 2, none⟩ = some (.int .u64 a0_2) := bc_ BK101 2 rfl
          have hcz48_3 : wc.cell? ⟨g1, 3, none⟩ = some (.int .i64 a0_3) := bc_ BK101 3 rfl
          have hcz48_4 : wc.cell? ⟨g1, 4, none⟩ = some (.int .i64 a0_4) := bc_ BK101 4 rfl
          have hcz48_5 : wc.cell? ⟨g1, 5, none⟩ = some (.int .i64 a0_5) := bc_ BK101 5 rfl
          have hcz48_6 : wc.cell? ⟨g1, 6, none⟩ = some (.int .i64 a0_6) := bc_ BK101 6 rfl
          have hcz48_7 : wc.cell? ⟨g1, 7, none⟩ = some (.int .i64 a0_7) := bc_ BK101 7 rfl
          have hcz48_8 : wc.cell? ⟨g1, 8, none⟩ = some (.int .i64 a0_8) := bc_ BK101 8 rfl
          have hcz48_9 : wc.cell? ⟨g1, 9, none⟩ = some (.int .i64 a0_9) := bc_ BK101 9 rfl
          have hcz48_10 : wc.cell? ⟨g1, 10, none⟩ = some (.string a0_10) := bc_ BK101 10 rfl
          have hcz48_11 : wc.cell? ⟨g1, 11, none⟩ = some (.int .i64 a0_11) := bc_ BK101 11 rfl
          have hfz48_0 := blk_frozen BK101.out 0; have hfz48_1 := blk_frozen BK101.out 1; have hfz48_2 := blk_frozen BK101.out 2; have hfz48_3 := blk_frozen BK101.out 3; have hfz48_4 := blk_frozen BK101.out 4; have hfz48_5 := blk_frozen BK101.out 5; have hfz48_6 := blk_frozen BK101.out 6; have hfz48_7 := blk_frozen BK101.out 7; have hfz48_8 := blk_frozen BK101.out 8; have hfz48_9 := blk_frozen BK101.out 9; have hfz48_10 := blk_frozen BK101.out 10; have hfz48_11 := blk_frozen BK101.out 11
          go_wp2_with (first | ((with_reducible refine gate_callee (f:=26) rfl ?_); refine gL_ (some 61) rfl rfl Tryd.func26 rfl #[.int .i64 a0_11] rfl ?_; (with_reducible refine (strconv_Itoa.calls a0_11 t130 _ (by refine tb_ ?_ hT; repeat' (first | exact pbx HB | exact Below.refl _ _ | assumption | refine below_set ?_ (Aside0.out ?_))) A46.out).mono ?_); rintro e w49 ⟨rfl, hb⟩; refine ⟨_, rfl, ?_⟩; replace HO_3 := A_ (Kd.R_below (ra_ HO_3.out) hb); replace BK101 := bb_ BK101 hb; replace HB := bs_ HB hb; (try clear hb); (try clear hk); ) | ((with_reducible refine gate_builtin (b := .append) (xs := #[.tmp 58, .tmp 62]) rfl ?_); at_builtin; refine Kd.R_append Kd.string (w0 := w) w.heap.size rfl (.tmp 58) (.tmp 62) 48 9 (.string ⟨#[]⟩) 16 rfl Tryd.underlying48 info9 rfl (by decide) (by omega) v105 y104 t130 [.string t130] (fun _ => True) (fun _ => False) rfl rfl ?aP (fun _ hk => hk.elim) ?aF ?aO ?aB ?aS ?aL ?_; (case aP => exact rfl); (case aB => exact (pbx HB)); (case aF => exact (fun _ _ => trivial)); (case aO => exact (ra_ HO_3.out)); (case aS => exact (below_size (pbx HB))); (case aL => have := LMc47.out; omega); intro v132 w50 ho hb hg hat; rw [← Ny131.out] at ho; have HO133 := A_ (ho); replace BK101 := A_ (blk_grown (pkx BK101) hg (Kd.R_ne HO_3.out BK101.out (by decide))); replace HB := A_ (hb); clear HO_3; clear ho hb hg hat))
          go_meet
          case rel => exact ⟨_, (y131), H', ⟨by have := HJ36.out; first | omega | exact Nat.le_refl _⟩, ⟨ra_ HO133.out⟩, ⟨pkx BK101⟩, ⟨pbx HB⟩⟩
         ·rw [if_neg c47] at H
          exact absurd H (by simp)
        ·rw [if_neg c45] at H; have ⟨c45b0,c45b1⟩ := e0_ c45
         have H' := A_ H
         clear H
         go_wp2
         go_meet
         case rel => exact ⟨_, (y104), H', ⟨by have := HJ36.out; first | omega | exact Nat.le_refl _⟩, ⟨ra_ HO_3.out⟩, ⟨pkx BK101⟩, ⟨pbx HB⟩⟩
 case rest =>
  clear HC4; (try clear hcz10_0); (try clear hcz10_1); (try clear hcz10_10); (try clear hcz10_11); (try clear hcz10_2); (try clear hcz10_3); (try clear hcz10_4); (try clear hcz10_5); (try clear hcz10_6); (try clear hcz10_7); (try clear hcz10_8); (try clear hcz10_9); (try clear hfz10_0); (try clear hfz10_1); (try clear hfz10_10); (try clear hfz10_11); (try clear hfz10_2); (try clear hfz10_3); (try clear hfz10_4); (try clear hfz10_5); (try clear hfz10_6); (try clear hfz10_7); (try clear hfz10_8); (try clear hfz10_9)
  obtain ⟨kq, x3_3, HA, HJ3, HO_3, BK101, HB⟩ := hcut
  cases kq with
  | zero => exact absurd HA.out (by simp [command_Text.j1])
  | succ kj3 =>
   have H := HA.out; clear HA
   simp only [command_Text.j1] at H
   obtain ⟨t134, A51, H⟩ := bo_ H; obtain ⟨⟨t135, t136, t137, t138, t139, t140, t141, t142, t143, t144, t145, t146, t147⟩, A52, H⟩ := bo_ H; dsimp only at H
   by_cases c53 : t147 = 0
   ·rw [if_pos c53] at H; have ⟨c53b0,c53b1⟩ := e1_ c53; clear c53
    by_cases c54 : (!(t135.toList == a0_0.toList) || ((!(t136 == a0_1) || (!(t137 == a0_2))) || (!(t138 == a0_3) || ((!(t139 == a0_4) || (!(t140 == a0_5))) || (((!(t141 == a0_6) || (!(t142 == a0_7))) || ((!(t143 == a0_8) || (!(t144 == a0_9))))) || (!(t145.toList == a0_10.toList) || (!(t146 == a0_11)))))))) = true
    ·rw [if_pos c54] at H
     have c54b0 : (!(t135.toList == a0_0.toList) || ((!(t136 == a0_1) || (!(t137 == a0_2))) || (!(t138 == a0_3) || ((!(t139 == a0_4) || (!(t140 == a0_5))) || (((!(t141 == a0_6) || (!(t142 == a0_7))) || ((!(t143 == a0_8) || (!(t144 == a0_9))))) || (!(t145.toList == a0_10.toList) || (!(t146 == a0_11)))))))) = true := c54
     clear c54; obtain rfl := Option.some.inj H; obtain ⟨Ao55, co55, eo55⟩ := Kd.R_slice HO_3.out; subst eo55
     go_wp2_with (first | ((with_reducible refine gate_callee (f:=27) rfl ?_); refine gL_ (some 65) rfl rfl Tryd.func27 rfl #[.slice Ao55 x3_3.length co55, .string (⟨#[32]⟩ : ByteArray)] rfl ?_; (with_reducible refine (strings_Join.calls _ _ x3_3 (⟨#[32]⟩ : ByteArray) t134 _ ?side1 ?side2 A51.out).mono ?_); (case side1 => exact ca_ (Kd.R_reads' HO_3.out).2.2); (case side2 => exact (Kd.R_reads' HO_3.out).2.1); rintro e w56 ⟨rfl, hb⟩; refine ⟨_, rfl, ?_⟩; replace HO_3 := A_ (Kd.R_below (ra_ HO_3.out) hb); replace BK101 := bb_ BK101 hb; replace HB := bs_ HB hb; (try clear hb); (try clear hk); ) | ((with_reducible refine gate_callee (f:=6) rfl ?_); refine gL_ (some 68) rfl rfl Tryd.func6 rfl #[.string t134] rfl ?_; (with_reducible refine (command_Parse.calls kj3 t134 t135 t136 t137 t138 t139 t140 t141 t142 t143 t144 t145 t146 t147 _ (by refine tb_ ?_ hT; repeat' (first | exact pbx HB | exact Below.refl _ _ | assumption | refine below_set ?_ (Aside0.out ?_))) A52.out).mono ?_); rintro e w57 ⟨rfl, hb⟩; refine ⟨_, rfl, ?_⟩; replace HO_3 := A_ (Kd.R_below (ra_ HO_3.out) hb); replace BK101 := bb_ BK101 hb; replace HB := bs_ HB hb; (try clear hb); (try clear hk); ) | ((with_reducible refine gd_ 5 ?_); refine be_ (N:=5) (cs := #[.string (⟨#[]⟩ : ByteArray), .int .i64 0, .int .u64 0, .int .i64 0, .int .i64 0, .int .i64 0, .int .i64 0, .int .i64 0, .int .i64 0, .int .i64 0, .string (⟨#[]⟩ : ByteArray), .int .i64 0]) (t:=31) ?_; intro gb148 hg w58 hbox hb; have BK148 := A_ (hbox); have GW148 := hs_ HB hg; have GE148 := hs_ HB hg; have NB101_148 := hl_ BK101 hg; have NB148_101 := hr_ BK101 hg; replace HO_3 := A_ (Kd.R_below (ra_ HO_3.out) hb); replace BK101 := bb_ BK101 hb; replace HB := bs_ HB hb; clear hb hbox hg; have hnb59 := NB148_101.out; have hnc59 := NB101_148.out; have hcz60_0 : w58.cell? ⟨gb148, 0, none⟩ = some (.string (⟨#[]⟩ : ByteArray)) := bc_ BK148 0 rfl; have hcz60_1 : w58.cell? ⟨gb148, 1, none⟩ = some (.int .i64 0) := bc_ BK148 1 rfl; have hcz60_2 : w58.cell? ⟨gb148, 2, none⟩ = some (.int .u64 0) := bc_ BK148 2 rfl; have hcz60_3 : w58.cell? ⟨gb148, 3, none⟩ = some (.int .i64 0) := bc_ BK148 3 rfl; have hcz60_4 : w58.cell? ⟨gb148, 4, none⟩ = some (.int .i64 0) := bc_ BK148 4 rfl; have hcz60_5 : w58.cell? ⟨gb148, 5, none⟩ = some (.int .i64 0) := bc_ BK148 5 rfl; have hcz60_6 : w58.cell? ⟨gb148, 6, none⟩ = some (.int .i64 0) := bc_ BK148 6 rfl; have hcz60_7 : w58.cell? ⟨gb148, 7, none⟩ = some (.int .i64 0) := bc_ BK148 7 rfl; have hcz60_8 : w58.cell? ⟨gb148, 8, none⟩ = some (.int .i64 0) := bc_ BK148 8 rfl; have hcz60_9 : w58.cell? ⟨gb148, 9, none⟩ = some (.int .i64 0) := bc_ BK148 9 rfl; have hcz60_10 : w58.cell? ⟨gb148, 10, none⟩ = some (.string (⟨#[]⟩ : ByteArray)) := bc_ BK148 10 rfl; have hcz60_11 : w58.cell? ⟨gb148, 11, none⟩ = some (.int .i64 0) := bc_ BK148 11 rfl; have hfz60_0 := blk_frozen BK148.out 0; have hfz60_1 := blk_frozen BK148.out 1; have hfz60_2 := blk_frozen BK148.out 2; have hfz60_3 := blk_frozen BK148.out 3; have hfz60_4 := blk_frozen BK148.out 4; have hfz60_5 := blk_frozen BK148.out 5; have hfz60_6 := blk_frozen BK148.out 6; have hfz60_7 := blk_frozen BK148.out 7; have hfz60_8 := blk_frozen BK148.out 8; have hfz60_9 := blk_frozen BK148.out 9; have hfz60_10 := blk_frozen BK148.out 10; have hfz60_11 := blk_frozen BK148.out 11; have hcz61_0 : w58.cell? ⟨g1, 0, none⟩ = some (.string a0_0) := bc_ BK101 0 rfl; have hcz61_1 : w58.cell? ⟨g1, 1, none⟩ = some (.int .i64 a0_1) := bc_ BK101 1 rfl; have hcz61_2 : w58.cell? ⟨g1, 2, none⟩ = some (.int .u64 a0_2) := bc_ BK101 2 rfl; have hcz61_3 : w58.cell? ⟨g1, 3, none⟩ = some (.int .i64 a0_3) := bc_ BK101 3 rfl; have hcz61_4 : w58.cell? ⟨g1, 4, none⟩ = some (.int .i64 a0_4) := bc_ BK101 4 rfl; have hcz61_5 : w58.cell? ⟨g1, 5, none⟩ = some (.int .i64 a0_5) := bc_ BK101 5 rfl; have hcz61_6 : w58.cell? ⟨g1, 6, none⟩ = some (.int .i64 a0_6) := bc_ BK101 6 rfl; have hcz61_7 : w58.cell? ⟨g1, 7, none⟩ = some (.int .i64 a0_7) := bc_ BK101 7 rfl; have hcz61_8 : w58.cell? ⟨g1, 8, none⟩ = some (.int .i64 a0_8) := bc_ BK101 8 rfl; have hcz61_9 : w58.cell? ⟨g1, 9, none⟩ = some (.int .i64 a0_9) := bc_ BK101 9 rfl; have hcz61_10 : w58.cell? ⟨g1, 10, none⟩ = some (.string a0_10) := bc_ BK101 10 rfl; have hcz61_11 : w58.cell? ⟨g1, 11, none⟩ = some (.int .i64 a0_11) := bc_ BK101 11 rfl; have hfz61_0 := blk_frozen BK101.out 0; have hfz61_1 := blk_frozen BK101.out 1; have hfz61_2 := blk_frozen BK101.out 2; have hfz61_3 := blk_frozen BK101.out 3; have hfz61_4 := blk_frozen BK101.out 4; have hfz61_5 := blk_frozen BK101.out 5; have hfz61_6 := blk_frozen BK101.out 6; have hfz61_7 := blk_frozen BK101.out 7; have hfz61_8 := blk_frozen BK101.out 8; have hfz61_9 := blk_frozen BK101.out 9; have hfz61_10 := blk_frozen BK101.out 10; have hfz61_11 := blk_frozen BK101.out 11))
     go_ret
     exact fi_ bl_
    ·rw [if_neg c54] at H
     have c54b0 : (!(t135.toList == a0_0.toList) || ((!(t136 == a0_1) || (!(t137 == a0_2))) || (!(t138 == a0_3) || ((!(t139 == a0_4) || (!(t140 == a0_5))) || (((!(t141 == a0_6) || (!(t142 == a0_7))) || ((!(t143 == a0_8) || (!(t144 == a0_9))))) || (!(t145.toList == a0_10.toList) || (!(t146 == a0_11)))))))) = false := by simpa using c54
     clear c54; obtain rfl := Option.some.inj H; obtain ⟨Ao62, co62, eo62⟩ := Kd.R_slice HO_3.out; subst eo62
     go_wp2_with (first | ((with_reducible refine gate_callee (f:=27) rfl ?_); refine gL_ (some 65) rfl rfl Tryd.func27 rfl #[.slice Ao62 x3_3.length co62, .string (⟨#[32]⟩ : ByteArray)] rfl ?_; (with_reducible refine (strings_Join.calls _ _ x3_3 (⟨#[32]⟩ : ByteArray) t134 _ ?side1 ?side2 A51.out).mono ?_); (case side1 => exact ca_ (Kd.R_reads' HO_3.out).2.2); (case side2 => exact (Kd.R_reads' HO_3.out).2.1); rintro e w63 ⟨rfl, hb⟩; refine ⟨_, rfl, ?_⟩; replace HO_3 := A_ (Kd.R_below (ra_ HO_3.out) hb); replace BK101 := bb_ BK101 hb; replace HB := bs_ HB hb; (try clear hb); (try clear hk); ) | ((with_reducible refine gate_callee (f:=6) rfl ?_); refine gL_ (some 68) rfl rfl Tryd.func6 rfl #[.string t134] rfl ?_; (with_reducible refine (command_Parse.calls kj3 t134 t135 t136 t137 t138 t139 t140 t141 t142 t143 t144 t145 t146 t147 _ (by refine tb_ ?_ hT; repeat' (first | exact pbx HB | exact Below.refl _ _ | assumption | refine below_set ?_ (Aside0.out ?_))) A52.out).mono ?_); rintro e w64 ⟨rfl, hb⟩; refine ⟨_, rfl, ?_⟩; replace HO_3 := A_ (Kd.R_below (ra_ HO_3.out) hb); replace BK101 := bb_ BK101 hb; replace HB := bs_ HB hb; (try clear hb); (try clear hk); ) | ((with_reducible refine gd_ 5 ?_); refine be_ (N:=5) (cs := #[.string (⟨#[]⟩ : ByteArray), .int .i64 0, .int .u64 0, .int .i64 0, .int .i64 0, .int .i64 0, .int .i64 0, .int .i64 0, .int .i64 0, .int .i64 0, .string (⟨#[]⟩ : ByteArray), .int .i64 0]) (t:=31) ?_; intro gb148 hg w65 hbox hb; have BK148 := A_ (hbox); have GW148 := hs_ HB hg; have GE148 := hs_ HB hg; have NB101_148 := hl_ BK101 hg; have NB148_101 := hr_ BK101 hg; replace HO_3 := A_ (Kd.R_below (ra_ HO_3.out) hb); replace BK101 := bb_ BK101 hb; replace HB := bs_ HB hb; clear hb hbox hg; have hnb66 := NB148_101.out; have hnc66 := NB101_148.out; have hcz67_0 : w65.cell? ⟨gb148, 0, none⟩ = some (.string (⟨#[]⟩ : ByteArray)) := bc_ BK148 0 rfl; have hcz67_1 : w65.cell? ⟨gb148, 1, none⟩ = some (.int .i64 0) := bc_ BK148 1 rfl; have hcz67_2 : w65.cell? ⟨gb148, 2, none⟩ = some (.int .u64 0) := bc_ BK148 2 rfl; have hcz67_3 : w65.cell? ⟨gb148, 3, none⟩ = some (.int .i64 0) := bc_ BK148 3 rfl; have hcz67_4 : w65.cell? ⟨gb148, 4, none⟩ = some (.int .i64 0) := bc_ BK148 4 rfl; have hcz67_5 : w65.cell? ⟨gb148, 5, none⟩ = some (.int .i64 0) := bc_ BK148 5 rfl; have hcz67_6 : w65.cell? ⟨gb148, 6, none⟩ = some (.int .i64 0) := bc_ BK148 6 rfl; have hcz67_7 : w65.cell? ⟨gb148, 7, none⟩ = some (.int .i64 0) := bc_ BK148 7 rfl; have hcz67_8 : w65.cell? ⟨gb148, 8, none⟩ = some (.int .i64 0) := bc_ BK148 8 rfl; have hcz67_9 : w65.cell? ⟨gb148, 9, none⟩ = some (.int .i64 0) := bc_ BK148 9 rfl; have hcz67_10 : w65.cell? ⟨gb148, 10, none⟩ = some (.string (⟨#[]⟩ : ByteArray)) := bc_ BK148 10 rfl; have hcz67_11 : w65.cell? ⟨gb148, 11, none⟩ = some (.int .i64 0) := bc_ BK148 11 rfl; have hfz67_0 := blk_frozen BK148.out 0; have hfz67_1 := blk_frozen BK148.out 1; have hfz67_2 := blk_frozen BK148.out 2; have hfz67_3 := blk_frozen BK148.out 3; have hfz67_4 := blk_frozen BK148.out 4; have hfz67_5 := blk_frozen BK148.out 5; have hfz67_6 := blk_frozen BK148.out 6; have hfz67_7 := blk_frozen BK148.out 7; have hfz67_8 := blk_frozen BK148.out 8; have hfz67_9 := blk_frozen BK148.out 9; have hfz67_10 := blk_frozen BK148.out 10; have hfz67_11 := blk_frozen BK148.out 11; have hcz68_0 : w65.cell? ⟨g1, 0, none⟩ = some (.string a0_0) := bc_ BK101 0 rfl; have hcz68_1 : w65.cell? ⟨g1, 1, none⟩ = some (.int .i64 a0_1) := bc_ BK101 1 rfl; have hcz68_2 : w65.cell? ⟨g1, 2, none⟩ = some (.int .u64 a0_2) := bc_ BK101 2 rfl; have hcz68_3 : w65.cell? ⟨g1, 3, none⟩ = some (.int .i64 a0_3) := bc_ BK101 3 rfl; have hcz68_4 : w65.cell? ⟨g1, 4, none⟩ = some (.int .i64 a0_4) := bc_ BK101 4 rfl; have hcz68_5 : w65.cell? ⟨g1, 5, none⟩ = some (.int .i64 a0_5) := bc_ BK101 5 rfl; have hcz68_6 : w65.cell? ⟨g1, 6, none⟩ = some (.int .i64 a0_6) := bc_ BK101 6 rfl; have hcz68_7 : w65.cell? ⟨g1, 7, none⟩ = some (.int .i64 a0_7) := bc_ BK101 7 rfl; have hcz68_8 : w65.cell? ⟨g1, 8, none⟩ = some (.int .i64 a0_8) := bc_ BK101 8 rfl; have hcz68_9 : w65.cell? ⟨g1, 9, none⟩ = some (.int .i64 a0_9) := bc_ BK101 9 rfl; have hcz68_10 : w65.cell? ⟨g1, 10, none⟩ = some (.string a0_10) := bc_ BK101 10 rfl; have hcz68_11 : w65.cell? ⟨g1, 11, none⟩ = some (.int .i64 a0_11) := bc_ BK101 11 rfl; have hfz68_0 := blk_frozen BK101.out 0; have hfz68_1 := blk_frozen BK101.out 1; have hfz68_2 := blk_frozen BK101.out 2; have hfz68_3 := blk_frozen BK101.out 3; have hfz68_4 := blk_frozen BK101.out 4; have hfz68_5 := blk_frozen BK101.out 5; have hfz68_6 := blk_frozen BK101.out 6; have hfz68_7 := blk_frozen BK101.out 7; have hfz68_8 := blk_frozen BK101.out 8; have hfz68_9 := blk_frozen BK101.out 9; have hfz68_10 := blk_frozen BK101.out 10; have hfz68_11 := blk_frozen BK101.out 11))
     go_ret
     exact fi_ bl_
   ·rw [if_neg c53] at H; have ⟨c53b0,c53b1⟩ := e0_ c53; obtain rfl := Option.some.inj H; obtain ⟨Ao69, co69, eo69⟩ := Kd.R_slice HO_3.out; subst eo69
    go_wp2_with (first | ((with_reducible refine gate_callee (f:=27) rfl ?_); refine gL_ (some 65) rfl rfl Tryd.func27 rfl #[.slice Ao69 x3_3.length co69, .string (⟨#[32]⟩ : ByteArray)] rfl ?_; (with_reducible refine (strings_Join.calls _ _ x3_3 (⟨#[32]⟩ : ByteArray) t134 _ ?side1 ?side2 A51.out).mono ?_); (case side1 => exact ca_ (Kd.R_reads' HO_3.out).2.2); (case side2 => exact (Kd.R_reads' HO_3.out).2.1); rintro e w70 ⟨rfl, hb⟩; refine ⟨_, rfl, ?_⟩; replace HO_3 := A_ (Kd.R_below (ra_ HO_3.out) hb); replace BK101 := bb_ BK101 hb; replace HB := bs_ HB hb; (try clear hb); (try clear hk); ) | ((with_reducible refine gate_callee (f:=6) rfl ?_); refine gL_ (some 68) rfl rfl Tryd.func6 rfl #[.string t134] rfl ?_; (with_reducible refine (command_Parse.calls kj3 t134 t135 t136 t137 t138 t139 t140 t141 t142 t143 t144 t145 t146 t147 _ (by refine tb_ ?_ hT; repeat' (first | exact pbx HB | exact Below.refl _ _ | assumption | refine below_set ?_ (Aside0.out ?_))) A52.out).mono ?_); rintro e w71 ⟨rfl, hb⟩; refine ⟨_, rfl, ?_⟩; replace HO_3 := A_ (Kd.R_below (ra_ HO_3.out) hb); replace BK101 := bb_ BK101 hb; replace HB := bs_ HB hb; (try clear hb); (try clear hk); ) | ((with_reducible refine gd_ 5 ?_); refine be_ (N:=5) (cs := #[.string (⟨#[]⟩ : ByteArray), .int .i64 0, .int .u64 0, .int .i64 0, .int .i64 0, .int .i64 0, .int .i64 0, .int .i64 0, .int .i64 0, .int .i64 0, .string (⟨#[]⟩ : ByteArray), .int .i64 0]) (t:=31) ?_; intro gb148 hg w72 hbox hb; have BK148 := A_ (hbox); have GW148 := hs_ HB hg; have GE148 := hs_ HB hg; have NB101_148 := hl_ BK101 hg; have NB148_101 := hr_ BK101 hg; replace HO_3 := A_ (Kd.R_below (ra_ HO_3.out) hb); replace BK101 := bb_ BK101 hb; replace HB := bs_ HB hb; clear hb hbox hg; have hnb73 := NB148_101.out; have hnc73 := NB101_148.out; have hcz74_0 : w72.cell? ⟨gb148, 0, none⟩ = some (.string (⟨#[]⟩ : ByteArray)) := bc_ BK148 0 rfl; have hcz74_1 : w72.cell? ⟨gb148, 1, none⟩ = some (.int .i64 0) := bc_ BK148 1 rfl; have hcz74_2 : w72.cell? ⟨gb148, 2, none⟩ = some (.int .u64 0) := bc_ BK148 2 rfl; have hcz74_3 : w72.cell? ⟨gb148, 3, none⟩ = some (.int .i64 0) := bc_ BK148 3 rfl; have hcz74_4 : w72.cell? ⟨gb148, 4, none⟩ = some (.int .i64 0) := bc_ BK148 4 rfl; have hcz74_5 : w72.cell? ⟨gb148, 5, none⟩ = some (.int .i64 0) := bc_ BK148 5 rfl; have hcz74_6 : w72.cell? ⟨gb148, 6, none⟩ = some (.int .i64 0) := bc_ BK148 6 rfl; have hcz74_7 : w72.cell? ⟨gb148, 7, none⟩ = some (.int .i64 0) := bc_ BK148 7 rfl; have hcz74_8 : w72.cell? ⟨gb148, 8, none⟩ = some (.int .i64 0) := bc_ BK148 8 rfl; have hcz74_9 : w72.cell? ⟨gb148, 9, none⟩ = some (.int .i64 0) := bc_ BK148 9 rfl; have hcz74_10 : w72.cell? ⟨gb148, 10, none⟩ = some (.string (⟨#[]⟩ : ByteArray)) := bc_ BK148 10 rfl; have hcz74_11 : w72.cell? ⟨gb148, 11, none⟩ = some (.int .i64 0) := bc_ BK148 11 rfl; have hfz74_0 := blk_frozen BK148.out 0; have hfz74_1 := blk_frozen BK148.out 1; have hfz74_2 := blk_frozen BK148.out 2; have hfz74_3 := blk_frozen BK148.out 3; have hfz74_4 := blk_frozen BK148.out 4; have hfz74_5 := blk_frozen BK148.out 5; have hfz74_6 := blk_frozen BK148.out 6; have hfz74_7 := blk_frozen BK148.out 7; have hfz74_8 := blk_frozen BK148.out 8; have hfz74_9 := blk_frozen BK148.out 9; have hfz74_10 := blk_frozen BK148.out 10; have hfz74_11 := blk_frozen BK148.out 11))
    go_ret
    exact fi_ bl_

end Go.Proofs.YtajoebfkkknjhaaDoor.X
namespace Go.Proofs.YtajoebfkkknjhaaDoor.X
open Go.RowKit Go.Proofs.YtajoebfkkknjhaaDoorW.PrintWords Go.Proofs.YtajoebfkkknjhaaDoorW.PrintLast Go.Proofs.YtajoebfkkknjhaaDoorW.PrintMore
attribute [local go_sem] max2_int min2_int max_two min_two max_three min_three max_four min_four
set_option linter.unusedVariables false
set_option linter.unusedSimpArgs false
def command_Edits.f (a0_0 : ByteArray) (a0_1 : Int) (a0_2 : Int) (a0_3 : Int) (a0_4 : Int) (a0_5 : Int) (a0_6 : Int) (a0_7 : Int) (a0_8 : Int) (a0_9 : Int) (a0_10 : ByteArray) (a0_11 : Int) : Option (Bool) := if a0_3 ≥ 1 then (some (decide (a0_3 ≤ 3))) else (some false)
theorem command_Edits.calls (a0_0 : ByteArray) (a0_1 : Int) (a0_2 : Int) (a0_3 : Int) (a0_4 : Int) (a0_5 : Int) (a0_6 : Int) (a0_7 : Int) (a0_8 : Int) (a0_9 : Int) (a0_10 : ByteArray) (a0_11 : Int) (r : Bool) (w : World) (h : command_Edits.f a0_0 a0_1 a0_2 a0_3 a0_4 a0_5 a0_6 a0_7 a0_8 a0_9 a0_10 a0_11 = some r) :
  Calls Tryd.prog 8 #[.agg #[.string a0_0, .int .i64 a0_1, .int .u64 a0_2, .int .i64 a0_3, .int .i64 a0_4, .int .i64 a0_5, .int .i64 a0_6, .int .i64 a0_7, .int .i64 a0_8, .int .i64 a0_9, .string a0_10, .int .i64 a0_11]] w fun e w' => e = .returned (.bool r) ∧ Below w.heap.size w w' := by
 have hu31 := Tryd.underlying31; have HB := A_ (Below.refl w.heap.size w)
 have H : (if a0_3 ≥ 1 then (some (decide (a0_3 ≤ 3))) else (some false)) = some r := h
 clear h
 by_cases c2 : a0_3 ≥ 1
 ·rw [if_pos c2] at H; have c2b0 := decide_eq_true c2; clear c2; obtain rfl := Option.some.inj H
  go_enter Tryd.func8, Tryd.ntmps8
  go_wp2_with (first | ((with_reducible refine gd_ 1 ?_); refine be_ (N:=1) (cs := #[.string a0_0, .int .i64 a0_1, .int .u64 a0_2, .int .i64 a0_3, .int .i64 a0_4, .int .i64 a0_5, .int .i64 a0_6, .int .i64 a0_7, .int .i64 a0_8, .int .i64 a0_9, .string a0_10, .int .i64 a0_11]) (t:=31) ?_; intro g1 hg w3 hbox hb; have B1 := A_ (hbox); replace HB := bs_ HB hb; clear hb hbox hg; have hcz4_0 : w3.cell? ⟨g1, 0, none⟩ = some (.string a0_0) := bc_ B1 0 rfl; have hcz4_1 : w3.cell? ⟨g1, 1, none⟩ = some (.int .i64 a0_1) := bc_ B1 1 rfl; have hcz4_2 : w3.cell? ⟨g1, 2, none⟩ = some (.int .u64 a0_2) := bc_ B1 2 rfl; have hcz4_3 : w3.cell? ⟨g1, 3, none⟩ = some (.int .i64 a0_3) := bc_ B1 3 rfl; have hcz4_4 : w3.cell? ⟨g1, 4, none⟩ = some (.int .i64 a0_4) := bc_ B1 4 rfl; have hcz4_5 : w3.cell? ⟨g1, 5, none⟩ = some (.int .i64 a0_5) := bc_ B1 5 rfl; have hcz4_6 : w3.cell? ⟨g1, 6, none⟩ = some (.int .i64 a0_6) := bc_ B1 6 rfl; have hcz4_7 : w3.cell? ⟨g1, 7, none⟩ = some (.int .i64 a0_7) := bc_ B1 7 rfl; have hcz4_8 : w3.cell? ⟨g1, 8, none⟩ = some (.int .i64 a0_8) := bc_ B1 8 rfl; have hcz4_9 : w3.cell? ⟨g1, 9, none⟩ = some (.int .i64 a0_9) := bc_ B1 9 rfl; have hcz4_10 : w3.cell? ⟨g1, 10, none⟩ = some (.string a0_10) := bc_ B1 10 rfl; have hcz4_11 : w3.cell? ⟨g1, 11, none⟩ = some (.int .i64 a0_11) := bc_ B1 11 rfl))
  go_ret
  exact fi_ (pbx HB)
 ·rw [if_neg c2] at H; have c2b0 := decide_eq_false c2; clear c2; obtain rfl := Option.some.inj H
  go_enter Tryd.func8, Tryd.ntmps8
  go_wp2_with (first | ((with_reducible refine gd_ 1 ?_); refine be_ (N:=1) (cs := #[.string a0_0, .int .i64 a0_1, .int .u64 a0_2, .int .i64 a0_3, .int .i64 a0_4, .int .i64 a0_5, .int .i64 a0_6, .int .i64 a0_7, .int .i64 a0_8, .int .i64 a0_9, .string a0_10, .int .i64 a0_11]) (t:=31) ?_; intro g1 hg w5 hbox hb; have B1 := A_ (hbox); replace HB := bs_ HB hb; clear hb hbox hg; have hcz6_0 : w5.cell? ⟨g1, 0, none⟩ = some (.string a0_0) := bc_ B1 0 rfl; have hcz6_1 : w5.cell? ⟨g1, 1, none⟩ = some (.int .i64 a0_1) := bc_ B1 1 rfl; have hcz6_2 : w5.cell? ⟨g1, 2, none⟩ = some (.int .u64 a0_2) := bc_ B1 2 rfl; have hcz6_3 : w5.cell? ⟨g1, 3, none⟩ = some (.int .i64 a0_3) := bc_ B1 3 rfl; have hcz6_4 : w5.cell? ⟨g1, 4, none⟩ = some (.int .i64 a0_4) := bc_ B1 4 rfl; have hcz6_5 : w5.cell? ⟨g1, 5, none⟩ = some (.int .i64 a0_5) := bc_ B1 5 rfl; have hcz6_6 : w5.cell? ⟨g1, 6, none⟩ = some (.int .i64 a0_6) := bc_ B1 6 rfl; have hcz6_7 : w5.cell? ⟨g1, 7, none⟩ = some (.int .i64 a0_7) := bc_ B1 7 rfl; have hcz6_8 : w5.cell? ⟨g1, 8, none⟩ = some (.int .i64 a0_8) := bc_ B1 8 rfl; have hcz6_9 : w5.cell? ⟨g1, 9, none⟩ = some (.int .i64 a0_9) := bc_ B1 9 rfl; have hcz6_10 : w5.cell? ⟨g1, 10, none⟩ = some (.string a0_10) := bc_ B1 10 rfl; have hcz6_11 : w5.cell? ⟨g1, 11, none⟩ = some (.int .i64 a0_11) := bc_ B1 11 rfl))
  go_ret
  exact fi_ (pbx HB)

end Go.Proofs.YtajoebfkkknjhaaDoor.X
/- The law's own 'alive': a command with a text is parsed and told, one of too many words is not. -/
set_option linter.unusedVariables false
set_option linter.unusedSimpArgs false
namespace Go.Proofs.YtajoebfkkknjhaaDoor.X
open Go.RowKit Go.Proofs.YtajoebfkkknjhaaDoorW.PrintWords Go.Proofs.YtajoebfkkknjhaaDoorW.PrintLast Go.Proofs.YtajoebfkkknjhaaDoorW.PrintMore
attribute [local go_sem high] eqA31
abbrev al44a : ByteArray := ⟨#[97, 110, 110, 32, 50, 58, 48, 32, 83, 69, 84, 32, 66, 51, 32, 32, 65, 49, 32, 43, 32, 49]⟩
abbrev al44b : ByteArray := ⟨#[97, 110, 110, 32, 50, 58, 48, 32, 86, 73, 69, 87, 32]⟩
abbrev al44u : ByteArray := ⟨#[97, 110, 110]⟩
abbrev al44t : ByteArray := ⟨#[32, 65, 49, 32, 43, 32, 49]⟩
theorem by_eq44 {x : ByteArray} {l : List UInt8} (h : x.data.toList = l) : x = ⟨⟨l⟩⟩ := by
 obtain ⟨⟨m⟩⟩ := x
 exact congrArg (fun l => ByteArray.mk (Array.mk l)) h
theorem al44a_ : command_Parse.f 60 al44a = some (al44u, 2, 1, 1, 2, 1, 0, 0, 0, 0, al44t, 0, 0) := by
 have h : (command_Parse.f 60 al44a).map (fun q => (q.1.data.toList, q.2.1, q.2.2.1, q.2.2.2.1, q.2.2.2.2.1, q.2.2.2.2.2.1, q.2.2.2.2.2.2.1, q.2.2.2.2.2.2.2.1, q.2.2.2.2.2.2.2.2.1, q.2.2.2.2.2.2.2.2.2.1, q.2.2.2.2.2.2.2.2.2.2.1.data.toList, q.2.2.2.2.2.2.2.2.2.2.2)) = some ([97, 110, 110], 2, 1, 1, 2, 1, 0, 0, 0, 0, [32, 65, 49, 32, 43, 32, 49], 0, 0) := by kernel_rfl
 obtain ⟨⟨u, x1, x2, x3, x4, x5, x6, x7, x8, x9, t, x11, x12⟩, h1, h2⟩ := Option.map_eq_some_iff.mp h
 simp only [Prod.mk.injEq] at h2
 obtain ⟨hu, rfl, rfl, rfl, rfl, rfl, rfl, rfl, rfl, rfl, ht, rfl, rfl⟩ := h2
 rw [h1, by_eq44 hu, by_eq44 ht]
theorem al44b_ : (command_Parse.f 60 al44b).map (fun q => q.2.2.2.2.2.2.2.2.2.2.2.2) = some 1 := by decide +kernel
theorem al44c_ : command_Text.f 60 al44u 2 1 1 2 1 0 0 0 0 al44t 0 = some al44a := by
 have h : (command_Text.f 60 al44u 2 1 1 2 1 0 0 0 0 al44t 0).map (fun q => q.data.toList) = some al44a.data.toList := by kernel_rfl
 obtain ⟨u, h1, h2⟩ := Option.map_eq_some_iff.mp h
 rw [h1, by_eq44 h2]
def oculuslaw44_alive.f (k : Nat) : Option Bool := some true
theorem oculuslaw44_alive.mono : ∀ k, LeO (oculuslaw44_alive.f k) (oculuslaw44_alive.f (k + 1)) := fun _ => LeO.refl _
theorem new_below44 (w : World) (o : Obj) : Below w.heap.size w (w.alloc o) := below_alloc (Below.refl _ _) o
theorem cells12a {W : World} {g : Nat} {t : TypeId} {b0 b1 b2 b3 b4 b5 b6 b7 b8 b9 b10 b11 : Value} (h : W.heap[g]? = some (.cells #[b0, b1, b2, b3, b4, b5, b6, b7, b8, b9, b10, b11] t (0, 0))) :
  W.cell? ⟨g, 0, none⟩ = some b0 ∧ W.cell? ⟨g, 1, none⟩ = some b1 ∧ W.cell? ⟨g, 2, none⟩ = some b2 ∧ W.cell? ⟨g, 3, none⟩ = some b3 ∧ W.cell? ⟨g, 4, none⟩ = some b4 ∧ W.cell? ⟨g, 5, none⟩ = some b5 ∧ W.cell? ⟨g, 6, none⟩ = some b6 ∧ W.cell? ⟨g, 7, none⟩ = some b7 ∧ W.cell? ⟨g, 8, none⟩ = some b8 ∧ W.cell? ⟨g, 9, none⟩ = some b9 ∧ W.cell? ⟨g, 10, none⟩ = some b10 ∧ W.cell? ⟨g, 11, none⟩ = some b11 :=
 ⟨(blk_cell h 0).trans rfl, (blk_cell h 1).trans rfl, (blk_cell h 2).trans rfl, (blk_cell h 3).trans rfl, (blk_cell h 4).trans rfl, (blk_cell h 5).trans rfl, (blk_cell h 6).trans rfl, (blk_cell h 7).trans rfl, (blk_cell h 8).trans rfl, (blk_cell h 9).trans rfl, (blk_cell h 10).trans rfl, (blk_cell h 11).trans rfl⟩
theorem oculuslaw44_alive.calls (k : Nat) (r : Bool) (w : World) (hT : Aside0 (Tab w)) (h : oculuslaw44_alive.f k = some r) :
  Calls Tryd.prog 5 #[] w fun e w' => e = .returned (.bool r) ∧ Below w.heap.size w w' := by
 obtain rfl := Option.some.inj h; clear h; have hu31 := Tryd.underlying31; have hu25 := Tryd.underlying25; have hu27 := Tryd.underlying27; obtain ⟨⟨u, x1, x2, x3, x4, x5, x6, x7, x8, x9, t, x11, x12⟩, B1, B2⟩ := Option.map_eq_some_iff.mp al44b_; obtain rfl : x12 = 1 := B2; have HB1 := A_ B1; clear B1
 go_enter Tryd.func5, Tryd.ntmps5
 go_upto_region 2 with (first
  | (go_at_call 6; (with_reducible refine (command_Parse.calls 60 al44a al44u 2 1 1 2 1 0 0 0 0 al44t 0 0 _ hT al44a_).mono ?_); rintro e w5 ⟨rfl, hb⟩; have HB := A_ hb; have HT5 := tb_ hb hT; clear hb))
 have HP := A_ (blk_new w5 (.cells #[.string al44u, .int .i64 2, .int .u64 1, .int .i64 1, .int .i64 2, .int .i64 1, .int .i64 0, .int .i64 0, .int .i64 0, .int .i64 0, .string al44t, .int .i64 0] 31)); have hb6 := new_below44 w5 (.cells #[.string al44u, .int .i64 2, .int .u64 1, .int .i64 1, .int .i64 2, .int .i64 1, .int .i64 0, .int .i64 0, .int .i64 0, .int .i64 0, .string al44t, .int .i64 0] 31); replace HT5 := tb_ hb6 HT5; replace HB := A_ (below_step HB.out hb6); clear hb6; generalize w5.alloc (.cells #[.string al44u, .int .i64 2, .int .u64 1, .int .i64 1, .int .i64 2, .int .i64 1, .int .i64 0, .int .i64 0, .int .i64 0, .int .i64 0, .string al44t, .int .i64 0] 31) = w6 at HP HT5 HB ⊢; generalize w5.heap.size = g at HP ⊢
 go_upto_region 3 with (first
  | (go_at_call 6; (with_reducible refine (command_Parse.calls 60 al44b u x1 x2 x3 x4 x5 x6 x7 x8 x9 t x11 1 _ HT5 HB1.out).mono ?_); rintro e w7 ⟨rfl, hb⟩; replace HP := A_ (blk_below HP.out hb); replace HB := A_ (below_step HB.out hb); replace HT5 := tb_ hb HT5; clear hb))
 have hb6 := new_below44 w7 (.cells #[.string u, .int .i64 x1, .int .u64 x2, .int .i64 x3, .int .i64 x4, .int .i64 x5, .int .i64 x6, .int .i64 x7, .int .i64 x8, .int .i64 x9, .string t, .int .i64 x11] 31); replace HP := A_ (blk_below HP.out hb6); replace HT5 := tb_ hb6 HT5; replace HB := A_ (below_step HB.out hb6); clear hb6; generalize w7.alloc (.cells #[.string u, .int .i64 x1, .int .u64 x2, .int .i64 x3, .int .i64 x4, .int .i64 x5, .int .i64 x6, .int .i64 x7, .int .i64 x8, .int .i64 x9, .string t, .int .i64 x11] 31) = w8 at HP HT5 HB ⊢; clear HB1; obtain ⟨y0, y1, y2, y3, y4, y5, y6, y7, y8, y9, y10, y11⟩ := cells12a HP.out
 go_wp2_with (first
  | (go_at_call 9; (with_reducible refine (command_Text.calls 60 al44u 2 1 1 2 1 0 0 0 0 al44t 0 al44a _ HT5 al44c_).mono ?_); rintro e w9 ⟨rfl, hb⟩; replace HP := A_ (blk_below HP.out hb); replace HB := A_ (below_step HB.out hb); clear hb; clear y0 y1 y2 y3 y4 y5 y6 y7 y8 y9 y10 y11; obtain ⟨y0, y1, y2, y3, y4, y5, y6, y7, y8, y9, y10, y11⟩ := cells12a HP.out)
  | (go_at_call 8; (with_reducible refine (command_Edits.calls al44u 2 1 1 2 1 0 0 0 0 al44t 0 true _ rfl).mono ?_); rintro e w10 ⟨rfl, hb⟩; replace HB := A_ (below_step HB.out hb); clear hb))
 go_ret
 exact ⟨rfl, HB.out⟩
end Go.Proofs.YtajoebfkkknjhaaDoor.X
namespace Go.Proofs.YtajoebfkkknjhaaDoor.X
open Go.RowKit Go.Proofs.YtajoebfkkknjhaaDoorW.PrintWords Go.Proofs.YtajoebfkkknjhaaDoorW.PrintLast Go.Proofs.YtajoebfkkknjhaaDoorW.PrintMore
attribute [local go_sem] max2_int min2_int max_two min_two max_three min_three max_four min_four
set_option linter.unusedVariables false
set_option linter.unusedSimpArgs false
def oculusref01_Digits.l0 : Nat → Int → ByteArray → Option (ByteArray)
 | 0, _, _ => none
 | k + 1, x0, x3 => if x0 > 0 then ((some (([(wrap64 (48 + (Int.tmod x0 10))) % 256] : List Int) : List Int)).bind fun y104 => (if (strOfNums y104).size + x3.size ≤ 9223372036854775807 then (oculusref01_Digits.l0 k (wrap64 (Int.tdiv x0 10)) ((strOfNums y104) ++ x3)) else (none))) else (some x3)
def oculusref01_Digits.f (k : Nat) (a0 : Int) : Option (ByteArray) := oculusref01_Digits.l0 k (wrap64 (Int.tdiv a0 10)) (strOfNums (([(wrap64 (48 + (Int.tmod a0 10))) % 256] : List Int)))
theorem oculusref01_Digits.calls (k : Nat) (a0 : Int) (r : ByteArray) (w : World) (h : oculusref01_Digits.f k a0 = some r) :
  Calls Tryd.prog 31 #[.int .i64 a0] w fun e w' => e = .returned (.string r) ∧ Below w.heap.size w w' := by
 have HB := A_ (Below.refl w.heap.size w)
 have H : (oculusref01_Digits.l0 k (wrap64 (Int.tdiv a0 10)) (strOfNums (([(wrap64 (48 + (Int.tmod a0 10))) % 256] : List Int)))) = some r := h
 clear h; obtain ⟨y101, hy101⟩ : ∃ y_ : List Int, y_ = (([(wrap64 (48 + (Int.tmod a0 10))) % 256] : List Int)) := ⟨_, rfl⟩
 replace H : (oculusref01_Digits.l0 k (wrap64 (Int.tdiv a0 10)) (strOfNums y101)) = some r := by first | (rw [hy101]; with_reducible exact H) | (have H2_ := (Option.bind_some _ _).symm.trans H; rw [hy101]; with_reducible exact H2_) | (have H2_ := (Option.bind_some _ _).symm.trans H; with_reducible exact H2_) | with_reducible exact H | (rw [hy101]; exact H) | exact H
 have Ny101 := A_ hy101; clear hy101
 have H' := A_ H
 clear H
 go_enter Tryd.func31, Tryd.ntmps31
 go_wp2_with (first | ((with_reducible refine gd_ 8 ?_); refine Kd.R_lit (Kd.int .u8) _ 5 ?hg (N:=8) ?hd (xs := ([(wrap64 (48 + (Int.tmod a0 10))) % 256] : List Int)) (inner := [.int .u8 ((wrap64 (48 + (Int.tmod a0 10))) % 256)]) (ok := fun _ => True) (okp := fun _ => True) ?hr ?hp (fun _ hk => hk) trivial (Below.refl _ _) (Nat.le_refl _) (by simp) ?_; (case hd => rfl); (case hg => rfl); (case hr => first | (go_simp; done) | (go_simp; rfl)); (case hp => exact (Reps.one (show Kd.M (Kd.int .u8) _ _ _ ((wrap64 (48 + (Int.tmod a0 10))) % 256) [.int .u8 ((wrap64 (48 + (Int.tmod a0 10))) % 256)] from rfl) (Reps.none _ _))); intro v102 w2 ho3 hb hg_ hnew_; clear hg_ hnew_; (first | rw [← Ny101.out] at ho3 | (simp only [Int.reduceToNat] at ho3; rw [← Ny101.out] at ho3)); have HO103 := A_ (Kd.R_lower ho3 (below_size (pbx HB))); replace HB := bs_ HB hb; clear hb ho3; have hcv4 := own_string (P := Tryd.prog) Tryd.underlying84 Tryd.underlying5 Tryd.underlying9 (Kd.own_of_R HO103.out)))
 go_loopg [0, 3] k (fun kq v0 v3 w' => ∃ (x0_1 : Int) (x3_1 : ByteArray), v0 = .int .i64 x0_1 ∧ v3 = .string x3_1 ∧ Aside0 (oculusref01_Digits.l0 kq x0_1 x3_1 = some r) ∧ Aside0 (kq ≤ k) ∧ Aside0 (Below w.heap.size w w'))
 case atStart => exact ⟨(wrap64 (Int.tdiv a0 10)), (strOfNums y101), sq_, sq_, H', ⟨Nat.le_refl _⟩, ⟨pbx HB⟩⟩
 case round =>
  clear H'; (try clear hcv4); obtain ⟨x0_1, x3_1, rfl, rfl, HA, HK1, HB⟩ := hrel
  cases gk with
  | zero => exact absurd HA.out (by simp [oculusref01_Digits.l0])
  | succ k1 =>
   have H := HA.out; clear HA
   simp only [oculusref01_Digits.l0] at H
   by_cases c5 : x0_1 > 0
   ·rw [if_pos c5] at H; have c5b0 := decide_eq_true c5; clear c5; obtain ⟨y104, hy104⟩ : ∃ y_ : List Int, y_ = (([(wrap64 (48 + (Int.tmod x0_1 10))) % 256] : List Int)) := ⟨_, rfl⟩
    replace H : (if (strOfNums y104).size + x3_1.size ≤ 9223372036854775807 then (oculusref01_Digits.l0 k1 (wrap64 (Int.tdiv x0_1 10)) ((strOfNums y104) ++ x3_1)) else (none)) = some r := by first | (rw [hy104]; with_reducible exact H) | (have H2_ := (Option.bind_some _ _).symm.trans H; rw [hy104]; with_reducible exact H2_) | (have H2_ := (Option.bind_some _ _).symm.trans H; with_reducible exact H2_) | with_reducible exact H | (rw [hy104]; exact H) | exact H
    have Ny104 := A_ hy104; clear hy104
    by_cases c6 : (strOfNums y104).size + x3_1.size ≤ 9223372036854775807
    ·rw [if_pos c6] at H; have c6b0 := eq_true c6; have c6b1 := decide_eq_true c6
     try have c6b2 : (9223372036854775807 < (strOfNums y104).size + x3_1.size) = False := eq_false (Nat.not_lt.2 c6)
     have H' := A_ H
     clear H
     go_wp2_with (first | ((with_reducible refine gd_ 20 ?_); refine Kd.R_lit (Kd.int .u8) _ 5 ?hg (N:=20) ?hd (xs := ([(wrap64 (48 + (Int.tmod x0_1 10))) % 256] : List Int)) (inner := [.int .u8 ((wrap64 (48 + (Int.tmod x0_1 10))) % 256)]) (ok := fun _ => True) (okp := fun _ => True) ?hr ?hp (fun _ hk => hk) trivial (Below.refl _ _) (Nat.le_refl _) (by simp) ?_; (case hd => rfl); (case hg => rfl); (case hr => first | (go_simp; done) | (go_simp; rfl)); (case hp => exact (Reps.one (show Kd.M (Kd.int .u8) _ _ _ ((wrap64 (48 + (Int.tmod x0_1 10))) % 256) [.int .u8 ((wrap64 (48 + (Int.tmod x0_1 10))) % 256)] from rfl) (Reps.none _ _))); intro v105 w7 ho8 hb hg_ hnew_; clear hg_ hnew_; (first | rw [← Ny104.out] at ho8 | (simp only [Int.reduceToNat] at ho8; rw [← Ny104.out] at ho8)); have HO106 := A_ (Kd.R_lower ho8 (below_size (pbx HB))); replace HB := bs_ HB hb; clear hb ho8; have hcv9 := own_string (P := Tryd.prog) Tryd.underlying84 Tryd.underlying5 Tryd.underlying9 (Kd.own_of_R HO106.out)))
     go_roundg k1
     case measure => have := HK1.out; omega
     case rel => exact ⟨(wrap64 (Int.tdiv x0_1 10)), ((strOfNums y104) ++ x3_1), sq_, sq_, H', ⟨by have := HK1.out; omega⟩, ⟨pbx HB⟩⟩
    ·rw [if_neg c6] at H
     exact absurd H (by simp)
   ·rw [if_neg c5] at H; have c5b0 := decide_eq_false c5; clear c5; obtain rfl := Option.some.inj H
    go_wp2
    go_ret
    exact fi_ (pbx HB)

def oculusref02_Every.l0 : Nat → Int → Int → Option (Int)
 | 0, _, _ => none
 | k + 1, x1, x2 => if x2 < 64 then (oculusref02_Every.l0 k (IntKind.u64.wrap ((IntKind.u64.wrap (x1 * 2)) + 1)) (wrap64 (x2 + 1))) else (some x1)
def oculusref02_Every.f (k : Nat)  : Option (Int) := oculusref02_Every.l0 k 0 0
theorem oculusref02_Every.calls (k : Nat)  (r : Int) (w : World) (h : oculusref02_Every.f k  = some r) :
  Calls Tryd.prog 63 #[] w fun e w' => e = .returned (.int .u64 r) ∧ Drawn0 w w' := by
 have H : (oculusref02_Every.l0 k 0 0) = some r := h
 clear h
 have H' := A_ H
 clear H
 go_enter Tryd.func63, Tryd.ntmps63
 go_wp2
 go_loopg [1, 2] k (fun kq v1 v2 w' => ∃ (x1_1 : Int) (x2_1 : Int), v1 = .int .u64 x1_1 ∧ v2 = .int .i64 x2_1 ∧ Aside0 (oculusref02_Every.l0 kq x1_1 x2_1 = some r) ∧ Aside0 (kq ≤ k) ∧ Drawn0 w w')
 case atStart => exact ⟨(0), (0), sq_, sq_, H', ⟨Nat.le_refl _⟩, dr_⟩
 case round =>
  clear H'; obtain ⟨x1_1, x2_1, rfl, rfl, HA, HK1, ⟨m1, rfl⟩⟩ := hrel
  cases gk with
  | zero => exact absurd HA.out (by simp [oculusref02_Every.l0])
  | succ k1 =>
   have H := HA.out; clear HA
   simp only [oculusref02_Every.l0] at H
   by_cases c1 : x2_1 < 64
   ·rw [if_pos c1] at H; have c1b0 := decide_eq_true c1; clear c1
    have H' := A_ H
    clear H
    go_wp2
    go_roundg k1
    case measure => have := HK1.out; omega
    case rel => exact ⟨(IntKind.u64.wrap ((IntKind.u64.wrap (x1_1 * 2)) + 1)), (wrap64 (x2_1 + 1)), sq_, sq_, H', ⟨by have := HK1.out; omega⟩, dr_⟩
   ·rw [if_neg c1] at H; have c1b0 := decide_eq_false c1; clear c1; obtain rfl := Option.some.inj H
    go_wp2
    go_ret
    exact ⟨by first | rfl | (simp; done) | (simp [*]; done), dr_⟩

def oculusref02_Top.f (k : Nat)  : Option (Int × Int) := (oculusref02_Every.f k).bind fun t102 => (some (15, t102))
theorem oculusref02_Top.calls (k : Nat)  (r1 : Int) (r2 : Int) (w : World) (h : oculusref02_Top.f k  = some (r1, r2)) :
  Calls Tryd.prog 39 #[] w fun e w' => e = .returned (.agg #[.int .i64 r1, .int .u64 r2]) ∧ Below w.heap.size w w' := by
 have hu25 := Tryd.underlying25; have HB := A_ (Below.refl w.heap.size w)
 have H : ((oculusref02_Every.f k).bind fun t102 => (some (15, t102))) = some (r1, r2) := h
 clear h; obtain ⟨t102, A1, H⟩ := bo_ H
 simp only [Option.some.injEq, Prod.mk.injEq] at H
 obtain ⟨rfl, rfl⟩ := H
 go_enter Tryd.func39, Tryd.ntmps39
 go_wp2_with (first | ((with_reducible refine gd_ 0 ?_); refine be_ (N:=0) (cs := #[.int .i64 0, .int .u64 0]) (t:=25) ?_; intro g1 hg w2 hbox hb; have B1 := A_ (hbox); have GW101 := hs_ HB hg; have GE101 := hs_ HB hg; replace HB := bs_ HB hb; clear hb hbox hg) | ((with_reducible refine gate_callee (f:=63) rfl ?_); refine gL_ (some 1) rfl rfl Tryd.func63 rfl #[] rfl ?_; (with_reducible refine (oculusref02_Every.calls k  t102 _ A1.out).mono ?_); rintro e w' ⟨rfl, ⟨nd, rfl⟩⟩; refine ⟨_, rfl, ?_⟩; (try (rw [drewN_self w2]; generalize hq_ : World.drewN w2 _ = w2; have n0_ : Aside0 (w2.heap[g1]? = some (.cells #[.int .i64 0, .int .u64 0] 25 (0, 0))) := ⟨by rw [← hq_]; exact (pkx B1)⟩; have n1_ : Aside0 (Below w.heap.size w w2) := ⟨by rw [← hq_]; exact (pbx HB)⟩; clear B1 HB hq_; have B1 := n0_; have HB := n1_; clear n0_ n1_)); have ⟨hcz3_0,hcz3_1,hfz3_0,hfz3_1⟩ := z2_ B1))
 refine bodyPost_ret (results_cell_row rfl _ _ g1 25 #[.int .i64 15, .int .u64 t102] (0, 0) _ rfl (by refine pp_ (cs := #[.int .i64 15, .int .u64 0]) 1 ?_ rfl; refine blk_put (cs := #[.int .i64 0, .int .u64 0]) ?_ 0 _ rfl; exact pkx B1) Tryd.underlying25 rfl (by kernel_rfl)) rfl ?_
 exact fi_ bl_

mutual
def oculusref01_Bit.j0 : Nat → Int → Int → Bool → Option (Bool)
 | 0, _, _, _ => none
 | k + 1, x0, x1, x11 => if x11 = true then (some false) else (oculusref01_Bit.l0 k x0 x1 0)
def oculusref01_Bit.l0 : Nat → Int → Int → Int → Option (Bool)
 | 0, _, _, _ => none
 | k + 1, x0, x1, x5 => if x5 < x1 then (oculusref01_Bit.l0 k (IntKind.u64.wrap (Int.tdiv x0 2)) x1 (wrap64 (x5 + 1))) else (some ((Int.tmod x0 2) == 1))
end
def oculusref01_Bit.f (k : Nat) (a0 : Int) (a1 : Int) : Option (Bool) := if a1 < 0 then (oculusref01_Bit.j0 k a0 a1 true) else (oculusref01_Bit.j0 k a0 a1 (decide (a1 > 63)))
theorem oculusref01_Bit.calls (k : Nat) (a0 : Int) (a1 : Int) (r : Bool) (w : World) (h : oculusref01_Bit.f k a0 a1 = some r) :
  Calls Tryd.prog 79 #[.int .u64 a0, .int .i64 a1] w fun e w' => e = .returned (.bool r) ∧ Drawn0 w w' := by
 have H : (if a1 < 0 then (oculusref01_Bit.j0 k a0 a1 true) else (oculusref01_Bit.j0 k a0 a1 (decide (a1 > 63)))) = some r := h
 clear h; have HC3 := A_ H; clear H
 go_enter Tryd.func79, Tryd.ntmps79
 go_upto_region 1 with (fail)
 go_cut [11] (fun v11 wc => ∃ (kq : Nat) (x11_2 : Bool), v11 = .bool x11_2 ∧ Aside0 (oculusref01_Bit.j0 kq a0 a1 x11_2 = some r) ∧ Aside0 (kq ≤ k) ∧ Drawn0 w wc)
 case first =>
  have H := HC3.out; clear HC3
  by_cases c4 : a1 < 0
  ·rw [if_pos c4] at H; have c4b0 := decide_eq_true c4; clear c4; (first | rw [c4b0] | (simp only [i64_w, i32_w]; rw [c4b0]) | skip)
   have H' := A_ H
   clear H
   go_wp2
   go_meet
   case rel => exact ⟨_, (true), sq_, H', le_, dr_⟩
  ·rw [if_neg c4] at H; have c4b0 := decide_eq_false c4; clear c4; (first | rw [c4b0] | (simp only [i64_w, i32_w]; rw [c4b0]) | skip)
   have H' := A_ H
   clear H
   go_wp2
   go_meet
   case rel => exact ⟨_, (decide (a1 > 63)), sq_, H', le_, dr_⟩
 case rest =>
  clear HC3; obtain ⟨kq, x11_2, rfl, HA, HJ2, ⟨mc2, rfl⟩⟩ := hcut
  cases kq with
  | zero => exact absurd HA.out (by simp [oculusref01_Bit.j0])
  | succ kj2 =>
   have H := HA.out; clear HA
   simp only [oculusref01_Bit.j0] at H
   by_cases c5 : x11_2 = true
   ·subst c5
    replace H := it_ H; obtain rfl := Option.some.inj H
    go_wp2
    go_ret
    exact ⟨by first | rfl | (simp; done) | (simp [*]; done), dr_⟩
   ·replace c5 := Bool.eq_false_iff.mpr c5; subst c5
    replace H := ie_ H
    have H' := A_ H
    clear H
    go_wp2
    go_loopg [0, 5] kj2 (fun kq v0 v5 w' => ∃ (x0_2 : Int) (x5_2 : Int), v0 = .int .u64 x0_2 ∧ v5 = .int .i64 x5_2 ∧ Aside0 (oculusref01_Bit.l0 kq x0_2 a1 x5_2 = some r) ∧ Aside0 (kq ≤ kj2) ∧ Drawn0 w w')
    case atStart => exact ⟨(a0), (0), sq_, sq_, H', ⟨Nat.le_refl _⟩, dr_⟩
    case round =>
     clear H'; (try clear c5); obtain ⟨x0_2, x5_2, rfl, rfl, HA, HK2, ⟨m2, rfl⟩⟩ := hrel
     cases gk with
     | zero => exact absurd HA.out (by simp [oculusref01_Bit.l0])
     | succ k2 =>
      have H := HA.out; clear HA
      simp only [oculusref01_Bit.l0] at H
      by_cases c6 : x5_2 < a1
      ·rw [if_pos c6] at H; have c6b0 := decide_eq_true c6; clear c6
       have H' := A_ H
       clear H
       go_wp2
       go_roundg k2
       case measure => have := HJ2.out; have := HK2.out; omega
       case rel => exact ⟨(IntKind.u64.wrap (Int.tdiv x0_2 2)), (wrap64 (x5_2 + 1)), sq_, sq_, H', ⟨by have := HJ2.out; have := HK2.out; omega⟩, dr_⟩
      ·rw [if_neg c6] at H; have c6b0 := decide_eq_false c6; clear c6; obtain rfl := Option.some.inj H
       go_wp2
       go_ret
       exact ⟨by first | rfl | (simp; done) | (simp [*]; done), dr_⟩

def oculusref01_List.l0 : Nat → Int → List Int → Int → Option (List Int)
 | 0, _, _, _ => none
 | k + 1, x0, x3, x4 => if x4 < 64 then ((oculusref01_Bit.f k x0 x4).bind fun t101 => (if t101 = true then (if x3.length < 17592186044416 then (oculusref01_List.l0 k x0 (x3 ++ [x4]) (wrap64 (x4 + 1))) else (none)) else (oculusref01_List.l0 k x0 x3 (wrap64 (x4 + 1))))) else (some x3)
def oculusref01_List.f (k : Nat) (a0 : Int) : Option (List Int) := oculusref01_List.l0 k a0 ([] : List Int) 0
theorem oculusref01_List.calls (k : Nat) (a0 : Int) (r : List Int) (w : World) (h : oculusref01_List.f k a0 = some r) :
  Calls Tryd.prog 73 #[.int .u64 a0] w fun e w' => ∃ v0_ : Value, e = .returned (v0_) ∧ Kd.R (Kd.int .i64) 3 w' w.heap.size (fun _ => True) v0_ r ∧ Below w.heap.size w w' := by
 have HB := A_ (Below.refl w.heap.size w)
 have H : (oculusref01_List.l0 k a0 ([] : List Int) 0) = some r := h
 clear h
 have H' := A_ H
 clear H
 go_enter Tryd.func73, Tryd.ntmps73
 go_wp2
 go_loopg [3, 4] k (fun kq v3 v4 w' => ∃ (x3_1 : List Int) (x4_1 : Int), v4 = .int .i64 x4_1 ∧ Aside0 (oculusref01_List.l0 kq a0 x3_1 x4_1 = some r) ∧ Aside0 (kq ≤ k) ∧ Aside0 (Kd.R (Kd.int .i64) 3 w' w.heap.size (fun _ => True) v3 x3_1) ∧ Aside0 (Below w.heap.size w w'))
 case atStart => exact ⟨(([] : List Int)), (0), sq_, H', ⟨Nat.le_refl _⟩, ⟨by first | exact Kd.R_nil _ _ _ _ _ | exact Kd.N_nil _ _ _ _ _ | exact Kd.V_nil _ _ _ _ _ | exact Kd.Q_nil _ _ _ _ _ | exact Kd.S_nil _ _ _ _ _⟩, ⟨pbx HB⟩⟩
 case round =>
  clear H'; obtain ⟨x3_1, x4_1, rfl, HA, HK1, HO_3, HB⟩ := hrel
  cases gk with
  | zero => exact absurd HA.out (by simp [oculusref01_List.l0])
  | succ k1 =>
   have H := HA.out; clear HA
   simp only [oculusref01_List.l0] at H
   by_cases c2 : x4_1 < 64
   ·rw [if_pos c2] at H; have c2b0 := decide_eq_true c2; clear c2; obtain ⟨t101, A3, H⟩ := bo_ H
    by_cases c4 : t101 = true
    ·subst c4
     replace H := it_ H
     by_cases c5 : x3_1.length < 17592186044416
     ·rw [if_pos c5] at H; have LMc5 := A_ c5; clear c5; obtain ⟨y102, hy102⟩ : ∃ y_ : List Int, y_ = (x3_1 ++ [x4_1]) := ⟨_, rfl⟩
      replace H : (oculusref01_List.l0 k1 a0 y102 (wrap64 (x4_1 + 1))) = some r := by first | (rw [hy102]; with_reducible exact H) | (have H2_ := (Option.bind_some _ _).symm.trans H; rw [hy102]; with_reducible exact H2_) | (have H2_ := (Option.bind_some _ _).symm.trans H; with_reducible exact H2_) | with_reducible exact H | (rw [hy102]; exact H) | exact H
      have Ny102 := A_ hy102; clear hy102
      have H' := A_ H
      clear H
      go_wp2_with (first | ((with_reducible refine gate_callee (f:=79) rfl ?_); refine gL_ (some 11) rfl rfl Tryd.func79 rfl #[.int .u64 a0, .int .i64 x4_1] rfl ?_; (with_reducible refine (oculusref01_Bit.calls k1 a0 x4_1 true _ A3.out).mono ?_); rintro e w' ⟨rfl, ⟨nd, rfl⟩⟩; refine ⟨_, rfl, ?_⟩) | ((with_reducible refine gate_builtin (b := .append) (xs := #[.tmp 12, .tmp 14]) rfl ?_); at_builtin; refine Kd.R_append (Kd.int .i64) (w0 := w) w.heap.size rfl (.tmp 12) (.tmp 14) 104 3 (.int .i64 0) 8 rfl Tryd.underlying104 info3 rfl (by decide) (by omega) u3 x3_1 x4_1 [.int .i64 x4_1] (fun _ => True) (fun _ => False) rfl rfl ?aP (fun _ hk => hk.elim) ?aF ?aO ?aB ?aS ?aL ?_; (case aP => exact rfl); (case aB => exact (pbx HB)); (case aF => exact (fun _ _ => trivial)); (case aO => exact (ra_ HO_3.out)); (case aS => exact (below_size (pbx HB))); (case aL => have := LMc5.out; omega); intro v103 w6 ho hb hg hat; rw [← Ny102.out] at ho; have HO104 := A_ (ho); replace HB := A_ (hb); clear HO_3; clear ho hb hg hat))
      go_roundg k1
      case measure => have := HK1.out; omega
      case rel => exact ⟨(y102), (wrap64 (x4_1 + 1)), sq_, H', ⟨by have := HK1.out; omega⟩, ⟨ra_ HO104.out⟩, ⟨pbx HB⟩⟩
     ·rw [if_neg c5] at H
      exact absurd H (by simp)
    ·replace c4 := Bool.eq_false_iff.mpr c4; subst c4
     replace H := ie_ H
     have H' := A_ H
     clear H
     go_wp2_with (first | ((with_reducible refine gate_callee (f:=79) rfl ?_); refine gL_ (some 11) rfl rfl Tryd.func79 rfl #[.int .u64 a0, .int .i64 x4_1] rfl ?_; (with_reducible refine (oculusref01_Bit.calls k1 a0 x4_1 false _ A3.out).mono ?_); rintro e w' ⟨rfl, ⟨nd, rfl⟩⟩; refine ⟨_, rfl, ?_⟩))
     go_roundg k1
     case measure => have := HK1.out; omega
     case rel => exact ⟨(x3_1), (wrap64 (x4_1 + 1)), sq_, H', ⟨by have := HK1.out; omega⟩, ⟨ra_ HO_3.out⟩, ⟨pbx HB⟩⟩
   ·rw [if_neg c2] at H; have c2b0 := decide_eq_false c2; clear c2; obtain rfl := Option.some.inj H
    go_wp2
    go_ret
    exact ⟨_, by first | rfl | (simp [errW_none, errW_some] <;> rfl) | (simp [*, errW_none, errW_some] <;> rfl), ra_ HO_3.out, pbx HB⟩

def oculusref01_Text.l0 : Nat → ByteArray → List Int → Int → Option (ByteArray)
 | 0, _, _, _ => none
 | k + 1, x3, x4, x5 => if x5 < (x4.length : Int) then (if x5 > 0 then (if x3.size + 1 ≤ 9223372036854775807 then (if 0 ≤ x5 then ((oculusref01_Digits.f k (rd x4 x5)).bind fun t105 => (if (x3 ++ (⟨#[44]⟩ : ByteArray)).size + t105.size ≤ 9223372036854775807 then (oculusref01_Text.l0 k ((x3 ++ (⟨#[44]⟩ : ByteArray)) ++ t105) x4 (wrap64 (x5 + 1))) else (none))) else (none)) else (none)) else (if 0 ≤ x5 then ((oculusref01_Digits.f k (rd x4 x5)).bind fun t107 => (if x3.size + t107.size ≤ 9223372036854775807 then (oculusref01_Text.l0 k (x3 ++ t107) x4 (wrap64 (x5 + 1))) else (none))) else (none))) else (some x3)
def oculusref01_Text.f (k : Nat) (a0 : Int) : Option (ByteArray) := (oculusref01_List.f k a0).bind fun t101 => (oculusref01_Text.l0 k (⟨#[]⟩ : ByteArray) t101 0)
theorem oculusref01_Text.calls (k : Nat) (a0 : Int) (r : ByteArray) (w : World) (h : oculusref01_Text.f k a0 = some r) :
  Calls Tryd.prog 54 #[.int .u64 a0] w fun e w' => e = .returned (.string r) ∧ Below w.heap.size w w' := by
 have HB := A_ (Below.refl w.heap.size w)
 have H : ((oculusref01_List.f k a0).bind fun t101 => (oculusref01_Text.l0 k (⟨#[]⟩ : ByteArray) t101 0)) = some r := h
 clear h; obtain ⟨t101, A2, H⟩ := bo_ H
 have H' := A_ H
 clear H
 go_enter Tryd.func54, Tryd.ntmps54
 go_wp2_with (first | ((with_reducible refine gate_callee (f:=73) rfl ?_); refine gL_ (some 7) rfl rfl Tryd.func73 rfl #[.int .u64 a0] rfl ?_; (with_reducible refine (oculusref01_List.calls k a0 t101 _ A2.out).mono ?_); rintro e w3 ⟨v102, rfl, ho0, hb⟩; refine ⟨_, rfl, ?_⟩; have HO103 := A_ (Kd.R_lower ho0 (below_size (pbx HB))); replace HB := bs_ HB hb; ))
 go_loopg [3, 5] k (fun kq v3 v5 w' => ∃ (x3_1 : ByteArray) (x5_1 : Int), v3 = .string x3_1 ∧ v5 = .int .i64 x5_1 ∧ Aside0 (oculusref01_Text.l0 kq x3_1 t101 x5_1 = some r) ∧ Aside0 (kq ≤ k) ∧ Aside0 (Kd.R (Kd.int .i64) 3 w' w.heap.size (fun _ => True) v102 t101) ∧ Aside0 (Below w.heap.size w w'))
 case atStart => exact ⟨((⟨#[]⟩ : ByteArray)), (0), sq_, sq_, H', ⟨Nat.le_refl _⟩, ⟨ra_ HO103.out⟩, ⟨pbx HB⟩⟩
 case round =>
  clear H'; obtain ⟨x3_1, x5_1, rfl, rfl, HA, HK1, HO_4, HB⟩ := hrel
  cases gk with
  | zero => exact absurd HA.out (by simp [oculusref01_Text.l0])
  | succ k1 =>
   have H := HA.out; clear HA
   simp only [oculusref01_Text.l0] at H
   by_cases c4 : x5_1 < (t101.length : Int)
   ·rw [if_pos c4] at H; have c4b0 := decide_eq_true c4; clear c4
    by_cases c5 : x5_1 > 0
    ·rw [if_pos c5] at H; have c5b0 := decide_eq_true c5; clear c5
     by_cases c6 : x3_1.size + 1 ≤ 9223372036854775807
     ·rw [if_pos c6] at H; have c6b0 := eq_true c6; have c6b1 := decide_eq_true c6
      try have c6b2 : (9223372036854775807 < x3_1.size + 1) = False := eq_false (Nat.not_lt.2 c6)
      by_cases c7 : 0 ≤ x5_1
      ·rw [if_pos c7] at H; have c7b0 := decide_eq_true c7; clear c7; obtain ⟨t105, A8, H⟩ := bo_ H
       by_cases c9 : (x3_1 ++ (⟨#[44]⟩ : ByteArray)).size + t105.size ≤ 9223372036854775807
       ·rw [if_pos c9] at H; have c9b0 := eq_true c9; have c9b1 := decide_eq_true c9
        try have c9b2 : (9223372036854775807 < (x3_1 ++ (⟨#[44]⟩ : ByteArray)).size + t105.size) = False := eq_false (Nat.not_lt.2 c9)
        try have c9b2z : (9223372036854775807 < x3_1.size + 1 + t105.size) = False := by have h9_ := c9b2; rw [ByteArray.size_append] at h9_; exact h9_
        have H' := A_ H
        clear H; obtain ⟨Ao10, co10, eo10⟩ := Kd.R_slice HO_4.out; subst eo10
        have p104 : 0 ≤ (x5_1 : Int) := of_decide_eq_true as_
        have q104 : x5_1 < (t101.length : Int) := of_decide_eq_true as_
        obtain ⟨ad104, e104, hx104_0⟩ := Kd.at_int (Kd.R_reads' HO_4.out).2.2 x5_1 p104 q104
        cases e104
        replace p104 := eq_true p104; replace q104 := eq_true q104
        go_wp2_with (first | ((with_reducible refine gate_callee (f:=31) rfl ?_); refine gL_ (some 23) rfl rfl Tryd.func31 rfl #[.int .i64 (rd t101 x5_1)] rfl ?_; (with_reducible refine (oculusref01_Digits.calls k1 (rd t101 x5_1) t105 _ A8.out).mono ?_); rintro e w11 ⟨rfl, hb⟩; refine ⟨_, rfl, ?_⟩; replace HO_4 := A_ (Kd.R_below (ra_ HO_4.out) hb); replace HB := bs_ HB hb; (try clear hb); ))
        go_roundg k1
        case measure => have := HK1.out; omega
        case rel => exact ⟨((x3_1 ++ (⟨#[44]⟩ : ByteArray)) ++ t105), (wrap64 (x5_1 + 1)), (by first | rfl | (simp; done) | (simp [*]; done) | (cases t105 <;> simp; done)), sq_, H', ⟨by have := HK1.out; omega⟩, ⟨ra_ HO_4.out⟩, ⟨pbx HB⟩⟩
       ·rw [if_neg c9] at H
        exact absurd H (by simp)
      ·rw [if_neg c7] at H
       exact absurd H (by simp)
     ·rw [if_neg c6] at H
      exact absurd H (by simp)
    ·rw [if_neg c5] at H; have c5b0 := decide_eq_false c5; clear c5
     by_cases c12 : 0 ≤ x5_1
     ·rw [if_pos c12] at H; have c12b0 := decide_eq_true c12; clear c12; obtain ⟨t107, A13, H⟩ := bo_ H
      by_cases c14 : x3_1.size + t107.size ≤ 9223372036854775807
      ·rw [if_pos c14] at H; have c14b0 := eq_true c14; have c14b1 := decide_eq_true c14
       try have c14b2 : (9223372036854775807 < x3_1.size + t107.size) = False := eq_false (Nat.not_lt.2 c14)
       have H' := A_ H
       clear H; obtain ⟨Ao15, co15, eo15⟩ := Kd.R_slice HO_4.out; subst eo15
       have p106 : 0 ≤ (x5_1 : Int) := of_decide_eq_true as_
       have q106 : x5_1 < (t101.length : Int) := of_decide_eq_true as_
       obtain ⟨ad106, e106, hx106_0⟩ := Kd.at_int (Kd.R_reads' HO_4.out).2.2 x5_1 p106 q106
       cases e106
       replace p106 := eq_true p106; replace q106 := eq_true q106
       go_wp2_with (first | ((with_reducible refine gate_callee (f:=31) rfl ?_); refine gL_ (some 23) rfl rfl Tryd.func31 rfl #[.int .i64 (rd t101 x5_1)] rfl ?_; (with_reducible refine (oculusref01_Digits.calls k1 (rd t101 x5_1) t107 _ A13.out).mono ?_); rintro e w16 ⟨rfl, hb⟩; refine ⟨_, rfl, ?_⟩; replace HO_4 := A_ (Kd.R_below (ra_ HO_4.out) hb); replace HB := bs_ HB hb; (try clear hb); ))
       go_roundg k1
       case measure => have := HK1.out; omega
       case rel => exact ⟨(x3_1 ++ t107), (wrap64 (x5_1 + 1)), (by first | rfl | (simp; done) | (simp [*]; done) | (cases t107 <;> simp; done)), sq_, H', ⟨by have := HK1.out; omega⟩, ⟨ra_ HO_4.out⟩, ⟨pbx HB⟩⟩
      ·rw [if_neg c14] at H
       exact absurd H (by simp)
     ·rw [if_neg c12] at H
      exact absurd H (by simp)
   ·rw [if_neg c4] at H; have c4b0 := decide_eq_false c4; clear c4; obtain rfl := Option.some.inj H; obtain ⟨Ao17, co17, eo17⟩ := Kd.R_slice HO_4.out; subst eo17
    go_wp2
    go_ret
    exact fi_ (pbx HB)

end Go.Proofs.YtajoebfkkknjhaaDoor.X
