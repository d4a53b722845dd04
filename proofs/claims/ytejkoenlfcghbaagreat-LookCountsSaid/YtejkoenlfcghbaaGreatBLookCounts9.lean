/- The law LookCounts: for every input the call returns true, and each argument reads afterwards as it read before: the statement Rows.LookCountsSaid, whole, with no condition of ours. -/
import Derived.Test.YtejkoenlfcghbaaGreatRows
import Derived.WalkKit
import Derived.ProofKit
import Derived.OpenShut
import Derived.ShutString
import Derived.ChangeOld
import Derived.Below
import Derived.SizedLaws
import Derived.Carry
import Derived.Test.YtejkoenlfcghbaaGreatBLookCounts8
set_option maxHeartbeats 8000000
set_option maxRecDepth 100000
/- The pure statement of the law LookCounts. -/
set_option linter.unusedVariables false
set_option linter.unusedSimpArgs false
namespace Go.Proofs.YtejkoenlfcghbaaGreat.Pure
open Go.RowKit Go.Proofs.YtejkoenlfcghbaaGreat.X Go.Proofs.YtejkoenlfcghbaaGreat.Opn Go.Proofs.YtejkoenlfcghbaaGreatW.PrintWords Go.Proofs.YtejkoenlfcghbaaGreatW.PrintLast Go.Proofs.YtejkoenlfcghbaaGreatW.PrintMore
theorem hit_both (o ck cn : Int) (ct : ByteArray) (R C : Int) (V : List SW) (hV : okL V) (ho : 7 ≤ o ∧ o ≤ 12) (hc : value_May.f ck cn ct = some true) : ∀ (d i : Nat), i + d = V.length → ∃ L : List SW, (∀ v ∈ L, v ∈ V) ∧ L.length ≤ d ∧ ∀ acc : List SW, acc.length ≤ 100000 + i →
  Ev (fun k => look_hit.l0 k acc V (V.length : Int) (i : Int) o ck cn ct) (acc ++ L, 0, 0, NV) ∧ Ev (fun k => oculusref18_Hit.l0 k acc (i : Int) R C V o ck cn ct) (acc ++ L)
 | 0, i, h => by
  refine ⟨[], fun _ hv => by simp at hv, Nat.le_refl _, fun acc _ => ⟨?_, ?_⟩⟩
  ·rw [List.append_nil]
   exact Ev.step (fun k => look_hit.l0.eq_2 ..) (ev_neg (by omega) (Ev.now _))
  ·rw [List.append_nil]
   exact Ev.step (fun k => oculusref18_Hit.l0.eq_2 ..) (ev_neg (by omega) (Ev.now _))
 | d + 1, i, h => by
  have hl := hV.1
  have hi : i < V.length := by omega
  obtain ⟨L, hL1, hL2, hL3⟩ := hit_both o ck cn ct R C V hV ho hc d (i + 1) (by omega)
  obtain ⟨b, e1, e2⟩ := hits_both o ck cn ct V[i].f0 V[i].f1 V[i].f2 ho hc (hV.2 _ (List.getElem_mem hi)).1
  have hw : wrap64 ((i : Int) + 1) = ((i + 1 : Nat) : Int) := w64s (n := 1000000) (by omega) (by omega)
  cases b with
  | true =>
   refine ⟨V[i] :: L, ?_, by simp; omega, fun acc ha => ⟨?_, ?_⟩⟩
   ·intro v hv
    rcases List.mem_cons.1 hv with rfl | hv
    ·exact List.getElem_mem hi
    ·exact hL1 v hv
   ·have := (hL3 (acc ++ [V[i]]) (by rw [List.length_append, List.length_singleton]; omega)).1
    rw [List.append_assoc, List.singleton_append] at this
    refine Ev.step (fun k => look_hit.l0.eq_2 ..) (ev_pos (by omega) (ev_pos (by omega) (ev_pos (by omega) ?_)))
    rw [rdS V i hi, hw]
    exact ev_bind e1 (ev_pos rfl (ev_pos (by omega) this))
   ·have := (hL3 (acc ++ [V[i]]) (by rw [List.length_append, List.length_singleton]; omega)).2
    rw [List.append_assoc, List.singleton_append] at this
    refine Ev.step (fun k => oculusref18_Hit.l0.eq_2 ..) (ev_pos (by omega) (ev_neg (by omega) (ev_pos (by omega) ?_)))
    rw [rdS V i hi]
    refine ev_bind e2 (Ev.step (fun k => oculusref18_Hit.j1.eq_2 ..) (ev_pos rfl (ev_pos (by omega) (ev_pos (by omega) (ev_pos (by omega) ?_)))))
    rw [rdS V i hi, hw]
    exact this
  | false =>
   refine ⟨L, hL1, by omega, fun acc ha => ⟨?_, ?_⟩⟩
   ·have := (hL3 acc (by omega)).1
    refine Ev.step (fun k => look_hit.l0.eq_2 ..) (ev_pos (by omega) (ev_pos (by omega) (ev_pos (by omega) ?_)))
    rw [rdS V i hi, hw]
    exact ev_bind e1 (ev_neg (by simp) this)
   ·have := (hL3 acc (by omega)).2
    refine Ev.step (fun k => oculusref18_Hit.l0.eq_2 ..) (ev_pos (by omega) (ev_neg (by omega) (ev_pos (by omega) ?_)))
    rw [rdS V i hi]
    refine ev_bind e2 (Ev.step (fun k => oculusref18_Hit.j1.eq_2 ..) (ev_neg (by simp) ?_))
    rw [hw]
    exact this
theorem okL_sub {V L : List SW} (hV : okL V) (h1 : ∀ v ∈ L, v ∈ V) (h2 : L.length ≤ V.length) : okL L := ⟨Nat.le_trans h2 hV.1, fun v hv => hV.2 v (h1 v hv)⟩
theorem hits (R C : Int) (V : List SW) (hV : okL V) (x : SW) (hx : mayS x = true) :
  (x.f0 = 4 ∧ Ev (fun k => look_hit.f k R C V x.f0 x.f1 x.f2) ([], x.f0, x.f1, x.f2)) ∨
  (x.f0 ≠ 4 ∧ ∃ L : List SW, okL L ∧ Ev (fun k => look_hit.f k R C V x.f0 x.f1 x.f2) (L, 0, 0, NV) ∧ Ev (fun k => oculusref18_Hit.f k R C V x.f0 x.f1 x.f2) L) := by
 have hl := hV.1
 obtain ⟨o, v, ok, h1, h2, h3, h4⟩ := of_both x.f0 x.f1 x.f2 hx
 cases ok with
 | false =>
  refine .inl ⟨(h4 rfl).2, ?_⟩
  unfold look_hit.f
  exact ev_bind h1 (ev_neg (by simp) (Ev.now _))
 | true =>
  refine .inr ⟨?_, ?_⟩
  ·intro h
   have h5 : Ev (fun m => crit_Of.f m x.f0 x.f1 x.f2) (0, 0, 0, NV, false) := by
    unfold crit_Of.f
    exact ev_pos h (Ev.now _)
   obtain ⟨K1, q1⟩ := h1
   obtain ⟨K2, q2⟩ := h5
   have := (q1 (max K1 K2) (by omega)).symm.trans (q2 (max K1 K2) (by omega))
   simp at this
  ·obtain ⟨b1, b2, b3⟩ := h3 rfl
   obtain ⟨L, a1, a2, a3⟩ := hit_both o v.1 v.2.1 v.2.2 R C V hV ⟨b1, b2⟩ b3 V.length 0 (by omega)
   obtain ⟨c1, c2⟩ := a3 [] (by simp)
   refine ⟨L, okL_sub hV a1 a2, ?_, ?_⟩
   ·unfold look_hit.f
    exact ev_bind h1 (ev_pos rfl c1)
   ·unfold oculusref18_Hit.f
    exact ev_bind h2 c2
theorem of_len (n : Nat) (hn : n ≤ 1000) : Ev (fun k => dec_Of.f k (n : Int)) (((n * 10000 : Nat) : Int), true) := by
 unfold dec_Of.f
 have := scaled_ev n 10000 (by omega) (by omega)
 rw [if_pos (by omega)] at this
 exact ev_bind this (Ev.now _)
theorem count_l (R C : Int) (V : List SW) (x : SW) (L : List SW) (hL : okL L) (h : Ev (fun k => look_hit.f k R C V x.f0 x.f1 x.f2) (L, 0, 0, NV)) : Ev (fun k => look_CountIf.f k R C V x.f0 x.f1 x.f2) (1, ((L.length * 10000 : Nat) : Int), NV) := by
 have hl := hL.1
 unfold look_CountIf.f
 refine ev_bind h (ev_neg (by show ¬ (0 : Int) = 4; omega) (ev_bind (of_len L.length hl) (ev_bind (a := (1, ((L.length * 10000 : Nat) : Int), NV)) (ev_some fun _ => ?_) (Ev.now _))))
 unfold value_Got.f
 rw [if_pos rfl, num_eq ((L.length * 10000 : Nat) : Int) (by omega)]; rfl
theorem count_r (R C : Int) (V : List SW) (x : SW) (hx : x.f0 ≠ 4) (L : List SW) (hL : okL L) (h : Ev (fun k => oculusref18_Hit.f k R C V x.f0 x.f1 x.f2) L) : Ev (fun k => oculusref18_Count.f k R C V x.f0 x.f1 x.f2) (1, ((L.length * 10000 : Nat) : Int), NV) := by
 have hl := hL.1
 unfold oculusref18_Count.f
 refine ev_neg hx (ev_bind h (ev_bind (a := (1, ((L.length * 10000 : Nat) : Int), NV)) (ev_some fun _ => ?_) (Ev.now _)))
 have : wrap64 ((L.length : Int) * 10000) = ((L.length * 10000 : Nat) : Int) := by rw [w64 (by omega) (by omega)]; omega
 rw [this, rnum_eq _ ⟨by omega, by omega⟩]
def nof (V : List SW) : Nat := (V.filter fun v => decide (v.f0 ≠ 4)).length
theorem hits78 (ck cn : Int) (ct : ByteArray) (v : SW) (hc : value_May.f ck cn ct = some true) (hv : mayS v = true) :
  ∃ b : Bool, Ev (fun j => crit_Hits.f j 7 ck cn ct v.f0 v.f1 v.f2) (b && decide (v.f0 ≠ 4)) ∧ Ev (fun j => crit_Hits.f j 8 ck cn ct v.f0 v.f1 v.f2) (!b && decide (v.f0 ≠ 4)) := by
 by_cases g4 : v.f0 = 4
 ·refine ⟨true, ?_, ?_⟩
  ·rw [decide_eq_false (by simpa using g4), Bool.and_false]
   unfold crit_Hits.f
   exact ev_pos g4 (Ev.now _)
  ·rw [decide_eq_false (by simpa using g4), Bool.and_false]
   unfold crit_Hits.f
   exact ev_pos g4 (Ev.now _)
 rw [decide_eq_true g4]
 obtain ⟨b7, e7, _⟩ := hits_both 7 ck cn ct v.f0 v.f1 v.f2 ⟨by omega, by omega⟩ hc hv
 obtain ⟨b8, e8, _⟩ := hits_both 8 ck cn ct v.f0 v.f1 v.f2 ⟨by omega, by omega⟩ hc hv
 have key : b8 = !b7 := by
  obtain ⟨K7, q7⟩ := e7
  obtain ⟨K8, q8⟩ := e8
  have a7 := q7 (max K7 K8 + 3) (by omega)
  have a8 := q8 (max K7 K8 + 3) (by omega)
  generalize max K7 K8 = K at a7 a8
  have core : ∀ (vk vn : Int) (vt : ByteArray), crit_Hits.j0 (K + 3) 7 ck cn ct vk vn vt = some b7 → crit_Hits.j0 (K + 3) 8 ck cn ct vk vn vt = some b8 → b8 = !b7 := by
   intro vk vn vt h7 h8
   rw [crit_Hits.j0.eq_2] at h7 h8
   by_cases c1 : vk = ck
   ·rw [if_pos c1] at h7 h8
    by_cases c2 : vk = 2
    ·rw [if_pos c2, if_pos rfl, crit_Hits.j1.eq_2, if_pos rfl] at h7
     rw [if_pos c2, if_neg (by omega), show ((8 : Int) == 8) = true from rfl, crit_Hits.j1.eq_2, if_pos rfl] at h8
     obtain ⟨x, hx, h7⟩ := Option.bind_eq_some_iff.1 h7
     rw [hx] at h8
     rw [← Option.some.inj h7, ← Option.some.inj h8]
     cases x <;> rfl
    ·rw [if_neg c2, crit_Hits.j1.eq_2, if_neg (by simp)] at h7 h8
     obtain ⟨x, hx, h7⟩ := Option.bind_eq_some_iff.1 h7
     rw [hx, Option.bind_some] at h8
     rw [crit_Hits.j2.eq_2, if_pos rfl] at h7
     rw [crit_Hits.j2.eq_2, if_neg (by omega), if_pos rfl] at h8
     rw [← Option.some.inj h7, ← Option.some.inj h8]
     rfl
   ·rw [if_neg c1] at h7 h8
    rw [← Option.some.inj h7, ← Option.some.inj h8]
    rfl
  unfold crit_Hits.f at a7 a8
  dsimp only at a7 a8
  rw [if_neg g4] at a7 a8
  by_cases g0 : v.f0 = 0
  ·rw [if_pos g0] at a7 a8
   obtain ⟨y, hy, a7⟩ := Option.bind_eq_some_iff.1 a7
   rw [hy, Option.bind_some] at a8
   exact core _ _ _ a7 a8
  ·rw [if_neg g0] at a7 a8
   exact core _ _ _ a7 a8
 subst key
 exact ⟨b7, by rw [Bool.and_true]; exact e7, by rw [Bool.and_true]; exact e8⟩
theorem nof_cons (v : SW) (vs : List SW) : nof (v :: vs) = (if v.f0 = 4 then 0 else 1) + nof vs := by
 unfold nof
 by_cases g : v.f0 = 4
 ·simp [g]
 ·simp [g]; omega
theorem hit78 (ck cn : Int) (ct : ByteArray) (V : List SW) (hV : okL V) (hc : value_May.f ck cn ct = some true) : ∀ (d i : Nat), i + d = V.length → ∃ L7 L8 : List SW, (∀ v ∈ L7, v ∈ V) ∧ (∀ v ∈ L8, v ∈ V) ∧ L7.length + L8.length = nof (V.drop i) ∧ L7.length ≤ d ∧ L8.length ≤ d ∧ ∀ acc : List SW, acc.length ≤ 100000 + i →
  Ev (fun k => look_hit.l0 k acc V (V.length : Int) (i : Int) 7 ck cn ct) (acc ++ L7, 0, 0, NV) ∧ Ev (fun k => look_hit.l0 k acc V (V.length : Int) (i : Int) 8 ck cn ct) (acc ++ L8, 0, 0, NV)
 | 0, i, h => by
  refine ⟨[], [], fun _ hv => by simp at hv, fun _ hv => by simp at hv, ?_, Nat.le_refl _, Nat.le_refl _, fun acc _ => ⟨?_, ?_⟩⟩
  ·rw [List.drop_eq_nil_of_le (by omega)]; rfl
  ·rw [List.append_nil]
   exact Ev.step (fun k => look_hit.l0.eq_2 ..) (ev_neg (by omega) (Ev.now _))
  ·rw [List.append_nil]
   exact Ev.step (fun k => look_hit.l0.eq_2 ..) (ev_neg (by omega) (Ev.now _))
 | d + 1, i, h => by
  have hl := hV.1
  have hi : i < V.length := by omega
  obtain ⟨L7, L8, m7, m8, hs, n7, n8, hL⟩ := hit78 ck cn ct V hV hc d (i + 1) (by omega)
  obtain ⟨b, e7, e8⟩ := hits78 ck cn ct V[i] hc (hV.2 _ (List.getElem_mem hi)).1
  have hw : wrap64 ((i : Int) + 1) = ((i + 1 : Nat) : Int) := w64s (n := 1000000) (by omega) (by omega)
  have put : ∀ (o : Int) (L : List SW), (∀ v ∈ L, v ∈ V) → L.length ≤ d → (∀ acc : List SW, acc.length ≤ 100000 + (i + 1) → Ev (fun k => look_hit.l0 k acc V (V.length : Int) ((i + 1 : Nat) : Int) o ck cn ct) (acc ++ L, 0, 0, NV)) → ∀ c : Bool, Ev (fun j => crit_Hits.f j o ck cn ct V[i].f0 V[i].f1 V[i].f2) c →
    ∃ L' : List SW, (∀ v ∈ L', v ∈ V) ∧ L'.length = L.length + (if c = true then 1 else 0) ∧ ∀ acc : List SW, acc.length ≤ 100000 + i → Ev (fun k => look_hit.l0 k acc V (V.length : Int) (i : Int) o ck cn ct) (acc ++ L', 0, 0, NV) := by
   intro o L mL nL hL c hc'
   cases c with
   | true =>
    refine ⟨V[i] :: L, ?_, by simp, fun acc ha => ?_⟩
    ·intro v hv
     rcases List.mem_cons.1 hv with rfl | hv
     ·exact List.getElem_mem hi
     ·exact mL v hv
    ·have := hL (acc ++ [V[i]]) (by rw [List.length_append, List.length_singleton]; omega)
     rw [List.append_assoc, List.singleton_append] at this
     refine Ev.step (fun k => look_hit.l0.eq_2 ..) (ev_pos (by omega) (ev_pos (by omega) (ev_pos (by omega) ?_)))
     rw [rdS V i hi, hw]
     exact ev_bind hc' (ev_pos rfl (ev_pos (by omega) this))
   | false =>
    refine ⟨L, mL, by simp, fun acc ha => ?_⟩
    have := hL acc (by omega)
    refine Ev.step (fun k => look_hit.l0.eq_2 ..) (ev_pos (by omega) (ev_pos (by omega) (ev_pos (by omega) ?_)))
    rw [rdS V i hi, hw]
    exact ev_bind hc' (ev_neg (by simp) this)
  obtain ⟨A, mA, nA, eA⟩ := put 7 L7 m7 n7 (fun acc ha => (hL acc ha).1) _ e7
  obtain ⟨B, mB, nB, eB⟩ := put 8 L8 m8 n8 (fun acc ha => (hL acc ha).2) _ e8
  refine ⟨A, B, mA, mB, ?_, ?_, ?_, fun acc ha => ⟨eA acc ha, eB acc ha⟩⟩
  ·rw [List.drop_eq_getElem_cons hi, nof_cons, nA, nB]
   by_cases g : V[i].f0 = 4
   ·simp [g]; omega
   ·cases b <;> simp [g] <;> omega
  ·rw [nA]; split <;> omega
  ·rw [nB]; split <;> omega
theorem faults_l0 (R C : Int) (V : List SW) (hl : V.length ≤ 1000) (a b c d : Int) (s t : ByteArray) (hs : wrap64 (b + d) = wrap64 (wrap64 ((V.length : Int) - ((V.length - nof V : Nat) : Int)) * 10000)) : ∀ (n i : Nat), i + n = V.length →
  Ev (fun k => oculuslaw18_LookCounts.l0 k ((i - nof (V.take i) : Nat) : Int) V (V.length : Int) (i : Int) R C V a b s c d t) true
 | 0, i, h => by
  refine Ev.step (fun k => oculuslaw18_LookCounts.l0.eq_2 ..) (ev_neg (by omega) (ev_pos ?_ (ev_bind alive18_ev (Ev.now _))))
  rw [show i = V.length by omega, List.take_length]
  exact hs
 | n + 1, i, h => by
  have hi : i < V.length := by omega
  have hw : wrap64 ((i : Int) + 1) = ((i + 1 : Nat) : Int) := w64s (n := 1000000) (by omega) (by omega)
  have hle : nof (V.take i) ≤ i := by
   unfold nof
   exact Nat.le_trans (List.length_filter_le ..) (by rw [List.length_take]; omega)
  have ht : nof (V.take (i + 1)) = nof (V.take i) + (if V[i].f0 = 4 then 0 else 1) := by
   rw [List.take_add_one, List.getElem?_eq_getElem hi]
   unfold nof
   rw [List.filter_append, List.length_append]
   by_cases g : V[i].f0 = 4
   ·simp [g]
   ·simp [g]
  have nx := faults_l0 R C V hl a b c d s t hs n (i + 1) (by omega)
  rw [ht] at nx
  refine Ev.step (fun k => oculuslaw18_LookCounts.l0.eq_2 ..) (ev_pos (by omega) (ev_pos (by omega) (ev_pos (by omega) ?_)))
  rw [rdS V i hi, hw]
  refine ev_ite (fun g => ?_) (fun g => ?_)
  ·rw [if_pos g] at nx
   have : wrap64 (((i - nof (V.take i) : Nat) : Int) + 1) = ((i + 1 - (nof (V.take i) + 0) : Nat) : Int) := by rw [w64s (n := 1000000) (by omega) (by omega)]; congr 1; omega
   rw [this]
   exact nx
  ·rw [if_neg g] at nx
   rw [show i + 1 - (nof (V.take i) + 1) = i - nof (V.take i) by omega] at nx
   exact nx
theorem nof_le (V : List SW) : nof V ≤ V.length := List.length_filter_le ..
theorem eqn (a : Int × Int × ByteArray) : ¬ (!(a.1 == a.1) || (!(a.2.1 == a.2.1) || (!(a.2.2.toList == a.2.2.toList)))) = true := by simp
theorem right_l0 (V : List SW) (hl : V.length ≤ 100000) : ∀ (d i : Nat), i + d = V.length → Ev (fun k => oculusref15_Right.l0 k V (i : Int)) ((V.drop i).all mayS)
 | 0, i, h => by
  refine Ev.step (fun k => oculusref15_Right.l0.eq_2 ..) (ev_neg (by omega) ?_)
  rw [List.drop_eq_nil_of_le (by omega)]
  exact Ev.now _
 | d + 1, i, h => by
  have hi : i < V.length := by omega
  refine Ev.step (fun k => oculusref15_Right.l0.eq_2 ..) (ev_pos (by omega) (ev_pos (by omega) ?_))
  rw [rdS V i hi, List.drop_eq_getElem_cons hi, List.all_cons]
  refine ev_bind (a := mayS V[i]) (ev_some fun _ => rfl) (ev_ite (fun g => ?_) (fun g => ?_))
  ·rw [g, Bool.true_and, w64s (n := 1000000) (by omega) (by omega)]
   exact right_l0 V hl d (i + 1) (by omega)
  ·rw [Bool.eq_false_iff.2 g, Bool.false_and]; exact Ev.now _
theorem rmay_ev (R C : Int) (V : List SW) : Ev (fun k => oculusref18_May.f k R C V) (shp R C V && mayT V) := by
 unfold oculusref18_May.f
 have no : ¬ (1 ≤ R ∧ 1 ≤ C ∧ R ≤ 1000 ∧ C ≤ 1000 ∧ V.length ≤ 1000 ∧ R * C = (V.length : Int)) → (shp R C V && mayT V) = false := fun h => by rw [shp, decide_eq_false h, Bool.false_and]
 refine ev_ite (fun g => ?_) (fun g => ?_)
 ·rw [no (by omega)]; exact Ev.now _
 refine ev_ite (fun g2 => ?_) (fun g2 => ?_)
 ·rw [no (by omega)]; exact Ev.now _
 refine ev_ite (fun g3 => ?_) (fun g3 => ?_)
 ·rw [no (by omega)]; exact Ev.now _
 refine ev_ite (fun g4 => ?_) (fun g4 => ?_)
 ·rw [no (by omega)]; exact Ev.now _
 rw [prodw (by omega) (by omega) (by omega) (by omega)]
 refine ev_ite (fun g5 => ?_) (fun g5 => ?_)
 ·refine ev_bind (a := shp R C V && mayT V) ?_ (Ev.now _)
  unfold oculusref15_Right.f
  refine ev_ite (fun g6 => ?_) (fun g6 => ?_)
  ·rw [no (by omega)]; exact Ev.now _
  ·have : shp R C V = true := decide_eq_true ⟨by omega, by omega, by omega, by omega, by omega, g5⟩
   rw [this, Bool.true_and]
   exact right_l0 V (by omega) V.length 0 (by omega)
 ·rw [no (fun h => g5 h.2.2.2.2.2)]; exact Ev.now _
theorem small_l0 (V : List SW) (hl : V.length ≤ 100000) : ∀ (d i : Nat), i + d = V.length → ∃ b, Ev (fun k => oculuslaw18_small.l0 k V (V.length : Int) (i : Int)) b
 | 0, i, h => ⟨true, Ev.step (fun k => oculuslaw18_small.l0.eq_2 ..) (ev_neg (by omega) (Ev.now _))⟩
 | d + 1, i, h => by
  obtain ⟨b, hb⟩ := small_l0 V hl d (i + 1) (by omega)
  by_cases g : (((rd_T26 V (i : Int)).f2).size : Int) > 60
  ·exact ⟨false, Ev.step (fun k => oculuslaw18_small.l0.eq_2 ..) (ev_pos (by omega) (ev_pos (by omega) (ev_pos (by omega) (ev_pos g (Ev.now _)))))⟩
  ·refine ⟨b, Ev.step (fun k => oculuslaw18_small.l0.eq_2 ..) (ev_pos (by omega) (ev_pos (by omega) (ev_pos (by omega) (ev_neg g ?_))))⟩
   rw [w64s (n := 1000000) (by omega) (by omega)]
   exact hb
theorem small_ev (R C : Int) (V : List SW) : ∃ b, Ev (fun k => oculuslaw18_small.f k R C V) b ∧ (b = true → shp R C V = true ∧ mayT V = true) := by
 have hm := rmay_ev R C V
 by_cases g : (shp R C V && mayT V) = true
 ·rw [g] at hm
  rw [Bool.and_eq_true] at g
  have hl : V.length ≤ 1000 := by have := g.1; rw [shp, decide_eq_true_eq] at this; omega
  obtain ⟨b, hb⟩ := small_l0 V (by omega) V.length 0 (by omega)
  by_cases q : (V.length : Int) > 60
  ·refine ⟨false, ?_, fun h => by cases h⟩
   unfold oculuslaw18_small.f
   refine ev_bind hm (ev_pos rfl ?_)
   rw [decide_eq_true q]
   exact Ev.step (fun k => oculuslaw18_small.j0.eq_2 ..) (ev_pos rfl (Ev.now _))
  ·refine ⟨b, ?_, fun _ => g⟩
   unfold oculuslaw18_small.f
   refine ev_bind hm (ev_pos rfl ?_)
   rw [decide_eq_false q]
   exact Ev.step (fun k => oculuslaw18_small.j0.eq_2 ..) (ev_neg (by simp) hb)
 ·rw [Bool.eq_false_iff.2 g] at hm
  refine ⟨false, ?_, fun h => by cases h⟩
  unfold oculuslaw18_small.f
  exact ev_bind hm (ev_neg (by simp) (Ev.step (fun k => oculuslaw18_small.j0.eq_2 ..) (ev_pos rfl (Ev.now _))))
theorem cof7 (t : List UInt8) (ht : t.length ≤ 60) : Ev (fun k => crit_Of.f k 2 0 (tx (61 :: t))) (7, (rdV t).1, (rdV t).2.1, (rdV t).2.2, true) := by
 have := cof_ev (61 :: t) (by simp; omega) 0
 have e : sgL (61 :: t) = (7, 1) := by cases t <;> simp [sgL]
 have e2 : ofV (61 :: t) = (7, rdV t) := by rw [ofV, e]; rfl
 rw [e2] at this
 exact this
theorem cof8 (t : List UInt8) (ht : t.length ≤ 60) : Ev (fun k => crit_Of.f k 2 0 (tx (60 :: 62 :: t))) (8, (rdV t).1, (rdV t).2.1, (rdV t).2.2, true) := by
 have := cof_ev (60 :: 62 :: t) (by simp; omega) 0
 have e : sgL (60 :: 62 :: t) = (8, 2) := by simp [sgL]
 have e2 : ofV (60 :: 62 :: t) = (8, rdV t) := by rw [ofV, e]; rfl
 rw [e2] at this
 exact this
theorem LookCounts : oculuslaw18_LookCounts.PureX := by
 intro a0 x h0 h1
 apply Ev.rounds
 obtain ⟨R, C, V⟩ := a0
 show Ev (fun k => oculuslaw18_LookCounts.f k R C V x.f0 x.f1 x.f2) true
 have jt : Ev (fun k => oculuslaw18_LookCounts.j0 k true R C V x.f0 x.f1 x.f2) true := Ev.step (fun k => oculuslaw18_LookCounts.j0.eq_2 ..) (ev_pos rfl (ev_bind alive18_ev (Ev.now _)))
 unfold oculuslaw18_LookCounts.f
 obtain ⟨b, hb, hB⟩ := small_ev R C V
 refine ev_bind hb (ev_ite (fun g => ?_) (fun _ => jt))
 obtain ⟨gs, gm⟩ := hB g
 refine ev_bind (a := mayS x) (ev_some fun _ => rfl) (ev_ite (fun hx => ?_) (fun _ => jt))
 by_cases q : ((x.f2.size : Nat) : Int) > 60
 ·rw [decide_eq_true q]; exact jt
 ·rw [decide_eq_false q]
  have gl : V.length ≤ 1000 := by rw [shp, decide_eq_true_eq] at gs; omega
  have hV : okL V := ⟨gl, fun v hv => ⟨List.all_eq_true.1 gm v hv, (wf_i64 (h0.2.2.1 v hv).2.1).2⟩⟩
  -- the last part
  have j1 : Ev (fun k => oculuslaw18_LookCounts.j1 k false R C V x.f0 x.f1 x.f2) true := by
   refine Ev.step (fun k => oculuslaw18_LookCounts.j1.eq_2 ..) (ev_neg (by simp) (ev_ite (fun g2 => ?_) (fun _ => ev_bind alive18_ev (Ev.now _))))
   obtain ⟨t, ht⟩ : ∃ t, x.f2 = tx t := ⟨by_ x.f2, (tx_by x.f2).symm⟩
   have htl : t.length ≤ 60 := by rw [ht, size_tx] at q; omega
   rw [ht]
   have a1 : (⟨#[61]⟩ : ByteArray) ++ tx t = tx (61 :: t) := tx_append [61] t
   have a2 : (⟨#[60, 62]⟩ : ByteArray) ++ tx t = tx (60 :: 62 :: t) := tx_append [60, 62] t
   rw [a1, a2, size_tx]
   have s1 : value_Str.f (tx (61 :: t)) = some (2, 0, tx (61 :: t)) := by rw [str_eq, if_pos (by simp; omega)]
   have s2 : value_Str.f (tx (60 :: 62 :: t)) = some (2, 0, tx (60 :: 62 :: t)) := by rw [str_eq, if_pos (by simp; omega)]
   obtain ⟨L7, L8, m7, m8, hs, n7, n8, hL⟩ := hit78 (rdV t).1 (rdV t).2.1 (rdV t).2.2 V hV (rd_may t) V.length 0 (by omega)
   obtain ⟨e7, e8⟩ := hL [] (by simp)
   rw [List.nil_append] at e7 e8
   rw [List.drop_zero] at hs
   have k7 : Ev (fun k => look_hit.f k R C V 2 0 (tx (61 :: t))) (L7, 0, 0, NV) := by
    unfold look_hit.f
    exact ev_bind (cof7 t htl) (ev_pos rfl e7)
   have k8 : Ev (fun k => look_hit.f k R C V 2 0 (tx (60 :: 62 :: t))) (L8, 0, 0, NV) := by
    unfold look_hit.f
    exact ev_bind (cof8 t htl) (ev_pos rfl e8)
   have c7 := count_l R C V ⟨2, 0, tx (61 :: t)⟩ L7 (okL_sub hV m7 n7) k7
   have c8 := count_l R C V ⟨2, 0, tx (60 :: 62 :: t)⟩ L8 (okL_sub hV m8 n8) k8
   refine ev_pos (by omega) (ev_bind (ev_some fun _ => s1) (ev_bind c7 (ev_pos (by omega) (ev_bind (ev_some fun _ => s2) (ev_bind c8 ?_)))))
   have hnl := nof_le V
   have key : wrap64 (((L7.length * 10000 : Nat) : Int) + ((L8.length * 10000 : Nat) : Int)) = wrap64 (wrap64 ((V.length : Int) - ((V.length - nof V : Nat) : Int)) * 10000) := by
    rw [w64 (x := (V.length : Int) - ((V.length - nof V : Nat) : Int)) (by omega) (by omega)]
    have e9 : ((L7.length * 10000 : Nat) : Int) + ((L8.length * 10000 : Nat) : Int) = ((V.length : Int) - ((V.length - nof V : Nat) : Int)) * 10000 := by omega
    rw [e9]
   exact faults_l0 R C V gl 1 _ 1 _ NV NV key V.length 0 (by omega)
  refine Ev.step (fun k => oculuslaw18_LookCounts.j0.eq_2 ..) (ev_neg (by simp) ?_)
  rcases hits R C V hV x hx with ⟨x4, e⟩ | ⟨x4, L, hL, e1, e2⟩
  ·have q1 : Ev (fun k => look_CountIf.f k R C V x.f0 x.f1 x.f2) (x.f0, x.f1, x.f2) := by
    unfold look_CountIf.f; exact ev_bind e (ev_pos x4 (Ev.now _))
   have q2 : Ev (fun k => oculusref18_Count.f k R C V x.f0 x.f1 x.f2) (x.f0, x.f1, x.f2) := by
    unfold oculusref18_Count.f; exact ev_pos x4 (Ev.now _)
   have q3 : Ev (fun k => look_SumIf.f k R C V x.f0 x.f1 x.f2) (x.f0, x.f1, x.f2) := by
    unfold look_SumIf.f; exact ev_bind e (ev_pos x4 (Ev.now _))
   have q4 : Ev (fun k => oculusref18_Sum.f k R C V x.f0 x.f1 x.f2) (x.f0, x.f1, x.f2) := by
    unfold oculusref18_Sum.f; exact ev_pos x4 (Ev.now _)
   have q5 : Ev (fun k => look_MeanIf.f k R C V x.f0 x.f1 x.f2) (x.f0, x.f1, x.f2) := by
    unfold look_MeanIf.f; exact ev_bind e (ev_pos x4 (Ev.now _))
   have q6 : Ev (fun k => oculusref18_Mean.f k R C V x.f0 x.f1 x.f2) (x.f0, x.f1, x.f2) := by
    unfold oculusref18_Mean.f; exact ev_pos x4 (Ev.now _)
   refine ev_bind q1 (ev_bind q2 (ev_neg (eqn _) (ev_bind q3 (ev_bind q4 (ev_neg (eqn _) (ev_bind q5 (ev_bind q6 ?_)))))))
   rw [Bool.eq_false_iff.2 (eqn (x.f0, x.f1, x.f2))]
   exact j1
  ·have q1 := count_l R C V x L hL e1
   have q2 := count_r R C V x x4 L hL e2
   have q3 : Ev (fun k => look_SumIf.f k R C V x.f0 x.f1 x.f2) (sumV L) := by
    unfold look_SumIf.f; exact ev_bind e1 (ev_neg (by show ¬ (0 : Int) = 4; omega) (ev_bind (lsum_ev L hL) (Ev.now _)))
   have q4 : Ev (fun k => oculusref18_Sum.f k R C V x.f0 x.f1 x.f2) (sumV L) := by
    unfold oculusref18_Sum.f; exact ev_neg x4 (ev_bind e2 (ev_bind (rsum_ev L hL) (Ev.now _)))
   have q5 : Ev (fun k => look_MeanIf.f k R C V x.f0 x.f1 x.f2) (meanV L) := by
    unfold look_MeanIf.f; exact ev_bind e1 (ev_neg (by show ¬ (0 : Int) = 4; omega) (ev_bind (lmeanV_ev L hL) (Ev.now _)))
   have q6 : Ev (fun k => oculusref18_Mean.f k R C V x.f0 x.f1 x.f2) (meanV L) := by
    unfold oculusref18_Mean.f; exact ev_neg x4 (ev_bind e2 (ev_bind (rmeanV_ev L hL) (Ev.now _)))
   refine ev_bind q1 (ev_bind q2 (ev_neg (eqn _) (ev_bind q3 (ev_bind q4 (ev_neg (eqn _) (ev_bind q5 (ev_bind q6 ?_)))))))
   rw [Bool.eq_false_iff.2 (eqn (meanV L))]
   exact j1
end Go.Proofs.YtejkoenlfcghbaaGreat.Pure
/- The row of the law LookCounts: for every input the call returns true and each argument reads afterwards as before, out of its pure statement and the contract of its function. Conditions: none beyond the given statement. -/
namespace Go.Proofs.YtejkoenlfcghbaaGreat.lookCounts
open Go.ChangeShapes Go.WideShapes Go.ChangeAt Go.RowKit
open Go.ChangeMaps (open_string shut_string)
open Go.Proofs.YtejkoenlfcghbaaGreat.Opn Go.Proofs.YtejkoenlfcghbaaGreat.X
open Go.Proofs.YtejkoenlfcghbaaGreatW.PrintWords (Kd Drawn0)
set_option linter.unusedVariables false
theorem own : ownKnob Tryz.prog.godebug = none := by kernel_rfl
theorem laidOut : laidOutB Tryz.prog = true := by kernel_rfl
theorem lifted (os : Os) (started : os.Started) (H : Type) (enc : TypeId × Value → H) :
  ReturnsInHanded {} Tryz.checked os 3 .any (Rows.lookCountsSpec.pre6 enc Tryz.prog Tryz.f3 Rows.lookCountsRow.domain false) (Rows.lookCountsSpec.post enc Tryz.prog Tryz.f3 false true false false) := by
 refine returnsInHanded_of_change_sized (C := Tryz.checked) own started (by kernel_rfl) Tryz.func3
  (ChangeSpec.witness6 (enc := enc) (C := Tryz.checked) false ⟨#[], #[.agg #[.int .i64 0, .int .i64 0, .slice none 0 0], .agg #[.int .i64 0, .int .i64 0, .string ByteArray.empty]], []⟩ 8 (by kernel_rfl) (by kernel_rfl) (by kernel_rfl) (by kernel_rfl)) ?_
 intro W base args ds gs before hval0 hW hcnd hsz0 _
 have hsz : (DataW.weightsEach Tryz.prog (Tryz.f3.params.toList ++ Rows.lookCountsSpec.plain.varTypes Tryz.prog) (ds ++ gs)).all (· ≤ reachBytes) = true := hsz0
 have hval : ∀ (j : Nat) t v, Tryz.f3.params[j]? = some t → args[j]? = some v → Value.okWide Tryz.prog W .any base t v := hval0
 have hW' := hW
 obtain ⟨p, q, hA0, hV, rfl, hfz, hnd⟩ := hW
 have hA : DataW.TrodAll enc Tryz.prog W 0 (fun _ => true) true Tryz.f3.params.toList args.toList ds p := hA0
 rw [Tryz.params3] at hA hval hsz
 obtain ⟨v0, vs0, d0, ds0, p0, q0, hargs, rfl, rfl, h0, r0⟩ := trodAll_cons hA
 obtain ⟨v1, vs1, d1, ds1, p1, q1, rfl, rfl, rfl, h1, r1⟩ := trodAll_cons r0
 obtain ⟨rfl, rfl, rfl⟩ := trodAll_nil r1
 obtain rfl : args = #[v0, v1] := by cases args; simp_all
 obtain ⟨rfl, rfl⟩ := trodVars_none hV
 have lt0 : ∀ x ∈ p0, x.block < W.heap.size := by obtain ⟨m, hm⟩ := h0; exact DataW.trod_lt m _ _ _ hm
 have hw0 : ∀ m ∈ d0.weights Tryz.prog 24, m ≤ reachBytes := fun m hm => of_decide_eq_true (List.all_eq_true.1 hsz m (DataW.weights_mem_each (j := 0) (t := 24) rfl rfl m hm))
 obtain ⟨a0, K0, g0⟩ : ∃ a, (k24 : Kd S24).K W a v0.cells.toList ∧ (good24 a) := by
  obtain ⟨fuel, hf⟩ := h0
  exact opens24 hf hw0
 obtain ⟨cs0, rfl, _⟩ := okWide_struct Tryz.underlying24 (hval 0 24 v0 rfl rfl)
 have KO0 := k24_open K0
 obtain ⟨A0_0, c0_0, KE0, hc0_0, C0_0⟩ := KO0
 obtain rfl : cs0 = #[.int .i64 a0.f0, .int .i64 a0.f1, .slice A0_0 (a0.f2).length c0_0] := by
  have : cs0.toList = _ := KE0
  cases cs0; simp_all
 have lt1 : ∀ x ∈ p1, x.block < W.heap.size := by obtain ⟨m, hm⟩ := h1; exact DataW.trod_lt m _ _ _ hm
 have hw1 : ∀ m ∈ d1.weights Tryz.prog 26, m ≤ reachBytes := fun m hm => of_decide_eq_true (List.all_eq_true.1 hsz m (DataW.weights_mem_each (j := 1) (t := 26) rfl rfl m hm))
 obtain ⟨a1, K1, g1⟩ : ∃ a, (k26 : Kd S26).K W a v1.cells.toList ∧ (good26 a) := by
  obtain ⟨fuel, hf⟩ := h1
  exact opens26 hf hw1
 obtain ⟨cs1, rfl, _⟩ := okWide_struct Tryz.underlying26 (hval 1 26 v1 rfl rfl)
 have KO1 := k26_open K1
 obtain rfl : cs1 = #[.int .i64 a1.f0, .int .i64 a1.f1, .string a1.f2] := by
  have : cs1.toList = _ := KO1
  cases cs1; simp_all
 obtain ⟨k, hk⟩ := Pure.LookCounts a0 a1 g0 g1
 clear hA0 hval0 hsz0 hsz
 refine (oculuslaw18_LookCounts.calls k (a0.f0) (a0.f1) A0_0 c0_0 (a0.f2) (a1.f0) (a1.f1) (a1.f2) true W C0_0 hc0_0 hk).mono fun e W' ⟨he, bel0⟩ => ?_
 have bel : Below W.heap.size W W' := bel0
 subst he
 exact ⟨_, rfl, _, _, _, [], _, [], hW', trodAll_mk1 (shut_bool Tryz.underlying4 _), (trodAll_cons_mk (Below.trod laidOut (by kernel_rfl) (of_decide_eq_true (by kernel_rfl)) h0 bel lt0) (trodAll_cons_mk (Below.trod laidOut (by kernel_rfl) (of_decide_eq_true (by kernel_rfl)) h1 bel lt1) trodAll_mk0)), rfl, bel.frame _, fun h => by cases h⟩
theorem over : Rows.lookCountsRow.holds Tryz.pinned (OpenSpec.ofChange Rows.lookCountsSpec) :=
 OpenClaim.holds_of_wide 3 Tryz.f3 rfl rfl rfl rfl rfl rfl rfl ⟨rfl, rfl, rfl, rfl, rfl⟩ rfl rfl rfl rfl rfl (by kernel_rfl) Tryz.func3 (by kernel_rfl)
  (of_decide_eq_true (by kernel_rfl)) (by unfold Func.isWrapper; first | (rw [if_pos (by decide +kernel)]; kernel_rfl) | (rw [if_neg (by decide +kernel)]; exact ⟨rfl, rfl⟩))
  (fun os started H enc _ => lifted os started H enc)
theorem proved : Rows.LookCountsSaid := over
end Go.Proofs.YtejkoenlfcghbaaGreat.lookCounts
namespace Go.Proofs.YtejkoenlfcghbaaGreat
theorem lookCounts_holds : Rows.LookCountsSaid := lookCounts.proved
#print axioms lookCounts_holds
end Go.Proofs.YtejkoenlfcghbaaGreat
