/- The law LookAcross: for every input the call returns true, and each argument reads afterwards as it read before: the statement Rows.LookAcrossSaid, whole, with no condition of ours. -/
import Derived.Test.YtejkoenlfcghbaaRows
import Derived.WalkKit
import Derived.ProofKit
import Derived.OpenShut
import Derived.ShutString
import Derived.ChangeOld
import Derived.Below
import Derived.SizedLaws
import Derived.Carry
import Derived.Test.YtejkoenlfcghbaaBLookAcross7
/- The pure statement of the law LookAcross. -/
set_option linter.unusedVariables false
set_option linter.unusedSimpArgs false
namespace Go.Proofs.Ytejkoenlfcghbaa.Pure
open Go.RowKit Go.Proofs.Ytejkoenlfcghbaa.X Go.Proofs.Ytejkoenlfcghbaa.Opn Go.Proofs.YtejkoenlfcghbaaW.PrintWords Go.Proofs.YtejkoenlfcghbaaW.PrintLast Go.Proofs.YtejkoenlfcghbaaW.PrintMore
abbrev SV := S26
def el (V : List SV) (i : Nat) : SV := V.getD i z26
theorem el_rd (V : List SV) (i : Nat) : rd_T26 V (i : Int) = el V i := by unfold rd_T26 el; rw [Int.toNat_natCast]
theorem el_get (V : List SV) (i : Nat) (h : i < V.length) : el V i = V[i] := by unfold el; rw [List.getD_eq_getElem?_getD, List.getElem?_eq_getElem h]; rfl
theorem el_may {V : List SV} (h : mayT V = true) (i : Nat) (hi : i < V.length) : mayS (el V i) = true := by rw [el_get V i hi]; exact mayT_get h i hi
abbrev vl (x : SV) : Int × Int × ByteArray := (x.f0, x.f1, x.f2)
structure Tbl (r c : Nat) (V : List SV) : Prop where
  r1 : 1 ≤ r
  c1 : 1 ≤ c
  r2 : r ≤ 1000
  c2 : c ≤ 1000
  n : V.length ≤ 1000
  e : r * c = V.length
  may : mayT V = true
theorem Tbl.shp {r c : Nat} {V : List SV} (h : Tbl r c V) : shp (r : Int) (c : Int) V = true := by
  have := h.r1; have := h.c1; have := h.r2; have := h.c2; have := h.n
  exact decide_eq_true ⟨by omega, by omega, by omega, by omega, by omega, by rw [← h.e]; push_cast; rfl⟩
theorem Tbl.lt {r c : Nat} {V : List SV} (h : Tbl r c V) {i j : Nat} (hi : i < r) (hj : j < c) : i * c + j < V.length := by
  have h1 : (i + 1) * c ≤ r * c := Nat.mul_le_mul_right c hi
  rw [Nat.succ_mul] at h1
  have := h.e
  omega
theorem wp {r c : Nat} {V : List SV} (h : Tbl r c V) {i j : Nat} (hi : i < r) (hj : j < c) : wrap64 (wrap64 (wrap64 (wrap64 (((i + 1 : Nat) : Int) - 1) * (c : Int)) + ((j + 1 : Nat) : Int)) - 1) = ((i * c + j : Nat) : Int) := by
  have h1 := h.lt hi hj
  have h2 := h.n
  have e1 : (((i + 1 : Nat) : Int) - 1) = (i : Int) := by omega
  have e2 : (i : Int) * (c : Int) = ((i * c : Nat) : Int) := by push_cast; rfl
  have := h.r2; have := h.c2
  rw [e1, w64 (x := (i : Int)) (by omega) (by omega), e2, w64 (x := ((i * c : Nat) : Int)) (by omega) (by omega), w64 (x := ((i * c : Nat) : Int) + ((j + 1 : Nat) : Int)) (by omega) (by omega), w64 (by omega) (by omega)]
  omega
theorem lat {r c : Nat} {V : List SV} (h : Tbl r c V) {i j : Nat} (hi : i < r) (hj : j < c) : Ev (fun k => look_At.f k (r : Int) (c : Int) V ((i + 1 : Nat) : Int) ((j + 1 : Nat) : Int)) ((el V (i * c + j)).f0, (el V (i * c + j)).f1, (el V (i * c + j)).f2, true) := by
  have hl := h.lt hi hj
  unfold look_At.f
  refine ev_bind (ev_some fun _ => shaped_eq _ _ V) (ev_pos h.shp (ev_neg (by omega) (ev_neg (by omega) (ev_neg (by omega) ?_))))
  rw [decide_eq_false (by omega)]
  refine Ev.step (fun k => look_At.j0.eq_2 ..) (ev_neg (by simp) ?_)
  rw [wp h hi hj, el_rd]
  exact ev_pos (by omega) (ev_pos (by omega) (Ev.now _))
theorem rat {r c : Nat} {V : List SV} (h : Tbl r c V) {i j : Nat} (hi : i < r) (hj : j < c) : oculusref18_At.f (r : Int) (c : Int) V ((i + 1 : Nat) : Int) ((j + 1 : Nat) : Int) = some (vl (el V (i * c + j))) := by
  have hl := h.lt hi hj
  unfold oculusref18_At.f
  rw [wp h hi hj, el_rd, if_pos (by omega), if_pos (by omega)]
def srch (x : SV) (f g : Nat → SV) : Nat → Nat → Int × Int × ByteArray
  | 0, _ => (4, 5, (⟨#[]⟩ : ByteArray))
  | d + 1, i => if fnd x (f i) = true then vl (g i) else srch x f g d (i + 1)
theorem srch_congr (x : SV) (f g f' g' : Nat → SV) : ∀ (d i : Nat), (∀ j, i ≤ j → j < i + d → f j = f' j ∧ g j = g' j) → srch x f g d i = srch x f' g' d i
  | 0, _, _ => rfl
  | d + 1, i, h => by
    obtain ⟨e1, e2⟩ := h i (by omega) (by omega)
    rw [srch, srch, e1, e2, srch_congr x f g f' g' d (i + 1) (fun j h1 h2 => h j (by omega) (by omega))]
theorem bad_l (c : Int) (h : 1 ≤ c ∧ c ≤ 7) : value_Bad.f c = some (4, c, (⟨#[]⟩ : ByteArray)) := by
  unfold value_Bad.f value_made.f value_May.f
  have e : ((⟨#[]⟩ : ByteArray).toList == ([] : List UInt8)) = true := by rw [toList_by]; rfl
  rw [if_neg (by omega), if_neg (by omega), if_neg (by omega), if_neg (by omega), if_pos rfl, if_pos h.1, if_pos h.2, Option.bind_some, e, if_pos rfl]; rfl
theorem bad_r (c : Int) (h : 1 ≤ c ∧ c ≤ 7) : oculusref12_Bad.f c = some (4, c, (⟨#[]⟩ : ByteArray)) := by
  unfold oculusref12_Bad.f
  rw [if_neg (by omega), if_neg (by omega)]
def dwn (x : SV) (r c : Nat) (V : List SV) (n : Int) : Int × Int × ByteArray :=
  if x.f0 = 4 then vl x else if 1 ≤ n ∧ n ≤ (c : Int) then srch x (fun i => el V (i * c)) (fun i => el V (i * c + (n.toNat - 1))) r 0 else (4, 3, (⟨#[]⟩ : ByteArray))
theorem ldown_l0 (x : SV) (hx : mayS x = true) {r c : Nat} {V : List SV} (h : Tbl r c V) (m : Nat) (hm : m < c) : ∀ (d i : Nat), i + d = r →
    Ev (fun k => look_Down.l0 k ((m + 1 : Nat) : Int) ((i + 1 : Nat) : Int) x.f0 x.f1 x.f2 (r : Int) (c : Int) V) (srch x (fun i => el V (i * c)) (fun i => el V (i * c + m)) d i)
  | 0, i, hi => by
    refine Ev.step (fun k => look_Down.l0.eq_2 ..) (ev_neg (by omega) (ev_bind (ev_some fun _ => bad_l 5 (by omega)) (Ev.now _)))
  | d + 1, i, hi => by
    have hir : i < r := by omega
    have h1 := h.c1
    have h2 := h.r2
    have e0 := lat h hir (show 0 < c by omega)
    rw [Nat.add_zero] at e0
    refine Ev.step (fun k => look_Down.l0.eq_2 ..) (ev_pos (by omega) (ev_bind e0 (ev_pos rfl ?_)))
    have hl := h.lt hir (show 0 < c by omega)
    refine ev_bind (lfound_ev x (el V (i * c)) hx (el_may h.may _ (by omega))) (ev_ite (fun g => ?_) (fun g => ?_))
    · rw [srch, if_pos g]
      exact ev_bind (lat h hir hm) (Ev.now _)
    · rw [srch, if_neg g, w64s (n := 100000) (by omega) (by omega)]
      exact ldown_l0 x hx h m hm d (i + 1) (by omega)
theorem ldown_ev (x : SV) (hx : mayS x = true) {r c : Nat} {V : List SV} (h : Tbl r c V) (n : Int) : Ev (fun k => look_Down.f k x.f0 x.f1 x.f2 (r : Int) (c : Int) V n) (dwn x r c V n) := by
  unfold look_Down.f dwn
  refine ev_bind (ev_some fun _ => shaped_eq _ _ V) (ev_pos h.shp (ev_ite (fun g => ?_) (fun g => ?_)))
  · rw [if_pos g]; exact Ev.now _
  · rw [if_neg g]
    refine ev_ite (fun g1 => ?_) (fun g1 => ?_)
    · rw [if_neg (by omega)]; exact ev_bind (ev_some fun _ => bad_l 3 (by omega)) (Ev.now _)
    · refine ev_ite (fun g2 => ?_) (fun g2 => ?_)
      · rw [if_neg (by omega)]; exact ev_bind (ev_some fun _ => bad_l 3 (by omega)) (Ev.now _)
      · rw [if_pos (by omega)]
        obtain ⟨m, rfl⟩ : ∃ m : Nat, n = ((m + 1 : Nat) : Int) := ⟨n.toNat - 1, by omega⟩
        rw [Int.toNat_natCast, Nat.add_sub_cancel]
        exact ldown_l0 x hx h m (by omega) r 0 (by omega)
theorem rdown_l0 (x : SV) (hx : mayS x = true) {r c : Nat} {V : List SV} (h : Tbl r c V) (m : Nat) (hm : m < c) : ∀ (d i : Nat), i + d = r →
    Ev (fun k => oculusref18_Down.l0 k ((m + 1 : Nat) : Int) ((i + 1 : Nat) : Int) x.f0 x.f1 x.f2 (r : Int) (c : Int) V) (srch x (fun i => el V (i * c)) (fun i => el V (i * c + m)) d i)
  | 0, i, hi => by
    refine Ev.step (fun k => oculusref18_Down.l0.eq_2 ..) (ev_neg (by omega) (ev_bind (ev_some fun _ => bad_r 5 (by omega)) (Ev.now _)))
  | d + 1, i, hi => by
    have hir : i < r := by omega
    have h1 := h.c1
    have h2 := h.r2
    have e0 := rat h hir (show 0 < c by omega)
    rw [Nat.add_zero] at e0
    refine Ev.step (fun k => oculusref18_Down.l0.eq_2 ..) (ev_pos (by omega) (ev_bind (ev_some fun _ => e0) ?_))
    have hl := h.lt hir (show 0 < c by omega)
    refine ev_bind (rfound_ev x (el V (i * c)) hx (el_may h.may _ (by omega))) (Ev.step (fun k => oculusref18_Down.j1.eq_2 ..) (ev_ite (fun g => ?_) (fun g => ?_)))
    · rw [srch, if_pos g]
      exact ev_bind (ev_some fun _ => rat h hir hm) (Ev.now _)
    · rw [srch, if_neg g, w64s (n := 100000) (by omega) (by omega)]
      exact rdown_l0 x hx h m hm d (i + 1) (by omega)
theorem rdown_ev (x : SV) (hx : mayS x = true) {r c : Nat} {V : List SV} (h : Tbl r c V) (n : Int) : Ev (fun k => oculusref18_Down.f k x.f0 x.f1 x.f2 (r : Int) (c : Int) V n) (dwn x r c V n) := by
  have h1 := h.r1
  unfold oculusref18_Down.f dwn
  refine ev_ite (fun g => ?_) (fun g => ?_)
  · rw [if_pos g]; exact Ev.now _
  · rw [if_neg g]
    have hin : oculusref18_In.f (r : Int) (c : Int) V 1 n = some (decide (1 ≤ n ∧ n ≤ (c : Int))) := by
      unfold oculusref18_In.f
      rw [if_pos (by omega), if_pos (by omega)]
      by_cases q : n ≥ 1
      · rw [if_pos q]; congr 1; rw [Bool.eq_iff_iff, decide_eq_true_eq, decide_eq_true_eq]; exact ⟨fun h => ⟨q, h⟩, fun h => h.2⟩
      · rw [if_neg q, decide_eq_false (by omega)]
    refine ev_bind (ev_some fun _ => hin) (ev_ite (fun g2 => ?_) (fun g2 => ?_))
    · have g3 := of_decide_eq_true g2
      rw [if_pos g3]
      obtain ⟨m, rfl⟩ : ∃ m : Nat, n = ((m + 1 : Nat) : Int) := ⟨n.toNat - 1, by omega⟩
      rw [Int.toNat_natCast, Nat.add_sub_cancel]
      exact rdown_l0 x hx h m (by omega) r 0 (by omega)
    · rw [if_neg (fun h => g2 (decide_eq_true h))]; exact ev_bind (ev_some fun _ => bad_r 3 (by omega)) (Ev.now _)
def acr (x : SV) (r c : Nat) (V : List SV) (n : Int) : Int × Int × ByteArray :=
  if x.f0 = 4 then vl x else if 1 ≤ n ∧ n ≤ (r : Int) then srch x (fun j => el V j) (fun j => el V ((n.toNat - 1) * c + j)) c 0 else (4, 3, (⟨#[]⟩ : ByteArray))
theorem racr_l0 (x : SV) (hx : mayS x = true) {r c : Nat} {V : List SV} (h : Tbl r c V) (m : Nat) (hm : m < r) : ∀ (d j : Nat), j + d = c →
    Ev (fun k => oculusref18_Across.l0 k ((m + 1 : Nat) : Int) ((j + 1 : Nat) : Int) x.f0 x.f1 x.f2 (r : Int) (c : Int) V) (srch x (fun j => el V j) (fun j => el V (m * c + j)) d j)
  | 0, j, hj => by
    refine Ev.step (fun k => oculusref18_Across.l0.eq_2 ..) (ev_neg (by omega) (ev_bind (ev_some fun _ => bad_r 5 (by omega)) (Ev.now _)))
  | d + 1, j, hj => by
    have hjc : j < c := by omega
    have h1 := h.r1
    have h2 := h.c2
    have e0 := rat h (show 0 < r by omega) hjc
    rw [show 0 * c + j = j by rw [Nat.zero_mul, Nat.zero_add]] at e0
    refine Ev.step (fun k => oculusref18_Across.l0.eq_2 ..) (ev_pos (by omega) (ev_bind (ev_some fun _ => e0) ?_))
    have hl := h.lt (show 0 < r by omega) hjc
    rw [show 0 * c + j = j by rw [Nat.zero_mul, Nat.zero_add]] at hl
    refine ev_bind (rfound_ev x (el V j) hx (el_may h.may _ (by omega))) (Ev.step (fun k => oculusref18_Across.j1.eq_2 ..) (ev_ite (fun g => ?_) (fun g => ?_)))
    · rw [srch, if_pos g]
      exact ev_bind (ev_some fun _ => rat h hm hjc) (Ev.now _)
    · rw [srch, if_neg g, w64s (n := 100000) (by omega) (by omega)]
      exact racr_l0 x hx h m hm d (j + 1) (by omega)
theorem racr_ev (x : SV) (hx : mayS x = true) {r c : Nat} {V : List SV} (h : Tbl r c V) (n : Int) : Ev (fun k => oculusref18_Across.f k x.f0 x.f1 x.f2 (r : Int) (c : Int) V n) (acr x r c V n) := by
  have h1 := h.c1
  unfold oculusref18_Across.f acr
  refine ev_ite (fun g => ?_) (fun g => ?_)
  · rw [if_pos g]; exact Ev.now _
  · rw [if_neg g]
    have hin : oculusref18_In.f (r : Int) (c : Int) V n 1 = some (decide (1 ≤ n ∧ n ≤ (r : Int))) := by
      unfold oculusref18_In.f
      by_cases q : n ≥ 1
      · rw [if_pos q]
        by_cases q2 : n ≤ (r : Int)
        · rw [if_pos q2, if_pos (by omega), decide_eq_true (by omega), decide_eq_true (by omega)]
        · rw [if_neg q2, decide_eq_false (by omega)]
      · rw [if_neg q, decide_eq_false (by omega)]
    refine ev_bind (ev_some fun _ => hin) (ev_ite (fun g2 => ?_) (fun g2 => ?_))
    · have g3 := of_decide_eq_true g2
      rw [if_pos g3]
      obtain ⟨m, rfl⟩ : ∃ m : Nat, n = ((m + 1 : Nat) : Int) := ⟨n.toNat - 1, by omega⟩
      rw [Int.toNat_natCast, Nat.add_sub_cancel]
      exact racr_l0 x hx h m (by omega) c 0 (by omega)
    · rw [if_neg (fun h => g2 (decide_eq_true h))]; exact ev_bind (ev_some fun _ => bad_r 3 (by omega)) (Ev.now _)
def colL (V : List SV) (c j : Nat) (n : Nat) : List SV := (List.range n).map fun i => el V (i * c + j)
def trn (V : List SV) (r c : Nat) (n : Nat) : List SV := (List.range n).flatMap fun j => colL V c j r
theorem colL_succ (V : List SV) (c j n : Nat) : colL V c j (n + 1) = colL V c j n ++ [el V (n * c + j)] := by simp [colL, List.range_succ]
theorem trn_succ (V : List SV) (r c n : Nat) : trn V r c (n + 1) = trn V r c n ++ colL V c n r := by simp [trn, List.range_succ, List.flatMap_append]
theorem colL_len (V : List SV) (c j n : Nat) : (colL V c j n).length = n := by simp [colL]
theorem trn_len (V : List SV) (r c : Nat) : ∀ n, (trn V r c n).length = n * r
  | 0 => by simp [trn]
  | n + 1 => by rw [trn_succ, List.length_append, trn_len V r c n, colL_len, Nat.succ_mul]
theorem colL_el (V : List SV) (c j n i : Nat) (h : i < n) : el (colL V c j n) i = el V (i * c + j) := by
  rw [el_get _ _ (by rw [colL_len]; exact h)]
  simp [colL]
theorem trn_el (V : List SV) (r c : Nat) : ∀ (n j i : Nat), j < n → i < r → el (trn V r c n) (j * r + i) = el V (i * c + j)
  | n + 1, j, i, hj, hi => by
    rw [trn_succ]
    unfold el
    by_cases e : j = n
    · subst e
      rw [List.getD_eq_getElem?_getD, List.getElem?_append_right (by rw [trn_len]; omega), trn_len, Nat.add_sub_cancel_left, ← List.getD_eq_getElem?_getD]
      exact colL_el V c j r i hi
    · have hl : j * r + i < n * r := by
        have h1 : (j + 1) * r ≤ n * r := Nat.mul_le_mul_right r (by omega)
        rw [Nat.succ_mul] at h1
        omega
      rw [List.getD_eq_getElem?_getD, List.getElem?_append_left (by rw [trn_len]; exact hl), ← List.getD_eq_getElem?_getD]
      exact trn_el V r c n j i (by omega) hi
theorem trn_tbl {r c : Nat} {V : List SV} (h : Tbl r c V) : Tbl c r (trn V r c c) := by
  refine ⟨h.c1, h.r1, h.c2, h.r2, ?_, (trn_len V r c c).symm, ?_⟩
  · rw [trn_len, Nat.mul_comm, h.e]; exact h.n
  · refine List.all_eq_true.2 fun v hv => ?_
    obtain ⟨j, hj, hv⟩ := List.mem_flatMap.1 hv
    obtain ⟨i, hi, rfl⟩ := List.mem_map.1 hv
    rw [List.mem_range] at hi hj
    exact el_may h.may _ (h.lt hi hj)
theorem trn_trn {r c : Nat} {V : List SV} (h : Tbl r c V) : trn (trn V r c c) c r r = V := by
  apply List.ext_getElem
  · rw [trn_len, h.e]
  · intro n h1 h2
    have hc := h.c1
    have e := Nat.div_add_mod n c
    have hm : n % c < c := Nat.mod_lt _ (by omega)
    have hd : n / c < r := by
      refine Nat.div_lt_of_lt_mul ?_
      rw [Nat.mul_comm, h.e]; exact h2
    have key := trn_el (trn V r c c) c r r (n / c) (n % c) hd hm
    rw [trn_el V r c c (n % c) (n / c) hm hd] at key
    have en : n / c * c + n % c = n := by rw [Nat.mul_comm]; exact e
    rw [en, el_get _ _ h1, el_get _ _ h2] at key
    exact key
theorem dwn_trn (x : SV) {r c : Nat} {V : List SV} (h : Tbl r c V) (n : Int) : dwn x c r (trn V r c c) n = acr x r c V n := by
  unfold dwn acr
  by_cases g : x.f0 = 4
  · rw [if_pos g, if_pos g]
  · rw [if_neg g, if_neg g]
    by_cases q : 1 ≤ n ∧ n ≤ (r : Int)
    · rw [if_pos q, if_pos q]
      have h1 := h.r1
      refine srch_congr _ _ _ _ _ _ _ (fun j _ hj => ⟨?_, ?_⟩)
      · have := trn_el V r c c j 0 (by omega) (by omega)
        rw [Nat.add_zero, Nat.zero_mul, Nat.zero_add] at this
        exact this
      · exact trn_el V r c c j (n.toNat - 1) (by omega) (by omega)
    · rw [if_neg q, if_neg q]
theorem lacr_l1 (x : SV) (hx : mayS x = true) {r c : Nat} {V : List SV} (h : Tbl r c V) (n : Int) (R : Int × Int × ByteArray) (j : Nat) (hj : j < c) (acc : List SV) (ha : acc.length ≤ 2000000)
    (hn : Ev (fun k => look_Across.l0 k n ((j + 2 : Nat) : Int) x.f0 x.f1 x.f2 (r : Int) (c : Int) V (c : Int) (r : Int) (acc ++ colL V c j r)) R) : ∀ (d i : Nat), i + d = r →
    Ev (fun k => look_Across.l1 k n ((j + 1 : Nat) : Int) ((i + 1 : Nat) : Int) x.f0 x.f1 x.f2 (r : Int) (c : Int) V (c : Int) (r : Int) (acc ++ colL V c j i)) R
  | 0, i, hi => by
    have h1 := h.c2
    refine Ev.step (fun k => look_Across.l1.eq_2 ..) (ev_neg (by omega) ?_)
    rw [show i = r by omega, w64s (n := 100000) (by omega) (by omega)]
    exact hn
  | d + 1, i, hi => by
    have h2 := h.r2
    have hir : i < r := by omega
    refine Ev.step (fun k => look_Across.l1.eq_2 ..) (ev_pos (by omega) (ev_bind (lat h hir hj) (ev_pos (by rw [List.length_append, colL_len]; omega) ?_)))
    rw [w64s (n := 100000) (by omega) (by omega)]
    have := lacr_l1 x hx h n R j hj acc ha hn d (i + 1) (by omega)
    rw [colL_succ, ← List.append_assoc] at this
    exact this
theorem lacr_l0 (x : SV) (hx : mayS x = true) {r c : Nat} {V : List SV} (h : Tbl r c V) (n : Int) : ∀ (d j : Nat), j + d = c →
    Ev (fun k => look_Across.l0 k n ((j + 1 : Nat) : Int) x.f0 x.f1 x.f2 (r : Int) (c : Int) V (c : Int) (r : Int) (trn V r c j)) (dwn x c r (trn V r c c) n)
  | 0, j, hj => by
    refine Ev.step (fun k => look_Across.l0.eq_2 ..) (ev_neg (by omega) ?_)
    rw [show j = c by omega]
    exact ev_bind (ldown_ev x hx (trn_tbl h) n) (Ev.now _)
  | d + 1, j, hj => by
    have h1 := h.r2
    have h2 := h.c2
    refine Ev.step (fun k => look_Across.l0.eq_2 ..) (ev_pos (by omega) ?_)
    have hl : (trn V r c j).length ≤ 1000000 := by
      rw [trn_len]
      exact Nat.mul_le_mul (show j ≤ 1000 by omega) h1
    have nx := lacr_l0 x hx h n d (j + 1) (by omega)
    rw [trn_succ] at nx
    have := lacr_l1 x hx h n _ j (by omega) (trn V r c j) (by omega) nx r 0 (by omega)
    rw [show colL V c j 0 = [] from rfl, List.append_nil] at this
    exact this
theorem lacr_ev (x : SV) (hx : mayS x = true) {r c : Nat} {V : List SV} (h : Tbl r c V) (n : Int) : Ev (fun k => look_Across.f k x.f0 x.f1 x.f2 (r : Int) (c : Int) V n) (dwn x c r (trn V r c c) n) := by
  unfold look_Across.f
  exact ev_bind (ev_some fun _ => shaped_eq _ _ V) (ev_pos h.shp (lacr_l0 x hx h n c 0 (by omega)))
theorem eqv (a : Int × Int × ByteArray) : (a.1 == a.1 && (a.2.1 == a.2.1 && (a.2.2.toList == a.2.2.toList))) = true := by simp
theorem law_l1 (x : SV) {r c : Nat} {V : List SV} (h : Tbl r c V) (n : Int) (j : Nat) (hj : j < c) (acc : List SV) (ha : acc.length ≤ 2000000)
    (hn : Ev (fun k => oculuslaw18_LookAcross.l0 k n ((j + 2 : Nat) : Int) (r : Int) (c : Int) V x.f0 x.f1 x.f2 (c : Int) (r : Int) (acc ++ colL V c j r)) true) : ∀ (d i : Nat), i + d = r →
    Ev (fun k => oculuslaw18_LookAcross.l1 k n ((j + 1 : Nat) : Int) ((i + 1 : Nat) : Int) (r : Int) (c : Int) V x.f0 x.f1 x.f2 (c : Int) (r : Int) (acc ++ colL V c j i)) true
  | 0, i, hi => by
    have h1 := h.c2
    refine Ev.step (fun k => oculuslaw18_LookAcross.l1.eq_2 ..) (ev_neg (by omega) ?_)
    rw [show i = r by omega, w64s (n := 100000) (by omega) (by omega)]
    exact hn
  | d + 1, i, hi => by
    have h2 := h.r2
    have hir : i < r := by omega
    refine Ev.step (fun k => oculuslaw18_LookAcross.l1.eq_2 ..) (ev_pos (by omega) (ev_bind (ev_some fun _ => rat h hir hj) (ev_pos (by rw [List.length_append, colL_len]; omega) ?_)))
    rw [w64s (n := 100000) (by omega) (by omega)]
    have := law_l1 x h n j hj acc ha hn d (i + 1) (by omega)
    rw [colL_succ, ← List.append_assoc] at this
    exact this
theorem law_l0 (x : SV) (hx : mayS x = true) {r c : Nat} {V : List SV} (h : Tbl r c V) (n : Int) : ∀ (d j : Nat), j + d = c →
    Ev (fun k => oculuslaw18_LookAcross.l0 k n ((j + 1 : Nat) : Int) (r : Int) (c : Int) V x.f0 x.f1 x.f2 (c : Int) (r : Int) (trn V r c j)) true
  | 0, j, hj => by
    refine Ev.step (fun k => oculuslaw18_LookAcross.l0.eq_2 ..) (ev_neg (by omega) ?_)
    rw [show j = c by omega]
    have hT := trn_tbl h
    have eA : dwn x c r (trn V r c c) n = acr x r c V n := dwn_trn x h n
    have eB : dwn x r c (trn (trn V r c c) c r r) n = dwn x r c V n := by rw [trn_trn h]
    have d1 := ldown_ev x hx h n
    have a1 := lacr_ev x hx h n
    have d2 := rdown_ev x hx h n
    have a2 := racr_ev x hx h n
    have a3 := lacr_ev x hx hT n
    have d3 := ldown_ev x hx hT n
    rw [eA] at a1 d3
    rw [eB] at a3
    refine ev_bind d1 (ev_bind a1 (ev_bind d2 (ev_pos (eqv _) (ev_bind a2 (ev_pos (eqv _) (ev_bind a3 (ev_pos (eqv _) (ev_bind d3 (ev_pos (eqv _) (ev_bind alive18_ev (Ev.now _)))))))))))
  | d + 1, j, hj => by
    have h1 := h.r2
    have h2 := h.c2
    refine Ev.step (fun k => oculuslaw18_LookAcross.l0.eq_2 ..) (ev_pos (by omega) ?_)
    have hl : (trn V r c j).length ≤ 1000000 := by
      rw [trn_len]
      exact Nat.mul_le_mul (show j ≤ 1000 by omega) h1
    have nx := law_l0 x hx h n d (j + 1) (by omega)
    rw [trn_succ] at nx
    have := law_l1 x h n j (by omega) (trn V r c j) (by omega) nx r 0 (by omega)
    rw [show colL V c j 0 = [] from rfl, List.append_nil] at this
    exact this
theorem right_l0 (V : List SV) (hl : V.length ≤ 100000) : ∀ (d i : Nat), i + d = V.length → Ev (fun k => oculusref15_Right.l0 k V (i : Int)) ((V.drop i).all mayS)
  | 0, i, h => by
    refine Ev.step (fun k => oculusref15_Right.l0.eq_2 ..) (ev_neg (by omega) ?_)
    rw [List.drop_eq_nil_of_le (by omega)]
    exact Ev.now _
  | d + 1, i, h => by
    have hi : i < V.length := by omega
    refine Ev.step (fun k => oculusref15_Right.l0.eq_2 ..) (ev_pos (by omega) (ev_pos (by omega) ?_))
    rw [rdS V i hi, List.drop_eq_getElem_cons hi, List.all_cons]
    refine ev_bind (a := mayS V[i]) (ev_some fun _ => rfl) (ev_ite (fun g => ?_) (fun g => ?_))
    · rw [g, Bool.true_and, w64s (n := 1000000) (by omega) (by omega)]
      exact right_l0 V hl d (i + 1) (by omega)
    · rw [Bool.eq_false_iff.2 g, Bool.false_and]; exact Ev.now _
theorem rmay_ev (R C : Int) (V : List SV) : Ev (fun k => oculusref18_May.f k R C V) (shp R C V && mayT V) := by
  unfold oculusref18_May.f
  have no : ¬ (1 ≤ R ∧ 1 ≤ C ∧ R ≤ 1000 ∧ C ≤ 1000 ∧ V.length ≤ 1000 ∧ R * C = (V.length : Int)) → (shp R C V && mayT V) = false := fun h => by rw [shp, decide_eq_false h, Bool.false_and]
  refine ev_ite (fun g => ?_) (fun g => ?_)
  · rw [no (by omega)]; exact Ev.now _
  refine ev_ite (fun g2 => ?_) (fun g2 => ?_)
  · rw [no (by omega)]; exact Ev.now _
  refine ev_ite (fun g3 => ?_) (fun g3 => ?_)
  · rw [no (by omega)]; exact Ev.now _
  refine ev_ite (fun g4 => ?_) (fun g4 => ?_)
  · rw [no (by omega)]; exact Ev.now _
  rw [prodw (by omega) (by omega) (by omega) (by omega)]
  refine ev_ite (fun g5 => ?_) (fun g5 => ?_)
  · refine ev_bind (a := shp R C V && mayT V) ?_ (Ev.now _)
    unfold oculusref15_Right.f
    refine ev_ite (fun g6 => ?_) (fun g6 => ?_)
    · rw [no (by omega)]; exact Ev.now _
    · have : shp R C V = true := decide_eq_true ⟨by omega, by omega, by omega, by omega, by omega, g5⟩
      rw [this, Bool.true_and]
      exact right_l0 V (by omega) V.length 0 (by omega)
  · rw [no (fun h => g5 h.2.2.2.2.2)]; exact Ev.now _
theorem small_l0 (V : List SV) (hl : V.length ≤ 100000) : ∀ (d i : Nat), i + d = V.length → ∃ b, Ev (fun k => oculuslaw18_small.l0 k V (V.length : Int) (i : Int)) b
  | 0, i, h => ⟨true, Ev.step (fun k => oculuslaw18_small.l0.eq_2 ..) (ev_neg (by omega) (Ev.now _))⟩
  | d + 1, i, h => by
    obtain ⟨b, hb⟩ := small_l0 V hl d (i + 1) (by omega)
    by_cases g : (((rd_T26 V (i : Int)).f2).size : Int) > 60
    · exact ⟨false, Ev.step (fun k => oculuslaw18_small.l0.eq_2 ..) (ev_pos (by omega) (ev_pos (by omega) (ev_pos (by omega) (ev_pos g (Ev.now _)))))⟩
    · refine ⟨b, Ev.step (fun k => oculuslaw18_small.l0.eq_2 ..) (ev_pos (by omega) (ev_pos (by omega) (ev_pos (by omega) (ev_neg g ?_))))⟩
      rw [w64s (n := 1000000) (by omega) (by omega)]
      exact hb
theorem small_ev (R C : Int) (V : List SV) : ∃ b, Ev (fun k => oculuslaw18_small.f k R C V) b ∧ (b = true → shp R C V = true ∧ mayT V = true) := by
  have hm := rmay_ev R C V
  by_cases g : (shp R C V && mayT V) = true
  · rw [g] at hm
    rw [Bool.and_eq_true] at g
    have hl : V.length ≤ 1000 := by have := g.1; rw [shp, decide_eq_true_eq] at this; omega
    obtain ⟨b, hb⟩ := small_l0 V (by omega) V.length 0 (by omega)
    by_cases q : (V.length : Int) > 60
    · refine ⟨false, ?_, fun h => by cases h⟩
      unfold oculuslaw18_small.f
      refine ev_bind hm (ev_pos rfl ?_)
      rw [decide_eq_true q]
      exact Ev.step (fun k => oculuslaw18_small.j0.eq_2 ..) (ev_pos rfl (Ev.now _))
    · refine ⟨b, ?_, fun _ => g⟩
      unfold oculuslaw18_small.f
      refine ev_bind hm (ev_pos rfl ?_)
      rw [decide_eq_false q]
      exact Ev.step (fun k => oculuslaw18_small.j0.eq_2 ..) (ev_neg (by simp) hb)
  · rw [Bool.eq_false_iff.2 g] at hm
    refine ⟨false, ?_, fun h => by cases h⟩
    unfold oculuslaw18_small.f
    exact ev_bind hm (ev_neg (by simp) (Ev.step (fun k => oculuslaw18_small.j0.eq_2 ..) (ev_pos rfl (Ev.now _))))
theorem LookAcross : oculuslaw18_LookAcross.PureX := by
  intro a0 a1 n h0 h1 h2
  apply Ev.rounds
  obtain ⟨R, C, V⟩ := a0
  show Ev (fun k => oculuslaw18_LookAcross.f k R C V a1.f0 a1.f1 a1.f2 n) true
  have jt : Ev (fun k => oculuslaw18_LookAcross.j0 k n true R C V a1.f0 a1.f1 a1.f2) true := Ev.step (fun k => oculuslaw18_LookAcross.j0.eq_2 ..) (ev_pos rfl (ev_bind alive18_ev (Ev.now _)))
  unfold oculuslaw18_LookAcross.f
  obtain ⟨b, hb, hB⟩ := small_ev R C V
  refine ev_bind hb (ev_ite (fun g => ?_) (fun _ => jt))
  obtain ⟨gs, gm⟩ := hB g
  refine ev_bind (a := mayS a1) (ev_some fun _ => rfl) (ev_ite (fun hx => ?_) (fun _ => jt))
  by_cases q : ((a1.f2.size : Nat) : Int) > 60
  · rw [decide_eq_true q]; exact jt
  · rw [decide_eq_false q]
    refine Ev.step (fun k => oculuslaw18_LookAcross.j0.eq_2 ..) (ev_neg (by simp) ?_)
    rw [shp, decide_eq_true_eq] at gs
    obtain ⟨p1, p2, p3, p4, p5, p6⟩ := gs
    obtain ⟨r, rfl⟩ : ∃ r : Nat, R = (r : Int) := ⟨R.toNat, by omega⟩
    obtain ⟨c, rfl⟩ : ∃ c : Nat, C = (c : Int) := ⟨C.toNat, by omega⟩
    have hT : Tbl r c V := ⟨by omega, by omega, by omega, by omega, p5, by exact_mod_cast p6, gm⟩
    exact law_l0 a1 hx hT n c 0 (by omega)
end Go.Proofs.Ytejkoenlfcghbaa.Pure
/- The row of the law LookAcross: for every input the call returns true and each argument reads afterwards as before, out of its pure statement and the contract of its function. Conditions: none beyond the given statement. -/
namespace Go.Proofs.Ytejkoenlfcghbaa.lookAcross
open Go.ChangeShapes Go.WideShapes Go.ChangeAt Go.RowKit
open Go.ChangeMaps (open_string shut_string)
open Go.Proofs.Ytejkoenlfcghbaa.Opn Go.Proofs.Ytejkoenlfcghbaa.X
open Go.Proofs.YtejkoenlfcghbaaW.PrintWords (Kd Drawn0)
set_option linter.unusedVariables false
theorem own : ownKnob Try.prog.godebug = none := by kernel_rfl
theorem laidOut : laidOutB Try.prog = true := by kernel_rfl
set_option maxRecDepth 100000 in
set_option maxHeartbeats 1000000 in
theorem lifted (os : Os) (started : os.Started) (H : Type) (enc : TypeId × Value → H) :
    ReturnsInHanded {} Try.checked os 3 .any (Rows.lookAcrossSpec.pre6 enc Try.prog Try.f3 Rows.lookAcrossRow.domain false) (Rows.lookAcrossSpec.post enc Try.prog Try.f3 false true false false) := by
  refine returnsInHanded_of_change_sized (C := Try.checked) own started (by kernel_rfl) Try.func3
    (ChangeSpec.witness6 (enc := enc) (C := Try.checked) false ⟨#[], #[.agg #[.int .i64 0, .int .i64 0, .slice none 0 0], .agg #[.int .i64 0, .int .i64 0, .string ByteArray.empty], .int .i64 0], []⟩ 8 (by kernel_rfl) (by kernel_rfl) (by kernel_rfl) (by kernel_rfl)) ?_
  intro W base args ds gs before hval0 hW hcnd hsz0 _
  have hsz : (DataW.weightsEach Try.prog (Try.f3.params.toList ++ Rows.lookAcrossSpec.plain.varTypes Try.prog) (ds ++ gs)).all (· ≤ reachBytes) = true := hsz0
  have hval : ∀ (j : Nat) t v, Try.f3.params[j]? = some t → args[j]? = some v → Value.okWide Try.prog W .any base t v := hval0
  have hW' := hW
  obtain ⟨p, q, hA0, hV, rfl, hfz, hnd⟩ := hW
  have hA : DataW.TrodAll enc Try.prog W 0 (fun _ => true) true Try.f3.params.toList args.toList ds p := hA0
  rw [Try.params3] at hA hval hsz
  obtain ⟨v0, vs0, d0, ds0, p0, q0, hargs, rfl, rfl, h0, r0⟩ := trodAll_cons hA
  obtain ⟨v1, vs1, d1, ds1, p1, q1, rfl, rfl, rfl, h1, r1⟩ := trodAll_cons r0
  obtain ⟨v2, vs2, d2, ds2, p2, q2, rfl, rfl, rfl, h2, r2⟩ := trodAll_cons r1
  obtain ⟨rfl, rfl, rfl⟩ := trodAll_nil r2
  obtain rfl : args = #[v0, v1, v2] := by cases args; simp_all
  obtain ⟨rfl, rfl⟩ := trodVars_none hV
  have lt0 : ∀ x ∈ p0, x.block < W.heap.size := by obtain ⟨m, hm⟩ := h0; exact DataW.trod_lt m _ _ _ hm
  have hw0 : ∀ m ∈ d0.weights Try.prog 24, m ≤ reachBytes := fun m hm => of_decide_eq_true (List.all_eq_true.1 hsz m (DataW.weights_mem_each (j := 0) (t := 24) rfl rfl m hm))
  obtain ⟨a0, K0, g0⟩ : ∃ a, (k24 : Kd S24).K W a v0.cells.toList ∧ (good24 a) := by
    obtain ⟨fuel, hf⟩ := h0
    exact opens24 hf hw0
  obtain ⟨cs0, rfl, _⟩ := okWide_struct Try.underlying24 (hval 0 24 v0 rfl rfl)
  have KO0 := k24_open K0
  obtain ⟨A0_0, c0_0, KE0, hc0_0, C0_0⟩ := KO0
  obtain rfl : cs0 = #[.int .i64 a0.f0, .int .i64 a0.f1, .slice A0_0 (a0.f2).length c0_0] := by
    have : cs0.toList = _ := KE0
    cases cs0; simp_all
  have lt1 : ∀ x ∈ p1, x.block < W.heap.size := by obtain ⟨m, hm⟩ := h1; exact DataW.trod_lt m _ _ _ hm
  have hw1 : ∀ m ∈ d1.weights Try.prog 26, m ≤ reachBytes := fun m hm => of_decide_eq_true (List.all_eq_true.1 hsz m (DataW.weights_mem_each (j := 1) (t := 26) rfl rfl m hm))
  obtain ⟨a1, K1, g1⟩ : ∃ a, (k26 : Kd S26).K W a v1.cells.toList ∧ (good26 a) := by
    obtain ⟨fuel, hf⟩ := h1
    exact opens26 hf hw1
  obtain ⟨cs1, rfl, _⟩ := okWide_struct Try.underlying26 (hval 1 26 v1 rfl rfl)
  have KO1 := k26_open K1
  obtain rfl : cs1 = #[.int .i64 a1.f0, .int .i64 a1.f1, .string a1.f2] := by
    have : cs1.toList = _ := KO1
    cases cs1; simp_all
  have lt2 : ∀ x ∈ p2, x.block < W.heap.size := by obtain ⟨m, hm⟩ := h2; exact DataW.trod_lt m _ _ _ hm
  have hw2 : ∀ m ∈ d2.weights Try.prog 3, m ≤ reachBytes := fun m hm => of_decide_eq_true (List.all_eq_true.1 hsz m (DataW.weights_mem_each (j := 2) (t := 3) rfl rfl m hm))
  obtain ⟨a2, K2, g2⟩ : ∃ a, ((Kd.int .i64) : Kd Int).K W a v2.cells.toList ∧ ((Lit.int .i64 a).wf = true) := by
    obtain ⟨fuel, hf⟩ := h2
    exact (opens_int Try.underlying3) hf hw2
  obtain rfl : v2 = .int .i64 a2 := by
    obtain ⟨x, rfl, _⟩ := open_int Try.underlying3 (hval 2 3 v2 rfl rfl) h2
    have := K2
    simpa [Kd.int, Kd.scalar, Value.cells] using this
  obtain ⟨k, hk⟩ := Pure.LookAcross a0 a1 a2 g0 g1 g2
  clear hA0 hval0 hsz0 hsz
  refine (oculuslaw18_LookAcross.calls k (a0.f0) (a0.f1) A0_0 c0_0 (a0.f2) (a1.f0) (a1.f1) (a1.f2) a2 true W C0_0 hc0_0 hk).mono fun e W' ⟨he, bel0⟩ => ?_
  have bel : Below W.heap.size W W' := bel0
  subst he
  exact ⟨_, rfl, _, _, _, [], _, [], hW', trodAll_mk1 (shut_bool Try.underlying4 _), (trodAll_cons_mk (Below.trod laidOut (by kernel_rfl) (of_decide_eq_true (by kernel_rfl)) h0 bel lt0) (trodAll_cons_mk (Below.trod laidOut (by kernel_rfl) (of_decide_eq_true (by kernel_rfl)) h1 bel lt1) (trodAll_cons_mk (Below.trod laidOut (by kernel_rfl) (of_decide_eq_true (by kernel_rfl)) h2 bel lt2) trodAll_mk0))), rfl, bel.frame _, fun h => by cases h⟩
theorem over : Rows.lookAcrossRow.holds Try.pinned (OpenSpec.ofChange Rows.lookAcrossSpec) :=
  OpenClaim.holds_of_wide 3 Try.f3 rfl rfl rfl rfl rfl rfl rfl ⟨rfl, rfl, rfl, rfl, rfl⟩ rfl rfl rfl rfl rfl (by kernel_rfl) Try.func3 (by kernel_rfl)
    (of_decide_eq_true (by kernel_rfl)) (by unfold Func.isWrapper; first | (rw [if_pos (by decide +kernel)]; kernel_rfl) | (rw [if_neg (by decide +kernel)]; exact ⟨rfl, rfl⟩))
    (fun os started H enc _ => lifted os started H enc)
theorem proved : Rows.LookAcrossSaid := over
end Go.Proofs.Ytejkoenlfcghbaa.lookAcross
namespace Go.Proofs.Ytejkoenlfcghbaa
theorem lookAcross_holds : Rows.LookAcrossSaid := lookAcross.proved
#print axioms lookAcross_holds
end Go.Proofs.Ytejkoenlfcghbaa
