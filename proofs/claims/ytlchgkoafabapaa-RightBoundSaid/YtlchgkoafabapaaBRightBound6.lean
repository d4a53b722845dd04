/- The law RightBound: for every input the call returns true, and each argument reads afterwards as it read before: the statement Rows.RightBoundSaid, whole, with no condition of ours. -/
import Derived.Test.YtlchgkoafabapaaRows
import Derived.WalkKit
import Derived.ProofKit
import Derived.OpenShut
import Derived.ShutString
import Derived.ChangeOld
import Derived.Below
import Derived.SizedLaws
import Derived.Carry
import Derived.Test.YtlchgkoafabapaaBRightBound5
/- What the functions of right on users, and those of its reference, answer. -/
set_option linter.unusedVariables false
set_option linter.unusedSimpArgs false
namespace Go.Proofs.Ytlchgkoafabapaa.X
open Go.RowKit Go.Proofs.YtlchgkoafabapaaW.PrintWords Go.Proofs.YtlchgkoafabapaaW.PrintLast Go.Proofs.YtlchgkoafabapaaW.PrintMore

abbrev Us := S93
theorem rdU (xs : List Us) (i : Nat) (h : i < xs.length) : rd_T93 xs (i : Int) = xs[i] := by
  simp [rd_T93, List.getD_eq_getElem?_getD, h]
/-! Names. -/
def chS (c : Int) : Bool := (decide (97 ≤ c) && decide (c ≤ 122)) || (decide (48 ≤ c) && decide (c ≤ 57))
def allS (s : ByteArray) (i : Nat) : Nat → Bool
  | 0 => true
  | d + 1 => chS (bt s (i : Int)) && allS s (i + 1) d
theorem name_l0 (s : ByteArray) (hs : s.size ≤ 9223372036854775807) : ∀ (d i : Nat), i + d = s.size → Ev (fun k => right_Name.l0 k s (s.size : Int) (i : Int)) (allS s i d) := by
  intro d
  induction d with
  | zero =>
    intro i hi
    refine Ev.step (f := fun _ => some true) (fun k => ?_) (Ev.now _)
    simp only [right_Name.l0]
    rw [if_neg (by omega)]
  | succ d ih =>
    intro i hi
    have hw := w64s (i := i) (n := s.size) (by omega) hs
    have ih' := ih (i + 1) (by omega)
    refine Ev.step (f := fun k => if chS (bt s (i : Int)) = true then right_Name.l0 k s (s.size : Int) ((i + 1 : Nat) : Int) else some false) (fun k => ?_) ?_
    · simp only [right_Name.l0]
      rw [if_pos (by omega), if_pos (by omega), if_pos (by omega), hw]
      unfold chS
      generalize bt s (i : Int) = c
      by_cases h1 : c < 97
      · rw [if_pos h1, decide_eq_false (show ¬ 97 ≤ c by omega)]
        by_cases h2 : c < 48
        · rw [if_pos h2, decide_eq_false (show ¬ 48 ≤ c by omega)]; simp
        · rw [if_neg h2, decide_eq_true (show 48 ≤ c by omega)]
          by_cases h3 : c > 57
          · rw [if_pos h3, decide_eq_false (show ¬ c ≤ 57 by omega)]; simp
          · rw [if_neg h3, decide_eq_true (show c ≤ 57 by omega)]; simp
      · rw [if_neg h1, decide_eq_true (show 97 ≤ c by omega)]
        by_cases h2 : c > 122
        · rw [if_pos h2, if_neg (by omega), if_pos (by omega), decide_eq_false (show ¬ c ≤ 122 by omega), decide_eq_false (show ¬ c ≤ 57 by omega)]; simp
        · rw [if_neg h2, decide_eq_true (show c ≤ 122 by omega)]; simp
    · simp only [allS]
      refine ev_ite (fun h => ?_) (fun h => ?_)
      · rw [h]; simpa using ih'
      · rw [show chS (bt s (i : Int)) = false by simpa using h]; exact Ev.now _
theorem rname_l0 (s : ByteArray) (hs : s.size ≤ 9223372036854775807) : ∀ (d i : Nat), i + d = s.size → Ev (fun k => oculusref06_Name.l0 k s (i : Int)) (allS s i d) := by
  intro d
  induction d with
  | zero =>
    intro i hi
    refine Ev.step (f := fun _ => some true) (fun k => ?_) (Ev.now _)
    simp only [oculusref06_Name.l0]
    rw [if_neg (by omega)]
  | succ d ih =>
    intro i hi
    have hw := w64s (i := i) (n := s.size) (by omega) hs
    have ih' := ih (i + 1) (by omega)
    refine Ev.step (f := fun k => if chS (bt s (i : Int)) = true then oculusref06_Name.l0 k s ((i + 1 : Nat) : Int) else some false) (fun k => ?_) ?_
    · simp only [oculusref06_Name.l0]
      rw [if_pos (by omega), if_pos (by omega), hw]
      unfold chS oculusref06_letter.f
      generalize bt s (i : Int) = c
      by_cases h1 : c ≥ 97
      · rw [if_pos h1, decide_eq_true (show 97 ≤ c by omega)]
        simp only [Option.bind_some]
        by_cases h2 : c ≤ 122
        · rw [decide_eq_true h2]; simp
        · rw [decide_eq_false h2, if_pos (show c ≥ 48 by omega), if_neg (show ¬ c ≤ 57 by omega), decide_eq_false (show ¬ c ≤ 57 by omega)]; simp
      · rw [if_neg h1, decide_eq_false (show ¬ 97 ≤ c by omega)]
        simp only [Option.bind_some]
        by_cases h2 : c ≥ 48
        · rw [if_pos h2, decide_eq_true (show 48 ≤ c by omega)]
          by_cases h3 : c ≤ 57
          · rw [if_pos h3, decide_eq_true h3]; simp
          · rw [if_neg h3, decide_eq_false h3]; simp
        · rw [if_neg h2, decide_eq_false (show ¬ 48 ≤ c by omega)]; simp
    · simp only [allS]
      refine ev_ite (fun h => ?_) (fun h => ?_)
      · rw [h]; simpa using ih'
      · rw [show chS (bt s (i : Int)) = false by simpa using h]; exact Ev.now _
/-- Is a text a name? -/
def nameS (s : ByteArray) : Bool := decide (1 ≤ s.size) && (decide (s.size ≤ 16) && (decide (97 ≤ bt s 0) && allS s 0 s.size))
theorem name_ev (s : ByteArray) (hs : s.size ≤ 9223372036854775807) : Ev (fun k => right_Name.f k s) (nameS s) := by
  unfold right_Name.f nameS
  have hj : ∀ b, Ev (fun k => right_Name.j0 k s b) (!b && allS s 0 s.size) := by
    intro b
    refine Ev.step (f := fun k => if b = true then some false else right_Name.l0 k s (s.size : Int) 0) (fun k => by simp only [right_Name.j0]) ?_
    cases b with
    | true => exact ev_pos rfl (Ev.now _)
    | false => exact ev_neg (by simp) (by simpa using name_l0 s hs s.size 0 (by omega))
  by_cases h1 : (s.size : Int) < 1
  · simp only [if_pos h1]; rw [decide_eq_false (show ¬ 1 ≤ s.size by omega)]; exact hj true
  · simp only [if_neg h1]; rw [decide_eq_true (show 1 ≤ s.size by omega)]
    by_cases h2 : (s.size : Int) > 16
    · simp only [if_pos h2]; rw [decide_eq_false (show ¬ s.size ≤ 16 by omega)]; exact hj true
    · simp only [if_neg h2]; rw [decide_eq_true (show s.size ≤ 16 by omega)]; simp only [if_pos (show (0 : Int) < (s.size : Int) by omega)]
      have := hj (decide (bt s 0 < 97))
      rw [show (!decide (bt s 0 < 97)) = decide (97 ≤ bt s 0) by rw [Bool.eq_iff_iff]; simp] at this
      simpa using this
theorem rname_ev (s : ByteArray) (hs : s.size ≤ 9223372036854775807) : Ev (fun k => oculusref06_Name.f k s) (nameS s) := by
  unfold oculusref06_Name.f nameS
  have hj : ∀ b, Ev (fun k => oculusref06_Name.j0 k s b) (!b && allS s 0 s.size) := by
    intro b
    refine Ev.step (f := fun k => if b = true then some false else oculusref06_Name.l0 k s 0) (fun k => by simp only [oculusref06_Name.j0]) ?_
    cases b with
    | true => exact ev_pos rfl (Ev.now _)
    | false => exact ev_neg (by simp) (by simpa using rname_l0 s hs s.size 0 (by omega))
  by_cases h1 : (s.size : Int) < 1
  · simp only [if_pos h1]; rw [decide_eq_false (show ¬ 1 ≤ s.size by omega)]; exact hj true
  · simp only [if_neg h1]; rw [decide_eq_true (show 1 ≤ s.size by omega)]
    by_cases h2 : (s.size : Int) > 16
    · simp only [if_pos h2]; rw [decide_eq_false (show ¬ s.size ≤ 16 by omega)]; exact hj true
    · simp only [if_neg h2]; rw [decide_eq_true (show s.size ≤ 16 by omega)]; simp only [if_pos (show (0 : Int) < (s.size : Int) by omega)]
      unfold oculusref06_letter.f
      by_cases h3 : bt s 0 ≥ 97
      · rw [if_pos h3, decide_eq_true (show 97 ≤ bt s 0 by omega)]
        simp only [Option.bind_some]
        have := hj (!decide (bt s 0 ≤ 122))
        by_cases h4 : bt s 0 ≤ 122
        · rw [decide_eq_true h4] at this ⊢; simpa using this
        · rw [decide_eq_false h4] at this ⊢
          have hz : allS s 0 s.size = false := by
            obtain ⟨n, hn⟩ : ∃ n, s.size = n + 1 := ⟨s.size - 1, by omega⟩
            rw [hn]
            simp only [allS]
            have : chS (bt s ((0 : Nat) : Int)) = false := by
              unfold chS
              rw [show ((0 : Nat) : Int) = 0 from rfl, decide_eq_false h4, decide_eq_false (show ¬ bt s 0 ≤ 57 by omega)]; simp
            rw [this]; rfl
          rw [hz]
          simpa using this
      · rw [if_neg h3, decide_eq_false (show ¬ 97 ≤ bt s 0 by omega)]
        simp only [Option.bind_some]
        simpa using hj true
/-! Find. -/
def hitU (n : ByteArray) (u : Us) : Bool := decide (u.f0.toList = n.toList)
def findS (n : ByteArray) : List Us → Int × Int × Bool
  | [] => (0, 0, false)
  | u :: r => if hitU n u = true then (u.f1.f0, u.f1.f1, true) else findS n r
theorem find_l0 (n : ByteArray) (xs : List Us) (hx : xs.length ≤ 9223372036854775807) : ∀ (d i : Nat), i + d = xs.length →
    Ev (fun k => right_Find.l0 k n xs (xs.length : Int) (i : Int)) (findS n (xs.drop i)) := by
  intro d
  induction d with
  | zero =>
    intro i hi
    rw [List.drop_eq_nil_of_le (by omega)]
    refine Ev.step (f := fun _ => some (0, 0, false)) (fun k => ?_) (Ev.now _)
    simp only [right_Find.l0]
    rw [if_neg (by omega)]
  | succ d ih =>
    intro i hi
    have hlt : i < xs.length := by omega
    have hw := w64s hlt hx
    rw [List.drop_eq_getElem_cons hlt]
    refine Ev.step (f := fun k => if xs[i].f0.toList = n.toList then some (xs[i].f1.f0, xs[i].f1.f1, true) else right_Find.l0 k n xs (xs.length : Int) ((i + 1 : Nat) : Int)) (fun k => ?_) ?_
    · simp only [right_Find.l0]
      rw [if_pos (by omega), if_pos (by omega), if_pos (by omega), rdU xs i hlt, hw]
    · simp only [findS, hitU, decide_eq_true_eq]
      refine ev_ite (fun h => ?_) (fun h => ?_)
      · rw [if_pos h]; exact Ev.now _
      · rw [if_neg h]; exact ih (i + 1) (by omega)
theorem find_ev (n : ByteArray) (xs : List Us) (hx : xs.length ≤ 9223372036854775807) : Ev (fun k => right_Find.f k xs n) (findS n xs) := by
  unfold right_Find.f
  simpa using find_l0 n xs hx xs.length 0 (by omega)
/-- The first place from i on, or none. -/
def placeS (n : ByteArray) : List Us → Nat → Int
  | [], _ => -1
  | u :: r, i => if hitU n u = true then (i : Int) else placeS n r (i + 1)
theorem rfind_l0 (n : ByteArray) (xs : List Us) (hx : xs.length ≤ 9223372036854775807) : ∀ (d i : Nat), i + d = xs.length →
    Ev (fun k => oculusref06_Find.l0 k xs n (i : Int)) (placeS n (xs.drop i) i) := by
  intro d
  induction d with
  | zero =>
    intro i hi
    rw [List.drop_eq_nil_of_le (by omega)]
    refine Ev.step (f := fun _ => some (-1)) (fun k => ?_) (Ev.now _)
    simp only [oculusref06_Find.l0]
    rw [if_neg (by omega)]
  | succ d ih =>
    intro i hi
    have hlt : i < xs.length := by omega
    have hw := w64s hlt hx
    rw [List.drop_eq_getElem_cons hlt]
    refine Ev.step (f := fun k => if xs[i].f0.toList = n.toList then some (i : Int) else oculusref06_Find.l0 k xs n ((i + 1 : Nat) : Int)) (fun k => ?_) ?_
    · simp only [oculusref06_Find.l0]
      rw [if_pos (by omega), if_pos (by omega), rdU xs i hlt, hw]
    · simp only [placeS, hitU, decide_eq_true_eq]
      refine ev_ite (fun h => ?_) (fun h => ?_)
      · rw [if_pos h]; exact Ev.now _
      · rw [if_neg h]; exact ih (i + 1) (by omega)
theorem rfind_ev (n : ByteArray) (xs : List Us) (hx : xs.length ≤ 9223372036854775807) : Ev (fun k => oculusref06_Find.f k xs n) (placeS n xs 0) := by
  unfold oculusref06_Find.f
  simpa using rfind_l0 n xs hx xs.length 0 (by omega)
/-- What the place and the find say of one another. -/
theorem place_find (n : ByteArray) : ∀ (l : List Us) (i : Nat), (placeS n l i = -1 ∧ findS n l = (0, 0, false) ∧ l.any (hitU n) = false) ∨
    ∃ (j : Nat) (h : j < l.length), placeS n l i = ((i + j : Nat) : Int) ∧ findS n l = (l[j].f1.f0, l[j].f1.f1, true) ∧ l.any (hitU n) = true ∧ hitU n l[j] = true ∧ (l.take j).any (hitU n) = false
  | [], i => Or.inl ⟨rfl, rfl, rfl⟩
  | u :: r, i => by
    by_cases h : hitU n u = true
    · refine Or.inr ⟨0, by simp, ?_, ?_, ?_, ?_, ?_⟩
      · simp [placeS, h]
      · simp [findS, h]
      · simp [h]
      · simpa using h
      · simp
    · have hf : hitU n u = false := by simpa using h
      rcases place_find n r (i + 1) with ⟨h1, h2, h3⟩ | ⟨j, hj, h1, h2, h3, h4, h5⟩
      · left
        simp [placeS, findS, hf, h1, h2, h3]
      · right
        refine ⟨j + 1, by simp; omega, ?_, ?_, ?_, ?_, ?_⟩
        · simp only [placeS, if_neg h, h1]; congr 1; omega
        · simp only [findS, if_neg h, h2]; simp
        · simp only [List.any_cons, h3, Bool.or_true]
        · simpa using h4
        · simp only [List.take_succ_cons, List.any_cons, hf, h5, Bool.or_false]
theorem may_eq (a0 a1 : Int) : label_May.f a0 a1 = some (decide (a0 ≥ 0) && decide (a0 ≤ 15)) := by
  unfold label_May.f
  by_cases h : a0 ≥ 0
  · rw [if_pos h, decide_eq_true h]; rfl
  · rw [if_neg h, decide_eq_false h]; rfl
theorem rmay_eq (a0 a1 : Int) : oculusref06_may.f a0 a1 = some (decide (a0 ≥ 0) && decide (a0 ≤ 15)) := by
  unfold oculusref06_may.f
  by_cases h : a0 ≥ 0
  · rw [if_pos h, decide_eq_true h]; rfl
  · rw [if_neg h, decide_eq_false h]; rfl
def mayS (a0 : Int) : Bool := decide (a0 ≥ 0) && decide (a0 ≤ 15)
def okU (u : Us) : Prop := (Lit.int .u64 u.f1.f1).wf = true ∧ u.f0.size ≤ 9223372036854775807
/-! Acts. -/
def actsS (n : ByteArray) (xs : List Us) (a0 a1 : Int) : Int := if (findS n xs).2.2 = true then (if mayS a0 = true then (if belowS a0 a1 (findS n xs).1 (findS n xs).2.1 = true then 0 else 12) else 12) else 11
theorem acts_ev (n : ByteArray) (xs : List Us) (hx : xs.length ≤ 9223372036854775807) (a0 a1 : Int) : Ev (fun k => right_Acts.f k xs n a0 a1) (actsS n xs a0 a1) := by
  unfold right_Acts.f actsS
  refine ev_bind (find_ev n xs hx) ?_
  refine ev_ite (fun h => ?_) (fun h => ?_)
  · rw [if_pos h, may_eq]
    simp only [Option.bind_some]
    refine ev_ite (fun h2 => ?_) (fun h2 => ?_)
    · rw [if_pos (show mayS a0 = true from h2), below_eq]
      simp only [Option.bind_some]
      refine ev_ite (fun h3 => ?_) (fun h3 => ?_)
      · rw [if_pos h3]; exact Ev.now _
      · rw [if_neg h3]; exact Ev.now _
    · rw [if_neg (show ¬ mayS a0 = true from h2)]; exact Ev.now _
  · rw [if_neg h]; exact Ev.now _
theorem racts_ev (n : ByteArray) (xs : List Us) (hx : xs.length ≤ 9223372036854775807) (hu : ∀ u ∈ xs, okU u) (a0 a1 : Int) (ha : (Lit.int .u64 a1).wf = true) : Ev (fun k => oculusref06_Acts.f k xs n a0 a1) (actsS n xs a0 a1) := by
  unfold oculusref06_Acts.f actsS
  refine ev_bind (rfind_ev n xs hx) ?_
  rcases place_find n xs 0 with ⟨h1, h2, h3⟩ | ⟨j, hj, h1, h2, h3, h4, h5⟩
  · rw [h1, h2]
    exact ev_pos (by omega) (Ev.now _)
  · rw [h1, h2, Nat.zero_add]
    refine ev_neg (by omega) ?_
    rw [if_pos rfl, rmay_eq]
    simp only [Option.bind_some]
    refine ev_ite (fun h6 => ?_) (fun h6 => ?_)
    · rw [if_pos (show mayS a0 = true from h6)]
      refine ev_pos (by omega) (ev_pos (by omega) ?_)
      simp only [rdU xs j hj]
      refine ev_bind (rbelow_ev _ _ _ _ ha (hu _ (List.getElem_mem hj)).1) ?_
      refine ev_ite (fun h7 => ?_) (fun h7 => ?_)
      · rw [if_pos h7]; exact Ev.now _
      · rw [if_neg h7]; exact Ev.now _
    · rw [if_neg (show ¬ mayS a0 = true from h6)]; exact Ev.now _
/-! Users. -/
def userS (xs : List Us) (i : Nat) (u : Us) : Int := if 16 ≤ i then 10 else if nameS u.f0 = false then 1 else if (xs.take i).any (hitU u.f0) = true then 8 else if mayS u.f1.f0 = false then 7 else 0
def usersS (xs : List Us) : List Us → Nat → Int × Int
  | [], _ => (0, 0)
  | u :: r, i => if userS xs i u = 0 then usersS xs r (i + 1) else ((i : Int), userS xs i u)
theorem find_snd (n : ByteArray) (l : List Us) : (findS n l).2.2 = l.any (hitU n) := by
  rcases place_find n l 0 with ⟨_, h2, h3⟩ | ⟨j, hj, _, h2, h3, _⟩ <;> rw [h2, h3]
theorem users_l0 (xs : List Us) (hx : xs.length ≤ 9223372036854775807) (hu : ∀ u ∈ xs, okU u) : ∀ (d i : Nat), i + d = xs.length →
    Ev (fun k => right_Users.l0 k xs xs (xs.length : Int) (i : Int)) (usersS xs (xs.drop i) i) := by
  intro d
  induction d with
  | zero =>
    intro i hi
    rw [List.drop_eq_nil_of_le (by omega)]
    refine Ev.step (f := fun _ => some (0, 0)) (fun k => ?_) (Ev.now _)
    simp only [right_Users.l0]
    rw [if_neg (by omega)]
  | succ d ih =>
    intro i hi
    have hlt : i < xs.length := by omega
    have hw := w64s hlt hx
    have hok := hu _ (List.getElem_mem hlt)
    have ih' := ih (i + 1) (by omega)
    rw [List.drop_eq_getElem_cons hlt]
    simp only [usersS]
    refine Ev.step (f := fun k => (right_Find.f k (xs.take i) xs[i].f0).bind fun b => right_Users.j1 k xs (i : Int) b.2.2 xs (xs.length : Int) (i : Int) xs[i].f0 xs[i].f1.f0 xs[i].f1.f1) (fun k => ?_) ?_
    · simp only [right_Users.l0]
      rw [if_pos (by omega), if_pos (by omega), if_pos (by omega), if_pos (by omega), rdU xs i hlt]
      rfl
    · refine ev_bind (find_ev xs[i].f0 (xs.take i) (by simp; omega)) ?_
      rw [find_snd]
      refine Ev.step (f := fun k => if (i : Int) ≥ 16 then some ((i : Int), 10) else (right_Name.f k xs[i].f0).bind fun t => if t = true then (if (xs.take i).any (hitU xs[i].f0) = true then some ((i : Int), 8) else (label_May.f xs[i].f1.f0 xs[i].f1.f1).bind fun t2 => if t2 = true then right_Users.l0 k xs xs (xs.length : Int) ((i + 1 : Nat) : Int) else some ((i : Int), 7)) else some ((i : Int), 1)) (fun k => ?_) ?_
      · simp only [right_Users.j1, hw]
      · refine ev_ite (fun h => ?_) (fun h => ?_)
        · have e : userS xs i xs[i] = 10 := by unfold userS; rw [if_pos (by omega)]
          rw [e, if_neg (by decide)]; exact Ev.now _
        · have h16 : ¬ 16 ≤ i := by omega
          refine ev_bind (name_ev _ hok.2) ?_
          refine ev_ite (fun hn => ?_) (fun hn => ?_)
          · refine ev_ite (fun h2 => ?_) (fun h2 => ?_)
            · have e : userS xs i xs[i] = 8 := by unfold userS; rw [if_neg h16, hn, if_neg (by decide), if_pos h2]
              rw [e, if_neg (by decide)]; exact Ev.now _
            · rw [may_eq]
              simp only [Option.bind_some]
              refine ev_ite (fun hm => ?_) (fun hm => ?_)
              · have e : userS xs i xs[i] = 0 := by unfold userS; rw [if_neg h16, hn, if_neg (by decide), if_neg h2, show mayS xs[i].f1.f0 = true from hm, if_neg (by decide)]
                rw [e, if_pos rfl]; exact ih'
              · have e : userS xs i xs[i] = 7 := by unfold userS; rw [if_neg h16, hn, if_neg (by decide), if_neg h2, show mayS xs[i].f1.f0 = false by simpa [mayS] using hm, if_pos rfl]
                rw [e, if_neg (by decide)]; exact Ev.now _
          · have e : userS xs i xs[i] = 1 := by unfold userS; rw [if_neg h16, show nameS xs[i].f0 = false by simpa using hn, if_pos rfl]
            rw [e, if_neg (by decide)]; exact Ev.now _
theorem users_ev (xs : List Us) (hx : xs.length ≤ 9223372036854775807) (hu : ∀ u ∈ xs, okU u) : Ev (fun k => right_Users.f k xs) (usersS xs xs 0) := by
  unfold right_Users.f
  simpa using users_l0 xs hx hu xs.length 0 (by omega)
theorem place_own (xs : List Us) (i : Nat) (h : i < xs.length) : (placeS xs[i].f0 xs 0 = (i : Int)) ↔ (xs.take i).any (hitU xs[i].f0) = false := by
  have hself : hitU xs[i].f0 xs[i] = true := by unfold hitU; simp
  rcases place_find xs[i].f0 xs 0 with ⟨h1, h2, h3⟩ | ⟨j, hj, h1, h2, h3, h4, h5⟩
  · exfalso
    have := List.any_eq_false.1 h3 xs[i] (List.getElem_mem h)
    exact this hself
  · rw [h1, Nat.zero_add]
    constructor
    · intro e
      have : j = i := by omega
      subst this
      exact h5
    · intro e
      rcases Nat.lt_trichotomy j i with hlt | he | hgt
      · exfalso
        have := List.any_eq_false.1 e xs[j] (by rw [List.mem_take_iff_getElem]; exact ⟨j, by omega, rfl⟩)
        exact this h4
      · omega
      · exfalso
        have := List.any_eq_false.1 h5 xs[i] (by rw [List.mem_take_iff_getElem]; exact ⟨i, by omega, rfl⟩)
        exact this hself
theorem rusers_l0 (xs : List Us) (hx : xs.length ≤ 9223372036854775807) (hu : ∀ u ∈ xs, okU u) : ∀ (d i : Nat), i + d = xs.length →
    Ev (fun k => oculusref06_Users.l0 k xs (i : Int)) (usersS xs (xs.drop i) i) := by
  intro d
  induction d with
  | zero =>
    intro i hi
    rw [List.drop_eq_nil_of_le (by omega)]
    refine Ev.step (f := fun _ => some (0, 0)) (fun k => ?_) (Ev.now _)
    simp only [oculusref06_Users.l0]
    rw [if_neg (by omega)]
  | succ d ih =>
    intro i hi
    have hlt : i < xs.length := by omega
    have hw := w64s hlt hx
    have hok := hu _ (List.getElem_mem hlt)
    have ih' := ih (i + 1) (by omega)
    rw [List.drop_eq_getElem_cons hlt]
    simp only [usersS]
    have j3 : ∀ e : Int, (16 ≤ i ∨ e = userS xs i xs[i]) → Ev (fun k => oculusref06_Users.j3 k xs (i : Int) e) (if userS xs i xs[i] = 0 then usersS xs (xs.drop (i + 1)) (i + 1) else ((i : Int), userS xs i xs[i])) := by
      intro e he
      refine Ev.step (f := fun k => if (i : Int) > 15 then some ((i : Int), 10) else if e = 0 then oculusref06_Users.l0 k xs ((i + 1 : Nat) : Int) else some ((i : Int), e)) (fun k => by simp only [oculusref06_Users.j3, hw]) ?_
      refine ev_ite (fun h => ?_) (fun h => ?_)
      · have : userS xs i xs[i] = 10 := by unfold userS; rw [if_pos (by omega)]
        rw [this, if_neg (by omega)]; exact Ev.now _
      · have he' : e = userS xs i xs[i] := by rcases he with h' | h'; omega; exact h'
        rw [← he']
        refine ev_ite (fun h2 => ?_) (fun h2 => ?_)
        · rw [if_pos h2]; exact ih'
        · rw [if_neg h2]; exact Ev.now _
    have j2 : ∀ e : Int, (16 ≤ i ∨ nameS xs[i].f0 = false ∨ e = userS xs i xs[i]) → Ev (fun k => oculusref06_Users.j2 k xs (i : Int) e) (if userS xs i xs[i] = 0 then usersS xs (xs.drop (i + 1)) (i + 1) else ((i : Int), userS xs i xs[i])) := by
      intro e he
      refine Ev.step (f := fun k => (oculusref06_Name.f k xs[i].f0).bind fun t => if t = true then oculusref06_Users.j3 k xs (i : Int) e else oculusref06_Users.j3 k xs (i : Int) 1) (fun k => ?_) ?_
      · simp only [oculusref06_Users.j2]
        rw [if_pos (by omega), if_pos (by omega), rdU xs i hlt]
      · refine ev_bind (rname_ev _ hok.2) ?_
        refine ev_ite (fun h => ?_) (fun h => ?_)
        · refine j3 e ?_
          rcases he with h' | h' | h'
          · exact Or.inl h'
          · rw [h] at h'; cases h'
          · exact Or.inr h'
        · refine j3 1 ?_
          by_cases h16 : 16 ≤ i
          · exact Or.inl h16
          · right; unfold userS; rw [if_neg h16, if_pos (by simpa using h)]
    have j1 : ∀ e : Int, (e = if mayS xs[i].f1.f0 = true then 0 else 7) → Ev (fun k => oculusref06_Users.j1 k xs (i : Int) e) (if userS xs i xs[i] = 0 then usersS xs (xs.drop (i + 1)) (i + 1) else ((i : Int), userS xs i xs[i])) := by
      intro e he
      refine Ev.step (f := fun k => (oculusref06_Find.f k xs xs[i].f0).bind fun t => if t = (i : Int) then oculusref06_Users.j2 k xs (i : Int) e else oculusref06_Users.j2 k xs (i : Int) 8) (fun k => ?_) ?_
      · simp only [oculusref06_Users.j1]
        rw [if_pos (by omega), if_pos (by omega), rdU xs i hlt]
      · refine ev_bind (rfind_ev _ xs hx) ?_
        refine ev_ite (fun h => ?_) (fun h => ?_)
        · rw [place_own xs i hlt] at h
          refine j2 e ?_
          by_cases h16 : 16 ≤ i
          · exact Or.inl h16
          · cases hn : nameS xs[i].f0 with
            | false => exact Or.inr (Or.inl rfl)
            | true =>
              right; right
              unfold userS
              rw [if_neg h16, hn, if_neg (by simp), h, if_neg (by simp), he]
              cases mayS xs[i].f1.f0 <;> simp
        · rw [place_own xs i hlt] at h
          refine j2 8 ?_
          by_cases h16 : 16 ≤ i
          · exact Or.inl h16
          · cases hn : nameS xs[i].f0 with
            | false => exact Or.inr (Or.inl rfl)
            | true =>
              right; right
              unfold userS
              rw [if_neg h16, hn, if_neg (by simp), if_pos (by simpa using h)]
    refine Ev.step (f := fun k => (oculusref06_may.f xs[i].f1.f0 xs[i].f1.f1).bind fun t => if t = true then oculusref06_Users.j1 k xs (i : Int) 0 else oculusref06_Users.j1 k xs (i : Int) 7) (fun k => ?_) ?_
    · simp only [oculusref06_Users.l0]
      rw [if_pos (by omega), if_pos (by omega), rdU xs i hlt]
    · rw [rmay_eq]
      simp only [Option.bind_some]
      refine ev_ite (fun h => ?_) (fun h => ?_)
      · exact j1 0 (by rw [if_pos (show mayS xs[i].f1.f0 = true from h)])
      · exact j1 7 (by rw [if_neg (show ¬ mayS xs[i].f1.f0 = true from h)])
theorem rusers_ev (xs : List Us) (hx : xs.length ≤ 9223372036854775807) (hu : ∀ u ∈ xs, okU u) : Ev (fun k => oculusref06_Users.f k xs) (usersS xs xs 0) := by
  unfold oculusref06_Users.f
  simpa using rusers_l0 xs hx hu xs.length 0 (by omega)
/-! Grants. -/
def grantS (us : List Us) (i : Nat) (g : Gr) : Int := if 32 ≤ i then 10 else if us.any (hitU g.f0) = false then 11 else if (mayS g.f1.f0 && mayS g.f2.f0) = false then 7 else 0
def grantsS (us : List Us) : List Gr → Nat → Int × Int
  | [], _ => (0, 0)
  | g :: r, i => if grantS us i g = 0 then grantsS us r (i + 1) else ((i : Int), grantS us i g)
theorem grants_l0 (us : List Us) (hus : us.length ≤ 9223372036854775807) (xs : List Gr) (hx : xs.length ≤ 9223372036854775807) : ∀ (d i : Nat), i + d = xs.length →
    Ev (fun k => right_Grants.l0 k us xs (xs.length : Int) (i : Int)) (grantsS us (xs.drop i) i) := by
  intro d
  induction d with
  | zero =>
    intro i hi
    rw [List.drop_eq_nil_of_le (by omega)]
    refine Ev.step (f := fun _ => some (0, 0)) (fun k => ?_) (Ev.now _)
    simp only [right_Grants.l0]
    rw [if_neg (by omega)]
  | succ d ih =>
    intro i hi
    have hlt : i < xs.length := by omega
    have hw := w64s hlt hx
    have ih' := ih (i + 1) (by omega)
    rw [List.drop_eq_getElem_cons hlt]
    simp only [grantsS]
    refine Ev.step (f := fun k => (right_Find.f k us xs[i].f0).bind fun b => right_Grants.j1 k us (i : Int) b.2.2 xs (xs.length : Int) (i : Int) xs[i].f0 xs[i].f1.f0 xs[i].f1.f1 xs[i].f2.f0 xs[i].f2.f1) (fun k => ?_) ?_
    · simp only [right_Grants.l0]
      rw [if_pos (by omega), if_pos (by omega), if_pos (by omega), rdG xs i hlt]
    · refine ev_bind (find_ev xs[i].f0 us hus) ?_
      rw [find_snd]
      refine Ev.step (f := fun k => if (i : Int) ≥ 32 then some ((i : Int), 10) else if us.any (hitU xs[i].f0) = true then ((label_May.f xs[i].f1.f0 xs[i].f1.f1).bind fun t => if t = true then ((label_May.f xs[i].f2.f0 xs[i].f2.f1).bind fun t2 => if t2 = true then right_Grants.l0 k us xs (xs.length : Int) ((i + 1 : Nat) : Int) else some ((i : Int), 7)) else some ((i : Int), 7)) else some ((i : Int), 11)) (fun k => ?_) ?_
      · simp only [right_Grants.j1, hw]
      · refine ev_ite (fun h => ?_) (fun h => ?_)
        · have e : grantS us i xs[i] = 10 := by unfold grantS; rw [if_pos (by omega)]
          rw [e, if_neg (by decide)]; exact Ev.now _
        · have h32 : ¬ 32 ≤ i := by omega
          refine ev_ite (fun hn => ?_) (fun hn => ?_)
          · have seven : (mayS xs[i].f1.f0 && mayS xs[i].f2.f0) = false → grantS us i xs[i] = 7 := by
              intro h7; unfold grantS; rw [if_neg h32, hn, if_neg (by decide), h7, if_pos rfl]
            rw [may_eq]
            simp only [Option.bind_some]
            refine ev_ite (fun hm => ?_) (fun hm => ?_)
            · rw [may_eq]
              simp only [Option.bind_some]
              refine ev_ite (fun hm2 => ?_) (fun hm2 => ?_)
              · have e : grantS us i xs[i] = 0 := by unfold grantS; rw [if_neg h32, hn, if_neg (by decide), show mayS xs[i].f1.f0 = true from hm, show mayS xs[i].f2.f0 = true from hm2, if_neg (by decide)]
                rw [e, if_pos rfl]; exact ih'
              · rw [seven (by rw [show mayS xs[i].f2.f0 = false by simpa [mayS] using hm2, Bool.and_false]), if_neg (by decide)]; exact Ev.now _
            · rw [seven (by rw [show mayS xs[i].f1.f0 = false by simpa [mayS] using hm, Bool.false_and]), if_neg (by decide)]; exact Ev.now _
          · have e : grantS us i xs[i] = 11 := by unfold grantS; rw [if_neg h32, show us.any (hitU xs[i].f0) = false by simpa using hn, if_pos rfl]
            rw [e, if_neg (by decide)]; exact Ev.now _
theorem grants_ev (us : List Us) (hus : us.length ≤ 9223372036854775807) (xs : List Gr) (hx : xs.length ≤ 9223372036854775807) : Ev (fun k => right_Grants.f k xs us) (grantsS us xs 0) := by
  unfold right_Grants.f
  simpa using grants_l0 us hus xs hx xs.length 0 (by omega)
theorem rgrants_l0 (us : List Us) (hus : us.length ≤ 9223372036854775807) (xs : List Gr) (hx : xs.length ≤ 9223372036854775807) : ∀ (d i : Nat), i + d = xs.length →
    Ev (fun k => oculusref06_Grants.l0 k xs us (i : Int)) (grantsS us (xs.drop i) i) := by
  intro d
  induction d with
  | zero =>
    intro i hi
    rw [List.drop_eq_nil_of_le (by omega)]
    refine Ev.step (f := fun _ => some (0, 0)) (fun k => ?_) (Ev.now _)
    simp only [oculusref06_Grants.l0]
    rw [if_neg (by omega)]
  | succ d ih =>
    intro i hi
    have hlt : i < xs.length := by omega
    have hw := w64s hlt hx
    have ih' := ih (i + 1) (by omega)
    rw [List.drop_eq_getElem_cons hlt]
    simp only [grantsS]
    have j3 : ∀ e : Int, (32 ≤ i ∨ e = grantS us i xs[i]) → Ev (fun k => oculusref06_Grants.j3 k xs us (i : Int) e) (if grantS us i xs[i] = 0 then grantsS us (xs.drop (i + 1)) (i + 1) else ((i : Int), grantS us i xs[i])) := by
      intro e he
      refine Ev.step (f := fun k => if (i : Int) > 31 then some ((i : Int), 10) else if e = 0 then oculusref06_Grants.l0 k xs us ((i + 1 : Nat) : Int) else some ((i : Int), e)) (fun k => by simp only [oculusref06_Grants.j3, hw]) ?_
      refine ev_ite (fun h => ?_) (fun h => ?_)
      · have : grantS us i xs[i] = 10 := by unfold grantS; rw [if_pos (by omega)]
        rw [this, if_neg (by omega)]; exact Ev.now _
      · have he' : e = grantS us i xs[i] := by rcases he with h' | h'; omega; exact h'
        rw [← he']
        refine ev_ite (fun h2 => ?_) (fun h2 => ?_)
        · rw [if_pos h2]; exact ih'
        · rw [if_neg h2]; exact Ev.now _
    have j2 : ∀ e : Int, e = (if (mayS xs[i].f1.f0 && mayS xs[i].f2.f0) = false then 7 else 0) → Ev (fun k => oculusref06_Grants.j2 k xs us (i : Int) e) (if grantS us i xs[i] = 0 then grantsS us (xs.drop (i + 1)) (i + 1) else ((i : Int), grantS us i xs[i])) := by
      intro e he
      refine Ev.step (f := fun k => (oculusref06_Find.f k us xs[i].f0).bind fun t => if t < 0 then oculusref06_Grants.j3 k xs us (i : Int) 11 else oculusref06_Grants.j3 k xs us (i : Int) e) (fun k => ?_) ?_
      · simp only [oculusref06_Grants.j2]
        rw [if_pos (by omega), if_pos (by omega), rdG xs i hlt]
      · refine ev_bind (rfind_ev _ us hus) ?_
        rcases place_find xs[i].f0 us 0 with ⟨h1, h2, h3⟩ | ⟨j, hj, h1, h2, h3, h4, h5⟩
        · rw [h1]
          refine ev_pos (by omega) (j3 11 ?_)
          by_cases h32 : 32 ≤ i
          · exact Or.inl h32
          · right; unfold grantS; rw [if_neg h32, if_pos h3]
        · rw [h1]
          refine ev_neg (by omega) (j3 e ?_)
          by_cases h32 : 32 ≤ i
          · exact Or.inl h32
          · right; unfold grantS; rw [if_neg h32, if_neg (by rw [h3]; simp)]; exact he
    have j1 : ∀ b : Bool, b = !(mayS xs[i].f1.f0 && mayS xs[i].f2.f0) → Ev (fun k => oculusref06_Grants.j1 k xs us (i : Int) 0 b) (if grantS us i xs[i] = 0 then grantsS us (xs.drop (i + 1)) (i + 1) else ((i : Int), grantS us i xs[i])) := by
      intro b hb
      refine Ev.step (f := fun k => if b = true then oculusref06_Grants.j2 k xs us (i : Int) 7 else oculusref06_Grants.j2 k xs us (i : Int) 0) (fun k => by simp only [oculusref06_Grants.j1]) ?_
      cases hh : (mayS xs[i].f1.f0 && mayS xs[i].f2.f0) with
      | false => rw [hh] at hb; subst hb; exact ev_pos rfl (j2 7 (by rw [hh]; rfl))
      | true => rw [hh] at hb; subst hb; exact ev_neg (by simp) (j2 0 (by rw [hh]; rfl))
    refine Ev.step (f := fun k => (oculusref06_may.f xs[i].f1.f0 xs[i].f1.f1).bind fun t => if t = true then ((oculusref06_may.f xs[i].f2.f0 xs[i].f2.f1).bind fun t2 => oculusref06_Grants.j1 k xs us (i : Int) 0 (!t2)) else oculusref06_Grants.j1 k xs us (i : Int) 0 true) (fun k => ?_) ?_
    · simp only [oculusref06_Grants.l0]
      rw [if_pos (by omega), if_pos (by omega), rdG xs i hlt]
    · rw [rmay_eq, rmay_eq]
      simp only [Option.bind_some]
      refine ev_ite (fun h => ?_) (fun h => ?_)
      · exact j1 _ (by rw [show mayS xs[i].f1.f0 = true from h]; rfl)
      · exact j1 _ (by rw [show mayS xs[i].f1.f0 = false from by simpa [mayS] using h]; rfl)
theorem rgrants_ev (us : List Us) (hus : us.length ≤ 9223372036854775807) (xs : List Gr) (hx : xs.length ≤ 9223372036854775807) : Ev (fun k => oculusref06_Grants.f k xs us) (grantsS us xs 0) := by
  unfold oculusref06_Grants.f
  simpa using rgrants_l0 us hus xs hx xs.length 0 (by omega)
end Go.Proofs.Ytlchgkoafabapaa.X
/- That the statements of right live: one closed run. -/
set_option linter.unusedVariables false
set_option linter.unusedSimpArgs false
namespace Go.Proofs.Ytlchgkoafabapaa.X
open Go.RowKit Go.Proofs.YtlchgkoafabapaaW.PrintWords Go.Proofs.YtlchgkoafabapaaW.PrintLast Go.Proofs.YtlchgkoafabapaaW.PrintMore
theorem alive06_ev : Ev (fun k => oculuslaw06_alive.f k) true := by
  unfold oculuslaw06_alive.f
  refine ev_bsome ?_
  have hl : ([(⟨(⟨#[97, 110, 110]⟩ : ByteArray), (⟨3, 0⟩ : S26), (⟨1, 0⟩ : S26)⟩ : Gr)] : List Gr).length ≤ 9223372036854775807 := by decide
  refine ev_bind (holders_ev _ (by decide +kernel) 2 0) ?_
  refine ev_bind (lowers_ev _ hl _ 2 0 2 0) ?_
  refine ev_pos (by decide +kernel) ?_
  refine ev_bind (lowers_ev _ hl _ 2 0 2 0) ?_
  refine ev_neg (by decide +kernel) ?_
  refine ev_bind (lowers_ev _ hl _ 2 0 0 0) ?_
  refine ev_neg (by decide +kernel) ?_
  refine ev_bind (leaks_ev _ hl 2 0) ?_
  refine ev_pos (by decide +kernel) ?_
  refine ev_bind (leaks_ev _ hl 3 0) ?_
  refine ev_neg (by decide +kernel) ?_
  refine ev_pos (by decide +kernel) ?_
  refine ev_bind (name_ev _ (by decide +kernel)) ?_
  refine ev_pos (by decide +kernel) ?_
  refine ev_bind (acts_ev _ _ (by decide +kernel) 2 0) ?_
  exact ev_some (fun k => by decide +kernel)
end Go.Proofs.Ytlchgkoafabapaa.X
/- Labels as a lattice: plain. -/
set_option linter.unusedVariables false
set_option linter.unusedSimpArgs false
namespace Go.Proofs.Ytlchgkoafabapaa.X
open Go.RowKit Go.Proofs.YtlchgkoafabapaaW.PrintWords Go.Proofs.YtlchgkoafabapaaW.PrintLast Go.Proofs.YtlchgkoafabapaaW.PrintMore
theorem and_eq_left_iff (a b : Nat) : a &&& b = a ↔ ∀ i, a.testBit i = true → b.testBit i = true := by
  constructor
  · intro h i hi
    have := congrArg (fun n => Nat.testBit n i) h
    simp only [Nat.testBit_and, hi, Bool.true_and] at this
    exact this
  · intro h
    apply Nat.eq_of_testBit_eq
    intro i
    rw [Nat.testBit_and]
    cases hi : a.testBit i with
    | false => rfl
    | true => rw [h i hi]; rfl
theorem within_bits {a b : Int} (ha : (Lit.int .u64 a).wf = true) (hb : (Lit.int .u64 b).wf = true) : withinS a b = true ↔ ∀ i, a.toNat.testBit i = true → b.toNat.testBit i = true := by
  obtain ⟨n, rfl, hn⟩ := wf_nat ha
  obtain ⟨m, rfl, hm⟩ := wf_nat hb
  unfold withinS
  rw [within_iff n m hn hm, decide_eq_true_eq, and_eq_left_iff]
  simp
theorem wf_of_u64 {x : Int} (h0 : 0 ≤ x) (h1 : x < 18446744073709551616) : (Lit.int .u64 x).wf = true := by
  simp [Lit.wf, IntKind.min, IntKind.max, IntKind.signed, IntKind.bits]
  omega
theorem and_u64 {a b : Int} (ha : (Lit.int .u64 a).wf = true) (hb : (Lit.int .u64 b).wf = true) : Go.bits .and .u64 a b = ((a.toNat &&& b.toNat : Nat) : Int) ∧ (Lit.int .u64 (Go.bits .and .u64 a b)).wf = true := by
  obtain ⟨h1, h2⟩ := wf_u64 ha
  obtain ⟨h3, h4⟩ := wf_u64 hb
  have e := u64_and a b h1 h2 h3 h4
  refine ⟨e, ?_⟩
  rw [e]
  have : a.toNat &&& b.toNat < 2 ^ 64 := Nat.and_lt_two_pow _ (by omega)
  exact wf_of_u64 (by omega) (by omega)
theorem or_u64 {a b : Int} (ha : (Lit.int .u64 a).wf = true) (hb : (Lit.int .u64 b).wf = true) : Go.bits .or .u64 a b = ((a.toNat ||| b.toNat : Nat) : Int) ∧ (Lit.int .u64 (Go.bits .or .u64 a b)).wf = true := by
  obtain ⟨h1, h2⟩ := wf_u64 ha
  obtain ⟨h3, h4⟩ := wf_u64 hb
  have e := u64_or a b h1 h2 h3 h4
  refine ⟨e, ?_⟩
  rw [e]
  have : a.toNat ||| b.toNat < 2 ^ 64 := Nat.or_lt_two_pow (by omega) (by omega)
  exact wf_of_u64 (by omega) (by omega)
theorem within_refl (a : Int) (ha : (Lit.int .u64 a).wf = true) : withinS a a = true := (within_bits ha ha).2 fun _ h => h
theorem within_trans {a b c : Int} (ha : (Lit.int .u64 a).wf = true) (hb : (Lit.int .u64 b).wf = true) (hc : (Lit.int .u64 c).wf = true) (h1 : withinS a b = true) (h2 : withinS b c = true) : withinS a c = true :=
  (within_bits ha hc).2 fun i hi => (within_bits hb hc).1 h2 i ((within_bits ha hb).1 h1 i hi)
theorem within_and_left {a b c : Int} (ha : (Lit.int .u64 a).wf = true) (hb : (Lit.int .u64 b).wf = true) (hc : (Lit.int .u64 c).wf = true) (h1 : withinS a c = true) : withinS (Go.bits .and .u64 a b) c = true := by
  obtain ⟨e, hw⟩ := and_u64 ha hb
  refine (within_bits hw hc).2 fun i hi => (within_bits ha hc).1 h1 i ?_
  rw [e] at hi
  simp only [Int.toNat_natCast, Nat.testBit_and, Bool.and_eq_true] at hi
  exact hi.1
theorem within_or_left {a b c : Int} (ha : (Lit.int .u64 a).wf = true) (hb : (Lit.int .u64 b).wf = true) (hc : (Lit.int .u64 c).wf = true) (h1 : withinS c a = true) : withinS c (Go.bits .or .u64 a b) = true := by
  obtain ⟨e, hw⟩ := or_u64 ha hb
  refine (within_bits hc hw).2 fun i hi => ?_
  rw [e]
  simp only [Int.toNat_natCast, Nat.testBit_or, Bool.or_eq_true]
  exact Or.inl ((within_bits hc ha).1 h1 i hi)
theorem below_trans {al ac bl bc cl cc : Int} (ha : (Lit.int .u64 ac).wf = true) (hb : (Lit.int .u64 bc).wf = true) (hc : (Lit.int .u64 cc).wf = true) (h1 : belowS al ac bl bc = true) (h2 : belowS bl bc cl cc = true) : belowS al ac cl cc = true := by
  unfold belowS at *
  simp only [Bool.and_eq_true, decide_eq_true_eq] at *
  exact ⟨by omega, within_trans ha hb hc h1.2 h2.2⟩
theorem below_meet {al ac bl bc cl cc : Int} (ha : (Lit.int .u64 ac).wf = true) (hb : (Lit.int .u64 bc).wf = true) (hc : (Lit.int .u64 cc).wf = true) (h1 : belowS al ac cl cc = true) : belowS (mn al bl) (Go.bits .and .u64 ac bc) cl cc = true := by
  unfold belowS at *
  simp only [Bool.and_eq_true, decide_eq_true_eq] at *
  exact ⟨by unfold mn; split <;> omega, within_and_left ha hb hc h1.2⟩
theorem below_join {al ac bl bc cl cc : Int} (ha : (Lit.int .u64 ac).wf = true) (hb : (Lit.int .u64 bc).wf = true) (hc : (Lit.int .u64 cc).wf = true) (h1 : belowS cl cc al ac = true) : belowS cl cc (mx al bl) (Go.bits .or .u64 ac bc) = true := by
  unfold belowS at *
  simp only [Bool.and_eq_true, decide_eq_true_eq] at *
  exact ⟨by unfold mx; split <;> omega, within_or_left ha hb hc h1.2⟩
end Go.Proofs.Ytlchgkoafabapaa.X
/- The pure statement of the law RightBound: over numbers and lists alone. -/
set_option linter.unusedVariables false
set_option linter.unusedSimpArgs false
namespace Go.Proofs.Ytlchgkoafabapaa.Pure
open Go.RowKit Go.Proofs.Ytlchgkoafabapaa.X Go.Proofs.YtlchgkoafabapaaW.PrintWords Go.Proofs.YtlchgkoafabapaaW.PrintLast Go.Proofs.YtlchgkoafabapaaW.PrintMore
theorem once_any (u : ByteArray) : ∀ (l : List Gr) (acc : List ByteArray), (onceS acc l).any (eqT u) = (acc.any (eqT u) || l.any fun g => eqT u g.f0)
  | [], acc => by simp [onceS]
  | g :: r, acc => by
    simp only [onceS, List.any_cons]
    by_cases h : acc.any (eqT g.f0) = true
    · rw [if_pos h, once_any u r acc]
      cases h2 : eqT u g.f0 with
      | false => simp
      | true =>
        have : acc.any (eqT u) = true := by
          rw [eqT_iff] at h2
          rw [← h]; congr 1; funext z; unfold eqT; rw [h2]
        rw [this]; simp
    · rw [if_neg h, once_any u r]
      simp [Bool.or_assoc]
theorem held_l0 (xs : List Gr) (u : ByteArray) (ys : List ByteArray) (hy : ys.length ≤ 9223372036854775807) (a0 a1 : Int) {r : Bool}
    (ht : Ev (fun k => (right_Leaks.f k xs a0 a1).bind fun t => if t = true then ((oculuslaw06_alive.f k).bind fun t => some t) else none) r) : ∀ (d i : Nat) (b : Bool), i + d = ys.length → (b || (ys.drop i).any (eqT u)) = true →
    Ev (fun k => oculuslaw06_RightBound.l0 k xs u b ys (ys.length : Int) (i : Int) a0 a1) r := by
  intro d
  induction d with
  | zero =>
    intro i b hi hb
    rw [List.drop_eq_nil_of_le (by omega)] at hb
    simp only [List.any_nil, Bool.or_false] at hb
    refine Ev.step (fun k => by simp only [oculuslaw06_RightBound.l0]; rw [if_neg (by omega), if_pos hb]) ht
  | succ d ih =>
    intro i b hi hb
    have hlt : i < ys.length := by omega
    have hw := w64s hlt hy
    rw [List.drop_eq_getElem_cons hlt, List.any_cons] at hb
    cases b with
    | true =>
      refine Ev.step (f := fun k => oculuslaw06_RightBound.l0 k xs u true ys (ys.length : Int) ((i + 1 : Nat) : Int) a0 a1) (fun k => ?_) (ih (i + 1) true (by omega) rfl)
      simp only [oculuslaw06_RightBound.l0]
      rw [if_pos (by omega), if_pos (by omega), if_pos (by omega), if_pos (by trivial), hw]
    | false =>
      refine Ev.step (f := fun k => oculuslaw06_RightBound.l0 k xs u (ys[i].toList == u.toList) ys (ys.length : Int) ((i + 1 : Nat) : Int) a0 a1) (fun k => ?_) (ih (i + 1) _ (by omega) ?_)
      · simp only [oculuslaw06_RightBound.l0]
        rw [if_pos (by omega), if_pos (by omega), if_pos (by omega), if_neg (by simp), hw, rdB ys i hlt]
      · rw [show (ys[i].toList == u.toList) = eqT u ys[i] by rw [eqT_symm]; unfold eqT; rw [Bool.eq_iff_iff]; simp]
        simpa using hb
theorem RightBound : oculuslaw06_RightBound.PureX := by
  intro xs u q ⟨hxs, hxl⟩ hu hq
  have e : reachBytes = 140737488351232 := by decide
  rw [e] at hxl
  obtain ⟨⟨hf0, hf1⟩, ⟨ht0, ht1⟩, ⟨ha0, ha1⟩⟩ := hq
  apply Ev.rounds
  unfold oculuslaw06_RightBound.f
  refine ev_ite (fun h => ev_bind alive06_ev (Ev.now _)) (fun h => ?_)
  refine ev_bind (lowers_ev xs (by omega) u _ _ _ _) ?_
  refine ev_ite (fun h1 => ?_) (fun h1 => ev_bind alive06_ev (Ev.now _))
  obtain ⟨g, hg, hlow⟩ := List.any_eq_true.1 h1
  have hgf := (hxs g hg).2.1.2
  have hgt := (hxs g hg).2.2.2
  unfold lowS at hlow
  simp only [Bool.and_eq_true, decide_eq_true_eq] at hlow
  obtain ⟨hlu, hlf, hlt⟩ := hlow
  refine ev_bsome (x := (mn q.f0.f0 q.f2.f0, Go.bits .and .u64 q.f0.f1 q.f2.f1)) ?_
  refine ev_bsome (x := (mx q.f1.f0 q.f2.f0, Go.bits .or .u64 q.f1.f1 q.f2.f1)) ?_
  refine ev_bind (lowers_ev xs (by omega) u _ _ _ _) ?_
  refine ev_pos ?_ ?_
  · refine List.any_eq_true.2 ⟨g, hg, ?_⟩
    unfold lowS
    simp only [Bool.and_eq_true, decide_eq_true_eq]
    exact ⟨hlu, below_meet hf1 ha1 hgf hlf, below_join ht1 ha1 hgt hlt⟩
  rw [below_eq, below_eq]
  have hj : ∀ b, (b = false → belowS q.f1.f0 q.f1.f1 q.f2.f0 q.f2.f1 = true ∧ belowS q.f0.f0 q.f0.f1 q.f2.f0 q.f2.f1 = false) → Ev (fun k => oculuslaw06_RightBound.j0 k xs u b q.f2.f0 q.f2.f1) true := by
    intro b hb
    refine Ev.step (fun k => by simp only [oculuslaw06_RightBound.j0]; rfl) ?_
    refine ev_ite (fun h2 => ev_bind alive06_ev (Ev.now _)) (fun h2 => ?_)
    obtain ⟨hb1, hb2⟩ := hb (by simpa using h2)
    have hleak : leakS q.f2.f0 q.f2.f1 g = true := by
      unfold leakS
      rw [below_trans hgt ht1 ha1 hlt hb1]
      cases h3 : belowS g.f1.f0 g.f1.f1 q.f2.f0 q.f2.f1 with
      | false => rfl
      | true => rw [below_trans hf1 hgf ha1 hlf h3] at hb2; cases hb2
    have hlen := onceS_length (xs.filter (leakS q.f2.f0 q.f2.f1)) []
    have hlen2 : (xs.filter (leakS q.f2.f0 q.f2.f1)).length ≤ xs.length := List.length_filter_le _ _
    refine ev_bind (holders_ev xs (by omega) _ _) ?_
    refine held_l0 xs u _ (by simp at hlen; omega) _ _ ?_ _ 0 false (Nat.zero_add _) ?_
    · refine ev_bind (leaks_ev xs (by omega) _ _) ?_
      exact ev_pos (List.any_eq_true.2 ⟨g, hg, hleak⟩) (ev_bind alive06_ev (Ev.now _))
    · rw [List.drop_zero, once_any]
      simp only [List.any_nil, Bool.false_or]
      refine List.any_eq_true.2 ⟨g, List.mem_filter.2 ⟨hg, hleak⟩, ?_⟩
      rw [eqT_iff]
      exact hlu.symm
  refine ev_bsome (x := belowS q.f1.f0 q.f1.f1 q.f2.f0 q.f2.f1) (f := fun k t => if t = true then ((some (belowS q.f0.f0 q.f0.f1 q.f2.f0 q.f2.f1)).bind fun t2 => oculuslaw06_RightBound.j0 k xs u t2 q.f2.f0 q.f2.f1) else oculuslaw06_RightBound.j0 k xs u true q.f2.f0 q.f2.f1) ?_
  refine ev_ite (fun h2 => ?_) (fun h2 => hj true (by simp))
  exact hj _ (fun h3 => ⟨h2, h3⟩)
end Go.Proofs.Ytlchgkoafabapaa.Pure
/- The row of the law RightBound: for every input the call returns true and each argument reads afterwards as before, out of its pure statement and the contract of its function. Conditions: none beyond the given statement. -/
namespace Go.Proofs.Ytlchgkoafabapaa.rightBound
open Go.ChangeShapes Go.WideShapes Go.ChangeAt Go.RowKit
open Go.ChangeMaps (open_string shut_string)
open Go.Proofs.Ytlchgkoafabapaa.Opn Go.Proofs.Ytlchgkoafabapaa.X
open Go.Proofs.YtlchgkoafabapaaW.PrintWords (Kd Drawn0)
set_option linter.unusedVariables false
theorem own : ownKnob Try.prog.godebug = none := by kernel_rfl
theorem laidOut : laidOutB Try.prog = true := by kernel_rfl
set_option maxRecDepth 100000 in
set_option maxHeartbeats 1000000 in
theorem lifted (os : Os) (started : os.Started) (H : Type) (enc : TypeId × Value → H) :
    ReturnsInHanded {} Try.checked os 10 .any (Rows.rightBoundSpec.pre6 enc Try.prog Try.f10 Rows.rightBoundRow.domain false) (Rows.rightBoundSpec.post enc Try.prog Try.f10 false true false false) := by
  refine returnsInHanded_of_change_sized (C := Try.checked) own started (by kernel_rfl) Try.func10
    (ChangeSpec.witness6 (enc := enc) (C := Try.checked) false ⟨#[], #[.slice none 0 0, .string ByteArray.empty, .agg #[.int .i64 0, .int .u64 0, .int .i64 0, .int .u64 0, .int .i64 0, .int .u64 0]], []⟩ 8 (by kernel_rfl) (by kernel_rfl) (by kernel_rfl) (by kernel_rfl)) ?_
  intro W base args ds gs before hval0 hW hcnd hsz0 _
  have hsz : (DataW.weightsEach Try.prog (Try.f10.params.toList ++ Rows.rightBoundSpec.plain.varTypes Try.prog) (ds ++ gs)).all (· ≤ reachBytes) = true := hsz0
  have hval : ∀ (j : Nat) t v, Try.f10.params[j]? = some t → args[j]? = some v → Value.okWide Try.prog W .any base t v := hval0
  have hW' := hW
  obtain ⟨p, q, hA0, hV, rfl, hfz, hnd⟩ := hW
  have hA : DataW.TrodAll enc Try.prog W 0 (fun _ => true) true Try.f10.params.toList args.toList ds p := hA0
  rw [Try.params10] at hA hval hsz
  obtain ⟨v0, vs0, d0, ds0, p0, q0, hargs, rfl, rfl, h0, r0⟩ := trodAll_cons hA
  obtain ⟨v1, vs1, d1, ds1, p1, q1, rfl, rfl, rfl, h1, r1⟩ := trodAll_cons r0
  obtain ⟨v2, vs2, d2, ds2, p2, q2, rfl, rfl, rfl, h2, r2⟩ := trodAll_cons r1
  obtain ⟨rfl, rfl, rfl⟩ := trodAll_nil r2
  obtain rfl : args = #[v0, v1, v2] := by cases args; simp_all
  obtain ⟨rfl, rfl⟩ := trodVars_none hV
  have lt0 : ∀ x ∈ p0, x.block < W.heap.size := by obtain ⟨m, hm⟩ := h0; exact DataW.trod_lt m _ _ _ hm
  have hw0 : ∀ m ∈ d0.weights Try.prog 30, m ≤ reachBytes := fun m hm => of_decide_eq_true (List.all_eq_true.1 hsz m (DataW.weights_mem_each (j := 0) (t := 30) rfl rfl m hm))
  obtain ⟨a0, K0, g0⟩ : ∃ a, ((Kd.slice 49 k49) : Kd (List S49)).K W a v0.cells.toList ∧ ((∀ y ∈ a, good49 y) ∧ a.length * 48 ≤ reachBytes) := by
    obtain ⟨fuel, hf⟩ := h0
    exact (opens_slice Try.underlying30 (by kernel_rfl) (B := 48) (by kernel_rfl) z49 opens49) hf hw0
  obtain ⟨A0, n0, c0, rfl⟩ := okWide_slice Try.underlying30 (hval 0 30 v0 rfl rfl)
  obtain ⟨A0', c0', e0, hc0, C0⟩ := K0
  simp [Value.cells] at e0
  obtain ⟨rfl, rfl, rfl⟩ := e0
  have lt1 : ∀ x ∈ p1, x.block < W.heap.size := by obtain ⟨m, hm⟩ := h1; exact DataW.trod_lt m _ _ _ hm
  have hw1 : ∀ m ∈ d1.weights Try.prog 9, m ≤ reachBytes := fun m hm => of_decide_eq_true (List.all_eq_true.1 hsz m (DataW.weights_mem_each (j := 1) (t := 9) rfl rfl m hm))
  obtain ⟨a1, K1, g1⟩ : ∃ a, (Kd.string : Kd ByteArray).K W a v1.cells.toList ∧ (a.size ≤ reachBytes) := by
    obtain ⟨fuel, hf⟩ := h1
    exact (opens_string Try.underlying9) hf hw1
  obtain rfl : v1 = .string a1 := by
    obtain ⟨x, rfl, _⟩ := open_string Try.underlying9 (hval 1 9 v1 rfl rfl) h1
    have := K1
    simpa [Kd.string, Kd.scalar, Value.cells] using this
  have lt2 : ∀ x ∈ p2, x.block < W.heap.size := by obtain ⟨m, hm⟩ := h2; exact DataW.trod_lt m _ _ _ hm
  have hw2 : ∀ m ∈ d2.weights Try.prog 78, m ≤ reachBytes := fun m hm => of_decide_eq_true (List.all_eq_true.1 hsz m (DataW.weights_mem_each (j := 2) (t := 78) rfl rfl m hm))
  obtain ⟨a2, K2, g2⟩ : ∃ a, (k78 : Kd S78).K W a v2.cells.toList ∧ (good78 a) := by
    obtain ⟨fuel, hf⟩ := h2
    exact opens78 hf hw2
  obtain ⟨cs2, rfl, _⟩ := okWide_array Try.underlying78 (hval 2 78 v2 rfl rfl)
  have KO2 := k78_open K2
  obtain rfl : cs2 = #[.int .i64 a2.f0.f0, .int .u64 a2.f0.f1, .int .i64 a2.f1.f0, .int .u64 a2.f1.f1, .int .i64 a2.f2.f0, .int .u64 a2.f2.f1] := by
    have : cs2.toList = _ := KO2
    cases cs2; simp_all
  obtain ⟨k, hk⟩ := Pure.RightBound a0 a1 a2 g0 g1 g2
  clear hA0 hval0 hsz0 hsz
  refine (oculuslaw06_RightBound.calls k A0 c0 a0 a1 (a2.f0.f0) (a2.f0.f1) (a2.f1.f0) (a2.f1.f1) (a2.f2.f0) (a2.f2.f1) true W C0 hc0 hk).mono fun e W' ⟨he, bel0⟩ => ?_
  have bel : Below W.heap.size W W' := bel0
  subst he
  exact ⟨_, rfl, _, _, _, [], _, [], hW', trodAll_mk1 (shut_bool Try.underlying4 _), (trodAll_cons_mk (Below.trod laidOut (by kernel_rfl) (of_decide_eq_true (by kernel_rfl)) h0 bel lt0) (trodAll_cons_mk (Below.trod laidOut (by kernel_rfl) (of_decide_eq_true (by kernel_rfl)) h1 bel lt1) (trodAll_cons_mk (Below.trod laidOut (by kernel_rfl) (of_decide_eq_true (by kernel_rfl)) h2 bel lt2) trodAll_mk0))), rfl, bel.frame _, fun h => by cases h⟩
theorem over : Rows.rightBoundRow.holds Try.pinned (OpenSpec.ofChange Rows.rightBoundSpec) :=
  OpenClaim.holds_of_wide 10 Try.f10 rfl rfl rfl rfl rfl rfl rfl ⟨rfl, rfl, rfl, rfl, rfl⟩ rfl rfl rfl rfl rfl (by kernel_rfl) Try.func10 (by kernel_rfl)
    (of_decide_eq_true (by kernel_rfl)) (by unfold Func.isWrapper; first | (rw [if_pos (by decide +kernel)]; kernel_rfl) | (rw [if_neg (by decide +kernel)]; exact ⟨rfl, rfl⟩))
    (fun os started H enc _ => lifted os started H enc)
theorem proved : Rows.RightBoundSaid := over
end Go.Proofs.Ytlchgkoafabapaa.rightBound
namespace Go.Proofs.Ytlchgkoafabapaa
/-- The row, under a short name, for the claim. -/
theorem rightBound_holds : Rows.RightBoundSaid := rightBound.proved
#print axioms rightBound_holds
end Go.Proofs.Ytlchgkoafabapaa
