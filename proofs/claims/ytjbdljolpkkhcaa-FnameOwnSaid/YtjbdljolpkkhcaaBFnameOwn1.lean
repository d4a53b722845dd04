/- The law FnameOwn: for every input the call returns true, and each argument reads afterwards as it read before: the statement Rows.FnameOwnSaid, whole, with no condition of ours. -/
import Derived.Laws.BitsAllLaws
import Derived.Lib.Strings
import Derived.Lib.IndexBytes
import Derived.Test.YtjbdljolpkkhcaaRows
import Derived.WalkKit
import Derived.ProofKit
import Derived.OpenShut
import Derived.ShutString
import Derived.ChangeOld
import Derived.Below
import Derived.SizedLaws
import Derived.Carry
import Derived.Test.YtjbdljolpkkhcaaBFnameOwn0
/- Plain facts on whole numbers, bits and lists that the pure statements use. -/
set_option linter.unusedVariables false
set_option linter.unusedSimpArgs false
namespace Go.Proofs.Ytjbdljolpkkhcaa.X
open Go.RowKit Go.Proofs.YtjbdljolpkkhcaaW.PrintWords Go.Proofs.YtjbdljolpkkhcaaW.PrintLast Go.Proofs.YtjbdljolpkkhcaaW.PrintMore

theorem wf_i64 {x : Int} (h : (Lit.int .i64 x).wf = true) : -9223372036854775808 ≤ x ∧ x ≤ 9223372036854775807 := by
  simp only [Lit.wf, IntKind.min, IntKind.max, IntKind.signed, IntKind.bits, Bool.and_eq_true, decide_eq_true_eq, if_true] at h
  omega
theorem wf_u64 {x : Int} (h : (Lit.int .u64 x).wf = true) : 0 ≤ x ∧ x < 18446744073709551616 := by
  simp [Lit.wf, IntKind.min, IntKind.max, IntKind.signed, IntKind.bits] at h
  omega
theorem wf_nat {x : Int} (h : (Lit.int .u64 x).wf = true) : ∃ n : Nat, x = (n : Int) ∧ n < 18446744073709551616 := by
  obtain ⟨h1, h2⟩ := wf_u64 h
  exact ⟨x.toNat, by omega, by omega⟩
theorem w64 {x : Int} (h0 : -9223372036854775808 ≤ x) (h1 : x ≤ 9223372036854775807) : wrap64 x = x := by unfold wrap64; omega
theorem w64s {i n : Nat} (h : i < n) (hn : n ≤ 9223372036854775807) : wrap64 ((i : Int) + 1) = ((i + 1 : Nat) : Int) := by unfold wrap64; omega

/-! Ev: with enough rounds. -/
theorem ev_now {α : Type} (r : α) : Ev (fun _ : Nat => some r) r := Ev.now r
theorem ev_some {α : Type} {g : Nat → Option α} {r : α} (h : ∀ k, g k = some r) : Ev g r := ⟨0, fun k _ => h k⟩
theorem ev_ite {α : Type} {c : Prop} [Decidable c] {f g : Nat → Option α} {r : α} (h1 : c → Ev f r) (h2 : ¬ c → Ev g r) : Ev (fun k => if c then f k else g k) r := by
  by_cases h : c
  · simp only [if_pos h]; exact h1 h
  · simp only [if_neg h]; exact h2 h
theorem ev_pos {α : Type} {c : Prop} [Decidable c] {f g : Nat → Option α} {r : α} (h : c) (h1 : Ev f r) : Ev (fun k => if c then f k else g k) r := by simp only [if_pos h]; exact h1
theorem ev_neg {α : Type} {c : Prop} [Decidable c] {f g : Nat → Option α} {r : α} (h : ¬ c) (h1 : Ev g r) : Ev (fun k => if c then f k else g k) r := by simp only [if_neg h]; exact h1
theorem ev_bind {α β : Type} {g : Nat → Option α} {f : Nat → α → Option β} {a : α} {r : β} (h : Ev g a) (k : Ev (fun n => f n a) r) : Ev (fun n => (g n).bind (f n)) r := Ev.bind h k
theorem ev_bsome {α β : Type} {x : α} {f : Nat → α → Option β} {r : β} (k : Ev (fun n => f n x) r) : Ev (fun n => (some x).bind (f n)) r := k

/-! Bits. -/
theorem mod_pow_succ (x i : Nat) : x % 2 ^ (i + 1) = x % 2 ^ i + 2 ^ i * (x.testBit i).toNat := by
  rw [Nat.pow_succ, Nat.mod_mul, Nat.testBit_eq_decide_div_mod_eq]
  have := Nat.mod_two_eq_zero_or_one (x / 2 ^ i)
  rcases this with h | h <;> simp [h]
theorem and_compl (a b : Nat) (ha : a < 2 ^ 64) (hb : b < 2 ^ 64) : (a &&& (18446744073709551615 - b) = 0) ↔ (a &&& b = a) := by
  have e : 18446744073709551615 - b = 2 ^ 64 - (b + 1) := by omega
  rw [e]
  constructor
  · intro h
    apply Nat.eq_of_testBit_eq
    intro i
    have := congrArg (fun n => Nat.testBit n i) h
    simp only [Nat.testBit_and, Nat.testBit_two_pow_sub_succ hb, Nat.zero_testBit] at this
    rw [Nat.testBit_and]
    by_cases hi : i < 64
    · simp [hi] at this
      cases h1 : a.testBit i <;> simp_all
    · have : a.testBit i = false := Nat.testBit_lt_two_pow (Nat.lt_of_lt_of_le ha (Nat.pow_le_pow_right (by omega) (by omega)))
      simp [this]
  · intro h
    apply Nat.eq_of_testBit_eq
    intro i
    have := congrArg (fun n => Nat.testBit n i) h
    simp only [Nat.testBit_and] at this
    rw [Nat.testBit_and, Nat.testBit_two_pow_sub_succ hb, Nat.zero_testBit]
    cases h1 : a.testBit i <;> simp_all
theorem within_iff (a b : Nat) (ha : a < 18446744073709551616) (hb : b < 18446744073709551616) : (Go.bits .andNot .u64 (a : Int) (b : Int) == 0) = decide (a &&& b = a) := by
  rw [u64_andNot _ _ (by omega) (by omega) (by omega) (by omega)]
  rw [Bool.eq_iff_iff]
  simp only [Int.toNat_natCast, beq_iff_eq, decide_eq_true_eq]
  rw [← and_compl a b ha hb]
  omega
end Go.Proofs.Ytjbdljolpkkhcaa.X
/- Plain facts on texts as lists of bytes. -/
set_option linter.unusedVariables false
set_option linter.unusedSimpArgs false
namespace Go.Proofs.Ytjbdljolpkkhcaa.X
open Go.RowKit Go.Proofs.YtjbdljolpkkhcaaW.PrintWords Go.Proofs.YtjbdljolpkkhcaaW.PrintLast Go.Proofs.YtjbdljolpkkhcaaW.PrintMore
/-- A text's bytes; the text of bytes. -/
def by_ (s : ByteArray) : List UInt8 := s.data.toList
def tx (l : List UInt8) : ByteArray := ⟨l.toArray⟩
theorem by_tx (l : List UInt8) : by_ (tx l) = l := by simp [by_, tx]
theorem tx_by (s : ByteArray) : tx (by_ s) = s := by
  obtain ⟨⟨l⟩⟩ := s
  rfl
theorem by_inj {s t : ByteArray} (h : by_ s = by_ t) : s = t := by rw [← tx_by s, ← tx_by t, h]
theorem toList_by (s : ByteArray) : s.toList = by_ s := ByteArray.toList_eq s
theorem size_by (s : ByteArray) : s.size = (by_ s).length := by
  obtain ⟨⟨l⟩⟩ := s
  rfl
theorem size_tx (l : List UInt8) : (tx l).size = l.length := by rw [size_by, by_tx]
theorem toList_inj {s t : ByteArray} : s.toList = t.toList ↔ s = t := by
  rw [toList_by, toList_by]
  exact ⟨by_inj, fun h => by rw [h]⟩
theorem by_extract (s : ByteArray) (a b : Nat) : by_ (s.extract a b) = ((by_ s).drop a).take (b - a) := Go.Lib.extract_data s a b
theorem by_head (s : ByteArray) (b : Nat) : by_ (s.extract 0 b) = (by_ s).take b := by rw [by_extract]; simp
theorem by_tail (s : ByteArray) (a : Nat) : by_ (s.extract a s.size) = (by_ s).drop a := by
  rw [by_extract, List.take_of_length_le]
  rw [List.length_drop, size_by]
  exact Nat.le_refl _
theorem ext_head (s : ByteArray) (b : Nat) : s.extract 0 b = tx ((by_ s).take b) := by_inj (by rw [by_head, by_tx])
theorem ext_tail (s : ByteArray) (a : Nat) : s.extract a s.size = tx ((by_ s).drop a) := by_inj (by rw [by_tail, by_tx])
theorem ext_mid (s : ByteArray) (a b : Nat) : s.extract a b = tx (((by_ s).drop a).take (b - a)) := by_inj (by rw [by_extract, by_tx])
theorem by_append (s t : ByteArray) : by_ (s ++ t) = by_ s ++ by_ t := by
  obtain ⟨⟨l⟩⟩ := s
  obtain ⟨⟨m⟩⟩ := t
  simp [by_, ByteArray.data_append]
theorem tx_append (l m : List UInt8) : tx l ++ tx m = tx (l ++ m) := by_inj (by rw [by_append, by_tx, by_tx, by_tx])
theorem bt_by (s : ByteArray) (i : Nat) (h : i < (by_ s).length) : bt s (i : Int) = ((by_ s)[i].toNat : Int) := by
  obtain ⟨⟨l⟩⟩ := s
  have h' : (i : Int).toNat < (⟨⟨l⟩⟩ : ByteArray).size := by rw [Int.toNat_natCast]; exact h
  unfold bt
  rw [dif_pos h']
  simp only [Int.toNat_natCast]
  rfl
theorem bt_tx (l : List UInt8) (i : Nat) (h : i < l.length) : bt (tx l) (i : Int) = (l[i].toNat : Int) := by
  rw [bt_by (tx l) i (by rw [by_tx]; exact h)]
  simp only [by_tx]
theorem bt_tx0 (c : UInt8) (l : List UInt8) : bt (tx (c :: l)) 0 = (c.toNat : Int) := bt_tx (c :: l) 0 (by simp)
theorem u8_lt (c : UInt8) : c.toNat < 256 := c.toNat_lt
theorem u8_inj {a b : UInt8} (h : a.toNat = b.toNat) : a = b := UInt8.toNat_inj.1 h
end Go.Proofs.Ytjbdljolpkkhcaa.X
/- What strings.Cut at one byte answers. -/
set_option linter.unusedVariables false
set_option linter.unusedSimpArgs false
namespace Go.Proofs.Ytjbdljolpkkhcaa.X
open Go.RowKit Go.Proofs.YtjbdljolpkkhcaaW.PrintWords Go.Proofs.YtjbdljolpkkhcaaW.PrintLast Go.Proofs.YtjbdljolpkkhcaaW.PrintMore
/-- Cut at the first c. -/
def cutL (c : UInt8) : List UInt8 → List UInt8 × List UInt8 × Bool
  | [] => ([], [], false)
  | b :: l => if b = c then ([], l, true) else (b :: (cutL c l).1, (cutL c l).2.1, (cutL c l).2.2)
theorem index_cut (c : UInt8) : ∀ l : List UInt8, (Lib.indexByte l c = -1 ∧ (cutL c l).1 = l ∧ (cutL c l).2.1 = [] ∧ (cutL c l).2.2 = false) ∨
    ∃ n : Nat, Lib.indexByte l c = (n : Int) ∧ n < l.length ∧ (cutL c l).1 = l.take n ∧ (cutL c l).2.1 = l.drop (n + 1) ∧ (cutL c l).2.2 = true
  | [] => Or.inl ⟨rfl, rfl, rfl, rfl⟩
  | b :: l => by
    by_cases h : b = c
    · refine Or.inr ⟨0, ?_, by simp, ?_, ?_, ?_⟩
      · simp [Lib.indexByte, h]
      · simp [cutL, h]
      · simp [cutL, h]
      · simp [cutL, h]
    · rcases index_cut c l with ⟨h1, h2, h3, h4⟩ | ⟨n, h1, h2, h3, h4, h5⟩
      · left
        refine ⟨?_, ?_, ?_, ?_⟩
        · simp [Lib.indexByte, h, h1]
        · simp [cutL, h, h2]
        · simp [cutL, h, h3]
        · simp [cutL, h, h4]
      · right
        refine ⟨n + 1, ?_, by simp; omega, ?_, ?_, ?_⟩
        · simp only [Lib.indexByte, beq_eq_false_iff_ne.2 h, h1]
          rw [if_neg (by simp), if_neg (by first | (simp; done) | (simp; omega))]
          omega
        · simp [cutL, h, h3]
        · simp [cutL, h, h4]
        · simp [cutL, h, h5]
theorem cut_eq (s : ByteArray) (c : UInt8) (hs : s.size ≤ 4611686018427387904) : strings_Cut.f s (tx [c]) = some (tx (cutL c (by_ s)).1, tx (cutL c (by_ s)).2.1, (cutL c (by_ s)).2.2) := by
  unfold strings_Cut.f stringslite_Cut.f stringslite_Index.f
  have h1 : (tx [c]).size = 1 := by rw [size_tx]; rfl
  have h2 : (tx [c])[0]'(by rw [h1]; decide) = c := rfl
  rw [dif_pos h1, h2]
  simp only [Option.bind_some]
  rcases index_cut c (by_ s) with ⟨g1, g2, g3, g4⟩ | ⟨n, g1, g2, g3, g4, g5⟩
  · rw [show Lib.indexByte s.data.toList c = -1 from g1, if_neg (by decide), g2, g3, g4, tx_by]
    rfl
  · have hl := size_by s
    rw [show Lib.indexByte s.data.toList c = (n : Int) from g1, if_pos (by omega), if_pos (by omega), if_pos (by omega), h1]
    have hw : wrap64 ((n : Int) + ((1 : Nat) : Int)) = ((n + 1 : Nat) : Int) := by unfold wrap64; omega
    rw [hw, if_pos (by omega), if_pos (by omega), g3, g4, g5]
    simp only [Option.bind_some, Int.toNat_natCast, ext_head, ext_tail]
theorem cutL_length (c : UInt8) (l : List UInt8) : (cutL c l).1.length ≤ l.length ∧ (cutL c l).2.1.length ≤ l.length := by
  rcases index_cut c l with ⟨g1, g2, g3, g4⟩ | ⟨n, g1, g2, g3, g4, g5⟩
  · rw [g2, g3]; simp
  · rw [g3, g4]; simp; omega
end Go.Proofs.Ytjbdljolpkkhcaa.X
namespace Go.Proofs.Ytjbdljolpkkhcaa.X
open Go.RowKit Go.Proofs.YtjbdljolpkkhcaaW.PrintWords Go.Proofs.YtjbdljolpkkhcaaW.PrintLast Go.Proofs.YtjbdljolpkkhcaaW.PrintMore
attribute [local go_sem] max2_int min2_int max_two min_two max_three min_three max_four min_four   -- for this text's walks alone
set_option linter.unusedVariables false
set_option linter.unusedSimpArgs false

/-! ### oculusref19_Names: function 43 -/
def oculusref19_Names.f  : Option (List ByteArray) := some (([(⟨#[65, 66, 83]⟩ : ByteArray), (⟨#[65, 78, 68]⟩ : ByteArray), (⟨#[65, 86, 69, 82, 65, 71, 69]⟩ : ByteArray), (⟨#[65, 86, 69, 82, 65, 71, 69, 73, 70]⟩ : ByteArray), (⟨#[67, 69, 73, 76, 73, 78, 71]⟩ : ByteArray), (⟨#[67, 72, 65, 82]⟩ : ByteArray), (⟨#[67, 72, 79, 79, 83, 69]⟩ : ByteArray), (⟨#[67, 79, 68, 69]⟩ : ByteArray), (⟨#[67, 79, 76, 85, 77, 78]⟩ : ByteArray), (⟨#[67, 79, 76, 85, 77, 78, 83]⟩ : ByteArray), (⟨#[67, 79, 77, 66, 73, 78]⟩ : ByteArray), (⟨#[67, 79, 78, 67, 65, 84]⟩ : ByteArray), (⟨#[67, 79, 85, 78, 84]⟩ : ByteArray), (⟨#[67, 79, 85, 78, 84, 65]⟩ : ByteArray), (⟨#[67, 79, 85, 78, 84, 66, 76, 65, 78, 75]⟩ : ByteArray), (⟨#[67, 79, 85, 78, 84, 73, 70]⟩ : ByteArray), (⟨#[68, 69, 67, 76, 65, 83, 83]⟩ : ByteArray), (⟨#[69, 86, 69, 78]⟩ : ByteArray), (⟨#[69, 88, 65, 67, 84]⟩ : ByteArray), (⟨#[70, 65, 67, 84]⟩ : ByteArray), (⟨#[70, 73, 78, 68]⟩ : ByteArray), (⟨#[70, 76, 79, 79, 82]⟩ : ByteArray), (⟨#[71, 67, 68]⟩ : ByteArray), (⟨#[72, 76, 79, 79, 75, 85, 80]⟩ : ByteArray), (⟨#[73, 70]⟩ : ByteArray), (⟨#[73, 70, 69, 82, 82, 79, 82]⟩ : ByteArray), (⟨#[73, 78, 68, 69, 88]⟩ : ByteArray), (⟨#[73, 78, 84]⟩ : ByteArray), (⟨#[73, 83, 66, 76, 65, 78, 75]⟩ : ByteArray), (⟨#[73, 83, 69, 82, 82, 79, 82]⟩ : ByteArray), (⟨#[73, 83, 76, 79, 71, 73, 67, 65, 76]⟩ : ByteArray), (⟨#[73, 83, 78, 85, 77, 66, 69, 82]⟩ : ByteArray), (⟨#[73, 83, 84, 69, 88, 84]⟩ : ByteArray), (⟨#[76, 65, 82, 71, 69]⟩ : ByteArray), (⟨#[76, 67, 77]⟩ : ByteArray), (⟨#[76, 69, 70, 84]⟩ : ByteArray), (⟨#[76, 69, 78]⟩ : ByteArray), (⟨#[76, 79, 87, 69, 82]⟩ : ByteArray), (⟨#[77, 65, 84, 67, 72]⟩ : ByteArray), (⟨#[77, 65, 88]⟩ : ByteArray), (⟨#[77, 69, 68, 73, 65, 78]⟩ : ByteArray), (⟨#[77, 73, 68]⟩ : ByteArray), (⟨#[77, 73, 78]⟩ : ByteArray), (⟨#[77, 79, 68]⟩ : ByteArray), (⟨#[77, 79, 68, 69]⟩ : ByteArray), (⟨#[78, 65]⟩ : ByteArray), (⟨#[78, 79, 84]⟩ : ByteArray), (⟨#[79, 68, 68]⟩ : ByteArray), (⟨#[79, 82]⟩ : ByteArray), (⟨#[80, 79, 87, 69, 82]⟩ : ByteArray), (⟨#[80, 82, 79, 68, 85, 67, 84]⟩ : ByteArray), (⟨#[80, 82, 79, 80, 69, 82]⟩ : ByteArray), (⟨#[81, 85, 79, 84, 73, 69, 78, 84]⟩ : ByteArray), (⟨#[82, 65, 78, 75]⟩ : ByteArray), (⟨#[82, 69, 80, 84]⟩ : ByteArray), (⟨#[82, 69, 86, 69, 82, 83, 69]⟩ : ByteArray), (⟨#[82, 73, 71, 72, 84]⟩ : ByteArray), (⟨#[82, 79, 85, 78, 68]⟩ : ByteArray), (⟨#[82, 79, 85, 78, 68, 68, 79, 87, 78]⟩ : ByteArray), (⟨#[82, 79, 85, 78, 68, 85, 80]⟩ : ByteArray), (⟨#[82, 79, 87]⟩ : ByteArray), (⟨#[82, 79, 87, 83]⟩ : ByteArray), (⟨#[83, 73, 71, 78]⟩ : ByteArray), (⟨#[83, 77, 65, 76, 76]⟩ : ByteArray), (⟨#[83, 81, 82, 84]⟩ : ByteArray), (⟨#[83, 85, 66, 83, 84, 73, 84, 85, 84, 69]⟩ : ByteArray), (⟨#[83, 85, 77]⟩ : ByteArray), (⟨#[83, 85, 77, 73, 70]⟩ : ByteArray), (⟨#[83, 85, 77, 80, 82, 79, 68, 85, 67, 84]⟩ : ByteArray), (⟨#[83, 85, 77, 83, 81]⟩ : ByteArray), (⟨#[83, 87, 73, 84, 67, 72]⟩ : ByteArray), (⟨#[84, 69, 88, 84]⟩ : ByteArray), (⟨#[84, 82, 73, 77]⟩ : ByteArray), (⟨#[84, 82, 85, 78, 67]⟩ : ByteArray), (⟨#[85, 80, 80, 69, 82]⟩ : ByteArray), (⟨#[86, 65, 76, 85, 69]⟩ : ByteArray), (⟨#[86, 76, 79, 79, 75, 85, 80]⟩ : ByteArray), (⟨#[88, 79, 82]⟩ : ByteArray)] : List ByteArray))
set_option maxHeartbeats 8000000 in
set_option maxRecDepth 100000 in
theorem oculusref19_Names.calls  (r : List ByteArray) (w : World) (h : oculusref19_Names.f  = some r) :
    Calls Try.prog 43 #[] w fun e w' => ∃ v0_ : Value, e = .returned (v0_) ∧ Kd.R Kd.string 9 w' w.heap.size (fun _ => True) v0_ r ∧ Below w.heap.size w w' := by
  have HB := Aside0.mk (Below.refl w.heap.size w)
  have H : (some (([(⟨#[65, 66, 83]⟩ : ByteArray), (⟨#[65, 78, 68]⟩ : ByteArray), (⟨#[65, 86, 69, 82, 65, 71, 69]⟩ : ByteArray), (⟨#[65, 86, 69, 82, 65, 71, 69, 73, 70]⟩ : ByteArray), (⟨#[67, 69, 73, 76, 73, 78, 71]⟩ : ByteArray), (⟨#[67, 72, 65, 82]⟩ : ByteArray), (⟨#[67, 72, 79, 79, 83, 69]⟩ : ByteArray), (⟨#[67, 79, 68, 69]⟩ : ByteArray), (⟨#[67, 79, 76, 85, 77, 78]⟩ : ByteArray), (⟨#[67, 79, 76, 85, 77, 78, 83]⟩ : ByteArray), (⟨#[67, 79, 77, 66, 73, 78]⟩ : ByteArray), (⟨#[67, 79, 78, 67, 65, 84]⟩ : ByteArray), (⟨#[67, 79, 85, 78, 84]⟩ : ByteArray), (⟨#[67, 79, 85, 78, 84, 65]⟩ : ByteArray), (⟨#[67, 79, 85, 78, 84, 66, 76, 65, 78, 75]⟩ : ByteArray), (⟨#[67, 79, 85, 78, 84, 73, 70]⟩ : ByteArray), (⟨#[68, 69, 67, 76, 65, 83, 83]⟩ : ByteArray), (⟨#[69, 86, 69, 78]⟩ : ByteArray), (⟨#[69, 88, 65, 67, 84]⟩ : ByteArray), (⟨#[70, 65, 67, 84]⟩ : ByteArray), (⟨#[70, 73, 78, 68]⟩ : ByteArray), (⟨#[70, 76, 79, 79, 82]⟩ : ByteArray), (⟨#[71, 67, 68]⟩ : ByteArray), (⟨#[72, 76, 79, 79, 75, 85, 80]⟩ : ByteArray), (⟨#[73, 70]⟩ : ByteArray), (⟨#[73, 70, 69, 82, 82, 79, 82]⟩ : ByteArray), (⟨#[73, 78, 68, 69, 88]⟩ : ByteArray), (⟨#[73, 78, 84]⟩ : ByteArray), (⟨#[73, 83, 66, 76, 65, 78, 75]⟩ : ByteArray), (⟨#[73, 83, 69, 82, 82, 79, 82]⟩ : ByteArray), (⟨#[73, 83, 76, 79, 71, 73, 67, 65, 76]⟩ : ByteArray), (⟨#[73, 83, 78, 85, 77, 66, 69, 82]⟩ : ByteArray), (⟨#[73, 83, 84, 69, 88, 84]⟩ : ByteArray), (⟨#[76, 65, 82, 71, 69]⟩ : ByteArray), (⟨#[76, 67, 77]⟩ : ByteArray), (⟨#[76, 69, 70, 84]⟩ : ByteArray), (⟨#[76, 69, 78]⟩ : ByteArray), (⟨#[76, 79, 87, 69, 82]⟩ : ByteArray), (⟨#[77, 65, 84, 67, 72]⟩ : ByteArray), (⟨#[77, 65, 88]⟩ : ByteArray), (⟨#[77, 69, 68, 73, 65, 78]⟩ : ByteArray), (⟨#[77, 73, 68]⟩ : ByteArray), (⟨#[77, 73, 78]⟩ : ByteArray), (⟨#[77, 79, 68]⟩ : ByteArray), (⟨#[77, 79, 68, 69]⟩ : ByteArray), (⟨#[78, 65]⟩ : ByteArray), (⟨#[78, 79, 84]⟩ : ByteArray), (⟨#[79, 68, 68]⟩ : ByteArray), (⟨#[79, 82]⟩ : ByteArray), (⟨#[80, 79, 87, 69, 82]⟩ : ByteArray), (⟨#[80, 82, 79, 68, 85, 67, 84]⟩ : ByteArray), (⟨#[80, 82, 79, 80, 69, 82]⟩ : ByteArray), (⟨#[81, 85, 79, 84, 73, 69, 78, 84]⟩ : ByteArray), (⟨#[82, 65, 78, 75]⟩ : ByteArray), (⟨#[82, 69, 80, 84]⟩ : ByteArray), (⟨#[82, 69, 86, 69, 82, 83, 69]⟩ : ByteArray), (⟨#[82, 73, 71, 72, 84]⟩ : ByteArray), (⟨#[82, 79, 85, 78, 68]⟩ : ByteArray), (⟨#[82, 79, 85, 78, 68, 68, 79, 87, 78]⟩ : ByteArray), (⟨#[82, 79, 85, 78, 68, 85, 80]⟩ : ByteArray), (⟨#[82, 79, 87]⟩ : ByteArray), (⟨#[82, 79, 87, 83]⟩ : ByteArray), (⟨#[83, 73, 71, 78]⟩ : ByteArray), (⟨#[83, 77, 65, 76, 76]⟩ : ByteArray), (⟨#[83, 81, 82, 84]⟩ : ByteArray), (⟨#[83, 85, 66, 83, 84, 73, 84, 85, 84, 69]⟩ : ByteArray), (⟨#[83, 85, 77]⟩ : ByteArray), (⟨#[83, 85, 77, 73, 70]⟩ : ByteArray), (⟨#[83, 85, 77, 80, 82, 79, 68, 85, 67, 84]⟩ : ByteArray), (⟨#[83, 85, 77, 83, 81]⟩ : ByteArray), (⟨#[83, 87, 73, 84, 67, 72]⟩ : ByteArray), (⟨#[84, 69, 88, 84]⟩ : ByteArray), (⟨#[84, 82, 73, 77]⟩ : ByteArray), (⟨#[84, 82, 85, 78, 67]⟩ : ByteArray), (⟨#[85, 80, 80, 69, 82]⟩ : ByteArray), (⟨#[86, 65, 76, 85, 69]⟩ : ByteArray), (⟨#[86, 76, 79, 79, 75, 85, 80]⟩ : ByteArray), (⟨#[88, 79, 82]⟩ : ByteArray)] : List ByteArray))) = some r := h
  clear h
  obtain ⟨y101, hy101⟩ : ∃ y_ : List ByteArray, y_ = (([(⟨#[65, 66, 83]⟩ : ByteArray), (⟨#[65, 78, 68]⟩ : ByteArray), (⟨#[65, 86, 69, 82, 65, 71, 69]⟩ : ByteArray), (⟨#[65, 86, 69, 82, 65, 71, 69, 73, 70]⟩ : ByteArray), (⟨#[67, 69, 73, 76, 73, 78, 71]⟩ : ByteArray), (⟨#[67, 72, 65, 82]⟩ : ByteArray), (⟨#[67, 72, 79, 79, 83, 69]⟩ : ByteArray), (⟨#[67, 79, 68, 69]⟩ : ByteArray), (⟨#[67, 79, 76, 85, 77, 78]⟩ : ByteArray), (⟨#[67, 79, 76, 85, 77, 78, 83]⟩ : ByteArray), (⟨#[67, 79, 77, 66, 73, 78]⟩ : ByteArray), (⟨#[67, 79, 78, 67, 65, 84]⟩ : ByteArray), (⟨#[67, 79, 85, 78, 84]⟩ : ByteArray), (⟨#[67, 79, 85, 78, 84, 65]⟩ : ByteArray), (⟨#[67, 79, 85, 78, 84, 66, 76, 65, 78, 75]⟩ : ByteArray), (⟨#[67, 79, 85, 78, 84, 73, 70]⟩ : ByteArray), (⟨#[68, 69, 67, 76, 65, 83, 83]⟩ : ByteArray), (⟨#[69, 86, 69, 78]⟩ : ByteArray), (⟨#[69, 88, 65, 67, 84]⟩ : ByteArray), (⟨#[70, 65, 67, 84]⟩ : ByteArray), (⟨#[70, 73, 78, 68]⟩ : ByteArray), (⟨#[70, 76, 79, 79, 82]⟩ : ByteArray), (⟨#[71, 67, 68]⟩ : ByteArray), (⟨#[72, 76, 79, 79, 75, 85, 80]⟩ : ByteArray), (⟨#[73, 70]⟩ : ByteArray), (⟨#[73, 70, 69, 82, 82, 79, 82]⟩ : ByteArray), (⟨#[73, 78, 68, 69, 88]⟩ : ByteArray), (⟨#[73, 78, 84]⟩ : ByteArray), (⟨#[73, 83, 66, 76, 65, 78, 75]⟩ : ByteArray), (⟨#[73, 83, 69, 82, 82, 79, 82]⟩ : ByteArray), (⟨#[73, 83, 76, 79, 71, 73, 67, 65, 76]⟩ : ByteArray), (⟨#[73, 83, 78, 85, 77, 66, 69, 82]⟩ : ByteArray), (⟨#[73, 83, 84, 69, 88, 84]⟩ : ByteArray), (⟨#[76, 65, 82, 71, 69]⟩ : ByteArray), (⟨#[76, 67, 77]⟩ : ByteArray), (⟨#[76, 69, 70, 84]⟩ : ByteArray), (⟨#[76, 69, 78]⟩ : ByteArray), (⟨#[76, 79, 87, 69, 82]⟩ : ByteArray), (⟨#[77, 65, 84, 67, 72]⟩ : ByteArray), (⟨#[77, 65, 88]⟩ : ByteArray), (⟨#[77, 69, 68, 73, 65, 78]⟩ : ByteArray), (⟨#[77, 73, 68]⟩ : ByteArray), (⟨#[77, 73, 78]⟩ : ByteArray), (⟨#[77, 79, 68]⟩ : ByteArray), (⟨#[77, 79, 68, 69]⟩ : ByteArray), (⟨#[78, 65]⟩ : ByteArray), (⟨#[78, 79, 84]⟩ : ByteArray), (⟨#[79, 68, 68]⟩ : ByteArray), (⟨#[79, 82]⟩ : ByteArray), (⟨#[80, 79, 87, 69, 82]⟩ : ByteArray), (⟨#[80, 82, 79, 68, 85, 67, 84]⟩ : ByteArray), (⟨#[80, 82, 79, 80, 69, 82]⟩ : ByteArray), (⟨#[81, 85, 79, 84, 73, 69, 78, 84]⟩ : ByteArray), (⟨#[82, 65, 78, 75]⟩ : ByteArray), (⟨#[82, 69, 80, 84]⟩ : ByteArray), (⟨#[82, 69, 86, 69, 82, 83, 69]⟩ : ByteArray), (⟨#[82, 73, 71, 72, 84]⟩ : ByteArray), (⟨#[82, 79, 85, 78, 68]⟩ : ByteArray), (⟨#[82, 79, 85, 78, 68, 68, 79, 87, 78]⟩ : ByteArray), (⟨#[82, 79, 85, 78, 68, 85, 80]⟩ : ByteArray), (⟨#[82, 79, 87]⟩ : ByteArray), (⟨#[82, 79, 87, 83]⟩ : ByteArray), (⟨#[83, 73, 71, 78]⟩ : ByteArray), (⟨#[83, 77, 65, 76, 76]⟩ : ByteArray), (⟨#[83, 81, 82, 84]⟩ : ByteArray), (⟨#[83, 85, 66, 83, 84, 73, 84, 85, 84, 69]⟩ : ByteArray), (⟨#[83, 85, 77]⟩ : ByteArray), (⟨#[83, 85, 77, 73, 70]⟩ : ByteArray), (⟨#[83, 85, 77, 80, 82, 79, 68, 85, 67, 84]⟩ : ByteArray), (⟨#[83, 85, 77, 83, 81]⟩ : ByteArray), (⟨#[83, 87, 73, 84, 67, 72]⟩ : ByteArray), (⟨#[84, 69, 88, 84]⟩ : ByteArray), (⟨#[84, 82, 73, 77]⟩ : ByteArray), (⟨#[84, 82, 85, 78, 67]⟩ : ByteArray), (⟨#[85, 80, 80, 69, 82]⟩ : ByteArray), (⟨#[86, 65, 76, 85, 69]⟩ : ByteArray), (⟨#[86, 76, 79, 79, 75, 85, 80]⟩ : ByteArray), (⟨#[88, 79, 82]⟩ : ByteArray)] : List ByteArray)) := ⟨_, rfl⟩
  replace H : (some y101) = some r := by first | (rw [hy101]; with_reducible exact H) | (have H2_ := (Option.bind_some _ _).symm.trans H; rw [hy101]; with_reducible exact H2_) | (have H2_ := (Option.bind_some _ _).symm.trans H; with_reducible exact H2_) | with_reducible exact H | (rw [hy101]; exact H) | exact H
  have Ny101 := Aside0.mk hy101
  clear hy101
  obtain rfl := Option.some.inj H
  go_enter Try.func43, Try.ntmps43
  go_wp2_with (first | ((with_reducible refine gate_dst (N := 1) rfl ?_); refine Kd.R_lit Kd.string _ 9 ?hg (N := 1) ?hd (xs := ([(⟨#[65, 66, 83]⟩ : ByteArray), (⟨#[65, 78, 68]⟩ : ByteArray), (⟨#[65, 86, 69, 82, 65, 71, 69]⟩ : ByteArray), (⟨#[65, 86, 69, 82, 65, 71, 69, 73, 70]⟩ : ByteArray), (⟨#[67, 69, 73, 76, 73, 78, 71]⟩ : ByteArray), (⟨#[67, 72, 65, 82]⟩ : ByteArray), (⟨#[67, 72, 79, 79, 83, 69]⟩ : ByteArray), (⟨#[67, 79, 68, 69]⟩ : ByteArray), (⟨#[67, 79, 76, 85, 77, 78]⟩ : ByteArray), (⟨#[67, 79, 76, 85, 77, 78, 83]⟩ : ByteArray), (⟨#[67, 79, 77, 66, 73, 78]⟩ : ByteArray), (⟨#[67, 79, 78, 67, 65, 84]⟩ : ByteArray), (⟨#[67, 79, 85, 78, 84]⟩ : ByteArray), (⟨#[67, 79, 85, 78, 84, 65]⟩ : ByteArray), (⟨#[67, 79, 85, 78, 84, 66, 76, 65, 78, 75]⟩ : ByteArray), (⟨#[67, 79, 85, 78, 84, 73, 70]⟩ : ByteArray), (⟨#[68, 69, 67, 76, 65, 83, 83]⟩ : ByteArray), (⟨#[69, 86, 69, 78]⟩ : ByteArray), (⟨#[69, 88, 65, 67, 84]⟩ : ByteArray), (⟨#[70, 65, 67, 84]⟩ : ByteArray), (⟨#[70, 73, 78, 68]⟩ : ByteArray), (⟨#[70, 76, 79, 79, 82]⟩ : ByteArray), (⟨#[71, 67, 68]⟩ : ByteArray), (⟨#[72, 76, 79, 79, 75, 85, 80]⟩ : ByteArray), (⟨#[73, 70]⟩ : ByteArray), (⟨#[73, 70, 69, 82, 82, 79, 82]⟩ : ByteArray), (⟨#[73, 78, 68, 69, 88]⟩ : ByteArray), (⟨#[73, 78, 84]⟩ : ByteArray), (⟨#[73, 83, 66, 76, 65, 78, 75]⟩ : ByteArray), (⟨#[73, 83, 69, 82, 82, 79, 82]⟩ : ByteArray), (⟨#[73, 83, 76, 79, 71, 73, 67, 65, 76]⟩ : ByteArray), (⟨#[73, 83, 78, 85, 77, 66, 69, 82]⟩ : ByteArray), (⟨#[73, 83, 84, 69, 88, 84]⟩ : ByteArray), (⟨#[76, 65, 82, 71, 69]⟩ : ByteArray), (⟨#[76, 67, 77]⟩ : ByteArray), (⟨#[76, 69, 70, 84]⟩ : ByteArray), (⟨#[76, 69, 78]⟩ : ByteArray), (⟨#[76, 79, 87, 69, 82]⟩ : ByteArray), (⟨#[77, 65, 84, 67, 72]⟩ : ByteArray), (⟨#[77, 65, 88]⟩ : ByteArray), (⟨#[77, 69, 68, 73, 65, 78]⟩ : ByteArray), (⟨#[77, 73, 68]⟩ : ByteArray), (⟨#[77, 73, 78]⟩ : ByteArray), (⟨#[77, 79, 68]⟩ : ByteArray), (⟨#[77, 79, 68, 69]⟩ : ByteArray), (⟨#[78, 65]⟩ : ByteArray), (⟨#[78, 79, 84]⟩ : ByteArray), (⟨#[79, 68, 68]⟩ : ByteArray), (⟨#[79, 82]⟩ : ByteArray), (⟨#[80, 79, 87, 69, 82]⟩ : ByteArray), (⟨#[80, 82, 79, 68, 85, 67, 84]⟩ : ByteArray), (⟨#[80, 82, 79, 80, 69, 82]⟩ : ByteArray), (⟨#[81, 85, 79, 84, 73, 69, 78, 84]⟩ : ByteArray), (⟨#[82, 65, 78, 75]⟩ : ByteArray), (⟨#[82, 69, 80, 84]⟩ : ByteArray), (⟨#[82, 69, 86, 69, 82, 83, 69]⟩ : ByteArray), (⟨#[82, 73, 71, 72, 84]⟩ : ByteArray), (⟨#[82, 79, 85, 78, 68]⟩ : ByteArray), (⟨#[82, 79, 85, 78, 68, 68, 79, 87, 78]⟩ : ByteArray), (⟨#[82, 79, 85, 78, 68, 85, 80]⟩ : ByteArray), (⟨#[82, 79, 87]⟩ : ByteArray), (⟨#[82, 79, 87, 83]⟩ : ByteArray), (⟨#[83, 73, 71, 78]⟩ : ByteArray), (⟨#[83, 77, 65, 76, 76]⟩ : ByteArray), (⟨#[83, 81, 82, 84]⟩ : ByteArray), (⟨#[83, 85, 66, 83, 84, 73, 84, 85, 84, 69]⟩ : ByteArray), (⟨#[83, 85, 77]⟩ : ByteArray), (⟨#[83, 85, 77, 73, 70]⟩ : ByteArray), (⟨#[83, 85, 77, 80, 82, 79, 68, 85, 67, 84]⟩ : ByteArray), (⟨#[83, 85, 77, 83, 81]⟩ : ByteArray), (⟨#[83, 87, 73, 84, 67, 72]⟩ : ByteArray), (⟨#[84, 69, 88, 84]⟩ : ByteArray), (⟨#[84, 82, 73, 77]⟩ : ByteArray), (⟨#[84, 82, 85, 78, 67]⟩ : ByteArray), (⟨#[85, 80, 80, 69, 82]⟩ : ByteArray), (⟨#[86, 65, 76, 85, 69]⟩ : ByteArray), (⟨#[86, 76, 79, 79, 75, 85, 80]⟩ : ByteArray), (⟨#[88, 79, 82]⟩ : ByteArray)] : List ByteArray)) (inner := [.string (⟨#[65, 66, 83]⟩ : ByteArray), .string (⟨#[65, 78, 68]⟩ : ByteArray), .string (⟨#[65, 86, 69, 82, 65, 71, 69]⟩ : ByteArray), .string (⟨#[65, 86, 69, 82, 65, 71, 69, 73, 70]⟩ : ByteArray), .string (⟨#[67, 69, 73, 76, 73, 78, 71]⟩ : ByteArray), .string (⟨#[67, 72, 65, 82]⟩ : ByteArray), .string (⟨#[67, 72, 79, 79, 83, 69]⟩ : ByteArray), .string (⟨#[67, 79, 68, 69]⟩ : ByteArray), .string (⟨#[67, 79, 76, 85, 77, 78]⟩ : ByteArray), .string (⟨#[67, 79, 76, 85, 77, 78, 83]⟩ : ByteArray), .string (⟨#[67, 79, 77, 66, 73, 78]⟩ : ByteArray), .string (⟨#[67, 79, 78, 67, 65, 84]⟩ : ByteArray), .string (⟨#[67, 79, 85, 78, 84]⟩ : ByteArray), .string (⟨#[67, 79, 85, 78, 84, 65]⟩ : ByteArray), .string (⟨#[67, 79, 85, 78, 84, 66, 76, 65, 78, 75]⟩ : ByteArray), .string (⟨#[67, 79, 85, 78, 84, 73, 70]⟩ : ByteArray), .string (⟨#[68, 69, 67, 76, 65, 83, 83]⟩ : ByteArray), .string (⟨#[69, 86, 69, 78]⟩ : ByteArray), .string (⟨#[69, 88, 65, 67, 84]⟩ : ByteArray), .string (⟨#[70, 65, 67, 84]⟩ : ByteArray), .string (⟨#[70, 73, 78, 68]⟩ : ByteArray), .string (⟨#[70, 76, 79, 79, 82]⟩ : ByteArray), .string (⟨#[71, 67, 68]⟩ : ByteArray), .string (⟨#[72, 76, 79, 79, 75, 85, 80]⟩ : ByteArray), .string (⟨#[73, 70]⟩ : ByteArray), .string (⟨#[73, 70, 69, 82, 82, 79, 82]⟩ : ByteArray), .string (⟨#[73, 78, 68, 69, 88]⟩ : ByteArray), .string (⟨#[73, 78, 84]⟩ : ByteArray), .string (⟨#[73, 83, 66, 76, 65, 78, 75]⟩ : ByteArray), .string (⟨#[73, 83, 69, 82, 82, 79, 82]⟩ : ByteArray), .string (⟨#[73, 83, 76, 79, 71, 73, 67, 65, 76]⟩ : ByteArray), .string (⟨#[73, 83, 78, 85, 77, 66, 69, 82]⟩ : ByteArray), .string (⟨#[73, 83, 84, 69, 88, 84]⟩ : ByteArray), .string (⟨#[76, 65, 82, 71, 69]⟩ : ByteArray), .string (⟨#[76, 67, 77]⟩ : ByteArray), .string (⟨#[76, 69, 70, 84]⟩ : ByteArray), .string (⟨#[76, 69, 78]⟩ : ByteArray), .string (⟨#[76, 79, 87, 69, 82]⟩ : ByteArray), .string (⟨#[77, 65, 84, 67, 72]⟩ : ByteArray), .string (⟨#[77, 65, 88]⟩ : ByteArray), .string (⟨#[77, 69, 68, 73, 65, 78]⟩ : ByteArray), .string (⟨#[77, 73, 68]⟩ : ByteArray), .string (⟨#[77, 73, 78]⟩ : ByteArray), .string (⟨#[77, 79, 68]⟩ : ByteArray), .string (⟨#[77, 79, 68, 69]⟩ : ByteArray), .string (⟨#[78, 65]⟩ : ByteArray), .string (⟨#[78, 79, 84]⟩ : ByteArray), .string (⟨#[79, 68, 68]⟩ : ByteArray), .string (⟨#[79, 82]⟩ : ByteArray), .string (⟨#[80, 79, 87, 69, 82]⟩ : ByteArray), .string (⟨#[80, 82, 79, 68, 85, 67, 84]⟩ : ByteArray), .string (⟨#[80, 82, 79, 80, 69, 82]⟩ : ByteArray), .string (⟨#[81, 85, 79, 84, 73, 69, 78, 84]⟩ : ByteArray), .string (⟨#[82, 65, 78, 75]⟩ : ByteArray), .string (⟨#[82, 69, 80, 84]⟩ : ByteArray), .string (⟨#[82, 69, 86, 69, 82, 83, 69]⟩ : ByteArray), .string (⟨#[82, 73, 71, 72, 84]⟩ : ByteArray), .string (⟨#[82, 79, 85, 78, 68]⟩ : ByteArray), .string (⟨#[82, 79, 85, 78, 68, 68, 79, 87, 78]⟩ : ByteArray), .string (⟨#[82, 79, 85, 78, 68, 85, 80]⟩ : ByteArray), .string (⟨#[82, 79, 87]⟩ : ByteArray), .string (⟨#[82, 79, 87, 83]⟩ : ByteArray), .string (⟨#[83, 73, 71, 78]⟩ : ByteArray), .string (⟨#[83, 77, 65, 76, 76]⟩ : ByteArray), .string (⟨#[83, 81, 82, 84]⟩ : ByteArray), .string (⟨#[83, 85, 66, 83, 84, 73, 84, 85, 84, 69]⟩ : ByteArray), .string (⟨#[83, 85, 77]⟩ : ByteArray), .string (⟨#[83, 85, 77, 73, 70]⟩ : ByteArray), .string (⟨#[83, 85, 77, 80, 82, 79, 68, 85, 67, 84]⟩ : ByteArray), .string (⟨#[83, 85, 77, 83, 81]⟩ : ByteArray), .string (⟨#[83, 87, 73, 84, 67, 72]⟩ : ByteArray), .string (⟨#[84, 69, 88, 84]⟩ : ByteArray), .string (⟨#[84, 82, 73, 77]⟩ : ByteArray), .string (⟨#[84, 82, 85, 78, 67]⟩ : ByteArray), .string (⟨#[85, 80, 80, 69, 82]⟩ : ByteArray), .string (⟨#[86, 65, 76, 85, 69]⟩ : ByteArray), .string (⟨#[86, 76, 79, 79, 75, 85, 80]⟩ : ByteArray), .string (⟨#[88, 79, 82]⟩ : ByteArray)]) (ok := fun _ => True) (okp := fun _ => True) ?hr ?hp (fun _ hk => hk) trivial (Below.refl _ _) (Nat.le_refl _) (by simp) ?_; (case hd => rfl); (case hg => rfl); (case hr => first | (go_simp; done) | (go_simp; rfl)); (case hp => exact (Reps.one (show Kd.M Kd.string _ _ _ (⟨#[65, 66, 83]⟩ : ByteArray) [.string (⟨#[65, 66, 83]⟩ : ByteArray)] from rfl) (Reps.one (show Kd.M Kd.string _ _ _ (⟨#[65, 78, 68]⟩ : ByteArray) [.string (⟨#[65, 78, 68]⟩ : ByteArray)] from rfl) (Reps.one (show Kd.M Kd.string _ _ _ (⟨#[65, 86, 69, 82, 65, 71, 69]⟩ : ByteArray) [.string (⟨#[65, 86, 69, 82, 65, 71, 69]⟩ : ByteArray)] from rfl) (Reps.one (show Kd.M Kd.string _ _ _ (⟨#[65, 86, 69, 82, 65, 71, 69, 73, 70]⟩ : ByteArray) [.string (⟨#[65, 86, 69, 82, 65, 71, 69, 73, 70]⟩ : ByteArray)] from rfl) (Reps.one (show Kd.M Kd.string _ _ _ (⟨#[67, 69, 73, 76, 73, 78, 71]⟩ : ByteArray) [.string (⟨#[67, 69, 73, 76, 73, 78, 71]⟩ : ByteArray)] from rfl) (Reps.one (show Kd.M Kd.string _ _ _ (⟨#[67, 72, 65, 82]⟩ : ByteArray) [.string (⟨#[67, 72, 65, 82]⟩ : ByteArray)] from rfl) (Reps.one (show Kd.M Kd.string _ _ _ (⟨#[67, 72, 79, 79, 83, 69]⟩ : ByteArray) [.string (⟨#[67, 72, 79, 79, 83, 69]⟩ : ByteArray)] from rfl) (Reps.one (show Kd.M Kd.string _ _ _ (⟨#[67, 79, 68, 69]⟩ : ByteArray) [.string (⟨#[67, 79, 68, 69]⟩ : ByteArray)] from rfl) (Reps.one (show Kd.M Kd.string _ _ _ (⟨#[67, 79, 76, 85, 77, 78]⟩ : ByteArray) [.string (⟨#[67, 79, 76, 85, 77, 78]⟩ : ByteArray)] from rfl) (Reps.one (show Kd.M Kd.string _ _ _ (⟨#[67, 79, 76, 85, 77, 78, 83]⟩ : ByteArray) [.string (⟨#[67, 79, 76, 85, 77, 78, 83]⟩ : ByteArray)] from rfl) (Reps.one (show Kd.M Kd.string _ _ _ (⟨#[67, 79, 77, 66, 73, 78]⟩ : ByteArray) [.string (⟨#[67, 79, 77, 66, 73, 78]⟩ : ByteArray)] from rfl) (Reps.one (show Kd.M Kd.string _ _ _ (⟨#[67, 79, 78, 67, 65, 84]⟩ : ByteArray) [.string (⟨#[67, 79, 78, 67, 65, 84]⟩ : ByteArray)] from rfl) (Reps.one (show Kd.M Kd.string _ _ _ (⟨#[67, 79, 85, 78, 84]⟩ : ByteArray) [.string (⟨#[67, 79, 85, 78, 84]⟩ : ByteArray)] from rfl) (Reps.one (show Kd.M Kd.string _ _ _ (⟨#[67, 79, 85, 78, 84, 65]⟩ : ByteArray) [.string (⟨#[67, 79, 85, 78, 84, 65]⟩ : ByteArray)] from rfl) (Reps.one (show Kd.M Kd.string _ _ _ (⟨#[67, 79, 85, 78, 84, 66, 76, 65, 78, 75]⟩ : ByteArray) [.string (⟨#[67, 79, 85, 78, 84, 66, 76, 65, 78, 75]⟩ : ByteArray)] from rfl) (Reps.one (show Kd.M Kd.string _ _ _ (⟨#[67, 79, 85, 78, 84, 73, 70]⟩ : ByteArray) [.string (⟨#[67, 79, 85, 78, 84, 73, 70]⟩ : ByteArray)] from rfl) (Reps.one (show Kd.M Kd.string _ _ _ (⟨#[68, 69, 67, 76, 65, 83, 83]⟩ : ByteArray) [.string (⟨#[68, 69, 67, 76, 65, 83, 83]⟩ : ByteArray)] from rfl) (Reps.one (show Kd.M Kd.string _ _ _ (⟨#[69, 86, 69, 78]⟩ : ByteArray) [.string (⟨#[69, 86, 69, 78]⟩ : ByteArray)] from rfl) (Reps.one (show Kd.M Kd.string _ _ _ (⟨#[69, 88, 65, 67, 84]⟩ : ByteArray) [.string (⟨#[69, 88, 65, 67, 84]⟩ : ByteArray)] from rfl) (Reps.one (show Kd.M Kd.string _ _ _ (⟨#[70, 65, 67, 84]⟩ : ByteArray) [.string (⟨#[70, 65, 67, 84]⟩ : ByteArray)] from rfl) (Reps.one (show Kd.M Kd.string _ _ _ (⟨#[70, 73, 78, 68]⟩ : ByteArray) [.string (⟨#[70, 73, 78, 68]⟩ : ByteArray)] from rfl) (Reps.one (show Kd.M Kd.string _ _ _ (⟨#[70, 76, 79, 79, 82]⟩ : ByteArray) [.string (⟨#[70, 76, 79, 79, 82]⟩ : ByteArray)] from rfl) (Reps.one (show Kd.M Kd.string _ _ _ (⟨#[71, 67, 68]⟩ : ByteArray) [.string (⟨#[71, 67, 68]⟩ : ByteArray)] from rfl) (Reps.one (show Kd.M Kd.string _ _ _ (⟨#[72, 76, 79, 79, 75, 85, 80]⟩ : ByteArray) [.string (⟨#[72, 76, 79, 79, 75, 85, 80]⟩ : ByteArray)] from rfl) (Reps.one (show Kd.M Kd.string _ _ _ (⟨#[73, 70]⟩ : ByteArray) [.string (⟨#[73, 70]⟩ : ByteArray)] from rfl) (Reps.one (show Kd.M Kd.string _ _ _ (⟨#[73, 70, 69, 82, 82, 79, 82]⟩ : ByteArray) [.string (⟨#[73, 70, 69, 82, 82, 79, 82]⟩ : ByteArray)] from rfl) (Reps.one (show Kd.M Kd.string _ _ _ (⟨#[73, 78, 68, 69, 88]⟩ : ByteArray) [.string (⟨#[73, 78, 68, 69, 88]⟩ : ByteArray)] from rfl) (Reps.one (show Kd.M Kd.string _ _ _ (⟨#[73, 78, 84]⟩ : ByteArray) [.string (⟨#[73, 78, 84]⟩ : ByteArray)] from rfl) (Reps.one (show Kd.M Kd.string _ _ _ (⟨#[73, 83, 66, 76, 65, 78, 75]⟩ : ByteArray) [.string (⟨#[73, 83, 66, 76, 65, 78, 75]⟩ : ByteArray)] from rfl) (Reps.one (show Kd.M Kd.string _ _ _ (⟨#[73, 83, 69, 82, 82, 79, 82]⟩ : ByteArray) [.string (⟨#[73, 83, 69, 82, 82, 79, 82]⟩ : ByteArray)] from rfl) (Reps.one (show Kd.M Kd.string _ _ _ (⟨#[73, 83, 76, 79, 71, 73, 67, 65, 76]⟩ : ByteArray) [.string (⟨#[73, 83, 76, 79, 71, 73, 67, 65, 76]⟩ : ByteArray)] from rfl) (Reps.one (show Kd.M Kd.string _ _ _ (⟨#[73, 83, 78, 85, 77, 66, 69, 82]⟩ : ByteArray) [.string (⟨#[73, 83, 78, 85, 77, 66, 69, 82]⟩ : ByteArray)] from rfl) (Reps.one (show Kd.M Kd.string _ _ _ (⟨#[73, 83, 84, 69, 88, 84]⟩ : ByteArray) [.string (⟨#[73, 83, 84, 69, 88, 84]⟩ : ByteArray)] from rfl) (Reps.one (show Kd.M Kd.string _ _ _ (⟨#[76, 65, 82, 71, 69]⟩ : ByteArray) [.string (⟨#[76, 65, 82, 71, 69]⟩ : ByteArray)] from rfl) (Reps.one (show Kd.M Kd.string _ _ _ (⟨#[76, 67, 77]⟩ : ByteArray) [.string (⟨#[76, 67, 77]⟩ : ByteArray)] from rfl) (Reps.one (show Kd.M Kd.string _ _ _ (⟨#[76, 69, 70, 84]⟩ : ByteArray) [.string (⟨#[76, 69, 70, 84]⟩ : ByteArray)] from rfl) (Reps.one (show Kd.M Kd.string _ _ _ (⟨#[76, 69, 78]⟩ : ByteArray) [.string (⟨#[76, 69, 78]⟩ : ByteArray)] from rfl) (Reps.one (show Kd.M Kd.string _ _ _ (⟨#[76, 79, 87, 69, 82]⟩ : ByteArray) [.string (⟨#[76, 79, 87, 69, 82]⟩ : ByteArray)] from rfl) (Reps.one (show Kd.M Kd.string _ _ _ (⟨#[77, 65, 84, 67, 72]⟩ : ByteArray) [.string (⟨#[77, 65, 84, 67, 72]⟩ : ByteArray)] from rfl) (Reps.one (show Kd.M Kd.string _ _ _ (⟨#[77, 65, 88]⟩ : ByteArray) [.string (⟨#[77, 65, 88]⟩ : ByteArray)] from rfl) (Reps.one (show Kd.M Kd.string _ _ _ (⟨#[77, 69, 68, 73, 65, 78]⟩ : ByteArray) [.string (⟨#[77, 69, 68, 73, 65, 78]⟩ : ByteArray)] from rfl) (Reps.one (show Kd.M Kd.string _ _ _ (⟨#[77, 73, 68]⟩ : ByteArray) [.string (⟨#[77, 73, 68]⟩ : ByteArray)] from rfl) (Reps.one (show Kd.M Kd.string _ _ _ (⟨#[77, 73, 78]⟩ : ByteArray) [.string (⟨#[77, 73, 78]⟩ : ByteArray)] from rfl) (Reps.one (show Kd.M Kd.string _ _ _ (⟨#[77, 79, 68]⟩ : ByteArray) [.string (⟨#[77, 79, 68]⟩ : ByteArray)] from rfl) (Reps.one (show Kd.M Kd.string _ _ _ (⟨#[77, 79, 68, 69]⟩ : ByteArray) [.string (⟨#[77, 79, 68, 69]⟩ : ByteArray)] from rfl) (Reps.one (show Kd.M Kd.string _ _ _ (⟨#[78, 65]⟩ : ByteArray) [.string (⟨#[78, 65]⟩ : ByteArray)] from rfl) (Reps.one (show Kd.M Kd.string _ _ _ (⟨#[78, 79, 84]⟩ : ByteArray) [.string (⟨#[78, 79, 84]⟩ : ByteArray)] from rfl) (Reps.one (show Kd.M Kd.string _ _ _ (⟨#[79, 68, 68]⟩ : ByteArray) [.string (⟨#[79, 68, 68]⟩ : ByteArray)] from rfl) (Reps.one (show Kd.M Kd.string _ _ _ (⟨#[79, 82]⟩ : ByteArray) [.string (⟨#[79, 82]⟩ : ByteArray)] from rfl) (Reps.one (show Kd.M Kd.string _ _ _ (⟨#[80, 79, 87, 69, 82]⟩ : ByteArray) [.string (⟨#[80, 79, 87, 69, 82]⟩ : ByteArray)] from rfl) (Reps.one (show Kd.M Kd.string _ _ _ (⟨#[80, 82, 79, 68, 85, 67, 84]⟩ : ByteArray) [.string (⟨#[80, 82, 79, 68, 85, 67, 84]⟩ : ByteArray)] from rfl) (Reps.one (show Kd.M Kd.string _ _ _ (⟨#[80, 82, 79, 80, 69, 82]⟩ : ByteArray) [.string (⟨#[80, 82, 79, 80, 69, 82]⟩ : ByteArray)] from rfl) (Reps.one (show Kd.M Kd.string _ _ _ (⟨#[81, 85, 79, 84, 73, 69, 78, 84]⟩ : ByteArray) [.string (⟨#[81, 85, 79, 84, 73, 69, 78, 84]⟩ : ByteArray)] from rfl) (Reps.one (show Kd.M Kd.string _ _ _ (⟨#[82, 65, 78, 75]⟩ : ByteArray) [.string (⟨#[82, 65, 78, 75]⟩ : ByteArray)] from rfl) (Reps.one (show Kd.M Kd.string _ _ _ (⟨#[82, 69, 80, 84]⟩ : ByteArray) [.string (⟨#[82, 69, 80, 84]⟩ : ByteArray)] from rfl) (Reps.one (show Kd.M Kd.string _ _ _ (⟨#[82, 69, 86, 69, 82, 83, 69]⟩ : ByteArray) [.string (⟨#[82, 69, 86, 69, 82, 83, 69]⟩ : ByteArray)] from rfl) (Reps.one (show Kd.M Kd.string _ _ _ (⟨#[82, 73, 71, 72, 84]⟩ : ByteArray) [.string (⟨#[82, 73, 71, 72, 84]⟩ : ByteArray)] from rfl) (Reps.one (show Kd.M Kd.string _ _ _ (⟨#[82, 79, 85, 78, 68]⟩ : ByteArray) [.string (⟨#[82, 79, 85, 78, 68]⟩ : ByteArray)] from rfl) (Reps.one (show Kd.M Kd.string _ _ _ (⟨#[82, 79, 85, 78, 68, 68, 79, 87, 78]⟩ : ByteArray) [.string (⟨#[82, 79, 85, 78, 68, 68, 79, 87, 78]⟩ : ByteArray)] from rfl) (Reps.one (show Kd.M Kd.string _ _ _ (⟨#[82, 79, 85, 78, 68, 85, 80]⟩ : ByteArray) [.string (⟨#[82, 79, 85, 78, 68, 85, 80]⟩ : ByteArray)] from rfl) (Reps.one (show Kd.M Kd.string _ _ _ (⟨#[82, 79, 87]⟩ : ByteArray) [.string (⟨#[82, 79, 87]⟩ : ByteArray)] from rfl) (Reps.one (show Kd.M Kd.string _ _ _ (⟨#[82, 79, 87, 83]⟩ : ByteArray) [.string (⟨#[82, 79, 87, 83]⟩ : ByteArray)] from rfl) (Reps.one (show Kd.M Kd.string _ _ _ (⟨#[83, 73, 71, 78]⟩ : ByteArray) [.string (⟨#[83, 73, 71, 78]⟩ : ByteArray)] from rfl) (Reps.one (show Kd.M Kd.string _ _ _ (⟨#[83, 77, 65, 76, 76]⟩ : ByteArray) [.string (⟨#[83, 77, 65, 76, 76]⟩ : ByteArray)] from rfl) (Reps.one (show Kd.M Kd.string _ _ _ (⟨#[83, 81, 82, 84]⟩ : ByteArray) [.string (⟨#[83, 81, 82, 84]⟩ : ByteArray)] from rfl) (Reps.one (show Kd.M Kd.string _ _ _ (⟨#[83, 85, 66, 83, 84, 73, 84, 85, 84, 69]⟩ : ByteArray) [.string (⟨#[83, 85, 66, 83, 84, 73, 84, 85, 84, 69]⟩ : ByteArray)] from rfl) (Reps.one (show Kd.M Kd.string _ _ _ (⟨#[83, 85, 77]⟩ : ByteArray) [.string (⟨#[83, 85, 77]⟩ : ByteArray)] from rfl) (Reps.one (show Kd.M Kd.string _ _ _ (⟨#[83, 85, 77, 73, 70]⟩ : ByteArray) [.string (⟨#[83, 85, 77, 73, 70]⟩ : ByteArray)] from rfl) (Reps.one (show Kd.M Kd.string _ _ _ (⟨#[83, 85, 77, 80, 82, 79, 68, 85, 67, 84]⟩ : ByteArray) [.string (⟨#[83, 85, 77, 80, 82, 79, 68, 85, 67, 84]⟩ : ByteArray)] from rfl) (Reps.one (show Kd.M Kd.string _ _ _ (⟨#[83, 85, 77, 83, 81]⟩ : ByteArray) [.string (⟨#[83, 85, 77, 83, 81]⟩ : ByteArray)] from rfl) (Reps.one (show Kd.M Kd.string _ _ _ (⟨#[83, 87, 73, 84, 67, 72]⟩ : ByteArray) [.string (⟨#[83, 87, 73, 84, 67, 72]⟩ : ByteArray)] from rfl) (Reps.one (show Kd.M Kd.string _ _ _ (⟨#[84, 69, 88, 84]⟩ : ByteArray) [.string (⟨#[84, 69, 88, 84]⟩ : ByteArray)] from rfl) (Reps.one (show Kd.M Kd.string _ _ _ (⟨#[84, 82, 73, 77]⟩ : ByteArray) [.string (⟨#[84, 82, 73, 77]⟩ : ByteArray)] from rfl) (Reps.one (show Kd.M Kd.string _ _ _ (⟨#[84, 82, 85, 78, 67]⟩ : ByteArray) [.string (⟨#[84, 82, 85, 78, 67]⟩ : ByteArray)] from rfl) (Reps.one (show Kd.M Kd.string _ _ _ (⟨#[85, 80, 80, 69, 82]⟩ : ByteArray) [.string (⟨#[85, 80, 80, 69, 82]⟩ : ByteArray)] from rfl) (Reps.one (show Kd.M Kd.string _ _ _ (⟨#[86, 65, 76, 85, 69]⟩ : ByteArray) [.string (⟨#[86, 65, 76, 85, 69]⟩ : ByteArray)] from rfl) (Reps.one (show Kd.M Kd.string _ _ _ (⟨#[86, 76, 79, 79, 75, 85, 80]⟩ : ByteArray) [.string (⟨#[86, 76, 79, 79, 75, 85, 80]⟩ : ByteArray)] from rfl) (Reps.one (show Kd.M Kd.string _ _ _ (⟨#[88, 79, 82]⟩ : ByteArray) [.string (⟨#[88, 79, 82]⟩ : ByteArray)] from rfl) (Reps.none _ _)))))))))))))))))))))))))))))))))))))))))))))))))))))))))))))))))))))))))))))))); intro v102 w1 ho2 hb hg_ hnew_; clear hg_ hnew_; (first | rw [← Ny101.out] at ho2 | (simp only [Int.reduceToNat] at ho2; rw [← Ny101.out] at ho2)); have n0_ := Aside0.mk (Kd.R_lower ho2 (below_size (pbx HB))); have n1_ := Aside0.mk (below_step (pbx HB) hb); clear HB; have HO103 := n0_; have HB := n1_; clear n0_ n1_; clear hb ho2))
  go_ret
  exact ⟨_, by first | rfl | (simp [errW_none, errW_some] <;> rfl) | (simp [*, errW_none, errW_some] <;> rfl), by (with_reducible repeat (first | apply Kd.R_alloc | apply Kd.R_drewN | apply Kd.R_drew)); exact HO103.out, pbx HB⟩

end Go.Proofs.Ytjbdljolpkkhcaa.X
namespace Go.Proofs.Ytjbdljolpkkhcaa.X
open Go.RowKit Go.Proofs.YtjbdljolpkkhcaaW.PrintWords Go.Proofs.YtjbdljolpkkhcaaW.PrintLast Go.Proofs.YtjbdljolpkkhcaaW.PrintMore
attribute [local go_sem] max2_int min2_int max_two min_two max_three min_three max_four min_four   -- for this text's walks alone
set_option linter.unusedVariables false
set_option linter.unusedSimpArgs false

/-! ### oculusref19_Rows: function 44 -/
def oculusref19_Rows.f  : Option (List ByteArray) := some (([(⟨#[49, 49, 118]⟩ : ByteArray), (⟨#[49, 56, 101]⟩ : ByteArray), (⟨#[49, 56, 108]⟩ : ByteArray), (⟨#[50, 50, 114, 118]⟩ : ByteArray), (⟨#[50, 50, 118]⟩ : ByteArray), (⟨#[49, 49, 118]⟩ : ByteArray), (⟨#[50, 56, 101]⟩ : ByteArray), (⟨#[49, 49, 118]⟩ : ByteArray), (⟨#[49, 49, 110]⟩ : ByteArray), (⟨#[49, 49, 110]⟩ : ByteArray), (⟨#[50, 50, 118]⟩ : ByteArray), (⟨#[49, 56, 108]⟩ : ByteArray), (⟨#[49, 56, 108]⟩ : ByteArray), (⟨#[49, 56, 108]⟩ : ByteArray), (⟨#[49, 56, 108]⟩ : ByteArray), (⟨#[50, 50, 114, 118]⟩ : ByteArray), (⟨#[50, 50, 101, 116]⟩ : ByteArray), (⟨#[49, 49, 118]⟩ : ByteArray), (⟨#[50, 50, 118]⟩ : ByteArray), (⟨#[49, 49, 118]⟩ : ByteArray), (⟨#[50, 50, 118]⟩ : ByteArray), (⟨#[50, 50, 118]⟩ : ByteArray), (⟨#[50, 50, 118]⟩ : ByteArray), (⟨#[51, 51, 118, 114, 118]⟩ : ByteArray), (⟨#[50, 51, 101]⟩ : ByteArray), (⟨#[50, 50, 101]⟩ : ByteArray), (⟨#[50, 51, 114, 118]⟩ : ByteArray), (⟨#[49, 49, 118]⟩ : ByteArray), (⟨#[49, 49, 118]⟩ : ByteArray), (⟨#[49, 49, 118]⟩ : ByteArray), (⟨#[49, 49, 118]⟩ : ByteArray), (⟨#[49, 49, 118]⟩ : ByteArray), (⟨#[49, 49, 118]⟩ : ByteArray), (⟨#[50, 50, 114, 118]⟩ : ByteArray), (⟨#[50, 50, 118]⟩ : ByteArray), (⟨#[50, 50, 118]⟩ : ByteArray), (⟨#[49, 49, 118]⟩ : ByteArray), (⟨#[49, 49, 118]⟩ : ByteArray), (⟨#[50, 50, 118, 114]⟩ : ByteArray), (⟨#[49, 56, 108]⟩ : ByteArray), (⟨#[49, 56, 108]⟩ : ByteArray), (⟨#[51, 51, 118]⟩ : ByteArray), (⟨#[49, 56, 108]⟩ : ByteArray), (⟨#[50, 50, 118]⟩ : ByteArray), (⟨#[49, 56, 108]⟩ : ByteArray), (⟨#[48, 48]⟩ : ByteArray), (⟨#[49, 49, 118]⟩ : ByteArray), (⟨#[49, 49, 118]⟩ : ByteArray), (⟨#[49, 56, 101]⟩ : ByteArray), (⟨#[50, 50, 118]⟩ : ByteArray), (⟨#[49, 56, 108]⟩ : ByteArray), (⟨#[49, 49, 118]⟩ : ByteArray), (⟨#[50, 50, 118]⟩ : ByteArray), (⟨#[50, 50, 118, 114]⟩ : ByteArray), (⟨#[50, 50, 118]⟩ : ByteArray), (⟨#[49, 49, 118]⟩ : ByteArray), (⟨#[50, 50, 118]⟩ : ByteArray), (⟨#[50, 50, 118]⟩ : ByteArray), (⟨#[50, 50, 118]⟩ : ByteArray), (⟨#[50, 50, 118]⟩ : ByteArray), (⟨#[49, 49, 110]⟩ : ByteArray), (⟨#[49, 49, 110]⟩ : ByteArray), (⟨#[49, 49, 118]⟩ : ByteArray), (⟨#[50, 50, 114, 118]⟩ : ByteArray), (⟨#[49, 49, 118]⟩ : ByteArray), (⟨#[51, 51, 118]⟩ : ByteArray), (⟨#[49, 56, 108]⟩ : ByteArray), (⟨#[50, 50, 114, 118]⟩ : ByteArray), (⟨#[50, 50, 114]⟩ : ByteArray), (⟨#[49, 56, 108]⟩ : ByteArray), (⟨#[51, 56, 101]⟩ : ByteArray), (⟨#[50, 50, 118]⟩ : ByteArray), (⟨#[49, 49, 118]⟩ : ByteArray), (⟨#[49, 49, 118]⟩ : ByteArray), (⟨#[49, 49, 118]⟩ : ByteArray), (⟨#[49, 49, 118]⟩ : ByteArray), (⟨#[51, 51, 118, 114, 118]⟩ : ByteArray), (⟨#[49, 56, 108]⟩ : ByteArray)] : List ByteArray))
set_option maxHeartbeats 8000000 in
set_option maxRecDepth 100000 in
theorem oculusref19_Rows.calls  (r : List ByteArray) (w : World) (h : oculusref19_Rows.f  = some r) :
    Calls Try.prog 44 #[] w fun e w' => ∃ v0_ : Value, e = .returned (v0_) ∧ Kd.R Kd.string 9 w' w.heap.size (fun _ => True) v0_ r ∧ Below w.heap.size w w' := by
  have HB := Aside0.mk (Below.refl w.heap.size w)
  have H : (some (([(⟨#[49, 49, 118]⟩ : ByteArray), (⟨#[49, 56, 101]⟩ : ByteArray), (⟨#[49, 56, 108]⟩ : ByteArray), (⟨#[50, 50, 114, 118]⟩ : ByteArray), (⟨#[50, 50, 118]⟩ : ByteArray), (⟨#[49, 49, 118]⟩ : ByteArray), (⟨#[50, 56, 101]⟩ : ByteArray), (⟨#[49, 49, 118]⟩ : ByteArray), (⟨#[49, 49, 110]⟩ : ByteArray), (⟨#[49, 49, 110]⟩ : ByteArray), (⟨#[50, 50, 118]⟩ : ByteArray), (⟨#[49, 56, 108]⟩ : ByteArray), (⟨#[49, 56, 108]⟩ : ByteArray), (⟨#[49, 56, 108]⟩ : ByteArray), (⟨#[49, 56, 108]⟩ : ByteArray), (⟨#[50, 50, 114, 118]⟩ : ByteArray), (⟨#[50, 50, 101, 116]⟩ : ByteArray), (⟨#[49, 49, 118]⟩ : ByteArray), (⟨#[50, 50, 118]⟩ : ByteArray), (⟨#[49, 49, 118]⟩ : ByteArray), (⟨#[50, 50, 118]⟩ : ByteArray), (⟨#[50, 50, 118]⟩ : ByteArray), (⟨#[50, 50, 118]⟩ : ByteArray), (⟨#[51, 51, 118, 114, 118]⟩ : ByteArray), (⟨#[50, 51, 101]⟩ : ByteArray), (⟨#[50, 50, 101]⟩ : ByteArray), (⟨#[50, 51, 114, 118]⟩ : ByteArray), (⟨#[49, 49, 118]⟩ : ByteArray), (⟨#[49, 49, 118]⟩ : ByteArray), (⟨#[49, 49, 118]⟩ : ByteArray), (⟨#[49, 49, 118]⟩ : ByteArray), (⟨#[49, 49, 118]⟩ : ByteArray), (⟨#[49, 49, 118]⟩ : ByteArray), (⟨#[50, 50, 114, 118]⟩ : ByteArray), (⟨#[50, 50, 118]⟩ : ByteArray), (⟨#[50, 50, 118]⟩ : ByteArray), (⟨#[49, 49, 118]⟩ : ByteArray), (⟨#[49, 49, 118]⟩ : ByteArray), (⟨#[50, 50, 118, 114]⟩ : ByteArray), (⟨#[49, 56, 108]⟩ : ByteArray), (⟨#[49, 56, 108]⟩ : ByteArray), (⟨#[51, 51, 118]⟩ : ByteArray), (⟨#[49, 56, 108]⟩ : ByteArray), (⟨#[50, 50, 118]⟩ : ByteArray), (⟨#[49, 56, 108]⟩ : ByteArray), (⟨#[48, 48]⟩ : ByteArray), (⟨#[49, 49, 118]⟩ : ByteArray), (⟨#[49, 49, 118]⟩ : ByteArray), (⟨#[49, 56, 101]⟩ : ByteArray), (⟨#[50, 50, 118]⟩ : ByteArray), (⟨#[49, 56, 108]⟩ : ByteArray), (⟨#[49, 49, 118]⟩ : ByteArray), (⟨#[50, 50, 118]⟩ : ByteArray), (⟨#[50, 50, 118, 114]⟩ : ByteArray), (⟨#[50, 50, 118]⟩ : ByteArray), (⟨#[49, 49, 118]⟩ : ByteArray), (⟨#[50, 50, 118]⟩ : ByteArray), (⟨#[50, 50, 118]⟩ : ByteArray), (⟨#[50, 50, 118]⟩ : ByteArray), (⟨#[50, 50, 118]⟩ : ByteArray), (⟨#[49, 49, 110]⟩ : ByteArray), (⟨#[49, 49, 110]⟩ : ByteArray), (⟨#[49, 49, 118]⟩ : ByteArray), (⟨#[50, 50, 114, 118]⟩ : ByteArray), (⟨#[49, 49, 118]⟩ : ByteArray), (⟨#[51, 51, 118]⟩ : ByteArray), (⟨#[49, 56, 108]⟩ : ByteArray), (⟨#[50, 50, 114, 118]⟩ : ByteArray), (⟨#[50, 50, 114]⟩ : ByteArray), (⟨#[49, 56, 108]⟩ : ByteArray), (⟨#[51, 56, 101]⟩ : ByteArray), (⟨#[50, 50, 118]⟩ : ByteArray), (⟨#[49, 49, 118]⟩ : ByteArray), (⟨#[49, 49, 118]⟩ : ByteArray), (⟨#[49, 49, 118]⟩ : ByteArray), (⟨#[49, 49, 118]⟩ : ByteArray), (⟨#[51, 51, 118, 114, 118]⟩ : ByteArray), (⟨#[49, 56, 108]⟩ : ByteArray)] : List ByteArray))) = some r := h
  clear h
  obtain ⟨y101, hy101⟩ : ∃ y_ : List ByteArray, y_ = (([(⟨#[49, 49, 118]⟩ : ByteArray), (⟨#[49, 56, 101]⟩ : ByteArray), (⟨#[49, 56, 108]⟩ : ByteArray), (⟨#[50, 50, 114, 118]⟩ : ByteArray), (⟨#[50, 50, 118]⟩ : ByteArray), (⟨#[49, 49, 118]⟩ : ByteArray), (⟨#[50, 56, 101]⟩ : ByteArray), (⟨#[49, 49, 118]⟩ : ByteArray), (⟨#[49, 49, 110]⟩ : ByteArray), (⟨#[49, 49, 110]⟩ : ByteArray), (⟨#[50, 50, 118]⟩ : ByteArray), (⟨#[49, 56, 108]⟩ : ByteArray), (⟨#[49, 56, 108]⟩ : ByteArray), (⟨#[49, 56, 108]⟩ : ByteArray), (⟨#[49, 56, 108]⟩ : ByteArray), (⟨#[50, 50, 114, 118]⟩ : ByteArray), (⟨#[50, 50, 101, 116]⟩ : ByteArray), (⟨#[49, 49, 118]⟩ : ByteArray), (⟨#[50, 50, 118]⟩ : ByteArray), (⟨#[49, 49, 118]⟩ : ByteArray), (⟨#[50, 50, 118]⟩ : ByteArray), (⟨#[50, 50, 118]⟩ : ByteArray), (⟨#[50, 50, 118]⟩ : ByteArray), (⟨#[51, 51, 118, 114, 118]⟩ : ByteArray), (⟨#[50, 51, 101]⟩ : ByteArray), (⟨#[50, 50, 101]⟩ : ByteArray), (⟨#[50, 51, 114, 118]⟩ : ByteArray), (⟨#[49, 49, 118]⟩ : ByteArray), (⟨#[49, 49, 118]⟩ : ByteArray), (⟨#[49, 49, 118]⟩ : ByteArray), (⟨#[49, 49, 118]⟩ : ByteArray), (⟨#[49, 49, 118]⟩ : ByteArray), (⟨#[49, 49, 118]⟩ : ByteArray), (⟨#[50, 50, 114, 118]⟩ : ByteArray), (⟨#[50, 50, 118]⟩ : ByteArray), (⟨#[50, 50, 118]⟩ : ByteArray), (⟨#[49, 49, 118]⟩ : ByteArray), (⟨#[49, 49, 118]⟩ : ByteArray), (⟨#[50, 50, 118, 114]⟩ : ByteArray), (⟨#[49, 56, 108]⟩ : ByteArray), (⟨#[49, 56, 108]⟩ : ByteArray), (⟨#[51, 51, 118]⟩ : ByteArray), (⟨#[49, 56, 108]⟩ : ByteArray), (⟨#[50, 50, 118]⟩ : ByteArray), (⟨#[49, 56, 108]⟩ : ByteArray), (⟨#[48, 48]⟩ : ByteArray), (⟨#[49, 49, 118]⟩ : ByteArray), (⟨#[49, 49, 118]⟩ : ByteArray), (⟨#[49, 56, 101]⟩ : ByteArray), (⟨#[50, 50, 118]⟩ : ByteArray), (⟨#[49, 56, 108]⟩ : ByteArray), (⟨#[49, 49, 118]⟩ : ByteArray), (⟨#[50, 50, 118]⟩ : ByteArray), (⟨#[50, 50, 118, 114]⟩ : ByteArray), (⟨#[50, 50, 118]⟩ : ByteArray), (⟨#[49, 49, 118]⟩ : ByteArray), (⟨#[50, 50, 118]⟩ : ByteArray), (⟨#[50, 50, 118]⟩ : ByteArray), (⟨#[50, 50, 118]⟩ : ByteArray), (⟨#[50, 50, 118]⟩ : ByteArray), (⟨#[49, 49, 110]⟩ : ByteArray), (⟨#[49, 49, 110]⟩ : ByteArray), (⟨#[49, 49, 118]⟩ : ByteArray), (⟨#[50, 50, 114, 118]⟩ : ByteArray), (⟨#[49, 49, 118]⟩ : ByteArray), (⟨#[51, 51, 118]⟩ : ByteArray), (⟨#[49, 56, 108]⟩ : ByteArray), (⟨#[50, 50, 114, 118]⟩ : ByteArray), (⟨#[50, 50, 114]⟩ : ByteArray), (⟨#[49, 56, 108]⟩ : ByteArray), (⟨#[51, 56, 101]⟩ : ByteArray), (⟨#[50, 50, 118]⟩ : ByteArray), (⟨#[49, 49, 118]⟩ : ByteArray), (⟨#[49, 49, 118]⟩ : ByteArray), (⟨#[49, 49, 118]⟩ : ByteArray), (⟨#[49, 49, 118]⟩ : ByteArray), (⟨#[51, 51, 118, 114, 118]⟩ : ByteArray), (⟨#[49, 56, 108]⟩ : ByteArray)] : List ByteArray)) := ⟨_, rfl⟩
  replace H : (some y101) = some r := by first | (rw [hy101]; with_reducible exact H) | (have H2_ := (Option.bind_some _ _).symm.trans H; rw [hy101]; with_reducible exact H2_) | (have H2_ := (Option.bind_some _ _).symm.trans H; with_reducible exact H2_) | with_reducible exact H | (rw [hy101]; exact H) | exact H
  have Ny101 := Aside0.mk hy101
  clear hy101
  obtain rfl := Option.some.inj H
  go_enter Try.func44, Try.ntmps44
  go_wp2_with (first | ((with_reducible refine gate_dst (N := 1) rfl ?_); refine Kd.R_lit Kd.string _ 9 ?hg (N := 1) ?hd (xs := ([(⟨#[49, 49, 118]⟩ : ByteArray), (⟨#[49, 56, 101]⟩ : ByteArray), (⟨#[49, 56, 108]⟩ : ByteArray), (⟨#[50, 50, 114, 118]⟩ : ByteArray), (⟨#[50, 50, 118]⟩ : ByteArray), (⟨#[49, 49, 118]⟩ : ByteArray), (⟨#[50, 56, 101]⟩ : ByteArray), (⟨#[49, 49, 118]⟩ : ByteArray), (⟨#[49, 49, 110]⟩ : ByteArray), (⟨#[49, 49, 110]⟩ : ByteArray), (⟨#[50, 50, 118]⟩ : ByteArray), (⟨#[49, 56, 108]⟩ : ByteArray), (⟨#[49, 56, 108]⟩ : ByteArray), (⟨#[49, 56, 108]⟩ : ByteArray), (⟨#[49, 56, 108]⟩ : ByteArray), (⟨#[50, 50, 114, 118]⟩ : ByteArray), (⟨#[50, 50, 101, 116]⟩ : ByteArray), (⟨#[49, 49, 118]⟩ : ByteArray), (⟨#[50, 50, 118]⟩ : ByteArray), (⟨#[49, 49, 118]⟩ : ByteArray), (⟨#[50, 50, 118]⟩ : ByteArray), (⟨#[50, 50, 118]⟩ : ByteArray), (⟨#[50, 50, 118]⟩ : ByteArray), (⟨#[51, 51, 118, 114, 118]⟩ : ByteArray), (⟨#[50, 51, 101]⟩ : ByteArray), (⟨#[50, 50, 101]⟩ : ByteArray), (⟨#[50, 51, 114, 118]⟩ : ByteArray), (⟨#[49, 49, 118]⟩ : ByteArray), (⟨#[49, 49, 118]⟩ : ByteArray), (⟨#[49, 49, 118]⟩ : ByteArray), (⟨#[49, 49, 118]⟩ : ByteArray), (⟨#[49, 49, 118]⟩ : ByteArray), (⟨#[49, 49, 118]⟩ : ByteArray), (⟨#[50, 50, 114, 118]⟩ : ByteArray), (⟨#[50, 50, 118]⟩ : ByteArray), (⟨#[50, 50, 118]⟩ : ByteArray), (⟨#[49, 49, 118]⟩ : ByteArray), (⟨#[49, 49, 118]⟩ : ByteArray), (⟨#[50, 50, 118, 114]⟩ : ByteArray), (⟨#[49, 56, 108]⟩ : ByteArray), (⟨#[49, 56, 108]⟩ : ByteArray), (⟨#[51, 51, 118]⟩ : ByteArray), (⟨#[49, 56, 108]⟩ : ByteArray), (⟨#[50, 50, 118]⟩ : ByteArray), (⟨#[49, 56, 108]⟩ : ByteArray), (⟨#[48, 48]⟩ : ByteArray), (⟨#[49, 49, 118]⟩ : ByteArray), (⟨#[49, 49, 118]⟩ : ByteArray), (⟨#[49, 56, 101]⟩ : ByteArray), (⟨#[50, 50, 118]⟩ : ByteArray), (⟨#[49, 56, 108]⟩ : ByteArray), (⟨#[49, 49, 118]⟩ : ByteArray), (⟨#[50, 50, 118]⟩ : ByteArray), (⟨#[50, 50, 118, 114]⟩ : ByteArray), (⟨#[50, 50, 118]⟩ : ByteArray), (⟨#[49, 49, 118]⟩ : ByteArray), (⟨#[50, 50, 118]⟩ : ByteArray), (⟨#[50, 50, 118]⟩ : ByteArray), (⟨#[50, 50, 118]⟩ : ByteArray), (⟨#[50, 50, 118]⟩ : ByteArray), (⟨#[49, 49, 110]⟩ : ByteArray), (⟨#[49, 49, 110]⟩ : ByteArray), (⟨#[49, 49, 118]⟩ : ByteArray), (⟨#[50, 50, 114, 118]⟩ : ByteArray), (⟨#[49, 49, 118]⟩ : ByteArray), (⟨#[51, 51, 118]⟩ : ByteArray), (⟨#[49, 56, 108]⟩ : ByteArray), (⟨#[50, 50, 114, 118]⟩ : ByteArray), (⟨#[50, 50, 114]⟩ : ByteArray), (⟨#[49, 56, 108]⟩ : ByteArray), (⟨#[51, 56, 101]⟩ : ByteArray), (⟨#[50, 50, 118]⟩ : ByteArray), (⟨#[49, 49, 118]⟩ : ByteArray), (⟨#[49, 49, 118]⟩ : ByteArray), (⟨#[49, 49, 118]⟩ : ByteArray), (⟨#[49, 49, 118]⟩ : ByteArray), (⟨#[51, 51, 118, 114, 118]⟩ : ByteArray), (⟨#[49, 56, 108]⟩ : ByteArray)] : List ByteArray)) (inner := [.string (⟨#[49, 49, 118]⟩ : ByteArray), .string (⟨#[49, 56, 101]⟩ : ByteArray), .string (⟨#[49, 56, 108]⟩ : ByteArray), .string (⟨#[50, 50, 114, 118]⟩ : ByteArray), .string (⟨#[50, 50, 118]⟩ : ByteArray), .string (⟨#[49, 49, 118]⟩ : ByteArray), .string (⟨#[50, 56, 101]⟩ : ByteArray), .string (⟨#[49, 49, 118]⟩ : ByteArray), .string (⟨#[49, 49, 110]⟩ : ByteArray), .string (⟨#[49, 49, 110]⟩ : ByteArray), .string (⟨#[50, 50, 118]⟩ : ByteArray), .string (⟨#[49, 56, 108]⟩ : ByteArray), .string (⟨#[49, 56, 108]⟩ : ByteArray), .string (⟨#[49, 56, 108]⟩ : ByteArray), .string (⟨#[49, 56, 108]⟩ : ByteArray), .string (⟨#[50, 50, 114, 118]⟩ : ByteArray), .string (⟨#[50, 50, 101, 116]⟩ : ByteArray), .string (⟨#[49, 49, 118]⟩ : ByteArray), .string (⟨#[50, 50, 118]⟩ : ByteArray), .string (⟨#[49, 49, 118]⟩ : ByteArray), .string (⟨#[50, 50, 118]⟩ : ByteArray), .string (⟨#[50, 50, 118]⟩ : ByteArray), .string (⟨#[50, 50, 118]⟩ : ByteArray), .string (⟨#[51, 51, 118, 114, 118]⟩ : ByteArray), .string (⟨#[50, 51, 101]⟩ : ByteArray), .string (⟨#[50, 50, 101]⟩ : ByteArray), .string (⟨#[50, 51, 114, 118]⟩ : ByteArray), .string (⟨#[49, 49, 118]⟩ : ByteArray), .string (⟨#[49, 49, 118]⟩ : ByteArray), .string (⟨#[49, 49, 118]⟩ : ByteArray), .string (⟨#[49, 49, 118]⟩ : ByteArray), .string (⟨#[49, 49, 118]⟩ : ByteArray), .string (⟨#[49, 49, 118]⟩ : ByteArray), .string (⟨#[50, 50, 114, 118]⟩ : ByteArray), .string (⟨#[50, 50, 118]⟩ : ByteArray), .string (⟨#[50, 50, 118]⟩ : ByteArray), .string (⟨#[49, 49, 118]⟩ : ByteArray), .string (⟨#[49, 49, 118]⟩ : ByteArray), .string (⟨#[50, 50, 118, 114]⟩ : ByteArray), .string (⟨#[49, 56, 108]⟩ : ByteArray), .string (⟨#[49, 56, 108]⟩ : ByteArray), .string (⟨#[51, 51, 118]⟩ : ByteArray), .string (⟨#[49, 56, 108]⟩ : ByteArray), .string (⟨#[50, 50, 118]⟩ : ByteArray), .string (⟨#[49, 56, 108]⟩ : ByteArray), .string (⟨#[48, 48]⟩ : ByteArray), .string (⟨#[49, 49, 118]⟩ : ByteArray), .string (⟨#[49, 49, 118]⟩ : ByteArray), .string (⟨#[49, 56, 101]⟩ : ByteArray), .string (⟨#[50, 50, 118]⟩ : ByteArray), .string (⟨#[49, 56, 108]⟩ : ByteArray), .string (⟨#[49, 49, 118]⟩ : ByteArray), .string (⟨#[50, 50, 118]⟩ : ByteArray), .string (⟨#[50, 50, 118, 114]⟩ : ByteArray), .string (⟨#[50, 50, 118]⟩ : ByteArray), .string (⟨#[49, 49, 118]⟩ : ByteArray), .string (⟨#[50, 50, 118]⟩ : ByteArray), .string (⟨#[50, 50, 118]⟩ : ByteArray), .string (⟨#[50, 50, 118]⟩ : ByteArray), .string (⟨#[50, 50, 118]⟩ : ByteArray), .string (⟨#[49, 49, 110]⟩ : ByteArray), .string (⟨#[49, 49, 110]⟩ : ByteArray), .string (⟨#[49, 49, 118]⟩ : ByteArray), .string (⟨#[50, 50, 114, 118]⟩ : ByteArray), .string (⟨#[49, 49, 118]⟩ : ByteArray), .string (⟨#[51, 51, 118]⟩ : ByteArray), .string (⟨#[49, 56, 108]⟩ : ByteArray), .string (⟨#[50, 50, 114, 118]⟩ : ByteArray), .string (⟨#[50, 50, 114]⟩ : ByteArray), .string (⟨#[49, 56, 108]⟩ : ByteArray), .string (⟨#[51, 56, 101]⟩ : ByteArray), .string (⟨#[50, 50, 118]⟩ : ByteArray), .string (⟨#[49, 49, 118]⟩ : ByteArray), .string (⟨#[49, 49, 118]⟩ : ByteArray), .string (⟨#[49, 49, 118]⟩ : ByteArray), .string (⟨#[49, 49, 118]⟩ : ByteArray), .string (⟨#[51, 51, 118, 114, 118]⟩ : ByteArray), .string (⟨#[49, 56, 108]⟩ : ByteArray)]) (ok := fun _ => True) (okp := fun _ => True) ?hr ?hp (fun _ hk => hk) trivial (Below.refl _ _) (Nat.le_refl _) (by simp) ?_; (case hd => rfl); (case hg => rfl); (case hr => first | (go_simp; done) | (go_simp; rfl)); (case hp => exact (Reps.one (show Kd.M Kd.string _ _ _ (⟨#[49, 49, 118]⟩ : ByteArray) [.string (⟨#[49, 49, 118]⟩ : ByteArray)] from rfl) (Reps.one (show Kd.M Kd.string _ _ _ (⟨#[49, 56, 101]⟩ : ByteArray) [.string (⟨#[49, 56, 101]⟩ : ByteArray)] from rfl) (Reps.one (show Kd.M Kd.string _ _ _ (⟨#[49, 56, 108]⟩ : ByteArray) [.string (⟨#[49, 56, 108]⟩ : ByteArray)] from rfl) (Reps.one (show Kd.M Kd.string _ _ _ (⟨#[50, 50, 114, 118]⟩ : ByteArray) [.string (⟨#[50, 50, 114, 118]⟩ : ByteArray)] from rfl) (Reps.one (show Kd.M Kd.string _ _ _ (⟨#[50, 50, 118]⟩ : ByteArray) [.string (⟨#[50, 50, 118]⟩ : ByteArray)] from rfl) (Reps.one (show Kd.M Kd.string _ _ _ (⟨#[49, 49, 118]⟩ : ByteArray) [.string (⟨#[49, 49, 118]⟩ : ByteArray)] from rfl) (Reps.one (show Kd.M Kd.string _ _ _ (⟨#[50, 56, 101]⟩ : ByteArray) [.string (⟨#[50, 56, 101]⟩ : ByteArray)] from rfl) (Reps.one (show Kd.M Kd.string _ _ _ (⟨#[49, 49, 118]⟩ : ByteArray) [.string (⟨#[49, 49, 118]⟩ : ByteArray)] from rfl) (Reps.one (show Kd.M Kd.string _ _ _ (⟨#[49, 49, 110]⟩ : ByteArray) [.string (⟨#[49, 49, 110]⟩ : ByteArray)] from rfl) (Reps.one (show Kd.M Kd.string _ _ _ (⟨#[49, 49, 110]⟩ : ByteArray) [.string (⟨#[49, 49, 110]⟩ : ByteArray)] from rfl) (Reps.one (show Kd.M Kd.string _ _ _ (⟨#[50, 50, 118]⟩ : ByteArray) [.string (⟨#[50, 50, 118]⟩ : ByteArray)] from rfl) (Reps.one (show Kd.M Kd.string _ _ _ (⟨#[49, 56, 108]⟩ : ByteArray) [.string (⟨#[49, 56, 108]⟩ : ByteArray)] from rfl) (Reps.one (show Kd.M Kd.string _ _ _ (⟨#[49, 56, 108]⟩ : ByteArray) [.string (⟨#[49, 56, 108]⟩ : ByteArray)] from rfl) (Reps.one (show Kd.M Kd.string _ _ _ (⟨#[49, 56, 108]⟩ : ByteArray) [.string (⟨#[49, 56, 108]⟩ : ByteArray)] from rfl) (Reps.one (show Kd.M Kd.string _ _ _ (⟨#[49, 56, 108]⟩ : ByteArray) [.string (⟨#[49, 56, 108]⟩ : ByteArray)] from rfl) (Reps.one (show Kd.M Kd.string _ _ _ (⟨#[50, 50, 114, 118]⟩ : ByteArray) [.string (⟨#[50, 50, 114, 118]⟩ : ByteArray)] from rfl) (Reps.one (show Kd.M Kd.string _ _ _ (⟨#[50, 50, 101, 116]⟩ : ByteArray) [.string (⟨#[50, 50, 101, 116]⟩ : ByteArray)] from rfl) (Reps.one (show Kd.M Kd.string _ _ _ (⟨#[49, 49, 118]⟩ : ByteArray) [.string (⟨#[49, 49, 118]⟩ : ByteArray)] from rfl) (Reps.one (show Kd.M Kd.string _ _ _ (⟨#[50, 50, 118]⟩ : ByteArray) [.string (⟨#[50, 50, 118]⟩ : ByteArray)] from rfl) (Reps.one (show Kd.M Kd.string _ _ _ (⟨#[49, 49, 118]⟩ : ByteArray) [.string (⟨#[49, 49, 118]⟩ : ByteArray)] from rfl) (Reps.one (show Kd.M Kd.string _ _ _ (⟨#[50, 50, 118]⟩ : ByteArray) [.string (⟨#[50, 50, 118]⟩ : ByteArray)] from rfl) (Reps.one (show Kd.M Kd.string _ _ _ (⟨#[50, 50, 118]⟩ : ByteArray) [.string (⟨#[50, 50, 118]⟩ : ByteArray)] from rfl) (Reps.one (show Kd.M Kd.string _ _ _ (⟨#[50, 50, 118]⟩ : ByteArray) [.string (⟨#[50, 50, 118]⟩ : ByteArray)] from rfl) (Reps.one (show Kd.M Kd.string _ _ _ (⟨#[51, 51, 118, 114, 118]⟩ : ByteArray) [.string (⟨#[51, 51, 118, 114, 118]⟩ : ByteArray)] from rfl) (Reps.one (show Kd.M Kd.string _ _ _ (⟨#[50, 51, 101]⟩ : ByteArray) [.string (⟨#[50, 51, 101]⟩ : ByteArray)] from rfl) (Reps.one (show Kd.M Kd.string _ _ _ (⟨#[50, 50, 101]⟩ : ByteArray) [.string (⟨#[50, 50, 101]⟩ : ByteArray)] from rfl) (Reps.one (show Kd.M Kd.string _ _ _ (⟨#[50, 51, 114, 118]⟩ : ByteArray) [.string (⟨#[50, 51, 114, 118]⟩ : ByteArray)] from rfl) (Reps.one (show Kd.M Kd.string _ _ _ (⟨#[49, 49, 118]⟩ : ByteArray) [.string (⟨#[49, 49, 118]⟩ : ByteArray)] from rfl) (Reps.one (show Kd.M Kd.string _ _ _ (⟨#[49, 49, 118]⟩ : ByteArray) [.string (⟨#[49, 49, 118]⟩ : ByteArray)] from rfl) (Reps.one (show Kd.M Kd.string _ _ _ (⟨#[49, 49, 118]⟩ : ByteArray) [.string (⟨#[49, 49, 118]⟩ : ByteArray)] from rfl) (Reps.one (show Kd.M Kd.string _ _ _ (⟨#[49, 49, 118]⟩ : ByteArray) [.string (⟨#[49, 49, 118]⟩ : ByteArray)] from rfl) (Reps.one (show Kd.M Kd.string _ _ _ (⟨#[49, 49, 118]⟩ : ByteArray) [.string (⟨#[49, 49, 118]⟩ : ByteArray)] from rfl) (Reps.one (show Kd.M Kd.string _ _ _ (⟨#[49, 49, 118]⟩ : ByteArray) [.string (⟨#[49, 49, 118]⟩ : ByteArray)] from rfl) (Reps.one (show Kd.M Kd.string _ _ _ (⟨#[50, 50, 114, 118]⟩ : ByteArray) [.string (⟨#[50, 50, 114, 118]⟩ : ByteArray)] from rfl) (Reps.one (show Kd.M Kd.string _ _ _ (⟨#[50, 50, 118]⟩ : ByteArray) [.string (⟨#[50, 50, 118]⟩ : ByteArray)] from rfl) (Reps.one (show Kd.M Kd.string _ _ _ (⟨#[50, 50, 118]⟩ : ByteArray) [.string (⟨#[50, 50, 118]⟩ : ByteArray)] from rfl) (Reps.one (show Kd.M Kd.string _ _ _ (⟨#[49, 49, 118]⟩ : ByteArray) [.string (⟨#[49, 49, 118]⟩ : ByteArray)] from rfl) (Reps.one (show Kd.M Kd.string _ _ _ (⟨#[49, 49, 118]⟩ : ByteArray) [.string (⟨#[49, 49, 118]⟩ : ByteArray)] from rfl) (Reps.one (show Kd.M Kd.string _ _ _ (⟨#[50, 50, 118, 114]⟩ : ByteArray) [.string (⟨#[50, 50, 118, 114]⟩ : ByteArray)] from rfl) (Reps.one (show Kd.M Kd.string _ _ _ (⟨#[49, 56, 108]⟩ : ByteArray) [.string (⟨#[49, 56, 108]⟩ : ByteArray)] from rfl) (Reps.one (show Kd.M Kd.string _ _ _ (⟨#[49, 56, 108]⟩ : ByteArray) [.string (⟨#[49, 56, 108]⟩ : ByteArray)] from rfl) (Reps.one (show Kd.M Kd.string _ _ _ (⟨#[51, 51, 118]⟩ : ByteArray) [.string (⟨#[51, 51, 118]⟩ : ByteArray)] from rfl) (Reps.one (show Kd.M Kd.string _ _ _ (⟨#[49, 56, 108]⟩ : ByteArray) [.string (⟨#[49, 56, 108]⟩ : ByteArray)] from rfl) (Reps.one (show Kd.M Kd.string _ _ _ (⟨#[50, 50, 118]⟩ : ByteArray) [.string (⟨#[50, 50, 118]⟩ : ByteArray)] from rfl) (Reps.one (show Kd.M Kd.string _ _ _ (⟨#[49, 56, 108]⟩ : ByteArray) [.string (⟨#[49, 56, 108]⟩ : ByteArray)] from rfl) (Reps.one (show Kd.M Kd.string _ _ _ (⟨#[48, 48]⟩ : ByteArray) [.string (⟨#[48, 48]⟩ : ByteArray)] from rfl) (Reps.one (show Kd.M Kd.string _ _ _ (⟨#[49, 49, 118]⟩ : ByteArray) [.string (⟨#[49, 49, 118]⟩ : ByteArray)] from rfl) (Reps.one (show Kd.M Kd.string _ _ _ (⟨#[49, 49, 118]⟩ : ByteArray) [.string (⟨#[49, 49, 118]⟩ : ByteArray)] from rfl) (Reps.one (show Kd.M Kd.string _ _ _ (⟨#[49, 56, 101]⟩ : ByteArray) [.string (⟨#[49, 56, 101]⟩ : ByteArray)] from rfl) (Reps.one (show Kd.M Kd.string _ _ _ (⟨#[50, 50, 118]⟩ : ByteArray) [.string (⟨#[50, 50, 118]⟩ : ByteArray)] from rfl) (Reps.one (show Kd.M Kd.string _ _ _ (⟨#[49, 56, 108]⟩ : ByteArray) [.string (⟨#[49, 56, 108]⟩ : ByteArray)] from rfl) (Reps.one (show Kd.M Kd.string _ _ _ (⟨#[49, 49, 118]⟩ : ByteArray) [.string (⟨#[49, 49, 118]⟩ : ByteArray)] from rfl) (Reps.one (show Kd.M Kd.string _ _ _ (⟨#[50, 50, 118]⟩ : ByteArray) [.string (⟨#[50, 50, 118]⟩ : ByteArray)] from rfl) (Reps.one (show Kd.M Kd.string _ _ _ (⟨#[50, 50, 118, 114]⟩ : ByteArray) [.string (⟨#[50, 50, 118, 114]⟩ : ByteArray)] from rfl) (Reps.one (show Kd.M Kd.string _ _ _ (⟨#[50, 50, 118]⟩ : ByteArray) [.string (⟨#[50, 50, 118]⟩ : ByteArray)] from rfl) (Reps.one (show Kd.M Kd.string _ _ _ (⟨#[49, 49, 118]⟩ : ByteArray) [.string (⟨#[49, 49, 118]⟩ : ByteArray)] from rfl) (Reps.one (show Kd.M Kd.string _ _ _ (⟨#[50, 50, 118]⟩ : ByteArray) [.string (⟨#[50, 50, 118]⟩ : ByteArray)] from rfl) (Reps.one (show Kd.M Kd.string _ _ _ (⟨#[50, 50, 118]⟩ : ByteArray) [.string (⟨#[50, 50, 118]⟩ : ByteArray)] from rfl) (Reps.one (show Kd.M Kd.string _ _ _ (⟨#[50, 50, 118]⟩ : ByteArray) [.string (⟨#[50, 50, 118]⟩ : ByteArray)] from rfl) (Reps.one (show Kd.M Kd.string _ _ _ (⟨#[50, 50, 118]⟩ : ByteArray) [.string (⟨#[50, 50, 118]⟩ : ByteArray)] from rfl) (Reps.one (show Kd.M Kd.string _ _ _ (⟨#[49, 49, 110]⟩ : ByteArray) [.string (⟨#[49, 49, 110]⟩ : ByteArray)] from rfl) (Reps.one (show Kd.M Kd.string _ _ _ (⟨#[49, 49, 110]⟩ : ByteArray) [.string (⟨#[49, 49, 110]⟩ : ByteArray)] from rfl) (Reps.one (show Kd.M Kd.string _ _ _ (⟨#[49, 49, 118]⟩ : ByteArray) [.string (⟨#[49, 49, 118]⟩ : ByteArray)] from rfl) (Reps.one (show Kd.M Kd.string _ _ _ (⟨#[50, 50, 114, 118]⟩ : ByteArray) [.string (⟨#[50, 50, 114, 118]⟩ : ByteArray)] from rfl) (Reps.one (show Kd.M Kd.string _ _ _ (⟨#[49, 49, 118]⟩ : ByteArray) [.string (⟨#[49, 49, 118]⟩ : ByteArray)] from rfl) (Reps.one (show Kd.M Kd.string _ _ _ (⟨#[51, 51, 118]⟩ : ByteArray) [.string (⟨#[51, 51, 118]⟩ : ByteArray)] from rfl) (Reps.one (show Kd.M Kd.string _ _ _ (⟨#[49, 56, 108]⟩ : ByteArray) [.string (⟨#[49, 56, 108]⟩ : ByteArray)] from rfl) (Reps.one (show Kd.M Kd.string _ _ _ (⟨#[50, 50, 114, 118]⟩ : ByteArray) [.string (⟨#[50, 50, 114, 118]⟩ : ByteArray)] from rfl) (Reps.one (show Kd.M Kd.string _ _ _ (⟨#[50, 50, 114]⟩ : ByteArray) [.string (⟨#[50, 50, 114]⟩ : ByteArray)] from rfl) (Reps.one (show Kd.M Kd.string _ _ _ (⟨#[49, 56, 108]⟩ : ByteArray) [.string (⟨#[49, 56, 108]⟩ : ByteArray)] from rfl) (Reps.one (show Kd.M Kd.string _ _ _ (⟨#[51, 56, 101]⟩ : ByteArray) [.string (⟨#[51, 56, 101]⟩ : ByteArray)] from rfl) (Reps.one (show Kd.M Kd.string _ _ _ (⟨#[50, 50, 118]⟩ : ByteArray) [.string (⟨#[50, 50, 118]⟩ : ByteArray)] from rfl) (Reps.one (show Kd.M Kd.string _ _ _ (⟨#[49, 49, 118]⟩ : ByteArray) [.string (⟨#[49, 49, 118]⟩ : ByteArray)] from rfl) (Reps.one (show Kd.M Kd.string _ _ _ (⟨#[49, 49, 118]⟩ : ByteArray) [.string (⟨#[49, 49, 118]⟩ : ByteArray)] from rfl) (Reps.one (show Kd.M Kd.string _ _ _ (⟨#[49, 49, 118]⟩ : ByteArray) [.string (⟨#[49, 49, 118]⟩ : ByteArray)] from rfl) (Reps.one (show Kd.M Kd.string _ _ _ (⟨#[49, 49, 118]⟩ : ByteArray) [.string (⟨#[49, 49, 118]⟩ : ByteArray)] from rfl) (Reps.one (show Kd.M Kd.string _ _ _ (⟨#[51, 51, 118, 114, 118]⟩ : ByteArray) [.string (⟨#[51, 51, 118, 114, 118]⟩ : ByteArray)] from rfl) (Reps.one (show Kd.M Kd.string _ _ _ (⟨#[49, 56, 108]⟩ : ByteArray) [.string (⟨#[49, 56, 108]⟩ : ByteArray)] from rfl) (Reps.none _ _)))))))))))))))))))))))))))))))))))))))))))))))))))))))))))))))))))))))))))))))); intro v102 w1 ho2 hb hg_ hnew_; clear hg_ hnew_; (first | rw [← Ny101.out] at ho2 | (simp only [Int.reduceToNat] at ho2; rw [← Ny101.out] at ho2)); have n0_ := Aside0.mk (Kd.R_lower ho2 (below_size (pbx HB))); have n1_ := Aside0.mk (below_step (pbx HB) hb); clear HB; have HO103 := n0_; have HB := n1_; clear n0_ n1_; clear hb ho2))
  go_ret
  exact ⟨_, by first | rfl | (simp [errW_none, errW_some] <;> rfl) | (simp [*, errW_none, errW_some] <;> rfl), by (with_reducible repeat (first | apply Kd.R_alloc | apply Kd.R_drewN | apply Kd.R_drew)); exact HO103.out, pbx HB⟩

end Go.Proofs.Ytjbdljolpkkhcaa.X
namespace Go.Proofs.Ytjbdljolpkkhcaa.X
open Go.RowKit Go.Proofs.YtjbdljolpkkhcaaW.PrintWords Go.Proofs.YtjbdljolpkkhcaaW.PrintLast Go.Proofs.YtjbdljolpkkhcaaW.PrintMore
attribute [local go_sem] max2_int min2_int max_two min_two max_three min_three max_four min_four   -- for this text's walks alone
set_option linter.unusedVariables false
set_option linter.unusedSimpArgs false

/-! ### oculusref19_Find: function 19 -/
def oculusref19_Find.l0 : Nat → ByteArray → List ByteArray → Int → Option (Int)
  | 0, _, _, _ => none
  | k + 1, x0, x3, x4 => if x4 < (x3.length : Int) then (if 0 ≤ x4 then (if (rdOf ByteArray.empty x3 x4).toList = x0.toList then (some (wrap64 (x4 + 1))) else (oculusref19_Find.l0 k x0 x3 (wrap64 (x4 + 1)))) else (none)) else (some 0)
def oculusref19_Find.f (k : Nat) (a0 : ByteArray) : Option (Int) := (oculusref19_Names.f).bind fun t101 => (oculusref19_Find.l0 k a0 t101 0)
theorem oculusref19_Find.mono_l : ∀ k, (∀ y0 y1 y2, LeO (oculusref19_Find.l0 k y0 y1 y2) (oculusref19_Find.l0 (k + 1) y0 y1 y2))
  | 0 => fun _ _ _ r h => by simp [oculusref19_Find.l0] at h
  | k + 1 => by
    have ih0 := oculusref19_Find.mono_l k
    · intro y0 y1 y2
      unfold oculusref19_Find.l0
      repeat' first
      | (with_reducible exact ih0 _ _ _)
      | (with_reducible exact LeO.refl _)
      | (with_reducible exact LeO.none _)
      | (with_reducible refine LeO.ite ?_ ?_)
      | (with_reducible refine LeO.bind ?_ (fun _ => ?_))
      | exact ih0 _ _ _
      | exact LeO.none _
      | refine LeO.ite ?_ ?_
      | refine LeO.bind ?_ (fun _ => ?_)
theorem oculusref19_Find.mono : ∀ a0 k, LeO (oculusref19_Find.f k a0) (oculusref19_Find.f (k + 1) a0) := by
  intro a0 k
  have ih0 := oculusref19_Find.mono_l k
  unfold oculusref19_Find.f
  repeat' first
      | (with_reducible exact ih0 _ _ _)
      | (with_reducible exact LeO.refl _)
      | (with_reducible exact LeO.none _)
      | (with_reducible refine LeO.ite ?_ ?_)
      | (with_reducible refine LeO.bind ?_ (fun _ => ?_))
      | exact ih0 _ _ _
      | exact LeO.none _
      | refine LeO.ite ?_ ?_
      | refine LeO.bind ?_ (fun _ => ?_)
set_option maxHeartbeats 8000000 in
set_option maxRecDepth 100000 in
theorem oculusref19_Find.calls (k : Nat) (a0 : ByteArray) (r : Int) (w : World) (h : oculusref19_Find.f k a0 = some r) :
    Calls Try.prog 19 #[.string a0] w fun e w' => e = .returned (.int .i64 r) ∧ Below w.heap.size w w' := by
  have HB := Aside0.mk (Below.refl w.heap.size w)
  have H : ((oculusref19_Names.f).bind fun t101 => (oculusref19_Find.l0 k a0 t101 0)) = some r := h
  clear h
  replace H := Option.bind_eq_some_iff.mp H
  obtain ⟨t101, A20, H⟩ := H
  replace H : (oculusref19_Find.l0 k a0 t101 0) = some r := H
  have A2 := Aside0.mk A20
  clear A20
  have H' := Aside0.mk H
  clear H
  go_enter Try.func19, Try.ntmps19
  go_wp2_with (first | ((with_reducible refine gate_callee (f := 43) rfl ?_); refine goesL_ (some 5) rfl rfl Try.func43 (by kernel_rfl) rfl #[] rfl (by (try simp only [List.map_toArray, List.map_cons, List.map_nil]); first | done | rfl | (simp only [List.length_drop, List.length_take]; rfl)) ?_; (with_reducible refine (oculusref19_Names.calls  t101 _ A2.out).mono ?_); rintro e w3 ⟨v102, rfl, ho0, hb⟩; refine ⟨_, rfl, ?_⟩; have n0_ := Aside0.mk (Kd.R_lower ho0 (below_size (pbx HB))); have n1_ := Aside0.mk (below_step (pbx HB) hb); clear HB; have HO103 := n0_; have HB := n1_; clear n0_ n1_; (try clear hb); (try clear hb2); (try clear hk); (try clear hi); (try clear ho0)))
  go_loopg [4] k (fun kq v4 w' => ∃ (x4_1 : Int), v4 = .int .i64 x4_1 ∧ Aside0 (oculusref19_Find.l0 kq a0 t101 x4_1 = some r) ∧ Aside0 (kq ≤ k) ∧ Aside0 (Kd.R Kd.string 9 w' w.heap.size (fun _ => True) v102 t101) ∧ Aside0 (Below w.heap.size w w'))
  case atStart => exact ⟨(0), (by first | rfl | (simp; done) | (simp [*]; done)), H', ⟨Nat.le_refl _⟩, ⟨by (with_reducible repeat (first | apply Kd.R_alloc | apply Kd.R_drewN | apply Kd.R_drew)); exact HO103.out⟩, ⟨pbx HB⟩⟩
  case round =>
    clear H'
    try clear c1
    try clear p2
    obtain ⟨x4_1, rfl, HA, HK1, HO_3, HB⟩ := hrel
    cases gk with
    | zero => exact absurd HA.out (by simp [oculusref19_Find.l0])
    | succ k1 =>
      have H := HA.out
      clear HA
      simp only [oculusref19_Find.l0] at H
      by_cases c4 : x4_1 < (t101.length : Int)
      · rw [if_pos c4] at H
        have c4b0 : decide (x4_1 < (t101.length : Int)) = true := decide_eq_true c4
        clear c4
        by_cases c5 : 0 ≤ x4_1
        · rw [if_pos c5] at H
          have c5b0 : decide (0 ≤ x4_1) = true := decide_eq_true c5
          clear c5
          by_cases c6 : (rdOf ByteArray.empty t101 x4_1).toList = a0.toList
          · rw [if_pos c6] at H
            have c6b0 : ((rdOf ByteArray.empty t101 x4_1).toList == a0.toList) = true := beq_iff_eq.mpr c6
            have c6b1 : ((rdOf ByteArray.empty t101 x4_1).toList != a0.toList) = false := bne_eq_false_iff_eq.mpr c6
            clear c6
            obtain rfl := Option.some.inj H
            obtain ⟨Ao7, co7, eo7⟩ := Kd.R_slice HO_3.out
            subst eo7
            have p104 : 0 ≤ (x4_1 : Int) := of_decide_eq_true (by first | (with_reducible assumption) | assumption)
            have q104 : x4_1 < (t101.length : Int) := of_decide_eq_true (by first | (with_reducible assumption) | assumption)
            obtain ⟨ad104, e104, hx104_0⟩ := Kd.at_string (Kd.R_reads' HO_3.out).2.2 x4_1 p104 q104
            cases e104
            replace p104 := eq_true p104
            replace q104 := eq_true q104
            go_wp2
            go_ret
            exact ⟨by first | rfl | (simp [errW_none, errW_some] <;> rfl) | (simp [*, errW_none, errW_some] <;> rfl), pbx HB⟩
          · rw [if_neg c6] at H
            have c6b0 : ((rdOf ByteArray.empty t101 x4_1).toList == a0.toList) = false := beq_eq_false_iff_ne.mpr c6
            have c6b1 : ((rdOf ByteArray.empty t101 x4_1).toList != a0.toList) = true := bne_iff_ne.mpr c6
            have H' := Aside0.mk H
            clear H
            obtain ⟨Ao8, co8, eo8⟩ := Kd.R_slice HO_3.out
            subst eo8
            have p104 : 0 ≤ (x4_1 : Int) := of_decide_eq_true (by first | (with_reducible assumption) | assumption)
            have q104 : x4_1 < (t101.length : Int) := of_decide_eq_true (by first | (with_reducible assumption) | assumption)
            obtain ⟨ad104, e104, hx104_0⟩ := Kd.at_string (Kd.R_reads' HO_3.out).2.2 x4_1 p104 q104
            cases e104
            replace p104 := eq_true p104
            replace q104 := eq_true q104
            go_wp2
            go_roundg k1
            case measure => have := HK1.out; omega
            case rel => exact ⟨(wrap64 (x4_1 + 1)), (by first | rfl | (simp; done) | (simp [*]; done)), H', ⟨by have := HK1.out; omega⟩, ⟨by (with_reducible repeat (first | apply Kd.R_alloc | apply Kd.R_drewN | apply Kd.R_drew)); exact HO_3.out⟩, ⟨pbx HB⟩⟩
        · rw [if_neg c5] at H
          exact absurd H (by simp)
      · rw [if_neg c4] at H
        have c4b0 : decide (x4_1 < (t101.length : Int)) = false := decide_eq_false c4
        clear c4
        obtain rfl := Option.some.inj H
        obtain ⟨Ao9, co9, eo9⟩ := Kd.R_slice HO_3.out
        subst eo9
        go_wp2
        go_ret
        exact ⟨by first | rfl | (simp [errW_none, errW_some] <;> rfl) | (simp [*, errW_none, errW_some] <;> rfl), pbx HB⟩

end Go.Proofs.Ytjbdljolpkkhcaa.X
namespace Go.Proofs.Ytjbdljolpkkhcaa.X
open Go.RowKit Go.Proofs.YtjbdljolpkkhcaaW.PrintWords Go.Proofs.YtjbdljolpkkhcaaW.PrintLast Go.Proofs.YtjbdljolpkkhcaaW.PrintMore
attribute [local go_sem] max2_int min2_int max_two min_two max_three min_three max_four min_four   -- for this text's walks alone
set_option linter.unusedVariables false
set_option linter.unusedSimpArgs false

/-! ### oculusref19_Name: function 21 -/
def oculusref19_Name.f (a0 : Int) : Option (ByteArray) := if a0 < 1 then (some (⟨#[]⟩ : ByteArray)) else (if a0 > 78 then (some (⟨#[]⟩ : ByteArray)) else ((oculusref19_Names.f).bind fun t101 => (if 0 ≤ (wrap64 (a0 - 1)) then (if (wrap64 (a0 - 1)) < (t101.length : Int) then (some (rdOf ByteArray.empty t101 (wrap64 (a0 - 1)))) else (none)) else (none))))
set_option maxHeartbeats 8000000 in
set_option maxRecDepth 100000 in
theorem oculusref19_Name.calls (a0 : Int) (r : ByteArray) (w : World) (h : oculusref19_Name.f a0 = some r) :
    Calls Try.prog 21 #[.int .i64 a0] w fun e w' => e = .returned (.string r) ∧ Below w.heap.size w w' := by
  have HB := Aside0.mk (Below.refl w.heap.size w)
  have H : (if a0 < 1 then (some (⟨#[]⟩ : ByteArray)) else (if a0 > 78 then (some (⟨#[]⟩ : ByteArray)) else ((oculusref19_Names.f).bind fun t101 => (if 0 ≤ (wrap64 (a0 - 1)) then (if (wrap64 (a0 - 1)) < (t101.length : Int) then (some (rdOf ByteArray.empty t101 (wrap64 (a0 - 1)))) else (none)) else (none))))) = some r := h
  clear h
  by_cases c2 : a0 < 1
  · rw [if_pos c2] at H
    have c2b0 : decide (a0 < 1) = true := decide_eq_true c2
    clear c2
    obtain rfl := Option.some.inj H
    go_enter Try.func21, Try.ntmps21
    go_wp2
    go_ret
    exact ⟨by first | rfl | (simp [errW_none, errW_some] <;> rfl) | (simp [*, errW_none, errW_some] <;> rfl), pbx HB⟩
  · rw [if_neg c2] at H
    have c2b0 : decide (a0 < 1) = false := decide_eq_false c2
    clear c2
    by_cases c3 : a0 > 78
    · rw [if_pos c3] at H
      have c3b0 : decide (78 < a0) = true := decide_eq_true c3
      clear c3
      obtain rfl := Option.some.inj H
      go_enter Try.func21, Try.ntmps21
      go_wp2
      go_ret
      exact ⟨by first | rfl | (simp [errW_none, errW_some] <;> rfl) | (simp [*, errW_none, errW_some] <;> rfl), pbx HB⟩
    · rw [if_neg c3] at H
      have c3b0 : decide (78 < a0) = false := decide_eq_false c3
      clear c3
      replace H := Option.bind_eq_some_iff.mp H
      obtain ⟨t101, A40, H⟩ := H
      replace H : (if 0 ≤ (wrap64 (a0 - 1)) then (if (wrap64 (a0 - 1)) < (t101.length : Int) then (some (rdOf ByteArray.empty t101 (wrap64 (a0 - 1)))) else (none)) else (none)) = some r := H
      have A4 := Aside0.mk A40
      clear A40
      obtain ⟨ji5, hji5⟩ : ∃ j_ : Int, (wrap64 (a0 - 1)) = j_ := ⟨_, rfl⟩
      replace H : (if 0 ≤ (ji5) then (if (ji5) < (t101.length : Int) then (some (rdOf ByteArray.empty t101 (ji5))) else (none)) else (none)) = some r := by first | (rw [hji5] at H; exact H) | (simp only [hji5] at H ⊢; exact H)
      (try rw [hji5] at A4)
      have hji5w : (IntKind.i64.wrap (a0 - 1)) = ji5 := (i64_w _).trans hji5
      by_cases c6 : 0 ≤ (ji5)
      · rw [if_pos c6] at H
        have c6b0 : decide (0 ≤ (ji5)) = true := decide_eq_true c6
        clear c6
        by_cases c7 : (ji5) < (t101.length : Int)
        · rw [if_pos c7] at H
          have c7b0 : decide ((ji5) < (t101.length : Int)) = true := decide_eq_true c7
          clear c7
          obtain rfl := Option.some.inj H
          go_enter Try.func21, Try.ntmps21
          go_wp2_with (first | ((with_reducible refine gate_callee (f := 43) rfl ?_); refine goesL_ (some 9) rfl rfl Try.func43 (by kernel_rfl) rfl #[] rfl (by (try simp only [List.map_toArray, List.map_cons, List.map_nil]); first | done | rfl | (simp only [List.length_drop, List.length_take]; rfl)) ?_; (with_reducible refine (oculusref19_Names.calls  t101 _ A4.out).mono ?_); rintro e w8 ⟨v102, rfl, ho0, hb⟩; refine ⟨_, rfl, ?_⟩; have n0_ := Aside0.mk (Kd.R_lower ho0 (below_size (pbx HB))); have n1_ := Aside0.mk (below_step (pbx HB) hb); clear HB; have HO103 := n0_; have HB := n1_; clear n0_ n1_; (try clear hb); (try clear hb2); (try clear hk); (try clear hi); (try clear ho0); obtain ⟨Ao9, co9, eo9⟩ := Kd.R_slice HO103.out; subst eo9; have p104 : 0 ≤ ((ji5) : Int) := of_decide_eq_true (by first | (with_reducible assumption) | assumption); have q104 : (ji5) < (t101.length : Int) := of_decide_eq_true (by first | (with_reducible assumption) | assumption); obtain ⟨ad104, e104, hx104_0⟩ := Kd.at_string (Kd.R_reads' HO103.out).2.2 (ji5) p104 q104; cases e104; replace p104 := eq_true p104; replace q104 := eq_true q104))
          go_ret
          exact ⟨by first | rfl | (simp [errW_none, errW_some] <;> rfl) | (simp only [← hji5]; first | rfl | (simp [errW_none, errW_some] <;> rfl)) | (simp [*, errW_none, errW_some] <;> rfl), pbx HB⟩
        · rw [if_neg c7] at H
          exact absurd H (by simp)
      · rw [if_neg c6] at H
        exact absurd H (by simp)

end Go.Proofs.Ytjbdljolpkkhcaa.X
namespace Go.Proofs.Ytjbdljolpkkhcaa.X
open Go.RowKit Go.Proofs.YtjbdljolpkkhcaaW.PrintWords Go.Proofs.YtjbdljolpkkhcaaW.PrintLast Go.Proofs.YtjbdljolpkkhcaaW.PrintMore
attribute [local go_sem] max2_int min2_int max_two min_two max_three min_three max_four min_four   -- for this text's walks alone
set_option linter.unusedVariables false
set_option linter.unusedSimpArgs false

/-! ### oculusref19_Fits: function 23 -/
def oculusref19_Fits.f (a0 : Int) (a1 : Int) : Option (Bool) := if a0 < 1 then (some false) else (if a0 > 78 then (some false) else ((oculusref19_Rows.f).bind fun t101 => (if 0 ≤ (wrap64 (a0 - 1)) then (if (wrap64 (a0 - 1)) < (t101.length : Int) then (if 0 < ((rdOf ByteArray.empty t101 (wrap64 (a0 - 1))).size : Int) then (if a1 ≥ (wrap64 ((wrap64 (bt (rdOf ByteArray.empty t101 (wrap64 (a0 - 1))) 0)) - 48)) then (if 1 < ((rdOf ByteArray.empty t101 (wrap64 (a0 - 1))).size : Int) then (some (decide (a1 ≤ (wrap64 ((wrap64 (bt (rdOf ByteArray.empty t101 (wrap64 (a0 - 1))) 1)) - 48))))) else (none)) else (some false)) else (none)) else (none)) else (none))))
set_option maxHeartbeats 8000000 in
set_option maxRecDepth 100000 in
theorem oculusref19_Fits.calls (a0 : Int) (a1 : Int) (r : Bool) (w : World) (h : oculusref19_Fits.f a0 a1 = some r) :
    Calls Try.prog 23 #[.int .i64 a0, .int .i64 a1] w fun e w' => e = .returned (.bool r) ∧ Below w.heap.size w w' := by
  have HB := Aside0.mk (Below.refl w.heap.size w)
  have H : (if a0 < 1 then (some false) else (if a0 > 78 then (some false) else ((oculusref19_Rows.f).bind fun t101 => (if 0 ≤ (wrap64 (a0 - 1)) then (if (wrap64 (a0 - 1)) < (t101.length : Int) then (if 0 < ((rdOf ByteArray.empty t101 (wrap64 (a0 - 1))).size : Int) then (if a1 ≥ (wrap64 ((wrap64 (bt (rdOf ByteArray.empty t101 (wrap64 (a0 - 1))) 0)) - 48)) then (if 1 < ((rdOf ByteArray.empty t101 (wrap64 (a0 - 1))).size : Int) then (some (decide (a1 ≤ (wrap64 ((wrap64 (bt (rdOf ByteArray.empty t101 (wrap64 (a0 - 1))) 1)) - 48))))) else (none)) else (some false)) else (none)) else (none)) else (none))))) = some r := h
  clear h
  by_cases c3 : a0 < 1
  · rw [if_pos c3] at H
    have c3b0 : decide (a0 < 1) = true := decide_eq_true c3
    clear c3
    obtain rfl := Option.some.inj H
    go_enter Try.func23, Try.ntmps23
    go_wp2
    go_ret
    exact ⟨by first | rfl | (simp [errW_none, errW_some] <;> rfl) | (simp [*, errW_none, errW_some] <;> rfl), pbx HB⟩
  · rw [if_neg c3] at H
    have c3b0 : decide (a0 < 1) = false := decide_eq_false c3
    clear c3
    by_cases c4 : a0 > 78
    · rw [if_pos c4] at H
      have c4b0 : decide (78 < a0) = true := decide_eq_true c4
      clear c4
      obtain rfl := Option.some.inj H
      go_enter Try.func23, Try.ntmps23
      go_wp2
      go_ret
      exact ⟨by first | rfl | (simp [errW_none, errW_some] <;> rfl) | (simp [*, errW_none, errW_some] <;> rfl), pbx HB⟩
    · rw [if_neg c4] at H
      have c4b0 : decide (78 < a0) = false := decide_eq_false c4
      clear c4
      replace H := Option.bind_eq_some_iff.mp H
      obtain ⟨t101, A50, H⟩ := H
      replace H : (if 0 ≤ (wrap64 (a0 - 1)) then (if (wrap64 (a0 - 1)) < (t101.length : Int) then (if 0 < ((rdOf ByteArray.empty t101 (wrap64 (a0 - 1))).size : Int) then (if a1 ≥ (wrap64 ((wrap64 (bt (rdOf ByteArray.empty t101 (wrap64 (a0 - 1))) 0)) - 48)) then (if 1 < ((rdOf ByteArray.empty t101 (wrap64 (a0 - 1))).size : Int) then (some (decide (a1 ≤ (wrap64 ((wrap64 (bt (rdOf ByteArray.empty t101 (wrap64 (a0 - 1))) 1)) - 48))))) else (none)) else (some false)) else (none)) else (none)) else (none)) = some r := H
      have A5 := Aside0.mk A50
      clear A50
      obtain ⟨ji6, hji6⟩ : ∃ j_ : Int, (wrap64 (a0 - 1)) = j_ := ⟨_, rfl⟩
      replace H : (if 0 ≤ (ji6) then (if (ji6) < (t101.length : Int) then (if 0 < ((rdOf ByteArray.empty t101 (ji6)).size : Int) then (if a1 ≥ (wrap64 ((wrap64 (bt (rdOf ByteArray.empty t101 (ji6)) 0)) - 48)) then (if 1 < ((rdOf ByteArray.empty t101 (ji6)).size : Int) then (some (decide (a1 ≤ (wrap64 ((wrap64 (bt (rdOf ByteArray.empty t101 (ji6)) 1)) - 48))))) else (none)) else (some false)) else (none)) else (none)) else (none)) = some r := by first | (rw [hji6] at H; exact H) | (simp only [hji6] at H ⊢; exact H)
      (try rw [hji6] at A5)
      have hji6w : (IntKind.i64.wrap (a0 - 1)) = ji6 := (i64_w _).trans hji6
      by_cases c7 : 0 ≤ (ji6)
      · rw [if_pos c7] at H
        have c7b0 : decide (0 ≤ (ji6)) = true := decide_eq_true c7
        clear c7
        by_cases c8 : (ji6) < (t101.length : Int)
        · rw [if_pos c8] at H
          have c8b0 : decide ((ji6) < (t101.length : Int)) = true := decide_eq_true c8
          clear c8
          by_cases c9 : 0 < ((rdOf ByteArray.empty t101 (ji6)).size : Int)
          · rw [if_pos c9] at H
            have c9b0 : decide (0 < ((rdOf ByteArray.empty t101 (ji6)).size : Int)) = true := decide_eq_true c9
            have c9b1 : decide (0 < (rdOf ByteArray.empty t101 (ji6)).size) = true := decide_eq_true (by omega)
            clear c9
            by_cases c11 : a1 ≥ (wrap64 ((wrap64 (bt (rdOf ByteArray.empty t101 (ji6)) 0)) - 48))
            · rw [if_pos c11] at H
              have c11b0 : decide ((wrap64 ((wrap64 (bt (rdOf ByteArray.empty t101 (ji6)) 0)) - 48)) ≤ a1) = true := decide_eq_true c11
              clear c11
              by_cases c12 : 1 < ((rdOf ByteArray.empty t101 (ji6)).size : Int)
              · rw [if_pos c12] at H
                have c12b0 : decide (1 < ((rdOf ByteArray.empty t101 (ji6)).size : Int)) = true := decide_eq_true c12
                have c12b1 : decide (1 < (rdOf ByteArray.empty t101 (ji6)).size) = true := decide_eq_true (by omega)
                clear c12
                obtain rfl := Option.some.inj H
                go_enter Try.func23, Try.ntmps23
                go_wp2_with (first | ((with_reducible refine gate_callee (f := 44) rfl ?_); refine goesL_ (some 12) rfl rfl Try.func44 (by kernel_rfl) rfl #[] rfl (by (try simp only [List.map_toArray, List.map_cons, List.map_nil]); first | done | rfl | (simp only [List.length_drop, List.length_take]; rfl)) ?_; (with_reducible refine (oculusref19_Rows.calls  t101 _ A5.out).mono ?_); rintro e w14 ⟨v102, rfl, ho0, hb⟩; refine ⟨_, rfl, ?_⟩; have n0_ := Aside0.mk (Kd.R_lower ho0 (below_size (pbx HB))); have n1_ := Aside0.mk (below_step (pbx HB) hb); clear HB; have HO103 := n0_; have HB := n1_; clear n0_ n1_; (try clear hb); (try clear hb2); (try clear hk); (try clear hi); (try clear ho0); obtain ⟨Ao15, co15, eo15⟩ := Kd.R_slice HO103.out; subst eo15; have p104 : 0 ≤ ((ji6) : Int) := of_decide_eq_true (by first | (with_reducible assumption) | assumption); have q104 : (ji6) < (t101.length : Int) := of_decide_eq_true (by first | (with_reducible assumption) | assumption); obtain ⟨ad104, e104, hx104_0⟩ := Kd.at_string (Kd.R_reads' HO103.out).2.2 (ji6) p104 q104; cases e104; replace p104 := eq_true p104; replace q104 := eq_true q104; have p10 : 0 ≤ (0 : Int) := (by omega); have q10 : 0 < (rdOf ByteArray.empty t101 (ji6)).size := (by have : (0 : Int) < ((rdOf ByteArray.empty t101 (ji6)).size : Int) := of_decide_eq_true (by first | (with_reducible assumption) | assumption); omega); have hx10 : ∀ h : 0 < (rdOf ByteArray.empty t101 (ji6)).size, (((rdOf ByteArray.empty t101 (ji6))[0]'h).toNat : Int) = bt (rdOf ByteArray.empty t101 (ji6)) 0 := bt_at (rdOf ByteArray.empty t101 (ji6)) 0; clear p10; have qi10 : (0 < ((rdOf ByteArray.empty t101 (ji6)).size : Int)) = True := eq_true (of_decide_eq_true (by first | (with_reducible assumption) | assumption)); replace q10 := eq_true q10; have p13 : 0 ≤ (1 : Int) := (by omega); have q13 : 1 < (rdOf ByteArray.empty t101 (ji6)).size := (by have : (1 : Int) < ((rdOf ByteArray.empty t101 (ji6)).size : Int) := of_decide_eq_true (by first | (with_reducible assumption) | assumption); omega); have hx13 : ∀ h : 1 < (rdOf ByteArray.empty t101 (ji6)).size, (((rdOf ByteArray.empty t101 (ji6))[1]'h).toNat : Int) = bt (rdOf ByteArray.empty t101 (ji6)) 1 := bt_at (rdOf ByteArray.empty t101 (ji6)) 1; clear p13; have qi13 : (1 < ((rdOf ByteArray.empty t101 (ji6)).size : Int)) = True := eq_true (of_decide_eq_true (by first | (with_reducible assumption) | assumption)); replace q13 := eq_true q13))
                go_ret
                exact ⟨by first | rfl | (simp [errW_none, errW_some] <;> rfl) | (simp only [← hji6]; first | rfl | (simp [errW_none, errW_some] <;> rfl)) | (simp [*, errW_none, errW_some] <;> rfl), pbx HB⟩
              · rw [if_neg c12] at H
                exact absurd H (by simp)
            · rw [if_neg c11] at H
              have c11b0 : decide ((wrap64 ((wrap64 (bt (rdOf ByteArray.empty t101 (ji6)) 0)) - 48)) ≤ a1) = false := decide_eq_false c11
              clear c11
              obtain rfl := Option.some.inj H
              go_enter Try.func23, Try.ntmps23
              go_wp2_with (first | ((with_reducible refine gate_callee (f := 44) rfl ?_); refine goesL_ (some 12) rfl rfl Try.func44 (by kernel_rfl) rfl #[] rfl (by (try simp only [List.map_toArray, List.map_cons, List.map_nil]); first | done | rfl | (simp only [List.length_drop, List.length_take]; rfl)) ?_; (with_reducible refine (oculusref19_Rows.calls  t101 _ A5.out).mono ?_); rintro e w16 ⟨v102, rfl, ho0, hb⟩; refine ⟨_, rfl, ?_⟩; have n0_ := Aside0.mk (Kd.R_lower ho0 (below_size (pbx HB))); have n1_ := Aside0.mk (below_step (pbx HB) hb); clear HB; have HO103 := n0_; have HB := n1_; clear n0_ n1_; (try clear hb); (try clear hb2); (try clear hk); (try clear hi); (try clear ho0); obtain ⟨Ao17, co17, eo17⟩ := Kd.R_slice HO103.out; subst eo17; have p104 : 0 ≤ ((ji6) : Int) := of_decide_eq_true (by first | (with_reducible assumption) | assumption); have q104 : (ji6) < (t101.length : Int) := of_decide_eq_true (by first | (with_reducible assumption) | assumption); obtain ⟨ad104, e104, hx104_0⟩ := Kd.at_string (Kd.R_reads' HO103.out).2.2 (ji6) p104 q104; cases e104; replace p104 := eq_true p104; replace q104 := eq_true q104; have p10 : 0 ≤ (0 : Int) := (by omega); have q10 : 0 < (rdOf ByteArray.empty t101 (ji6)).size := (by have : (0 : Int) < ((rdOf ByteArray.empty t101 (ji6)).size : Int) := of_decide_eq_true (by first | (with_reducible assumption) | assumption); omega); have hx10 : ∀ h : 0 < (rdOf ByteArray.empty t101 (ji6)).size, (((rdOf ByteArray.empty t101 (ji6))[0]'h).toNat : Int) = bt (rdOf ByteArray.empty t101 (ji6)) 0 := bt_at (rdOf ByteArray.empty t101 (ji6)) 0; clear p10; have qi10 : (0 < ((rdOf ByteArray.empty t101 (ji6)).size : Int)) = True := eq_true (of_decide_eq_true (by first | (with_reducible assumption) | assumption)); replace q10 := eq_true q10))
              go_ret
              exact ⟨by first | rfl | (simp [errW_none, errW_some] <;> rfl) | (simp only [← hji6]; first | rfl | (simp [errW_none, errW_some] <;> rfl)) | (simp [*, errW_none, errW_some] <;> rfl), pbx HB⟩
          · rw [if_neg c9] at H
            exact absurd H (by simp)
        · rw [if_neg c8] at H
          exact absurd H (by simp)
      · rw [if_neg c7] at H
        exact absurd H (by simp)

end Go.Proofs.Ytjbdljolpkkhcaa.X
namespace Go.Proofs.Ytjbdljolpkkhcaa.X
open Go.RowKit Go.Proofs.YtjbdljolpkkhcaaW.PrintWords Go.Proofs.YtjbdljolpkkhcaaW.PrintLast Go.Proofs.YtjbdljolpkkhcaaW.PrintMore
attribute [local go_sem] max2_int min2_int max_two min_two max_three min_three max_four min_four   -- for this text's walks alone
set_option linter.unusedVariables false
set_option linter.unusedSimpArgs false

/-! ### oculusref19_Kind: function 25 -/
mutual
def oculusref19_Kind.j0 : Nat → Int → Int → Bool → Option (Int)
  | 0, _, _, _ => none
  | k + 1, x0, x1, x15 => if x15 = true then (some 0) else ((oculusref19_Rows.f).bind fun t101 => (if 0 ≤ (wrap64 (x0 - 1)) then (if (wrap64 (x0 - 1)) < (t101.length : Int) then (oculusref19_Kind.j1 k x1 (rdOf ByteArray.empty t101 (wrap64 (x0 - 1)))) else (none)) else (none)))
def oculusref19_Kind.j1 : Nat → Int → ByteArray → Option (Int)
  | 0, _, _ => none
  | k + 1, x1, x5 => if 1 < (x5.size : Int) then (if x1 ≥ (wrap64 ((wrap64 (bt x5 1)) - 48)) then (some 0) else (if (wrap64 (2 + x1)) < (x5.size : Int) then (if 0 ≤ (wrap64 (2 + x1)) then (some (bt x5 (wrap64 (2 + x1)))) else (none)) else (if 0 ≤ (wrap64 ((x5.size : Int) - 1)) then (if (wrap64 ((x5.size : Int) - 1)) < (x5.size : Int) then (some (bt x5 (wrap64 ((x5.size : Int) - 1)))) else (none)) else (none)))) else (none)
end
def oculusref19_Kind.f (k : Nat) (a0 : Int) (a1 : Int) : Option (Int) := if a0 < 1 then (oculusref19_Kind.j0 k a0 a1 true) else (if a0 > 78 then (oculusref19_Kind.j0 k a0 a1 true) else (oculusref19_Kind.j0 k a0 a1 (decide (a1 < 0))))
theorem oculusref19_Kind.mono_l : ∀ k, (∀ y0 y1 y2, LeO (oculusref19_Kind.j0 k y0 y1 y2) (oculusref19_Kind.j0 (k + 1) y0 y1 y2)) ∧ (∀ y0 y1, LeO (oculusref19_Kind.j1 k y0 y1) (oculusref19_Kind.j1 (k + 1) y0 y1))
  | 0 => ⟨fun _ _ _ r h => by simp [oculusref19_Kind.j0] at h, fun _ _ r h => by simp [oculusref19_Kind.j1] at h⟩
  | k + 1 => by
    obtain ⟨ih0, ih1⟩ := oculusref19_Kind.mono_l k
    refine ⟨?_, ?_⟩
    · intro y0 y1 y2
      unfold oculusref19_Kind.j0
      repeat' first
      | (with_reducible exact ih0 _ _ _)
      | (with_reducible exact ih1 _ _)
      | (with_reducible exact LeO.refl _)
      | (with_reducible exact LeO.none _)
      | (with_reducible refine LeO.ite ?_ ?_)
      | (with_reducible refine LeO.bind ?_ (fun _ => ?_))
      | exact ih0 _ _ _
      | exact ih1 _ _
      | exact LeO.none _
      | refine LeO.ite ?_ ?_
      | refine LeO.bind ?_ (fun _ => ?_)
    · intro y0 y1
      unfold oculusref19_Kind.j1
      repeat' first
      | (with_reducible exact ih0 _ _ _)
      | (with_reducible exact ih1 _ _)
      | (with_reducible exact LeO.refl _)
      | (with_reducible exact LeO.none _)
      | (with_reducible refine LeO.ite ?_ ?_)
      | (with_reducible refine LeO.bind ?_ (fun _ => ?_))
      | exact ih0 _ _ _
      | exact ih1 _ _
      | exact LeO.none _
      | refine LeO.ite ?_ ?_
      | refine LeO.bind ?_ (fun _ => ?_)
theorem oculusref19_Kind.mono : ∀ a0 a1 k, LeO (oculusref19_Kind.f k a0 a1) (oculusref19_Kind.f (k + 1) a0 a1) := by
  intro a0 a1 k
  obtain ⟨ih0, ih1⟩ := oculusref19_Kind.mono_l k
  unfold oculusref19_Kind.f
  repeat' first
      | (with_reducible exact ih0 _ _ _)
      | (with_reducible exact ih1 _ _)
      | (with_reducible exact LeO.refl _)
      | (with_reducible exact LeO.none _)
      | (with_reducible refine LeO.ite ?_ ?_)
      | (with_reducible refine LeO.bind ?_ (fun _ => ?_))
      | exact ih0 _ _ _
      | exact ih1 _ _
      | exact LeO.none _
      | refine LeO.ite ?_ ?_
      | refine LeO.bind ?_ (fun _ => ?_)
set_option maxHeartbeats 8000000 in
set_option maxRecDepth 100000 in
theorem oculusref19_Kind.calls (k : Nat) (a0 : Int) (a1 : Int) (r : Int) (w : World) (h : oculusref19_Kind.f k a0 a1 = some r) :
    Calls Try.prog 25 #[.int .i64 a0, .int .i64 a1] w fun e w' => e = .returned (.int .u8 r) ∧ Below w.heap.size w w' := by
  have HB := Aside0.mk (Below.refl w.heap.size w)
  have H : (if a0 < 1 then (oculusref19_Kind.j0 k a0 a1 true) else (if a0 > 78 then (oculusref19_Kind.j0 k a0 a1 true) else (oculusref19_Kind.j0 k a0 a1 (decide (a1 < 0))))) = some r := h
  clear h
  have HC3 := Aside0.mk H
  clear H
  go_enter Try.func25, Try.ntmps25
  go_upto_region 1 with (fail)
  go_cut [15] (fun v15 wc => ∃ (kq : Nat) (x15_2 : Bool), v15 = .bool x15_2 ∧ Aside0 (oculusref19_Kind.j0 kq a0 a1 x15_2 = some r) ∧ Aside0 (kq ≤ k) ∧ Aside0 (Below w.heap.size w wc))
  case first =>
    have H := HC3.out
    clear HC3
    by_cases c4 : a0 < 1
    · rw [if_pos c4] at H
      have c4b0 : decide (a0 < 1) = true := decide_eq_true c4
      clear c4
      (first | rw [c4b0] | (simp only [i64_w, i32_w]; rw [c4b0]) | skip)
      have H' := Aside0.mk H
      clear H
      go_wp2
      go_meet
      case rel => exact ⟨_, (true), (by first | rfl | (simp; done) | (simp [*]; done)), H', ⟨by first | omega | exact Nat.le_refl _⟩, ⟨pbx HB⟩⟩
    · rw [if_neg c4] at H
      have c4b0 : decide (a0 < 1) = false := decide_eq_false c4
      clear c4
      (first | rw [c4b0] | (simp only [i64_w, i32_w]; rw [c4b0]) | skip)
      by_cases c5 : a0 > 78
      · rw [if_pos c5] at H
        have c5b0 : decide (78 < a0) = true := decide_eq_true c5
        clear c5
        have H' := Aside0.mk H
        clear H
        go_wp2
        go_meet
        case rel => exact ⟨_, (true), (by first | rfl | (simp; done) | (simp [*]; done)), H', ⟨by first | omega | exact Nat.le_refl _⟩, ⟨pbx HB⟩⟩
      · rw [if_neg c5] at H
        have c5b0 : decide (78 < a0) = false := decide_eq_false c5
        clear c5
        have H' := Aside0.mk H
        clear H
        go_wp2
        go_meet
        case rel => exact ⟨_, (decide (a1 < 0)), (by first | rfl | (simp; done) | (simp [*]; done)), H', ⟨by first | omega | exact Nat.le_refl _⟩, ⟨pbx HB⟩⟩
  case rest =>
    clear HC3
    try clear c2
    try clear p2
    try clear c4
    try clear c4b0
    try clear c5
    try clear c5b0
    obtain ⟨kq, x15_2, rfl, HA, HJ2, HB⟩ := hcut
    cases kq with
    | zero => exact absurd HA.out (by simp [oculusref19_Kind.j0])
    | succ kj2 =>
      have H := HA.out
      clear HA
      simp only [oculusref19_Kind.j0] at H
      by_cases c6 : x15_2 = true
      · subst c6
        have H1 : (some 0) = some r := by rw [if_pos rfl] at H; exact H
        clear H
        have H := H1
        clear H1
        obtain rfl := Option.some.inj H
        go_wp2
        go_ret
        exact ⟨by first | rfl | (simp [errW_none, errW_some] <;> rfl) | (simp [*, errW_none, errW_some] <;> rfl), pbx HB⟩
      · replace c6 := Bool.eq_false_iff.mpr c6
        subst c6
        have H1 : ((oculusref19_Rows.f).bind fun t101 => (if 0 ≤ (wrap64 (a0 - 1)) then (if (wrap64 (a0 - 1)) < (t101.length : Int) then (oculusref19_Kind.j1 kj2 a1 (rdOf ByteArray.empty t101 (wrap64 (a0 - 1)))) else (none)) else (none))) = some r := by rw [if_neg (show ¬ (false = true) by decide)] at H; exact H
        clear H
        have H := H1
        clear H1
        have HC7 := Aside0.mk H
        clear H
        go_upto_region 3 with (fail)
        go_cut [5] (fun v5 wc => ∃ (kq : Nat) (x5_6 : ByteArray), v5 = .string x5_6 ∧ Aside0 (oculusref19_Kind.j1 kq a1 x5_6 = some r) ∧ Aside0 (kq ≤ kj2) ∧ Aside0 (Below w.heap.size w wc))
        case first =>
          have H := HC7.out
          clear HC7
          replace H := Option.bind_eq_some_iff.mp H
          obtain ⟨t101, A80, H⟩ := H
          replace H : (if 0 ≤ (wrap64 (a0 - 1)) then (if (wrap64 (a0 - 1)) < (t101.length : Int) then (oculusref19_Kind.j1 kj2 a1 (rdOf ByteArray.empty t101 (wrap64 (a0 - 1)))) else (none)) else (none)) = some r := H
          have A8 := Aside0.mk A80
          clear A80
          obtain ⟨ji9, hji9⟩ : ∃ j_ : Int, (wrap64 (a0 - 1)) = j_ := ⟨_, rfl⟩
          replace H : (if 0 ≤ (ji9) then (if (ji9) < (t101.length : Int) then (oculusref19_Kind.j1 kj2 a1 (rdOf ByteArray.empty t101 (ji9))) else (none)) else (none)) = some r := by first | (rw [hji9] at H; exact H) | (simp only [hji9] at H ⊢; exact H)
          (try rw [hji9] at A8)
          have hji9w : (IntKind.i64.wrap (a0 - 1)) = ji9 := (i64_w _).trans hji9
          by_cases c10 : 0 ≤ (ji9)
          · rw [if_pos c10] at H
            have c10b0 : decide (0 ≤ (ji9)) = true := decide_eq_true c10
            clear c10
            (first | rw [c10b0] | (simp only [i64_w, i32_w]; rw [c10b0]) | skip)
            by_cases c11 : (ji9) < (t101.length : Int)
            · rw [if_pos c11] at H
              have c11b0 : decide ((ji9) < (t101.length : Int)) = true := decide_eq_true c11
              clear c11
              have H' := Aside0.mk H
              clear H
              go_wp2_with (first | ((with_reducible refine gate_callee (f := 44) rfl ?_); refine goesL_ (some 16) rfl rfl Try.func44 (by kernel_rfl) rfl #[] rfl (by (try simp only [List.map_toArray, List.map_cons, List.map_nil]); first | done | rfl | (simp only [List.length_drop, List.length_take]; rfl)) ?_; (with_reducible refine (oculusref19_Rows.calls  t101 _ A8.out).mono ?_); rintro e w12 ⟨v102, rfl, ho0, hb⟩; refine ⟨_, rfl, ?_⟩; have n0_ := Aside0.mk (Kd.R_lower ho0 (below_size (pbx HB))); have n1_ := Aside0.mk (below_step (pbx HB) hb); clear HB; have HO103 := n0_; have HB := n1_; clear n0_ n1_; (try clear hb); (try clear hb2); (try clear hk); (try clear hi); (try clear ho0); obtain ⟨Ao13, co13, eo13⟩ := Kd.R_slice HO103.out; subst eo13; have p104 : 0 ≤ ((ji9) : Int) := of_decide_eq_true (by first | (with_reducible assumption) | assumption); have q104 : (ji9) < (t101.length : Int) := of_decide_eq_true (by first | (with_reducible assumption) | assumption); obtain ⟨ad104, e104, hx104_0⟩ := Kd.at_string (Kd.R_reads' HO103.out).2.2 (ji9) p104 q104; cases e104; replace p104 := eq_true p104; replace q104 := eq_true q104))
              go_meet
              case rel => exact ⟨_, (rdOf ByteArray.empty t101 (ji9)), (by first | rfl | (simp; done) | (simp only [← hji9] <;> (first | rfl | simp)) | (simp [*]; done)), H', ⟨by have := HJ2.out; first | omega | exact Nat.le_refl _⟩, ⟨pbx HB⟩⟩
            · rw [if_neg c11] at H
              exact absurd H (by simp)
          · rw [if_neg c10] at H
            exact absurd H (by simp)
        case rest =>
          clear HC7
          try clear c1
          try clear p1
          try clear q1
          try clear hx1
          try clear c2
          try clear p2
          try clear c4
          try clear c4b0
          try clear c5
          try clear c5b0
          try clear c6
          try clear p6
          try clear c10
          try clear c10b0
          try clear p10
          try clear q10
          try clear hx10
          try clear c11
          try clear c11b0
          try clear hx104_0
          try clear p104
          try clear p2
          try clear q104
          obtain ⟨kq, x5_6, rfl, HA, HJ6, HB⟩ := hcut
          cases kq with
          | zero => exact absurd HA.out (by simp [oculusref19_Kind.j1])
          | succ kj6 =>
            have H := HA.out
            clear HA
            simp only [oculusref19_Kind.j1] at H
            by_cases c14 : 1 < (x5_6.size : Int)
            · rw [if_pos c14] at H
              have c14b0 : decide (1 < (x5_6.size : Int)) = true := decide_eq_true c14
              have c14b1 : decide (1 < x5_6.size) = true := decide_eq_true (by omega)
              clear c14
              by_cases c16 : a1 ≥ (wrap64 ((wrap64 (bt x5_6 1)) - 48))
              · rw [if_pos c16] at H
                have c16b0 : decide ((wrap64 ((wrap64 (bt x5_6 1)) - 48)) ≤ a1) = true := decide_eq_true c16
                clear c16
                obtain rfl := Option.some.inj H
                have p15 : 0 ≤ (1 : Int) := (by omega)
                have q15 : 1 < x5_6.size := (by have : (1 : Int) < (x5_6.size : Int) := of_decide_eq_true (by first | (with_reducible assumption) | assumption); omega)
                have hx15 : ∀ h : 1 < x5_6.size, ((x5_6[1]'h).toNat : Int) = bt x5_6 1 := bt_at x5_6 1
                clear p15
                have qi15 : (1 < (x5_6.size : Int)) = True := eq_true (of_decide_eq_true (by first | (with_reducible assumption) | assumption))
                replace q15 := eq_true q15
                go_wp2
                go_ret
                exact ⟨by first | rfl | (simp [errW_none, errW_some] <;> rfl) | (simp [*, errW_none, errW_some] <;> rfl), pbx HB⟩
              · rw [if_neg c16] at H
                have c16b0 : decide ((wrap64 ((wrap64 (bt x5_6 1)) - 48)) ≤ a1) = false := decide_eq_false c16
                clear c16
                by_cases c17 : (wrap64 (2 + a1)) < (x5_6.size : Int)
                · rw [if_pos c17] at H
                  have c17b0 : decide ((wrap64 (2 + a1)) < (x5_6.size : Int)) = true := decide_eq_true c17
                  clear c17
                  obtain ⟨ji18, hji18⟩ : ∃ j_ : Int, (wrap64 (2 + a1)) = j_ := ⟨_, rfl⟩
                  replace H : (if 0 ≤ (ji18) then (some (bt x5_6 (ji18))) else (none)) = some r := by first | (rw [hji18] at H; exact H) | (simp only [hji18] at H ⊢; exact H)
                  (try rw [hji18] at c17b0)
                  have hji18w : (IntKind.i64.wrap (2 + a1)) = ji18 := (i64_w _).trans hji18
                  by_cases c19 : 0 ≤ (ji18)
                  · rw [if_pos c19] at H
                    have c19b0 : decide (0 ≤ (ji18)) = true := decide_eq_true c19
                    clear c19
                    obtain rfl := Option.some.inj H
                    have p15 : 0 ≤ (1 : Int) := (by omega)
                    have q15 : 1 < x5_6.size := (by have : (1 : Int) < (x5_6.size : Int) := of_decide_eq_true (by first | (with_reducible assumption) | assumption); omega)
                    have hx15 : ∀ h : 1 < x5_6.size, ((x5_6[1]'h).toNat : Int) = bt x5_6 1 := bt_at x5_6 1
                    clear p15
                    have qi15 : (1 < (x5_6.size : Int)) = True := eq_true (of_decide_eq_true (by first | (with_reducible assumption) | assumption))
                    replace q15 := eq_true q15
                    have p20 : 0 ≤ ((ji18) : Int) := of_decide_eq_true (by first | (with_reducible assumption) | assumption)
                    have q20 : (ji18) < (x5_6.size : Int) := of_decide_eq_true (by first | (with_reducible assumption) | assumption)
                    have hx20 := bt_at x5_6 (ji18)
                    replace p20 := eq_true p20
                    replace q20 := eq_true q20
                    go_wp2
                    go_ret
                    exact ⟨by first | rfl | (simp [errW_none, errW_some] <;> rfl) | (simp only [← hji18]; first | rfl | (simp [errW_none, errW_some] <;> rfl)) | (simp [*, errW_none, errW_some] <;> rfl), pbx HB⟩
                  · rw [if_neg c19] at H
                    exact absurd H (by simp)
                · rw [if_neg c17] at H
                  have c17b0 : decide ((wrap64 (2 + a1)) < (x5_6.size : Int)) = false := decide_eq_false c17
                  clear c17
                  obtain ⟨ji21, hji21⟩ : ∃ j_ : Int, (wrap64 ((x5_6.size : Int) - 1)) = j_ := ⟨_, rfl⟩
                  replace H : (if 0 ≤ (ji21) then (if (ji21) < (x5_6.size : Int) then (some (bt x5_6 (ji21))) else (none)) else (none)) = some r := by first | (rw [hji21] at H; exact H) | (simp only [hji21] at H ⊢; exact H)
                  have hji21w : (IntKind.i64.wrap ((x5_6.size : Int) - 1)) = ji21 := (i64_w _).trans hji21
                  by_cases c22 : 0 ≤ (ji21)
                  · rw [if_pos c22] at H
                    have c22b0 : decide (0 ≤ (ji21)) = true := decide_eq_true c22
                    clear c22
                    by_cases c23 : (ji21) < (x5_6.size : Int)
                    · rw [if_pos c23] at H
                      have c23b0 : decide ((ji21) < (x5_6.size : Int)) = true := decide_eq_true c23
                      clear c23
                      obtain rfl := Option.some.inj H
                      have p15 : 0 ≤ (1 : Int) := (by omega)
                      have q15 : 1 < x5_6.size := (by have : (1 : Int) < (x5_6.size : Int) := of_decide_eq_true (by first | (with_reducible assumption) | assumption); omega)
                      have hx15 : ∀ h : 1 < x5_6.size, ((x5_6[1]'h).toNat : Int) = bt x5_6 1 := bt_at x5_6 1
                      clear p15
                      have qi15 : (1 < (x5_6.size : Int)) = True := eq_true (of_decide_eq_true (by first | (with_reducible assumption) | assumption))
                      replace q15 := eq_true q15
                      have p24 : 0 ≤ ((ji21) : Int) := of_decide_eq_true (by first | (with_reducible assumption) | assumption)
                      have q24 : (ji21) < (x5_6.size : Int) := of_decide_eq_true (by first | (with_reducible assumption) | assumption)
                      have hx24 := bt_at x5_6 (ji21)
                      replace p24 := eq_true p24
                      replace q24 := eq_true q24
                      go_wp2
                      go_ret
                      exact ⟨by first | rfl | (simp [errW_none, errW_some] <;> rfl) | (simp only [← hji21]; first | rfl | (simp [errW_none, errW_some] <;> rfl)) | (simp [*, errW_none, errW_some] <;> rfl), pbx HB⟩
                    · rw [if_neg c23] at H
                      exact absurd H (by simp)
                  · rw [if_neg c22] at H
                    exact absurd H (by simp)
            · rw [if_neg c14] at H
              exact absurd H (by simp)

end Go.Proofs.Ytjbdljolpkkhcaa.X
/- What fname and its reference answer. -/
set_option linter.unusedVariables false
set_option linter.unusedSimpArgs false
namespace Go.Proofs.Ytjbdljolpkkhcaa.X
open Go.RowKit Go.Proofs.YtjbdljolpkkhcaaW.PrintWords Go.Proofs.YtjbdljolpkkhcaaW.PrintLast Go.Proofs.YtjbdljolpkkhcaaW.PrintMore
/-! The two tables as lists of bytes. -/
def NB : List ByteArray := oculusref19_Names.f.getD []
def RB : List ByteArray := oculusref19_Rows.f.getD []
theorem names_eq : oculusref19_Names.f = some NB := rfl
theorem rows_eq : oculusref19_Rows.f = some RB := rfl
def NS : List (List UInt8) := NB.map by_
def RS : List (List UInt8) := RB.map by_
def nm (n : Nat) : List UInt8 := NS.getD n []
def rs (n : Nat) : List UInt8 := RS.getD n []
def rowsL : List UInt8 := List.intercalate [59] ((NS.zip RS).map fun p => p.1 ++ p.2)
/-- The rest of a row: it begins with two digits. -/
def okR : List UInt8 → Bool
  | c0 :: c1 :: tl => decide (48 ≤ c0.toNat) && decide (c0.toNat < 65) && decide (48 ≤ c1.toNat) && decide (c1.toNat < 65) && decide (tl.length ≤ 10)
  | _ => false
def cutN : Nat → List UInt8 × List UInt8 → List UInt8 × List UInt8
  | 0, p => p
  | n + 1, p => cutN n ((cutL 59 p.2).1, (cutL 59 p.2).2.1)
def row0 : List UInt8 × List UInt8 := ((cutL 59 rowsL).1, (cutL 59 rowsL).2.1)
theorem rows_check : ∀ n : Fin 78, (cutN n.val row0).1 = nm n.val ++ rs n.val ∧ ((nm n.val).all fun x => decide (65 ≤ x.toNat)) = true ∧ okR (rs n.val) = true ∧ (nm n.val).length < 100 := by decide +kernel
theorem rs_shape {n : Nat} (h : n < 78) : ∃ c0 c1 tl, rs n = c0 :: c1 :: tl ∧ 48 ≤ c0.toNat ∧ c0.toNat < 65 ∧ 48 ≤ c1.toNat ∧ c1.toNat < 65 ∧ tl.length ≤ 10 := by
  have := (rows_check ⟨n, h⟩).2.2.1
  simp only at this
  revert this
  match rs n with
  | [] => intro h; simp [okR] at h
  | [_] => intro h; simp [okR] at h
  | c0 :: c1 :: tl =>
    intro h
    simp only [okR, Bool.and_eq_true, decide_eq_true_eq] at h
    exact ⟨c0, c1, tl, rfl, h.1.1.1.1, h.1.1.1.2, h.1.1.2, h.1.2, h.2⟩
theorem nsize : NB.length = 78 := by decide +kernel
theorem rsize : RB.length = 78 := by decide +kernel
theorem rdN {n : Nat} (h : n < 78) : rdOf ByteArray.empty NB (n : Int) = tx (nm n) := by
  unfold rdOf nm NS
  rw [Int.toNat_natCast, List.getD_eq_getElem?_getD, List.getD_eq_getElem?_getD, List.getElem?_map, List.getElem?_eq_getElem (by rw [nsize]; exact h)]
  exact (tx_by _).symm
theorem rdR {n : Nat} (h : n < 78) : rdOf ByteArray.empty RB (n : Int) = tx (rs n) := by
  unfold rdOf rs RS
  rw [Int.toNat_natCast, List.getD_eq_getElem?_getD, List.getD_eq_getElem?_getD, List.getElem?_map, List.getElem?_eq_getElem (by rw [rsize]; exact h)]
  exact (tx_by _).symm
/-! A row. -/
theorem row_l1 (a : List UInt8) (c : UInt8) (b : List UInt8) (ha : ∀ x ∈ a, 65 ≤ x.toNat) (hc : c.toNat < 65) (hl : a.length + b.length < 1000) :
    ∀ d i, i + d = a.length → Ev (fun k => fname_row.l1 k (tx (a ++ c :: b)) (i : Int)) (tx a, tx (c :: b))
  | 0, i, h => by
    have hz : (tx (a ++ c :: b)).size = a.length + (b.length + 1) := by rw [size_tx]; simp
    have hb : bt (tx (a ++ c :: b)) (i : Int) = (c.toNat : Int) := by
      rw [bt_tx _ i (by simp; omega)]
      have : i = a.length := by omega
      subst this
      simp
    refine Ev.step (f := fun k => some (tx a, tx (c :: b))) (fun k => ?_) (Ev.now _)
    simp only [fname_row.l1]
    rw [if_pos (by omega), if_pos (by omega), hb, if_neg (by omega), if_pos (by omega), Int.toNat_natCast, ext_head, ext_tail, by_tx]
    have : i = a.length := by omega
    subst this
    simp
  | d + 1, i, h => by
    have hz : (tx (a ++ c :: b)).size = a.length + (b.length + 1) := by rw [size_tx]; simp
    have hi : i < a.length := by omega
    have hb : bt (tx (a ++ c :: b)) (i : Int) = ((a[i]).toNat : Int) := by
      rw [bt_tx _ i (by simp; omega)]
      rw [List.getElem_append_left hi]
    have := ha _ (List.getElem_mem hi)
    refine Ev.step (f := fun k => fname_row.l1 k (tx (a ++ c :: b)) ((i + 1 : Nat) : Int)) (fun k => ?_) (row_l1 a c b ha hc hl d (i + 1) (by omega))
    simp only [fname_row.l1]
    rw [if_pos (by omega), if_pos (by omega), hb, if_pos (by omega), w64s (n := 2000) (by omega) (by omega)]
theorem cutN_succ (n : Nat) : ∀ p, cutN (n + 1) p = cutN n ((cutL 59 p.2).1, (cutL 59 p.2).2.1) := fun _ => rfl
theorem row_l0 (fn : Nat) (hf : fn ≤ 78) : ∀ d n s r, n + d = fn → r.length ≤ 4611686018427387904 → ∀ q, Ev (fun k => fname_row.l1 k (tx (cutN d (s, r)).1) 0) q → Ev (fun k => fname_row.l0 k (fn : Int) (tx s) (tx r) (n : Int)) q
  | 0, n, s, r, h, hr, q, hq => by
    refine Ev.step (f := fun k => fname_row.l1 k (tx s) 0) (fun k => ?_) hq
    simp only [fname_row.l0]
    rw [if_neg (by omega)]
  | d + 1, n, s, r, h, hr, q, hq => by
    have hl := (cutL_length 59 r).2
    refine Ev.step (f := fun k => fname_row.l0 k (fn : Int) (tx (cutL 59 r).1) (tx (cutL 59 r).2.1) ((n + 1 : Nat) : Int)) (fun k => ?_) (row_l0 fn hf d (n + 1) _ _ (by omega) (by omega) q hq)
    simp only [fname_row.l0]
    rw [if_pos (by omega)]
    have e : strings_Cut.f (tx r) (⟨#[59]⟩ : ByteArray) = some (tx (cutL 59 r).1, tx (cutL 59 r).2.1, (cutL 59 r).2.2) := by
      have := cut_eq (tx r) 59 (by rw [size_tx]; exact hr)
      rw [by_tx] at this
      exact this
    rw [e, Option.bind_some, w64s (n := 2000) (by omega) (by omega)]
theorem row_ev (n : Nat) (h : n < 78) : Ev (fun k => fname_row.f k ((n + 1 : Nat) : Int)) (tx (nm n), tx (rs n)) := by
  unfold fname_row.f
  refine ev_neg (by omega) ?_
  rw [decide_eq_false (by omega : ¬ ((n + 1 : Nat) : Int) > 78)]
  refine Ev.step (fun k => fname_row.j0.eq_2 _ _ _) ?_
  refine ev_neg (by simp) ?_
  refine ev_bind (a := (tx row0.1, tx row0.2, (cutL 59 rowsL).2.2)) (ev_some fun _ => ?_) ?_
  · refine (cut_eq _ 59 (by decide +kernel)).trans ?_
    exact congrArg (fun l => some (tx (cutL 59 l).1, tx (cutL 59 l).2.1, (cutL 59 l).2.2)) (by decide +kernel : by_ _ = rowsL)
  refine row_l0 (n + 1) (by omega) n 1 _ _ (by omega) (by decide +kernel) _ ?_
  obtain ⟨h1, h2, h3, h4⟩ := rows_check ⟨n, h⟩
  simp only at h1 h2 h3 h4
  rw [show (cutN n (row0.1, row0.2)).1 = nm n ++ rs n from h1]
  obtain ⟨c0, c1, tl, e, g1, g2, g3, g4, g5⟩ := rs_shape h
  rw [e]
  refine row_l1 (nm n) c0 (c1 :: tl) ?_ g2 (by simp; omega) (nm n).length 0 (by omega)
  intro x hx
  have := List.all_eq_true.1 h2 x hx
  simpa using this
theorem row_out (fn : Int) (h : fn < 1 ∨ fn > 78) : Ev (fun k => fname_row.f k fn) (tx [], tx []) := by
  unfold fname_row.f
  have hj : Ev (fun k => fname_row.j0 k fn true) (tx [], tx []) := by
    refine Ev.step (fun k => fname_row.j0.eq_2 _ _ _) ?_
    exact ev_pos rfl (Ev.now _)
  refine ev_ite (fun _ => hj) (fun h1 => ?_)
  rw [decide_eq_true (by omega : fn > 78)]
  exact hj
/-- A row's two halves, of any number. -/
def nmI (fn : Int) : List UInt8 := if fn < 1 ∨ fn > 78 then [] else nm (fn - 1).toNat
def rsI (fn : Int) : List UInt8 := if fn < 1 ∨ fn > 78 then [] else rs (fn - 1).toNat
theorem rowI_ev (fn : Int) : Ev (fun k => fname_row.f k fn) (tx (nmI fn), tx (rsI fn)) := by
  unfold nmI rsI
  by_cases h : fn < 1 ∨ fn > 78
  · rw [if_pos h, if_pos h]; exact row_out fn h
  · rw [if_neg h, if_neg h]
    have e : fn = (((fn - 1).toNat + 1 : Nat) : Int) := by omega
    have := row_ev (fn - 1).toNat (by omega)
    rw [← e] at this
    exact this
/-! Number, Name. -/
def findN (x : List UInt8) : Nat → List (List UInt8) → Int
  | _, [] => 0
  | n, y :: l => if y = x then (n : Int) else findN x (n + 1) l
theorem txl (l : List UInt8) (s : ByteArray) : ((tx l).toList = s.toList) ↔ l = by_ s := by rw [toList_by, toList_by, by_tx]
theorem ns_len : NS.length = 78 := by unfold NS; rw [List.length_map, nsize]
theorem ns_drop {n : Nat} (h : n < 78) : NS.drop n = nm n :: NS.drop (n + 1) := by
  rw [List.drop_eq_getElem_cons (by rw [ns_len]; exact h)]
  congr 1
  unfold nm
  rw [List.getD_eq_getElem?_getD, List.getElem?_eq_getElem (by rw [ns_len]; exact h)]
  rfl
theorem number_l0 (x : ByteArray) : ∀ d n : Nat, n + d = 78 → Ev (fun k => fname_Number.l0 k x ((n + 1 : Nat) : Int)) (findN (by_ x) (n + 1) (NS.drop n))
  | 0, n, h => by
    rw [List.drop_eq_nil_of_le (by rw [ns_len]; omega)]
    refine Ev.step (f := fun k => some 0) (fun k => ?_) (Ev.now _)
    simp only [fname_Number.l0]
    rw [if_neg (by omega)]
  | d + 1, n, h => by
    rw [ns_drop (by omega)]
    refine Ev.step (f := fun k => (fname_row.f k ((n + 1 : Nat) : Int)).bind fun bt101 => if bt101.1.toList = x.toList then some ((n + 1 : Nat) : Int) else fname_Number.l0 k x ((n + 1 + 1 : Nat) : Int)) (fun k => ?_) ?_
    · simp only [fname_Number.l0]
      rw [if_pos (by omega), w64s (i := n + 1) (n := 2000) (by omega) (by omega)]
    · refine ev_bind (row_ev n (by omega)) ?_
      simp only [findN]
      by_cases hx : nm n = by_ x
      · rw [if_pos hx]; exact ev_pos ((txl _ _).2 hx) (Ev.now _)
      · rw [if_neg hx]; exact ev_neg (fun h => hx ((txl _ _).1 h)) (number_l0 x d (n + 1) (by omega))
theorem number_ev (x : ByteArray) : Ev (fun k => fname_Number.f k x) (findN (by_ x) 1 NS) := number_l0 x 78 0 (by omega)
theorem find19_l0 (x : ByteArray) : ∀ d n : Nat, n + d = 78 → Ev (fun k => oculusref19_Find.l0 k x NB (n : Int)) (findN (by_ x) (n + 1) (NS.drop n))
  | 0, n, h => by
    rw [List.drop_eq_nil_of_le (by rw [ns_len]; omega)]
    refine Ev.step (f := fun k => some 0) (fun k => ?_) (Ev.now _)
    simp only [oculusref19_Find.l0]
    rw [if_neg (by rw [nsize]; omega)]
  | d + 1, n, h => by
    rw [ns_drop (by omega)]
    refine Ev.step (f := fun k => if (tx (nm n)).toList = x.toList then some ((n + 1 : Nat) : Int) else oculusref19_Find.l0 k x NB ((n + 1 : Nat) : Int)) (fun k => ?_) ?_
    · simp only [oculusref19_Find.l0]
      rw [if_pos (by rw [nsize]; omega), if_pos (by omega), rdN (by omega), w64s (n := 2000) (by omega) (by omega)]
    · simp only [findN]
      by_cases hx : nm n = by_ x
      · rw [if_pos hx]; exact ev_pos ((txl _ _).2 hx) (Ev.now _)
      · rw [if_neg hx]; exact ev_neg (fun h => hx ((txl _ _).1 h)) (find19_l0 x d (n + 1) (by omega))
theorem find19_ev (x : ByteArray) : Ev (fun k => oculusref19_Find.f k x) (findN (by_ x) 1 NS) := by
  unfold oculusref19_Find.f
  rw [names_eq]
  exact ev_bsome (find19_l0 x 78 0 (by omega))
theorem fname_ev (fn : Int) : Ev (fun k => fname_Name.f k fn) (tx (nmI fn)) := by
  unfold fname_Name.f
  exact ev_bind (rowI_ev fn) (Ev.now _)
theorem rname19 (fn : Int) : oculusref19_Name.f fn = some (tx (nmI fn)) := by
  unfold oculusref19_Name.f nmI
  by_cases h1 : fn < 1
  · rw [if_pos h1, if_pos (Or.inl h1)]; rfl
  · by_cases h2 : fn > 78
    · rw [if_neg h1, if_pos h2, if_pos (Or.inr h2)]; rfl
    · have e : wrap64 (fn - 1) = ((fn - 1).toNat : Int) := by unfold wrap64; omega
      rw [if_neg h1, if_neg h2, if_neg (by omega), names_eq, Option.bind_some, e, if_pos (by omega), if_pos (by rw [nsize]; omega), rdN (by omega)]
/-! Fits, Kind, Lazy. -/
theorem u8_sub48 (c : UInt8) : wrap64 (wrap64 (c.toNat : Int) - 48) = (c.toNat : Int) - 48 := by
  have := u8_lt c
  rw [w64 (x := (c.toNat : Int)) (by omega) (by omega), w64 (by omega) (by omega)]
def fitsL : List UInt8 → Int → Bool
  | c0 :: c1 :: _, n => if n ≥ (c0.toNat : Int) - 48 then decide (n ≤ (c1.toNat : Int) - 48) else false
  | _, _ => false
def kindL : List UInt8 → Int → Int
  | c0 :: c1 :: tl, i => if i < 0 then 0 else if i ≥ (c1.toNat : Int) - 48 then 0 else (((c0 :: c1 :: tl).getD (min (2 + i.toNat) (tl.length + 1)) 0).toNat : Int)
  | _, _ => 0
theorem rsI_shape (fn : Int) : (rsI fn = [] ∧ (fn < 1 ∨ fn > 78)) ∨ (¬ (fn < 1 ∨ fn > 78) ∧ ∃ c0 c1 tl, rs (fn - 1).toNat = c0 :: c1 :: tl ∧ rsI fn = c0 :: c1 :: tl ∧ 48 ≤ c0.toNat ∧ c0.toNat < 65 ∧ 48 ≤ c1.toNat ∧ c1.toNat < 65 ∧ tl.length ≤ 10) := by
  unfold rsI
  by_cases h : fn < 1 ∨ fn > 78
  · exact Or.inl ⟨if_pos h, h⟩
  · refine Or.inr ⟨h, ?_⟩
    obtain ⟨c0, c1, tl, e, g⟩ := rs_shape (n := (fn - 1).toNat) (by omega)
    exact ⟨c0, c1, tl, e, by rw [if_neg h, e], g⟩
theorem fits_ev (fn n : Int) : Ev (fun k => fname_Fits.f k fn n) (fitsL (rsI fn) n) := by
  unfold fname_Fits.f
  refine ev_bind (rowI_ev fn) (ev_some fun k => ?_)
  rcases rsI_shape fn with ⟨e, _⟩ | ⟨_, c0, c1, tl, _, e, g1, g2, g3, g4, g5⟩
  · rw [e, if_pos (by rw [toList_by, by_tx])]; rfl
  · rw [e]
    have hz : (tx (c0 :: c1 :: tl)).size = tl.length + 2 := by rw [size_tx]; rfl
    have b0 : bt (tx (c0 :: c1 :: tl)) 0 = (c0.toNat : Int) := bt_tx _ 0 (by simp)
    have b1 : bt (tx (c0 :: c1 :: tl)) 1 = (c1.toNat : Int) := bt_tx _ 1 (by simp)
    simp only [fitsL, b0, b1]
    rw [if_neg (by rw [toList_by, by_tx]; simp), if_pos (by omega)]
    have e0 : ((c0.toNat : Int) - 48) % 256 = (c0.toNat : Int) - 48 := by omega
    have e1 : ((c1.toNat : Int) - 48) % 256 = (c1.toNat : Int) - 48 := by omega
    rw [e0, e1]
    by_cases hn : n ≥ (c0.toNat : Int) - 48
    · rw [if_pos hn, if_pos hn, if_pos (by omega)]
    · rw [if_neg hn, if_neg hn]
theorem rfits_eq (fn n : Int) : oculusref19_Fits.f fn n = some (fitsL (rsI fn) n) := by
  unfold oculusref19_Fits.f
  rcases rsI_shape fn with ⟨e, h⟩ | ⟨h, c0, c1, tl, e', e, g1, g2, g3, g4, g5⟩
  · rw [e]
    by_cases h1 : fn < 1
    · rw [if_pos h1]; rfl
    · rw [if_neg h1, if_pos (by omega)]; rfl
  · have e2 : wrap64 (fn - 1) = ((fn - 1).toNat : Int) := by unfold wrap64; omega
    rw [e, if_neg (by omega), if_neg (by omega), rows_eq, Option.bind_some, e2, rdR (by omega), e', if_pos (by omega), if_pos (by rw [rsize]; omega)]
    have hz : (tx (c0 :: c1 :: tl)).size = tl.length + 2 := by rw [size_tx]; rfl
    have b0 : bt (tx (c0 :: c1 :: tl)) 0 = (c0.toNat : Int) := bt_tx _ 0 (by simp)
    have b1 : bt (tx (c0 :: c1 :: tl)) 1 = (c1.toNat : Int) := bt_tx _ 1 (by simp)
    simp only [fitsL, b0, b1]
    have e0 := u8_sub48 c0
    have e1 := u8_sub48 c1
    rw [e0, e1, if_pos (by omega)]
    by_cases hn : n ≥ (c0.toNat : Int) - 48
    · rw [if_pos hn, if_pos hn, if_pos (by omega)]
    · rw [if_neg hn, if_neg hn]
theorem bt_getD (l : List UInt8) (i : Nat) (h : i < l.length) : bt (tx l) (i : Int) = ((l.getD i 0).toNat : Int) := by
  rw [bt_tx l i h, List.getD_eq_getElem?_getD, List.getElem?_eq_getElem h]; rfl
theorem kind_ev (fn i : Int) : Ev (fun k => fname_Kind.f k fn i) (kindL (rsI fn) i) := by
  unfold fname_Kind.f
  refine ev_bind (rowI_ev fn) ?_
  simp only
  rcases rsI_shape fn with ⟨e, _⟩ | ⟨_, c0, c1, tl, _, e, g1, g2, g3, g4, g5⟩
  · rw [e]
    exact Ev.step (f := fun k => some 0) (fun k => by simp only [fname_Kind.j0]; rw [if_pos (by rw [toList_by, by_tx])]) (Ev.now _)
  · rw [e]
    have hz : (tx (c0 :: c1 :: tl)).size = tl.length + 2 := by rw [size_tx]; rfl
    have b1 : bt (tx (c0 :: c1 :: tl)) 1 = (c1.toNat : Int) := bt_tx _ 1 (by simp)
    refine Ev.step (f := fun k => some (kindL (c0 :: c1 :: tl) i)) (fun k => ?_) (Ev.now _)
    simp only [fname_Kind.j0, kindL, b1, hz]
    have e1 : ((c1.toNat : Int) - 48) % 256 = (c1.toNat : Int) - 48 := by omega
    rw [if_neg (by rw [toList_by, by_tx]; simp), e1]
    by_cases h1 : i < 0
    · rw [if_pos h1, if_pos h1]
    · rw [if_neg h1, if_neg h1, if_pos (by omega)]
      by_cases h2 : i ≥ (c1.toNat : Int) - 48
      · rw [if_pos h2, if_pos h2]
      · rw [if_neg h2, if_neg h2]
        have em : mn (wrap64 (2 + i)) (wrap64 (((tl.length + 2 : Nat) : Int) - 1)) = ((min (2 + i.toNat) (tl.length + 1) : Nat) : Int) := by
          rw [w64 (by omega) (by omega), w64 (by omega) (by omega)]
          unfold mn
          split <;> omega
        rw [em, if_pos (by omega), if_pos (by omega), bt_getD _ _ (by simp only [List.length_cons]; omega)]
theorem rkind_ev (fn i : Int) (hi : i ≤ 9223372036854775807) : Ev (fun k => oculusref19_Kind.f k fn i) (kindL (rsI fn) i) := by
  unfold oculusref19_Kind.f
  have hj : ∀ b : Bool, b = true → (fn < 1 ∨ fn > 78 ∨ i < 0) → Ev (fun k => oculusref19_Kind.j0 k fn i b) (kindL (rsI fn) i) := by
    intro b hb h
    subst hb
    have : kindL (rsI fn) i = 0 := by
      rcases rsI_shape fn with ⟨e, _⟩ | ⟨hh, c0, c1, tl, _, e, _⟩
      · rw [e]; rfl
      · rw [e]; simp only [kindL]; rw [if_pos (by omega)]
    rw [this]
    exact Ev.step (f := fun k => some 0) (fun k => by simp only [oculusref19_Kind.j0]; rfl) (Ev.now _)
  refine ev_ite (fun h => hj _ rfl (Or.inl h)) (fun h1 => ?_)
  refine ev_ite (fun h => hj _ rfl (Or.inr (Or.inl h))) (fun h2 => ?_)
  by_cases h3 : i < 0
  · exact hj _ (decide_eq_true h3) (Or.inr (Or.inr h3))
  · rw [decide_eq_false h3]
    rcases rsI_shape fn with ⟨_, h⟩ | ⟨h, c0, c1, tl, e', e, g1, g2, g3, g4, g5⟩
    · omega
    · have e2 : wrap64 (fn - 1) = ((fn - 1).toNat : Int) := by unfold wrap64; omega
      rw [e]
      refine Ev.step (f := fun k => oculusref19_Kind.j1 k i (tx (c0 :: c1 :: tl))) (fun k => ?_) ?_
      · simp only [oculusref19_Kind.j0]
        rw [if_neg (by simp), rows_eq, Option.bind_some, e2, rdR (by omega), e', if_pos (by omega), if_pos (by rw [rsize]; omega)]
      · have hz : (tx (c0 :: c1 :: tl)).size = tl.length + 2 := by rw [size_tx]; rfl
        have b1 : bt (tx (c0 :: c1 :: tl)) 1 = (c1.toNat : Int) := bt_tx _ 1 (by simp)
        refine Ev.step (f := fun k => some (kindL (c0 :: c1 :: tl) i)) (fun k => ?_) (Ev.now _)
        simp only [oculusref19_Kind.j1, kindL, b1, hz]
        have e1 := u8_sub48 c1
        rw [if_pos (by omega), e1, if_neg h3]
        by_cases h4 : i ≥ (c1.toNat : Int) - 48
        · rw [if_pos h4, if_pos h4]
        · rw [if_neg h4, if_neg h4]
          have w1 : wrap64 (2 + i) = ((2 + i.toNat : Nat) : Int) := by rw [w64 (by omega) (by omega)]; omega
          have w2 : wrap64 (((tl.length + 2 : Nat) : Int) - 1) = ((tl.length + 1 : Nat) : Int) := by rw [w64 (by omega) (by omega)]; omega
          rw [w1, w2]
          by_cases h5 : ((2 + i.toNat : Nat) : Int) < ((tl.length + 2 : Nat) : Int)
          · rw [if_pos h5, if_pos (by omega), bt_getD _ _ (by simp only [List.length_cons]; omega), Nat.min_eq_left (by omega)]
          · rw [if_neg h5, if_pos (by omega), if_pos (by omega), bt_getD _ _ (by simp only [List.length_cons]; omega), Nat.min_eq_right (by omega)]
theorem lazy_ev (fn : Int) : Ev (fun k => fname_Lazy.f k fn) (kindL (rsI fn) 0 == 101) := by
  unfold fname_Lazy.f
  exact ev_bind (kind_ev fn 0) (Ev.now _)
theorem alive19_ev : Ev (fun k => oculuslaw19_alive.f k) true := by
  unfold oculuslaw19_alive.f
  refine ev_bind (number_ev _) ?_
  refine ev_pos (by decide +kernel) ?_
  refine ev_bind (kind_ev _ _) ?_
  refine ev_pos (by decide +kernel) ?_
  refine ev_bind (kind_ev _ _) ?_
  refine ev_pos (by decide +kernel) ?_
  refine ev_bind (kind_ev _ _) ?_
  refine ev_pos (by decide +kernel) ?_
  refine ev_bind (lazy_ev _) ?_
  refine ev_pos (by decide +kernel) ?_
  refine ev_bind (lazy_ev _) ?_
  refine ev_neg (by decide +kernel) ?_
  refine ev_bind (fname_ev _) ?_
  refine ev_pos (by rw [toList_by, by_tx]; decide +kernel) ?_
  refine ev_bind (number_ev _) ?_
  exact ev_some (fun k => by decide +kernel)
end Go.Proofs.Ytjbdljolpkkhcaa.X
/- The pure statement of the law FnameOwn: over numbers alone. -/
set_option linter.unusedVariables false
set_option linter.unusedSimpArgs false
namespace Go.Proofs.Ytjbdljolpkkhcaa.Pure
open Go.RowKit Go.Proofs.Ytjbdljolpkkhcaa.X Go.Proofs.YtjbdljolpkkhcaaW.PrintWords Go.Proofs.YtjbdljolpkkhcaaW.PrintLast Go.Proofs.YtjbdljolpkkhcaaW.PrintMore
/-- Byte for byte, then by length. -/
def lessL : List UInt8 → List UInt8 → Bool
  | a :: x, b :: y => if a = b then lessL x y else decide ((a.toNat : Int) < (b.toNat : Int))
  | [], _ :: _ => true
  | _, [] => false
theorem less_l0 (x y : List UInt8) (hx : x.length ≤ 9223372036854775806) : ∀ d i, i + d = x.length → i ≤ y.length → Ev (fun k => oculusref12_Less.l0 k (tx x) (tx y) (i : Int)) (if (x.drop i).length = 0 ∨ (y.drop i).length = 0 then decide ((x.length : Int) < (y.length : Int)) else lessL (x.drop i) (y.drop i))
  | d, i, h, hi => by
    have zx : (tx x).size = x.length := size_tx x
    have zy : (tx y).size = y.length := size_tx y
    by_cases hin : i < x.length ∧ i < y.length
    · obtain ⟨h1, h2⟩ := hin
      have ex : x.drop i = x[i] :: x.drop (i + 1) := List.drop_eq_getElem_cons h1
      have ey : y.drop i = y[i] :: y.drop (i + 1) := List.drop_eq_getElem_cons h2
      rw [if_neg (by rw [ex, ey]; simp only [List.length_cons]; omega), ex, ey]
      refine Ev.step (f := fun k => oculusref12_Less.j1 k (tx x) (tx y) (i : Int) true) (fun k => ?_) ?_
      · simp only [oculusref12_Less.l0]
        rw [if_pos (by omega), decide_eq_true (by omega)]
      refine Ev.step (f := fun k => if (((x[i]).toNat : Int) = ((y[i]).toNat : Int)) then oculusref12_Less.l0 k (tx x) (tx y) ((i + 1 : Nat) : Int) else some (decide (((x[i]).toNat : Int) < ((y[i]).toNat : Int)))) (fun k => ?_) ?_
      · simp only [oculusref12_Less.j1]
        rw [if_pos (by trivial), if_pos (by omega), if_pos (by omega), if_pos (by omega), bt_tx x i h1, bt_tx y i h2, w64s h1 (by omega)]
      simp only [lessL]
      by_cases he : x[i] = y[i]
      · rw [if_pos he]
        refine ev_pos (by rw [he]) ?_
        obtain ⟨d', rfl⟩ : ∃ d', d = d' + 1 := ⟨d - 1, by omega⟩
        have := less_l0 x y hx d' (i + 1) (by omega) (by omega)
        by_cases hz : (x.drop (i + 1)).length = 0 ∨ (y.drop (i + 1)).length = 0
        · rw [if_pos hz] at this
          have e2 : lessL (x.drop (i + 1)) (y.drop (i + 1)) = decide ((x.length : Int) < (y.length : Int)) := by
            simp only [List.length_drop] at hz
            rcases Nat.lt_trichotomy x.length y.length with hl | hl | hl
            · have e3 : x.drop (i + 1) = [] := List.drop_eq_nil_of_le (by omega)
              have e4 : y.drop (i + 1) = y[i + 1]'(by omega) :: y.drop (i + 1 + 1) := List.drop_eq_getElem_cons (by omega)
              rw [e3, e4, decide_eq_true (by omega)]
              rfl
            · have e3 : x.drop (i + 1) = [] := List.drop_eq_nil_of_le (by omega)
              have e4 : y.drop (i + 1) = [] := List.drop_eq_nil_of_le (by omega)
              rw [e3, e4, decide_eq_false (by omega)]
              rfl
            · have e4 : y.drop (i + 1) = [] := List.drop_eq_nil_of_le (by omega)
              rw [e4, decide_eq_false (by omega)]
              cases x.drop (i + 1) <;> rfl
          rw [e2]; exact this
        · rw [if_neg hz] at this; exact this
      · rw [if_neg he]
        exact ev_neg (fun h => he (u8_inj (by omega))) (Ev.now _)
    · rw [if_pos (by simp only [List.length_drop]; omega)]
      refine Ev.step (f := fun k => oculusref12_Less.j1 k (tx x) (tx y) (i : Int) false) (fun k => ?_) ?_
      · simp only [oculusref12_Less.l0]
        by_cases h1 : i < x.length
        · rw [if_pos (by omega), decide_eq_false (by omega)]
        · rw [if_neg (by omega)]
      refine Ev.step (f := fun k => some (decide ((x.length : Int) < (y.length : Int)))) (fun k => ?_) (Ev.now _)
      simp only [oculusref12_Less.j1]
      rw [if_neg (by simp), zx, zy]
theorem less_ev (x y : List UInt8) (hx : x.length ≤ 9223372036854775806) (h1 : x ≠ []) (h2 : y ≠ []) : Ev (fun k => oculusref12_Less.f k (tx x) (tx y)) (lessL x y) := by
  have := less_l0 x y hx x.length 0 (by omega) (by omega)
  rw [if_neg] at this
  · exact this
  · cases x <;> cases y <;> simp_all
theorem own_check : ∀ n : Fin 78, findN (nm n.val) 1 NS = ((n.val + 1 : Nat) : Int) ∧ nm n.val ≠ [] := by decide +kernel
theorem order_check : ∀ n : Fin 78, ∀ m : Fin 78, n.val < m.val → lessL (nm n.val) (nm m.val) = true := by decide +kernel
theorem nmI_cases (fn : Int) : (nmI fn = [] ∧ rsI fn = [] ∧ (fn < 1 ∨ fn > 78)) ∨ (∃ n : Nat, n < 78 ∧ fn = ((n + 1 : Nat) : Int) ∧ nmI fn = nm n ∧ nm n ≠ [] ∧ (nm n).length < 100 ∧ findN (nm n) 1 NS = fn) := by
  unfold nmI rsI
  by_cases h : fn < 1 ∨ fn > 78
  · rw [if_pos h, if_pos h]; exact Or.inl ⟨rfl, rfl, h⟩
  · right
    rw [if_neg h]
    have hn : (fn - 1).toNat < 78 := by omega
    obtain ⟨g1, g2⟩ := own_check ⟨_, hn⟩
    refine ⟨(fn - 1).toNat, hn, by omega, rfl, g2, (rows_check ⟨_, hn⟩).2.2.2, ?_⟩
    rw [g1]; simp only; omega
theorem txnil (l : List UInt8) : ((tx l).toList = ([] : List UInt8)) ↔ l = [] := by rw [toList_by, by_tx]
theorem FnameOwn : oculuslaw19_FnameOwn.PureX := by
  intro a b ha hb
  apply Ev.rounds
  unfold oculuslaw19_FnameOwn.f
  refine ev_bind (fname_ev a) ?_
  refine ev_bind (fname_ev b) ?_
  refine Ev.step (fun k => oculuslaw19_FnameOwn.j0.eq_2 _ _ _ _ _) ?_
  rcases nmI_cases a with ⟨e1, e2, h⟩ | ⟨n, hn, en, e1, hne, hl, hf⟩
  · rw [e1]
    refine ev_pos ((txnil _).2 rfl) ?_
    have hrest : ∀ c : Prop, [Decidable c] → Ev (fun k => (fname_Fits.f k a b).bind fun t103 => if t103 = true then none else (fname_Kind.f k a b).bind fun t104 => if t104 = 0 then (oculuslaw19_alive.f k).bind fun t105 => some t105 else none) true := by
      intro c _
      refine ev_bind (fits_ev a b) ?_
      rw [e2]
      refine ev_neg (by simp [fitsL]) ?_
      refine ev_bind (kind_ev a b) ?_
      rw [e2]
      exact ev_pos rfl (ev_bind alive19_ev (Ev.now _))
    refine ev_ite (fun _ => hrest True) (fun h1 => ?_)
    exact ev_pos (by omega) (hrest True)
  · rw [e1]
    refine ev_neg (fun h => hne ((txnil _).1 h)) ?_
    refine ev_bind (number_ev _) ?_
    rw [by_tx, hf]
    refine ev_pos rfl ?_
    have hj : Ev (fun k => oculuslaw19_FnameOwn.j1 k a b (tx (nm n)) (tx (nmI b)) false) true := by
      refine Ev.step (fun k => oculuslaw19_FnameOwn.j1.eq_2 _ _ _ _ _ _) ?_
      refine ev_neg (by simp) ?_
      refine ev_ite (fun _ => ev_bind alive19_ev (Ev.now _)) (fun h1 => ?_)
      refine ev_ite (fun _ => ev_bind alive19_ev (Ev.now _)) (fun h2 => ?_)
      rcases nmI_cases b with ⟨f1, f2, h⟩ | ⟨m, hm, em, f1, hme, hml, hmf⟩
      · exact absurd ((txnil _).2 f1) h1
      · rw [f1]
        refine ev_bind (less_ev _ _ (by omega) hne hme) ?_
        rw [order_check ⟨n, hn⟩ ⟨m, hm⟩ (by simp only; omega)]
        exact ev_pos rfl (ev_bind alive19_ev (Ev.now _))
    refine ev_ite (fun _ => hj) (fun h1 => ?_)
    have e3 : ((tx (nm n)).toList == (tx (nmI b)).toList) = (a == b) := by
      rcases nmI_cases b with ⟨f1, f2, h⟩ | ⟨m, hm, em, f1, hme, hml, hmf⟩
      · exact absurd ((txnil _).2 f1) h1
      · rw [f1, toList_by, toList_by, by_tx, by_tx, Bool.eq_iff_iff, beq_iff_eq, beq_iff_eq]
        constructor
        · intro h; rw [← hf, ← hmf, h]
        · intro h
          have : n = m := by omega
          rw [this]
    rw [e3, bne_self_eq_false]
    exact hj
end Go.Proofs.Ytjbdljolpkkhcaa.Pure
/- The row of the law FnameOwn: for every input the call returns true and each argument reads afterwards as before, out of its pure statement and the contract of its function. Conditions: none beyond the given statement. -/
namespace Go.Proofs.Ytjbdljolpkkhcaa.fnameOwn
open Go.ChangeShapes Go.WideShapes Go.ChangeAt Go.RowKit
open Go.ChangeMaps (open_string shut_string)
open Go.Proofs.Ytjbdljolpkkhcaa.Opn Go.Proofs.Ytjbdljolpkkhcaa.X
open Go.Proofs.YtjbdljolpkkhcaaW.PrintWords (Kd Drawn0)
set_option linter.unusedVariables false
theorem own : ownKnob Try.prog.godebug = none := by kernel_rfl
theorem laidOut : laidOutB Try.prog = true := by kernel_rfl
set_option maxRecDepth 100000 in
set_option maxHeartbeats 1000000 in
theorem lifted (os : Os) (started : os.Started) (H : Type) (enc : TypeId × Value → H) :
    ReturnsInHanded {} Try.checked os 7 .any (Rows.fnameOwnSpec.pre6 enc Try.prog Try.f7 Rows.fnameOwnRow.domain false) (Rows.fnameOwnSpec.post enc Try.prog Try.f7 false true false false) := by
  refine returnsInHanded_of_change_sized (C := Try.checked) own started (by kernel_rfl) Try.func7
    (ChangeSpec.witness6 (enc := enc) (C := Try.checked) false ⟨#[], #[.int .i64 0, .int .i64 0], []⟩ 8 (by kernel_rfl) (by kernel_rfl) (by kernel_rfl) (by kernel_rfl)) ?_
  intro W base args ds gs before hval0 hW hcnd hsz0 _
  have hsz : (DataW.weightsEach Try.prog (Try.f7.params.toList ++ Rows.fnameOwnSpec.plain.varTypes Try.prog) (ds ++ gs)).all (· ≤ reachBytes) = true := hsz0
  have hval : ∀ (j : Nat) t v, Try.f7.params[j]? = some t → args[j]? = some v → Value.okWide Try.prog W .any base t v := hval0
  have hW' := hW
  obtain ⟨p, q, hA0, hV, rfl, hfz, hnd⟩ := hW
  have hA : DataW.TrodAll enc Try.prog W 0 (fun _ => true) true Try.f7.params.toList args.toList ds p := hA0
  rw [Try.params7] at hA hval hsz
  obtain ⟨v0, vs0, d0, ds0, p0, q0, hargs, rfl, rfl, h0, r0⟩ := trodAll_cons hA
  obtain ⟨v1, vs1, d1, ds1, p1, q1, rfl, rfl, rfl, h1, r1⟩ := trodAll_cons r0
  obtain ⟨rfl, rfl, rfl⟩ := trodAll_nil r1
  obtain rfl : args = #[v0, v1] := by cases args; simp_all
  obtain ⟨rfl, rfl⟩ := trodVars_none hV
  have lt0 : ∀ x ∈ p0, x.block < W.heap.size := by obtain ⟨m, hm⟩ := h0; exact DataW.trod_lt m _ _ _ hm
  have hw0 : ∀ m ∈ d0.weights Try.prog 3, m ≤ reachBytes := fun m hm => of_decide_eq_true (List.all_eq_true.1 hsz m (DataW.weights_mem_each (j := 0) (t := 3) rfl rfl m hm))
  obtain ⟨a0, K0, g0⟩ : ∃ a, ((Kd.int .i64) : Kd Int).K W a v0.cells.toList ∧ ((Lit.int .i64 a).wf = true) := by
    obtain ⟨fuel, hf⟩ := h0
    exact (opens_int Try.underlying3) hf hw0
  obtain rfl : v0 = .int .i64 a0 := by
    obtain ⟨x, rfl, _⟩ := open_int Try.underlying3 (hval 0 3 v0 rfl rfl) h0
    have := K0
    simpa [Kd.int, Kd.scalar, Value.cells] using this
  have lt1 : ∀ x ∈ p1, x.block < W.heap.size := by obtain ⟨m, hm⟩ := h1; exact DataW.trod_lt m _ _ _ hm
  have hw1 : ∀ m ∈ d1.weights Try.prog 3, m ≤ reachBytes := fun m hm => of_decide_eq_true (List.all_eq_true.1 hsz m (DataW.weights_mem_each (j := 1) (t := 3) rfl rfl m hm))
  obtain ⟨a1, K1, g1⟩ : ∃ a, ((Kd.int .i64) : Kd Int).K W a v1.cells.toList ∧ ((Lit.int .i64 a).wf = true) := by
    obtain ⟨fuel, hf⟩ := h1
    exact (opens_int Try.underlying3) hf hw1
  obtain rfl : v1 = .int .i64 a1 := by
    obtain ⟨x, rfl, _⟩ := open_int Try.underlying3 (hval 1 3 v1 rfl rfl) h1
    have := K1
    simpa [Kd.int, Kd.scalar, Value.cells] using this
  obtain ⟨k, hk⟩ := Pure.FnameOwn a0 a1 g0 g1
  clear hA0 hval0 hsz0 hsz
  refine (oculuslaw19_FnameOwn.calls k a0 a1 true W hk).mono fun e W' ⟨he, bel0⟩ => ?_
  have bel : Below W.heap.size W W' := bel0
  subst he
  exact ⟨_, rfl, _, _, _, [], _, [], hW', trodAll_mk1 (shut_bool Try.underlying4 _), (trodAll_cons_mk (Below.trod laidOut (by kernel_rfl) (of_decide_eq_true (by kernel_rfl)) h0 bel lt0) (trodAll_cons_mk (Below.trod laidOut (by kernel_rfl) (of_decide_eq_true (by kernel_rfl)) h1 bel lt1) trodAll_mk0)), rfl, bel.frame _, fun h => by cases h⟩
theorem over : Rows.fnameOwnRow.holds Try.pinned (OpenSpec.ofChange Rows.fnameOwnSpec) :=
  OpenClaim.holds_of_wide 7 Try.f7 rfl rfl rfl rfl rfl rfl rfl ⟨rfl, rfl, rfl, rfl, rfl⟩ rfl rfl rfl rfl rfl (by kernel_rfl) Try.func7 (by kernel_rfl)
    (of_decide_eq_true (by kernel_rfl)) (by unfold Func.isWrapper; first | (rw [if_pos (by decide +kernel)]; kernel_rfl) | (rw [if_neg (by decide +kernel)]; exact ⟨rfl, rfl⟩))
    (fun os started H enc _ => lifted os started H enc)
theorem proved : Rows.FnameOwnSaid := over
end Go.Proofs.Ytjbdljolpkkhcaa.fnameOwn
namespace Go.Proofs.Ytjbdljolpkkhcaa
/-- The row, under a short name, for the claim. -/
theorem fnameOwn_holds : Rows.FnameOwnSaid := fnameOwn.proved
#print axioms fnameOwn_holds
end Go.Proofs.Ytjbdljolpkkhcaa
