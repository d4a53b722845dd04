/- Contracts of the functions that the law LookCounts reaches, and what they answer (a session's own texts, joined; part 8). -/
import Derived.Deep.Slices
import Derived.ChangeArms
import Derived.SizedLaws
import Derived.OpenShut
import Derived.Laws.BitsAllLaws
import Derived.Lib.Strings
import Derived.Lib.IndexBytes
import Derived.Test.YtejkoenlfcghbaaGreatBLookCounts7
/- A general opening of a row's arguments: what a value of a type reads as, as a term of a kind 'Kd', with the bounds that the row's reach gives. -/
set_option linter.unusedVariables false
set_option linter.unusedSimpArgs false
namespace Go.Proofs.YtejkoenlfcghbaaGreat.Opn
open Go.ChangeShapes Go.WideShapes Go.RowKit Go.Proofs.YtejkoenlfcghbaaGreatW.PrintWords
def Opens {α : Type} (P : Program) (t : TypeId) (d : Kd α) (good : α → Prop) : Prop :=
 ∀ {H : Type} {enc : TypeId × Value → H} {w : World} {base : Nat} {spare : Nat → Bool} {held : Bool} {fuel : Nat} {cs : List Value} {x : DataW H × List MemPlace},
  DataW.trod enc P w base spare held fuel t cs = some x → (∀ m ∈ x.1.weights P t, m ≤ reachBytes) → ∃ a, d.K w a cs ∧ good a
theorem opens_int {P : Program} {t : TypeId} {k : IntKind} (ht : P.underlying t = some (.int k)) : Opens P t (Kd.int k) (fun n => (Lit.int k n).wf = true) := by
 intro H enc w base spare held fuel cs x hx _
 obtain ⟨n, rfl, rfl, hn⟩ := DataW.trod_int ht hx
 exact ⟨n, rfl, hn⟩
theorem opens_string {P : Program} {t : TypeId} (ht : P.underlying t = some .string) : Opens P t Kd.string (fun s => s.size ≤ reachBytes) := by
 intro H enc w base spare held fuel cs x hx hw
 obtain ⟨s, rfl, rfl, _⟩ := DataW.trod_string ht hx
 refine ⟨s, rfl, ?_⟩
 have := hw s.data.toList.length (by simp [DataW.weights])
 simpa using this
theorem weightsAll_mem {H : Type} {P : Program} {e : TypeId} : ∀ {l : List (DataW H)} {d : DataW H}, d ∈ l → ∀ m ∈ d.weights P e, m ∈ DataW.weightsAll P e l
 | d0 :: l, d, hd, m, hm => by
  simp only [DataW.weightsAll, List.mem_append]
  rcases List.mem_cons.1 hd with rfl | hd
  ·exact Or.inl hm
  ·exact Or.inr (weightsAll_mem hd m hm)
 | [], _, hd, _, _ => by simp at hd
theorem opens_slice {α : Type} {P : Program} {t e : TypeId} {d : Kd α} {good : α → Prop} (ht : P.underlying t = some (.slice e)) (hc : P.cellsOf e = d.sz) {B : Nat} (hB : P.bytesOf e = B) (z : α) (h : Opens P e d good) :
  Opens P t (Kd.slice e d) (fun xs => (∀ x ∈ xs, good x) ∧ xs.length * B ≤ reachBytes) := by
 intro H enc w base spare held fuel cs x hx hw
 rcases Go.Deep.open_slice ht hx with ⟨rfl, rfl⟩ | ⟨a, len, cap, m, n, D, Pl, rfl, hb, hl, hm, hmm, rfl, hel⟩
 ·exact ⟨[], ⟨none, 0, rfl, Nat.le_refl _, rfl, by simp, fun h0 => absurd h0 (by simp)⟩, by simp, by simp⟩
 ·have hlm : len ≤ m := by rw [hmm]; split <;> omega
  have hmx : len ≤ 9223372036854775807 := by unfold maxLen at hm; omega
  have hw' : ∀ i, i < len → ∀ q ∈ (D i).weights P e, q ≤ reachBytes := by
   intro i hi q hq
   refine hw q ?_
   simp only [DataW.weights, ht]
   refine List.mem_cons_of_mem _ (List.mem_append.2 (Or.inl ?_))
   exact weightsAll_mem (d := D i) (List.mem_map.2 ⟨i, List.mem_range.2 hi, rfl⟩) q hq
  have hB' : len * B ≤ reachBytes := by
   have h0 := hw ((((List.range len).map D).length + ((List.range (m - len)).map fun j => D (len + j)).length) * P.bytesOf e) (by simp only [DataW.weights, ht]; exact List.mem_cons_self ..)
   rw [hB] at h0
   simp only [List.length_map, List.length_range] at h0
   exact Nat.le_trans (Nat.mul_le_mul_right B (by omega)) h0
  have key : ∀ i, i < len → ∃ y : α × List Value, d.K w y.1 y.2 ∧ good y.1 ∧ w.cells? base (a.add (i * P.cellsOf e)) (P.cellsOf e) = some y.2 := by
   intro i hi
   obtain ⟨cs', h1, h2⟩ := hel i (by omega)
   obtain ⟨y, h3, h4⟩ := h h2 (hw' i hi)
   exact ⟨(y, cs'), h3, h4, h1⟩
  haveI : Inhabited (α × List Value) := ⟨(z, [])⟩
  obtain ⟨F, hF⟩ := Go.Deep.choose_lt key
  refine ⟨(List.range len).map fun i => (F i).1, ⟨some a, cap, by simp, by simpa using hl, by simp, by simpa using hmx, fun h0 => ⟨a, rfl, ?_⟩⟩, ?_, by simpa using hB'⟩
  ·intro j p hj
   have hjl : j < len := by
    have := (List.getElem?_eq_some_iff.1 hj).1
    simpa using this
   have hp : p = (F j).1 := by
    rw [List.getElem?_map, List.getElem?_range hjl] at hj
    simpa using hj.symm
   subst hp
   obtain ⟨h1, h2, h3⟩ := hF j hjl
   obtain ⟨_, hlen, hcell⟩ := World.cells?_some h3
   refine ⟨(F j).2, by rw [hlen, hc], h1, fun i u hu => ?_⟩
   have hi : i < P.cellsOf e := by
    have := (List.getElem?_eq_some_iff.1 hu).1
    omega
   have := hcell i hi
   rw [Go.Deep.add_add] at this
   rw [← hc, this, hu]
  ·intro x hx
   obtain ⟨i, hi, rfl⟩ := List.mem_map.1 hx
   exact (hF i (List.mem_range.1 hi)).2.1
def OpensTail {α : Type} (P : Program) (fs : List Field) (o len : Nat) (d : Kd α) (good : α → Prop) : Prop :=
 ∀ {H : Type} {enc : TypeId × Value → H} {w : World} {base : Nat} {spare : Nat → Bool} {held : Bool} {n : Nat} {cs : List Value} {xs : List (DataW H × List MemPlace)},
  cs.length = len → xs.length = fs.length →
  (∀ (i : Nat) (f : Field), fs[i]? = some f → DataW.trod enc P w base spare held n f.type ((cs.drop f.offset).take (P.cellsOf f.type)) = xs[i]?) →
  (∀ m ∈ DataW.weightsEach P (fs.map (·.type)) (xs.map (·.1)), m ≤ reachBytes) → ∃ a, d.K w a (cs.drop o) ∧ good a
theorem tail_one {α : Type} {P : Program} {f : Field} {o len : Nat} {d : Kd α} {good : α → Prop} (ho : f.offset = o) (hl : len ≤ o + P.cellsOf f.type) (h : Opens P f.type d good) : OpensTail P [f] o len d good := by
 intro H enc w base spare held n cs xs hcs hxs hall hw
 obtain ⟨x, rfl⟩ : ∃ x, xs = [x] := by
  match xs, hxs with
  | [x], _ => exact ⟨x, rfl⟩
 have h0 := hall 0 f rfl
 rw [ho, List.take_of_length_le (by rw [List.length_drop]; omega)] at h0
 exact h h0 (fun m hm => hw m (by simp only [List.map_cons, List.map_nil, DataW.weightsEach, List.mem_append]; exact Or.inl hm))
theorem tail_cons {α β : Type} {P : Program} {f : Field} {fs : List Field} {o o' len : Nat} {a : Kd α} {b : Kd β} {ga : α → Prop} {gb : β → Prop} (ho : f.offset = o) (ho' : o' = o + P.cellsOf f.type)
  (h : Opens P f.type a ga) (ht : OpensTail P fs o' len b gb) : OpensTail P (f :: fs) o len (Kd.pair a b) (fun x => ga x.1 ∧ gb x.2) := by
 intro H enc w base spare held n cs xs hcs hxs hall hw
 obtain ⟨x, xs, rfl⟩ : ∃ x r, xs = x :: r := by
  match xs, hxs with
  | x :: r, _ => exact ⟨x, r, rfl⟩
 have h0 := hall 0 f rfl
 rw [ho] at h0
 obtain ⟨y, hy, hgy⟩ := h h0 (fun m hm => hw m (by simp only [List.map_cons, DataW.weightsEach, List.mem_append]; exact Or.inl hm))
 obtain ⟨z, hz, hgz⟩ := ht (xs := xs) hcs (by simpa using hxs) (fun i g hg => by simpa using hall (i + 1) g (by simpa using hg))
  (fun m hm => hw m (by simp only [List.map_cons, DataW.weightsEach, List.mem_append]; exact Or.inr hm))
 refine ⟨(y, z), ⟨(cs.drop o).take (P.cellsOf f.type), cs.drop o', ?_, hy, hz⟩, hgy, hgz⟩
 rw [ho', ← List.drop_drop, List.take_append_drop]
theorem opens_struct {α β : Type} {P : Program} {t : TypeId} {fs : Array Field} {len : Nat} {d : Kd α} {good : α → Prop} (ht : P.underlying t = some (.struct fs)) (hl : P.cellsOf t = len) (h : OpensTail P fs.toList 0 len d good) (f : β → α) (g : α → β) (hfg : ∀ a, f (g a) = a) :
  Opens P t (Kd.iso d f) (fun x => good (f x)) := by
 intro H enc w base spare held fuel cs x hx hw
 obtain ⟨xs, n, rfl, rfl, hcs, hxs, hall⟩ := DataW.trod_struct ht hx
 obtain ⟨a, ha, hga⟩ := h (xs := xs) (hcs.trans hl) (by simpa using hxs) (fun i f hf => hall i f (by simpa using hf)) (fun m hm => hw m (by simp only [DataW.weights, ht]; exact hm))
 refine ⟨g a, ?_, by show good (f (g a)); rw [hfg]; exact hga⟩
 show d.K w (f (g a)) cs
 rw [hfg]
 simpa using ha
theorem Opens.iso {α β : Type} {P : Program} {t : TypeId} {d : Kd α} {good : α → Prop} (h : Opens P t d good) (f : β → α) (g : α → β) (hfg : ∀ a, f (g a) = a) : Opens P t (Kd.iso d f) (fun x => good (f x)) := by
 intro H enc w base spare held fuel cs x hx hw
 obtain ⟨a, ha, hga⟩ := h hx hw
 refine ⟨g a, ?_, by show good (f (g a)); rw [hfg]; exact hga⟩
 show d.K w (f (g a)) cs
 rw [hfg]
 exact ha
end Go.Proofs.YtejkoenlfcghbaaGreat.Opn
/- The openings of the arguments of the law LookCounts, and its pure statement. -/
set_option linter.unusedVariables false
namespace Go.Proofs.YtejkoenlfcghbaaGreat.X
open Go.RowKit Go.Proofs.YtejkoenlfcghbaaGreatW.PrintWords Go.Proofs.YtejkoenlfcghbaaGreatW.PrintLast Go.Proofs.YtejkoenlfcghbaaGreatW.PrintMore Go.Proofs.YtejkoenlfcghbaaGreat.Opn
def good26 (x : S26) : Prop := ((Lit.int .i64 x.f0).wf = true) ∧ ((Lit.int .i64 x.f1).wf = true) ∧ (x.f2.size ≤ reachBytes)
theorem opens26 : Opens Tryz.prog 26 k26 good26 := opens_struct Tryz.underlying26 (len := 3) (by kernel_rfl) (tail_cons rfl (by kernel_rfl) (opens_int Tryz.underlying3) (tail_cons rfl (by kernel_rfl) (opens_int Tryz.underlying2) (tail_one rfl (Nat.le_of_eq (by kernel_rfl)) (opens_string Tryz.underlying9)))) (fun x : S26 => (x.f0, x.f1, x.f2)) (fun a => ⟨a.1, a.2.1, a.2.2⟩) (fun _ => rfl)
def good24 (x : S24) : Prop := ((Lit.int .i64 x.f0).wf = true) ∧ ((Lit.int .i64 x.f1).wf = true) ∧ ((∀ y ∈ x.f2, good26 y) ∧ x.f2.length * 32 ≤ reachBytes)
theorem opens24 : Opens Tryz.prog 24 k24 good24 := opens_struct Tryz.underlying24 (len := 3) (by kernel_rfl) (tail_cons rfl (by kernel_rfl) (opens_int Tryz.underlying3) (tail_cons rfl (by kernel_rfl) (opens_int Tryz.underlying3) (tail_one rfl (Nat.le_of_eq (by kernel_rfl)) (opens_slice Tryz.underlying22 (by kernel_rfl) (B := 32) (by kernel_rfl) z26 opens26)))) (fun x : S24 => (x.f0, x.f1, x.f2)) (fun a => ⟨a.1, a.2.1, a.2.2⟩) (fun _ => rfl)
def oculuslaw18_LookCounts.PureX : Prop := ∀ (a0 : S24) (a1 : S26), (good24 a0) → (good26 a1) → ∃ k, oculuslaw18_LookCounts.f k (a0.f0) (a0.f1) (a0.f2) (a1.f0) (a1.f1) (a1.f2) = some true
end Go.Proofs.YtejkoenlfcghbaaGreat.X
/- Plain facts on whole numbers, bits and lists that the pure statements use. -/
set_option linter.unusedVariables false
set_option linter.unusedSimpArgs false
namespace Go.Proofs.YtejkoenlfcghbaaGreat.X
open Go.RowKit Go.Proofs.YtejkoenlfcghbaaGreatW.PrintWords Go.Proofs.YtejkoenlfcghbaaGreatW.PrintLast Go.Proofs.YtejkoenlfcghbaaGreatW.PrintMore
theorem wf_i64 {x : Int} (h : (Lit.int .i64 x).wf = true) : -9223372036854775808 ≤ x ∧ x ≤ 9223372036854775807 := by
 simp only [Lit.wf, IntKind.min, IntKind.max, IntKind.signed, IntKind.bits, Bool.and_eq_true, decide_eq_true_eq, if_true] at h
 omega
theorem w64 {x : Int} (h0 : -9223372036854775808 ≤ x) (h1 : x ≤ 9223372036854775807) : wrap64 x = x := by unfold wrap64; omega
theorem w64s {i n : Nat} (h : i < n) (hn : n ≤ 9223372036854775807) : wrap64 ((i : Int) + 1) = ((i + 1 : Nat) : Int) := by unfold wrap64; omega
theorem ev_some {α : Type} {g : Nat → Option α} {r : α} (h : ∀ k, g k = some r) : Ev g r := ⟨0, fun k _ => h k⟩
theorem ev_ite {α : Type} {c : Prop} [Decidable c] {f g : Nat → Option α} {r : α} (h1 : c → Ev f r) (h2 : ¬ c → Ev g r) : Ev (fun k => if c then f k else g k) r := by
 by_cases h : c
 ·simp only [if_pos h]; exact h1 h
 ·simp only [if_neg h]; exact h2 h
theorem ev_pos {α : Type} {c : Prop} [Decidable c] {f g : Nat → Option α} {r : α} (h : c) (h1 : Ev f r) : Ev (fun k => if c then f k else g k) r := by simp only [if_pos h]; exact h1
theorem ev_neg {α : Type} {c : Prop} [Decidable c] {f g : Nat → Option α} {r : α} (h : ¬ c) (h1 : Ev g r) : Ev (fun k => if c then f k else g k) r := by simp only [if_neg h]; exact h1
theorem ev_bind {α β : Type} {g : Nat → Option α} {f : Nat → α → Option β} {a : α} {r : β} (h : Ev g a) (k : Ev (fun n => f n a) r) : Ev (fun n => (g n).bind (f n)) r := Ev.bind h k
theorem ev_bsome {α β : Type} {x : α} {f : Nat → α → Option β} {r : β} (k : Ev (fun n => f n x) r) : Ev (fun n => (some x).bind (f n)) r := k
end Go.Proofs.YtejkoenlfcghbaaGreat.X
/- Plain facts on texts as lists of bytes. -/
set_option linter.unusedVariables false
set_option linter.unusedSimpArgs false
namespace Go.Proofs.YtejkoenlfcghbaaGreat.X
open Go.RowKit Go.Proofs.YtejkoenlfcghbaaGreatW.PrintWords Go.Proofs.YtejkoenlfcghbaaGreatW.PrintLast Go.Proofs.YtejkoenlfcghbaaGreatW.PrintMore
def by_ (s : ByteArray) : List UInt8 := s.data.toList
def tx (l : List UInt8) : ByteArray := ⟨l.toArray⟩
theorem by_tx (l : List UInt8) : by_ (tx l) = l := by simp [by_, tx]
theorem tx_by (s : ByteArray) : tx (by_ s) = s := by
 obtain ⟨⟨l⟩⟩ := s
 rfl
theorem by_inj {s t : ByteArray} (h : by_ s = by_ t) : s = t := by rw [← tx_by s, ← tx_by t, h]
theorem toList_by (s : ByteArray) : s.toList = by_ s := ByteArray.toList_eq s
theorem size_by (s : ByteArray) : s.size = (by_ s).length := by
 obtain ⟨⟨l⟩⟩ := s
 rfl
theorem size_tx (l : List UInt8) : (tx l).size = l.length := by rw [size_by, by_tx]
theorem by_extract (s : ByteArray) (a b : Nat) : by_ (s.extract a b) = ((by_ s).drop a).take (b - a) := Go.Lib.extract_data s a b
theorem by_head (s : ByteArray) (b : Nat) : by_ (s.extract 0 b) = (by_ s).take b := by rw [by_extract]; simp
theorem by_tail (s : ByteArray) (a : Nat) : by_ (s.extract a s.size) = (by_ s).drop a := by
 rw [by_extract, List.take_of_length_le]
 rw [List.length_drop, size_by]
 exact Nat.le_refl _
theorem ext_head (s : ByteArray) (b : Nat) : s.extract 0 b = tx ((by_ s).take b) := by_inj (by rw [by_head, by_tx])
theorem ext_tail (s : ByteArray) (a : Nat) : s.extract a s.size = tx ((by_ s).drop a) := by_inj (by rw [by_tail, by_tx])
theorem by_append (s t : ByteArray) : by_ (s ++ t) = by_ s ++ by_ t := by
 obtain ⟨⟨l⟩⟩ := s
 obtain ⟨⟨m⟩⟩ := t
 simp [by_, ByteArray.data_append]
theorem tx_append (l m : List UInt8) : tx l ++ tx m = tx (l ++ m) := by_inj (by rw [by_append, by_tx, by_tx, by_tx])
theorem bt_by (s : ByteArray) (i : Nat) (h : i < (by_ s).length) : bt s (i : Int) = ((by_ s)[i].toNat : Int) := by
 obtain ⟨⟨l⟩⟩ := s
 have h' : (i : Int).toNat < (⟨⟨l⟩⟩ : ByteArray).size := by rw [Int.toNat_natCast]; exact h
 unfold bt
 rw [dif_pos h']
 simp only [Int.toNat_natCast]
 rfl
theorem bt_tx (l : List UInt8) (i : Nat) (h : i < l.length) : bt (tx l) (i : Int) = (l[i].toNat : Int) := by
 rw [bt_by (tx l) i (by rw [by_tx]; exact h)]
 simp only [by_tx]
theorem bt_tx0 (c : UInt8) (l : List UInt8) : bt (tx (c :: l)) 0 = (c.toNat : Int) := bt_tx (c :: l) 0 (by simp)
theorem u8_lt (c : UInt8) : c.toNat < 256 := c.toNat_lt
theorem u8_inj {a b : UInt8} (h : a.toNat = b.toNat) : a = b := UInt8.toNat_inj.1 h
end Go.Proofs.YtejkoenlfcghbaaGreat.X
/- What strings.Cut at one byte answers. -/
set_option linter.unusedVariables false
set_option linter.unusedSimpArgs false
namespace Go.Proofs.YtejkoenlfcghbaaGreat.X
open Go.RowKit Go.Proofs.YtejkoenlfcghbaaGreatW.PrintWords Go.Proofs.YtejkoenlfcghbaaGreatW.PrintLast Go.Proofs.YtejkoenlfcghbaaGreatW.PrintMore
def cutL (c : UInt8) : List UInt8 → List UInt8 × List UInt8 × Bool
 | [] => ([], [], false)
 | b :: l => if b = c then ([], l, true) else (b :: (cutL c l).1, (cutL c l).2.1, (cutL c l).2.2)
theorem index_cut (c : UInt8) : ∀ l : List UInt8, (Lib.indexByte l c = -1 ∧ (cutL c l).1 = l ∧ (cutL c l).2.1 = [] ∧ (cutL c l).2.2 = false) ∨
  ∃ n : Nat, Lib.indexByte l c = (n : Int) ∧ n < l.length ∧ (cutL c l).1 = l.take n ∧ (cutL c l).2.1 = l.drop (n + 1) ∧ (cutL c l).2.2 = true
 | [] => Or.inl ⟨rfl, rfl, rfl, rfl⟩
 | b :: l => by
  by_cases h : b = c
  ·refine Or.inr ⟨0, ?_, by simp, ?_, ?_, ?_⟩
   ·simp [Lib.indexByte, h]
   ·simp [cutL, h]
   ·simp [cutL, h]
   ·simp [cutL, h]
  ·rcases index_cut c l with ⟨h1, h2, h3, h4⟩ | ⟨n, h1, h2, h3, h4, h5⟩
   ·left
    refine ⟨?_, ?_, ?_, ?_⟩
    ·simp [Lib.indexByte, h, h1]
    ·simp [cutL, h, h2]
    ·simp [cutL, h, h3]
    ·simp [cutL, h, h4]
   ·right
    refine ⟨n + 1, ?_, by simp; omega, ?_, ?_, ?_⟩
    ·simp only [Lib.indexByte, beq_eq_false_iff_ne.2 h, h1]
     rw [if_neg (by simp), if_neg (by first | (simp; done) | (simp; omega))]
     omega
    ·simp [cutL, h, h3]
    ·simp [cutL, h, h4]
    ·simp [cutL, h, h5]
theorem cut_eq (s : ByteArray) (c : UInt8) (hs : s.size ≤ 4611686018427387904) : strings_Cut.f s (tx [c]) = some (tx (cutL c (by_ s)).1, tx (cutL c (by_ s)).2.1, (cutL c (by_ s)).2.2) := by
 unfold strings_Cut.f stringslite_Cut.f stringslite_Index.f
 have h1 : (tx [c]).size = 1 := by rw [size_tx]; rfl
 have h2 : (tx [c])[0]'(by rw [h1]; decide) = c := rfl
 rw [dif_pos h1, h2]
 simp only [Option.bind_some]
 rcases index_cut c (by_ s) with ⟨g1, g2, g3, g4⟩ | ⟨n, g1, g2, g3, g4, g5⟩
 ·rw [show Lib.indexByte s.data.toList c = -1 from g1, if_neg (by decide), g2, g3, g4, tx_by]
  rfl
 ·have hl := size_by s
  rw [show Lib.indexByte s.data.toList c = (n : Int) from g1, if_pos (by omega), if_pos (by omega), if_pos (by omega), h1]
  have hw : wrap64 ((n : Int) + ((1 : Nat) : Int)) = ((n + 1 : Nat) : Int) := by unfold wrap64; omega
  rw [hw, if_pos (by omega), if_pos (by omega), g3, g4, g5]
  simp only [Option.bind_some, Int.toNat_natCast, ext_head, ext_tail]
theorem cutL_length (c : UInt8) (l : List UInt8) : (cutL c l).1.length ≤ l.length ∧ (cutL c l).2.1.length ≤ l.length := by
 rcases index_cut c l with ⟨g1, g2, g3, g4⟩ | ⟨n, g1, g2, g3, g4, g5⟩
 ·rw [g2, g3]; simp
 ·rw [g3, g4]; simp; omega
end Go.Proofs.YtejkoenlfcghbaaGreat.X
/- What the program's reading of decimals answers. -/
set_option linter.unusedVariables false
set_option linter.unusedSimpArgs false
namespace Go.Proofs.YtejkoenlfcghbaaGreat.X
open Go.RowKit Go.Proofs.YtejkoenlfcghbaaGreatW.PrintWords Go.Proofs.YtejkoenlfcghbaaGreatW.PrintLast Go.Proofs.YtejkoenlfcghbaaGreatW.PrintMore
def resR (x : Option Int) : Int × Bool := match x with
 | some v => (v, true)
 | none => (0, false)
def resN (x : Option Nat) : Int × Bool := match x with
 | some v => ((v : Int), true)
 | none => (0, false)
theorem may_nat (n : Nat) : dec_May.f (n : Int) = some true := by
 unfold dec_May.f
 rw [Option.some.injEq, bne_iff_ne]
 omega
theorem size_nat (n : Nat) (h : n ≤ 9223372036854775807) : dec_size.f (n : Int) = some (n : Int) := by
 unfold dec_size.f
 rw [if_neg (by omega), IntKind.wrap_u64]
 congr 1
 omega
theorem sign_nn (n : Nat) : ∃ s : Int, dec_Sign.f (n : Int) = some s ∧ 0 ≤ s ∧ s ≤ 1 := by
 unfold dec_Sign.f
 rw [if_neg (by omega)]
 by_cases h : (n : Int) > 0
 ·rw [if_pos h]; exact ⟨1, rfl, by omega, by omega⟩
 ·rw [if_neg h]; exact ⟨0, rfl, by omega, by omega⟩
theorem div_one (k : Nat) (p : Nat) (hp : p < 18446744073709551616) : bits_Div64.f k 0 (p : Int) 1 = some ((p : Int), 0) := by
 unfold bits_Div64.f
 rw [if_neg (by omega), if_neg (by omega), if_pos rfl, Int.tdiv_one, Int.tmod_one, IntKind.wrap_u64, Int.emod_eq_of_lt (by omega) (by omega)]
theorem scaled_ev (a b : Nat) (ha : a ≤ 9223372036854775807) (hb : b ≤ 10000) : Ev (fun k => dec_Scaled.f k (a : Int) (b : Int) 1) (resN (if a * b ≤ 9223372036854775807 then some (a * b) else none)) := by
 unfold dec_Scaled.f
 have m1 : dec_May.f (1 : Int) = some true := may_nat 1
 have s1 : dec_size.f (1 : Int) = some (1 : Int) := size_nat 1 (by omega)
 refine ev_bind (ev_some fun _ => may_nat a) (ev_pos rfl (ev_bind (ev_some fun _ => may_nat b) (ev_pos rfl (ev_bind (ev_some fun _ => m1) (ev_pos rfl ?_)))))
 refine Ev.step (fun k => dec_Scaled.j0.eq_2 ..) (ev_neg (by simp) ?_)
 refine ev_bind (ev_some fun _ => s1) (ev_bind (ev_some fun _ => size_nat a ha) (ev_bind (ev_some fun _ => size_nat b (by omega)) ?_))
 have em : bits_Mul64.f (a : Int) (b : Int) = some (((a * b / 18446744073709551616 : Nat) : Int), ((a * b % 18446744073709551616 : Nat) : Int)) := by
  unfold bits_Mul64.f
  rw [if_pos (by omega)]
  rfl
 refine ev_bind (ev_some fun _ => em) ?_
 generalize a * b = p at *
 refine ev_ite (fun g => ?_) (fun g => ?_)
 ·rw [if_neg (by have g' : ((p / 18446744073709551616 : Nat) : Int) ≥ 1 := g; omega)]
  exact Ev.now _
 ·have g' : ¬ ((p / 18446744073709551616 : Nat) : Int) ≥ 1 := g
  have e0 : p / 18446744073709551616 = 0 := by omega
  have e1 : p % 18446744073709551616 = p := by omega
  show Ev (fun k => (bits_Div64.f k ((p / 18446744073709551616 : Nat) : Int) ((p % 18446744073709551616 : Nat) : Int) 1).bind fun bt109 => (if bt109.2 ≥ (IntKind.u64.wrap (1 - bt109.2)) then (dec_Scaled.j1 k (a : Int) (b : Int) 1 (IntKind.u64.wrap (bt109.1 + 1))) else (dec_Scaled.j1 k (a : Int) (b : Int) 1 bt109.1))) _
  rw [e0, e1]
  refine ev_bind (ev_some fun k => div_one k p (by omega)) ?_
  refine ev_neg (by show ¬ (0 : Int) ≥ IntKind.u64.wrap (1 - 0); decide) ?_
  refine Ev.step (fun k => dec_Scaled.j1.eq_2 ..) ?_
  refine ev_ite (fun g2 => ?_) (fun g2 => ?_)
  ·have g2' : (p : Int) > 9223372036854775807 := g2
   rw [if_neg (by omega)]
   exact Ev.now _
  ·have g2' : ¬ (p : Int) > 9223372036854775807 := g2
   obtain ⟨x, hx, x0, x1⟩ := sign_nn a
   obtain ⟨y, hy, y0, y1⟩ := sign_nn b
   obtain ⟨z, hz, z0, z1⟩ := sign_nn 1
   rw [if_pos (by omega)]
   refine ev_bind (ev_some fun _ => hx) (ev_bind (ev_some fun _ => hy) (ev_bind (ev_some fun _ => hz) ?_))
   have hxy : x * y = 0 ∨ x * y = 1 := by
    have hx' : x = 0 ∨ x = 1 := by omega
    have hy' : y = 0 ∨ y = 1 := by omega
    rcases hx' with rfl | rfl <;> rcases hy' with rfl | rfl <;> simp
   have hs : ¬ wrap64 (wrap64 (x * y) * z) < 0 := by
    have hz' : z = 0 ∨ z = 1 := by omega
    rcases hxy with e | e <;> rcases hz' with rfl | rfl <;> rw [e] <;> decide +kernel
   refine ev_neg hs ?_
   show Ev (fun _ => some (wrap64 (p : Int), true)) _
   rw [w64 (x := (p : Int)) (by omega) (by omega)]
   exact Ev.now _
theorem add_ev (a b : Nat) (ha : a ≤ 9223372036854775807) (hb : b ≤ 9223372036854775807) : Ev (fun k => dec_Add.f k (a : Int) (b : Int)) (resN (if a + b ≤ 9223372036854775807 then some (a + b) else none)) := by
 unfold dec_Add.f
 have j0 : ∀ (s : Int) (r : Bool), Ev (fun k => dec_Add.j0 k s r) (if r = true then (0, false) else (s, true)) := by
  intro s r
  refine Ev.step (fun k => dec_Add.j0.eq_2 ..) ?_
  cases r with
  | true => exact ev_pos rfl (Ev.now _)
  | false => exact ev_neg (by simp) (Ev.now _)
 refine ev_bind (ev_some fun _ => may_nat a) (ev_pos rfl (ev_bind (ev_some fun _ => may_nat b) (ev_pos rfl (ev_bind (ev_some fun _ => rfl) ?_))))
 by_cases h : a + b ≤ 9223372036854775807
 ·rw [if_pos h]
  have ew : wrap64 ((a : Int) + (b : Int)) = ((a + b : Nat) : Int) := by rw [w64 (by omega) (by omega)]; omega
  rw [ew]
  refine ev_pos (by rw [bne_iff_ne]; omega) ?_
  have jf := j0 ((a + b : Nat) : Int) false
  refine ev_ite (fun g1 => ?_) (fun g1 => ?_)
  ·refine ev_ite (fun g2 => ?_) (fun g2 => ?_)
   ·exact ev_neg (by omega) (ev_neg (by omega) jf)
   ·exact ev_neg (by omega) jf
  ·exact ev_neg (by omega) jf
 ·rw [if_neg h]
  have ew : wrap64 ((a : Int) + (b : Int)) = ((a + b : Nat) : Int) - 18446744073709551616 := by unfold wrap64; omega
  rw [ew]
  have jt := j0 (((a + b : Nat) : Int) - 18446744073709551616) true
  refine ev_ite (fun _ => ?_) (fun _ => jt)
  exact ev_pos (by omega) (ev_pos (by omega) (ev_pos (by omega) jt))
def numD : Nat → List UInt8 → Option Nat
 | a, [] => some a
 | a, c :: l => if 48 ≤ c.toNat ∧ c.toNat ≤ 57 then (if a * 10 + (c.toNat - 48) ≤ 9223372036854775807 then numD (a * 10 + (c.toNat - 48)) l else none) else none
def resW (x : Option Nat) (b : Bool) : Int × Bool := match x with
 | some v => ((v : Int), b)
 | none => (0, false)
theorem number_l0 (l : List UInt8) (hl : l.length ≤ 1000) : ∀ (n i : Nat), i + n = l.length → ∀ a : Nat, a ≤ 9223372036854775807 → Ev (fun k => digits_number.l0 k (tx l) (a : Int) (l.length : Int) (i : Int)) (resW (numD a (l.drop i)) (decide (l ≠ [])))
 | 0, i, hi, a, ha => by
  rw [List.drop_eq_nil_of_le (by omega), numD]
  refine Ev.step (fun k => digits_number.l0.eq_2 ..) (ev_neg (by omega) ?_)
  have e : ((tx l).toList != ([] : List UInt8)) = decide (l ≠ []) := by
   rw [toList_by, by_tx, Bool.eq_iff_iff, bne_iff_ne, decide_eq_true_eq]
  rw [e]
  exact Ev.now _
 | n + 1, i, hi, a, ha => by
  have h : i < l.length := by omega
  have hb := u8_lt l[i]
  rw [List.drop_eq_getElem_cons h, numD]
  refine Ev.step (fun k => digits_number.l0.eq_2 ..) ?_
  rw [size_tx, bt_tx l i h]
  refine ev_pos (by omega) (ev_pos (by omega) (ev_pos (by omega) ?_))
  have j1t : Ev (fun k => digits_number.j1 k (tx l) (a : Int) (i : Int) (l.length : Int) (i : Int) true) (0, false) := Ev.step (fun k => digits_number.j1.eq_2 ..) (ev_pos rfl (Ev.now _))
  refine ev_ite (fun g => ?_) (fun g => ?_)
  ·rw [if_neg (by omega)]; exact j1t
  ·by_cases g2 : (l[i].toNat : Int) > 57
   ·rw [if_neg (by omega), decide_eq_true g2]; exact j1t
   ·rw [if_pos (by omega), decide_eq_false g2]
    refine Ev.step (fun k => digits_number.j1.eq_2 ..) (ev_neg (by simp) ?_)
    refine ev_bind (scaled_ev a 10 ha (by omega)) ?_
    rw [size_tx, bt_tx l i h]
    refine ev_pos (by omega) (ev_pos (by omega) ?_)
    have ed : ((l[i].toNat : Int) - 48) % 256 = ((l[i].toNat - 48 : Nat) : Int) := by omega
    rw [ed]
    by_cases g3 : a * 10 ≤ 9223372036854775807
    ·rw [if_pos g3]
     refine ev_bind (add_ev (a * 10) (l[i].toNat - 48) g3 (by omega)) (ev_pos rfl ?_)
     by_cases g4 : a * 10 + (l[i].toNat - 48) ≤ 9223372036854775807
     ·rw [if_pos g4, if_pos g4]
      refine ev_pos rfl ?_
      rw [w64s (n := 10000) (by omega) (by omega)]
      exact number_l0 l hl n (i + 1) (by omega) _ g4
     ·rw [if_neg g4, if_neg g4]
      exact ev_neg (by simp [resN]) (Ev.now _)
    ·rw [if_neg g3, if_neg (by omega)]
     refine ev_bind (add_ev 0 (l[i].toNat - 48) (by omega) (by omega)) (ev_neg (by simp [resN]) (Ev.now _))
theorem number_ev (l : List UInt8) (hl : l.length ≤ 1000) : Ev (fun k => digits_number.f k (tx l)) (resW (numD 0 l) (decide (l ≠ []))) := by
 unfold digits_number.f
 rw [size_tx]
 have := number_l0 l hl l.length 0 (by omega) 0 (by omega)
 simpa using this
theorem numD_lt : ∀ (l : List UInt8) (a v : Nat), numD a l = some v → v < (a + 1) * 10 ^ l.length
 | [], a, v, h => by
  rw [numD] at h
  obtain rfl := Option.some.inj h
  simp
 | c :: l, a, v, h => by
  rw [numD] at h
  split at h
  ·split at h
   ·have := numD_lt l _ v h
    have hb : a * 10 + (c.toNat - 48) + 1 ≤ (a + 1) * 10 := by omega
    have h2 := Nat.mul_le_mul_right (10 ^ l.length) hb
    rw [List.length_cons, Nat.pow_succ, Nat.mul_comm (10 ^ l.length) 10, ← Nat.mul_assoc]
    omega
   ·cases h
  ·cases h
def signed (minus : Bool) (v : Nat) : Int := if minus = true then -(v : Int) else (v : Int)
def putD (minus : Bool) (x y : Nat) : Option Int := if x * 10000 + y ≤ 9223372036854775807 then some (signed minus (x * 10000 + y)) else none
theorem put_ev (minus : Bool) (x y : Nat) (hx : x ≤ 9223372036854775807) (hy : y ≤ 99999999) : Ev (fun k => digits_put.f k (x : Int) (y : Int) minus) (resR (putD minus x y)) := by
 unfold digits_put.f putD
 have j0t : ∀ (b : Bool) (s : Int), Ev (fun k => digits_put.j0 k b s true) (0, false) := fun b s => Ev.step (fun k => digits_put.j0.eq_2 ..) (ev_pos rfl (Ev.now _))
 have hof : Ev (fun k => dec_Of.f k (x : Int)) (resN (if x * 10000 ≤ 9223372036854775807 then some (x * 10000) else none)) := by
  unfold dec_Of.f
  exact ev_bind (scaled_ev x 10000 hx (by omega)) (Ev.now _)
 refine ev_bind hof ?_
 by_cases g : x * 10000 ≤ 9223372036854775807
 ·rw [if_pos g]
  refine ev_bind (add_ev (x * 10000) y g (by omega)) (ev_pos rfl ?_)
  by_cases g2 : x * 10000 + y ≤ 9223372036854775807
  ·rw [if_pos g2, if_pos g2]
   generalize x * 10000 + y = s at *
   refine Ev.step (fun k => digits_put.j0.eq_2 ..) (ev_neg (by simp [resN]) ?_)
   show Ev (fun _ => if minus = true then ((dec_Neg.f ((s : Nat) : Int)).bind fun bt105 => (some (bt105.1, bt105.2))) else (some (((s : Nat) : Int), true))) (resR (some (signed minus s)))
   unfold signed
   cases minus with
   | false => exact ev_neg (by simp) (Ev.now _)
   | true =>
    refine ev_pos rfl (ev_some fun _ => ?_)
    unfold dec_Neg.f
    rw [may_nat, Option.bind_some, if_pos rfl, w64 (by omega) (by omega)]; rfl
  ·rw [if_neg g2, if_neg g2]
   exact j0t _ _
 ·rw [if_neg g, if_neg (Nat.not_le.2 (Nat.lt_of_lt_of_le (Nat.not_le.1 g) (Nat.le_add_right _ _)))]
  have h0 := add_ev 0 y (by omega) (by omega)
  refine ev_bind h0 (ev_neg (by simp [resN]) (j0t _ _))
def unsD (minus : Bool) (l : List UInt8) : Option Int :=
 match numD 0 (cutL 46 l).1 with
 | none => none
 | some x => if (cutL 46 l).1 = [] then none else
  if (cutL 46 l).2.2 = true then
   match numD 0 (cutL 46 l).2.1 with
   | none => none
   | some y => if (cutL 46 l).2.1 = [] ∨ (cutL 46 l).2.1.length > 4 then none else putD minus x (y * 10 ^ (4 - (cutL 46 l).2.1.length))
  else putD minus x 0
def isMinus : List UInt8 → Bool
 | [] => false
 | c :: _ => c == 45
def dRead (l : List UInt8) : Option Int := if l.length > 40 then none else unsD (isMinus l) (if isMinus l = true then l.drop 1 else l)
theorem cutPre (l : List UInt8) : strings_CutPrefix.f (tx l) (⟨#[45]⟩ : ByteArray) = some (tx (if isMinus l = true then l.drop 1 else l), isMinus l) := by
 unfold strings_CutPrefix.f stringslite_CutPrefix.f stringslite_HasPrefix.f
 have e1 : (⟨#[45]⟩ : ByteArray) = tx [45] := rfl
 rw [e1, size_tx, size_tx]
 have e45 : (([45] : List UInt8).length : Int) = 1 := rfl
 have e45n : ([45] : List UInt8).length = 1 := rfl
 rw [e45, e45n]
 cases l with
 | nil => rfl
 | cons c l =>
  rw [if_pos (by simp; omega), if_pos (by omega), if_pos (by simp; omega)]
  have e2 : ((tx (c :: l)).extract 0 1).toList = [c] := by rw [ext_head, by_tx, toList_by, by_tx]; rfl
  have e3 : (tx [45]).toList = [45] := by rw [toList_by, by_tx]
  rw [e2, e3, Option.bind_some]
  have e4 : (([c] : List UInt8) == [45]) = (c == 45) := by simp
  rw [e4]
  show (Option.bind (if (c == 45) = true then _ else _) _) = some (tx (if (c == 45) = true then _ else _), (c == 45))
  cases hc : (c == 45) with
  | true =>
   rw [if_pos rfl, if_pos (by omega), if_pos (by simp; omega), if_pos rfl]
   have := ext_tail (tx (c :: l)) 1
   rw [size_tx, by_tx] at this
   rw [this]; rfl
  | false => rw [if_neg (by simp), if_neg (by simp)]; rfl
theorem read_l0 (minus : Bool) (x : Nat) (hx : x ≤ 9223372036854775807) (r : Nat) (hr : r ≤ 4) (y : Nat) (hy : y * 10 ^ r ≤ 99999999) : ∀ (n i : Nat), i + n = r → Ev (fun k => digits_Read.l0 k minus (x : Int) ((y * 10 ^ i : Nat) : Int) (r : Int) (i : Int)) (resR (putD minus x (y * 10 ^ r)))
 | 0, i, hi => by
  obtain rfl : i = r := by omega
  refine Ev.step (fun k => digits_Read.l0.eq_2 ..) (ev_neg (by omega) ?_)
  exact ev_bind (put_ev minus x _ hx hy) (Ev.now _)
 | n + 1, i, hi => by
  have hle : y * 10 ^ (i + 1) ≤ y * 10 ^ r := Nat.mul_le_mul_left y (Nat.pow_le_pow_right (by omega) (by omega))
  have e : y * 10 ^ (i + 1) = y * 10 ^ i * 10 := by rw [Nat.pow_succ, Nat.mul_assoc]
  refine Ev.step (fun k => digits_Read.l0.eq_2 ..) (ev_pos (by omega) ?_)
  have ew : wrap64 (((y * 10 ^ i : Nat) : Int) * 10) = ((y * 10 ^ (i + 1) : Nat) : Int) := by
   rw [e] at hle ⊢
   generalize y * 10 ^ i = q at *
   rw [w64 (by omega) (by omega)]; omega
  rw [ew, w64s (n := 10000) (by omega) (by omega)]
  exact read_l0 minus x hx r hr y hy n (i + 1) (by omega)
theorem numD_le : ∀ (l : List UInt8) (a v : Nat), a ≤ 9223372036854775807 → numD a l = some v → v ≤ 9223372036854775807
 | [], a, v, ha, h => by rw [numD] at h; obtain rfl := Option.some.inj h; exact ha
 | c :: l, a, v, ha, h => by
  rw [numD] at h
  split at h
  ·split at h
   ·rename_i h2
    exact numD_le l _ v h2 h
   ·cases h
  ·cases h
theorem dread_ev (l : List UInt8) (hl : l.length ≤ 1000) : Ev (fun k => digits_Read.f k (tx l)) (resR (dRead l)) := by
 unfold digits_Read.f dRead
 refine ev_bind (ev_some fun _ => cutPre l) ?_
 rw [size_tx]
 refine ev_ite (fun g => ?_) (fun g => ?_)
 ·rw [if_pos (show l.length > 40 by omega)]; exact Ev.now _
 ·rw [if_neg (show ¬ l.length > 40 by omega)]
  have hlen : (if isMinus l = true then l.drop 1 else l).length ≤ 40 := by
   split
   ·rw [List.length_drop]; omega
   ·omega
  generalize (if isMinus l = true then l.drop 1 else l) = m at *
  generalize isMinus l = minus at *
  have hc := cutL_length 46 m
  have e := cut_eq (tx m) 46 (by rw [size_tx]; omega)
  rw [by_tx] at e
  refine ev_bind (ev_some fun _ => e) ?_
  have n1 := number_ev (cutL 46 m).1 (by omega)
  have n2 := number_ev (cutL 46 m).2.1 (by omega)
  refine ev_bind n1 (ev_bind n2 ?_)
  have j0t : ∀ (a : Bool) (b : ByteArray) (c d : Int), Ev (fun k => digits_Read.j0 k a b c d true) (0, false) := fun a b c d => Ev.step (fun k => digits_Read.j0.eq_2 ..) (ev_pos rfl (Ev.now _))
  unfold unsD
  cases h1 : numD 0 (cutL 46 m).1 with
  | none => exact ev_neg (by simp [resW]) (j0t _ _ _ _)
  | some x =>
   have hx := numD_le _ 0 x (by omega) h1
   by_cases h2 : (cutL 46 m).1 = []
   ·refine ev_neg (by simp [resW, h2]) ?_
    show Ev _ (resR (if (cutL 46 m).1 = [] then none else _))
    rw [if_pos h2]
    exact j0t _ _ _ _
   ·refine ev_pos (by simp [resW, h2]) ?_
    show Ev _ (resR (if (cutL 46 m).1 = [] then none else _))
    rw [if_neg h2]
    cases h3 : (cutL 46 m).2.2 with
    | false =>
     refine ev_neg (by simp) ?_
     rw [if_neg (by simp)]
     have ht : (cutL 46 m).2.1 = [] := by
      rcases index_cut 46 m with ⟨_, _, k, _⟩ | ⟨_, _, _, _, _, k⟩
      ·exact k
      ·rw [h3] at k; cases k
     rw [ht]
     refine Ev.step (fun k => digits_Read.j0.eq_2 ..) (ev_neg (by simp) ?_)
     rw [size_tx]
     have ew : wrap64 (4 - (([] : List UInt8).length : Int)) = ((4 : Nat) : Int) := by rw [List.length_nil]; exact w64 (x := 4 - ((0 : Nat) : Int)) (by omega) (by omega)
     have := read_l0 minus x hx 4 (by omega) 0 (by simp) 4 0 (by omega)
     simp only [Nat.zero_mul] at this
     rw [ew]
     simp only [numD, resW]
     exact this
    | true =>
     refine ev_pos rfl ?_
     rw [if_pos rfl]
     cases h4 : numD 0 (cutL 46 m).2.1 with
     | none => exact ev_neg (by simp [resW]) (j0t _ _ _ _)
     | some y =>
      by_cases h5 : (cutL 46 m).2.1 = []
      ·refine ev_neg (by simp [resW, h5]) ?_
       show Ev _ (resR (if (cutL 46 m).2.1 = [] ∨ (cutL 46 m).2.1.length > 4 then none else _))
       rw [if_pos (Or.inl h5)]
       exact j0t _ _ _ _
      ·refine ev_pos (by simp [resW, h5]) ?_
       show Ev (fun k => digits_Read.j0 k minus (tx (cutL 46 m).2.1) (x : Int) (y : Int) (decide (((tx (cutL 46 m).2.1).size : Int) > 4))) (resR (if (cutL 46 m).2.1 = [] ∨ (cutL 46 m).2.1.length > 4 then none else putD minus x (y * 10 ^ (4 - (cutL 46 m).2.1.length))))
       rw [size_tx]
       by_cases h6 : (cutL 46 m).2.1.length > 4
       ·rw [if_pos (Or.inr h6), decide_eq_true (by omega)]
        exact j0t _ _ _ _
       ·rw [if_neg (by rintro (k | k); exact h5 k; exact h6 k), decide_eq_false (by omega)]
        refine Ev.step (fun k => digits_Read.j0.eq_2 ..) (ev_neg (by simp) ?_)
        rw [size_tx]
        have hb := numD_lt _ 0 y h4
        generalize (cutL 46 m).2.1.length = q at *
        have ew : wrap64 (4 - (q : Int)) = ((4 - q : Nat) : Int) := by rw [w64 (by omega) (by omega)]; omega
        rw [ew]
        have hy : y * 10 ^ (4 - q) ≤ 99999999 := by
         have h7 : y * 10 ^ (4 - q) ≤ 10 ^ q * 10 ^ (4 - q) := Nat.mul_le_mul_right _ (by rw [Nat.zero_add, Nat.one_mul] at hb; omega)
         rw [← Nat.pow_add, show q + (4 - q) = 4 by omega] at h7
         omega
        have := read_l0 minus x hx (4 - q) (by omega) y hy (4 - q) 0 (by omega)
        simpa using this
end Go.Proofs.YtejkoenlfcghbaaGreat.X
/- Patterns and texts: plain. -/
set_option linter.unusedVariables false
set_option linter.unusedSimpArgs false
namespace Go.Proofs.YtejkoenlfcghbaaGreat.X
open Go.RowKit Go.Proofs.YtejkoenlfcghbaaGreatW.PrintWords Go.Proofs.YtejkoenlfcghbaaGreatW.PrintLast Go.Proofs.YtejkoenlfcghbaaGreatW.PrintMore
def okC (c b : UInt8) : Bool := c == 63 || c == b
def gl : List UInt8 → List UInt8 → Bool
 | [], [] => true
 | [], _ :: _ => false
 | c :: p, [] => c == 42 && gl p []
 | c :: p, b :: t => if c = 42 then gl p (b :: t) || gl (c :: p) t else okC c b && gl p t
termination_by p t => p.length + t.length
theorem gl_nil (t : List UInt8) : gl [] t = true ↔ t = [] := by
 cases t with
 | nil => simp [gl]
 | cons b t => simp [gl]
theorem gl_star (p : List UInt8) : ∀ t : List UInt8, gl (42 :: p) t = true ↔ ∃ u v, t = u ++ v ∧ gl p v = true
 | [] => by
  rw [gl]
  simp only [beq_self_eq_true, Bool.true_and]
  constructor
  ·intro h; exact ⟨[], [], rfl, h⟩
  ·rintro ⟨u, v, h, hv⟩
   have := List.append_eq_nil_iff.1 h.symm
   rw [this.2] at hv; exact hv
 | b :: t => by
  rw [gl, if_pos rfl, Bool.or_eq_true, gl_star p t]
  constructor
  ·rintro (h | ⟨u, v, h, hv⟩)
   ·exact ⟨[], b :: t, rfl, h⟩
   ·exact ⟨b :: u, v, by rw [h]; rfl, hv⟩
  ·rintro ⟨u, v, h, hv⟩
   cases u with
   | nil => left; rw [show v = b :: t from h.symm] at hv; exact hv
   | cons x u =>
    right
    injection h with h1 h2
    exact ⟨u, v, h2, hv⟩
theorem gl_one {c : UInt8} (hc : c ≠ 42) (p : List UInt8) (t : List UInt8) : gl (c :: p) t = true ↔ ∃ b v, t = b :: v ∧ okC c b = true ∧ gl p v = true := by
 cases t with
 | nil =>
  rw [gl]
  constructor
  ·intro h; rw [Bool.and_eq_true, beq_iff_eq] at h; exact absurd h.1 hc
  ·rintro ⟨b, v, h, _⟩; cases h
 | cons b t =>
  rw [gl, if_neg hc, Bool.and_eq_true]
  constructor
  ·rintro ⟨h1, h2⟩; exact ⟨b, t, rfl, h1, h2⟩
  ·rintro ⟨b', v, h, h1, h2⟩; injection h with e1 e2; subst e1; subst e2; exact ⟨h1, h2⟩
theorem gl_app : ∀ (p q t : List UInt8), gl (p ++ q) t = true ↔ ∃ u v, t = u ++ v ∧ gl p u = true ∧ gl q v = true
 | [], q, t => by
  rw [List.nil_append]
  constructor
  ·intro h; exact ⟨[], t, rfl, by rw [gl], h⟩
  ·rintro ⟨u, v, h, hu, hv⟩
   rw [gl_nil] at hu
   rw [h, hu]; exact hv
 | c :: p, q, t => by
  by_cases hc : c = 42
  ·subst hc
   rw [List.cons_append, gl_star]
   constructor
   ·rintro ⟨u, v, h, hv⟩
    obtain ⟨x, y, h1, h2, h3⟩ := (gl_app p q v).1 hv
    exact ⟨u ++ x, y, by rw [h, h1, List.append_assoc], (gl_star p _).2 ⟨u, x, rfl, h2⟩, h3⟩
   ·rintro ⟨u, v, h, hu, hv⟩
    obtain ⟨x, y, h1, h2⟩ := (gl_star p u).1 hu
    exact ⟨x, y ++ v, by rw [h, h1, List.append_assoc], (gl_app p q _).2 ⟨y, v, rfl, h2, hv⟩⟩
  ·rw [List.cons_append, gl_one hc]
   constructor
   ·rintro ⟨b, v, h, h0, hv⟩
    obtain ⟨x, y, h1, h2, h3⟩ := (gl_app p q v).1 hv
    exact ⟨b :: x, y, by rw [h, h1]; rfl, (gl_one hc p _).2 ⟨b, x, rfl, h0, h2⟩, h3⟩
   ·rintro ⟨u, v, h, hu, hv⟩
    obtain ⟨b, y, h1, h0, h2⟩ := (gl_one hc p u).1 hu
    exact ⟨b, y ++ v, by rw [h, h1]; rfl, h0, (gl_app p q _).2 ⟨y, v, rfl, h2, hv⟩⟩
def fitL : List UInt8 → List UInt8 → Bool
 | [], _ => true
 | _ :: _, [] => false
 | c :: p, b :: t => okC c b && fitL p t
theorem gl_piece : ∀ (p q t : List UInt8), (42 : UInt8) ∉ p → (gl (p ++ q) t = true ↔ fitL p t = true ∧ gl q (t.drop p.length) = true)
 | [], q, t, _ => by simp [fitL]
 | c :: p, q, t, h => by
  simp only [List.mem_cons, not_or] at h
  rw [List.cons_append, gl_one (fun e => h.1 e.symm)]
  cases t with
  | nil => simp [fitL]
  | cons b t =>
   rw [fitL, Bool.and_eq_true, List.length_cons, List.drop_succ_cons]
   constructor
   ·rintro ⟨b', v, h1, h2, h3⟩
    injection h1 with e1 e2
    subst e1; subst e2
    obtain ⟨k1, k2⟩ := (gl_piece p q t h.2).1 h3
    exact ⟨⟨h2, k1⟩, k2⟩
   ·rintro ⟨⟨h1, h2⟩, h3⟩
    exact ⟨b, t, rfl, h1, (gl_piece p q t h.2).2 ⟨h2, h3⟩⟩
theorem fitL_len : ∀ (p t : List UInt8), fitL p t = true → p.length ≤ t.length
 | [], _, _ => Nat.zero_le _
 | _ :: _, [], h => by simp [fitL] at h
 | c :: p, b :: t, h => by
  rw [fitL, Bool.and_eq_true] at h
  have := fitL_len p t h.2
  simp; omega
theorem gl_plain (p t : List UInt8) (h : (42 : UInt8) ∉ p) : gl p t = true ↔ fitL p t = true ∧ p.length = t.length := by
 have := gl_piece p [] t h
 rw [List.append_nil] at this
 rw [this, gl_nil]
 constructor
 ·rintro ⟨h1, h2⟩
  have := fitL_len p t h1
  have h3 := congrArg List.length h2
  rw [List.length_drop] at h3
  simp at h3
  exact ⟨h1, by omega⟩
 ·rintro ⟨h1, h2⟩
  exact ⟨h1, List.drop_eq_nil_of_le (by omega)⟩
theorem star_mono (p : List UInt8) (u t : List UInt8) (h : gl (42 :: p) t = true) : gl (42 :: p) (u ++ t) = true := by
 obtain ⟨x, v, h1, h2⟩ := (gl_star p t).1 h
 exact (gl_star p _).2 ⟨u ++ x, v, by rw [h1, List.append_assoc], h2⟩
theorem star_last (p t : List UInt8) (h : (42 : UInt8) ∉ p) : gl (42 :: p) t = true ↔ p.length ≤ t.length ∧ fitL p (t.drop (t.length - p.length)) = true := by
 rw [gl_star]
 constructor
 ·rintro ⟨u, v, h1, h2⟩
  obtain ⟨h3, h4⟩ := (gl_plain p v h).1 h2
  have e : t.length = u.length + v.length := by rw [h1, List.length_append]
  refine ⟨by omega, ?_⟩
  have : t.drop (t.length - p.length) = v := by
   rw [h1, List.drop_append_of_le_length (by rw [List.length_append]; omega)]
   rw [List.drop_eq_nil_of_le (by rw [List.length_append]; omega)]; rfl
  rw [this]; exact h3
 ·rintro ⟨h1, h2⟩
  refine ⟨t.take (t.length - p.length), t.drop (t.length - p.length), (List.take_append_drop _ _).symm, (gl_plain p _ h).2 ⟨h2, ?_⟩⟩
  rw [List.length_drop]; omega
theorem star_fit (p q t : List UInt8) (h : (42 : UInt8) ∉ p) (hf : fitL p t = true) : gl (42 :: (p ++ 42 :: q)) t = true ↔ gl (42 :: q) (t.drop p.length) = true := by
 constructor
 ·intro hg
  obtain ⟨u, v, h1, h2⟩ := (gl_star _ t).1 hg
  obtain ⟨h3, h4⟩ := (gl_piece p (42 :: q) v h).1 h2
  have e : v.drop p.length = (t.drop p.length).drop u.length := by rw [List.drop_drop, Nat.add_comm, ← List.drop_drop, h1, List.drop_left]
  rw [e] at h4
  rw [← List.take_append_drop u.length (t.drop p.length)]
  exact star_mono q _ _ h4
 ·intro hg
  exact (gl_star _ t).2 ⟨[], t, rfl, (gl_piece p (42 :: q) t h).2 ⟨hf, hg⟩⟩
theorem star_none (p q : List UInt8) (h : (42 : UInt8) ∉ p) (hf : ¬ fitL p [] = true) : gl (42 :: (p ++ 42 :: q)) [] = false := by
 rw [Bool.eq_false_iff]
 intro hg
 obtain ⟨u, v, h1, h2⟩ := (gl_star _ []).1 hg
 have := List.append_eq_nil_iff.1 h1.symm
 rw [this.2] at h2
 exact hf ((gl_piece p (42 :: q) [] h).1 h2).1
theorem star_skip (p q t : List UInt8) (b : UInt8) (h : (42 : UInt8) ∉ p) (hf : ¬ fitL p (b :: t) = true) : gl (42 :: (p ++ 42 :: q)) (b :: t) = gl (42 :: (p ++ 42 :: q)) t := by
 rw [Bool.eq_iff_iff]
 constructor
 ·intro hg
  obtain ⟨u, v, h1, h2⟩ := (gl_star _ _).1 hg
  cases u with
  | nil =>
   rw [show v = b :: t from h1.symm] at h2
   exact absurd ((gl_piece p (42 :: q) _ h).1 h2).1 hf
  | cons x u =>
   injection h1 with e1 e2
   exact (gl_star _ _).2 ⟨u, v, e2, h2⟩
 ·intro hg
  exact star_mono _ [b] t hg
theorem gl_snoc_star (p t : List UInt8) (b : UInt8) : gl (p ++ [42]) (t ++ [b]) = (gl p (t ++ [b]) || gl (p ++ [42]) t) := by
 have hs : ∀ v, gl [42] v = true := fun v => (gl_star [] v).2 ⟨v, [], by simp, by rw [gl]⟩
 rw [Bool.eq_iff_iff, Bool.or_eq_true, gl_app, gl_app]
 constructor
 ·rintro ⟨u, v, h, hu, _⟩
  rcases List.eq_nil_or_concat v with hv | ⟨v', x, hv⟩
  ·left; rw [hv, List.append_nil] at h; rw [h]; exact hu
  ·right
   rw [hv, List.concat_eq_append, ← List.append_assoc] at h
   have := List.append_inj' h rfl
   exact ⟨u, v', this.1, hu, hs _⟩
 ·rintro (h | ⟨u, v, h, hu, _⟩)
  ·exact ⟨t ++ [b], [], by simp, h, hs _⟩
  ·exact ⟨u, v ++ [b], by rw [h, List.append_assoc], hu, hs _⟩
theorem gl_snoc_star_nil (p : List UInt8) : gl (p ++ [42]) [] = gl p [] := by
 have hs : ∀ v, gl [42] v = true := fun v => (gl_star [] v).2 ⟨v, [], by simp, by rw [gl]⟩
 rw [Bool.eq_iff_iff, gl_app]
 constructor
 ·rintro ⟨u, v, h, hu, _⟩
  have := List.append_eq_nil_iff.1 h.symm
  rw [this.1] at hu; exact hu
 ·intro h; exact ⟨[], [], rfl, h, hs _⟩
theorem gl_snoc_one (p t : List UInt8) (b : UInt8) {c : UInt8} (hc : c ≠ 42) : gl (p ++ [c]) (t ++ [b]) = (gl p t && okC c b) := by
 rw [Bool.eq_iff_iff, Bool.and_eq_true, gl_app]
 constructor
 ·rintro ⟨u, v, h, hu, hv⟩
  obtain ⟨b', v', h1, h2, h3⟩ := (gl_one hc [] v).1 hv
  rw [gl_nil] at h3
  subst h3
  rw [h1] at h
  have := List.append_inj' h rfl
  injection this.2 with e1
  rw [this.1, e1]; exact ⟨hu, h2⟩
 ·rintro ⟨h1, h2⟩
  exact ⟨t, [b], rfl, h1, (gl_one hc [] _).2 ⟨b, [], rfl, h2, by rw [gl]⟩⟩
theorem gl_snoc_one_nil (p : List UInt8) {c : UInt8} (hc : c ≠ 42) : gl (p ++ [c]) [] = false := by
 rw [Bool.eq_false_iff]
 intro h
 obtain ⟨u, v, h1, _, hv⟩ := (gl_app p [c] []).1 h
 have := List.append_eq_nil_iff.1 h1.symm
 rw [this.2] at hv
 obtain ⟨b, v', h2, _⟩ := (gl_one hc [] []).1 hv
 cases h2
end Go.Proofs.YtejkoenlfcghbaaGreat.X
/- What the program's and the reference's pattern matching answer. -/
set_option linter.unusedVariables false
set_option linter.unusedSimpArgs false
namespace Go.Proofs.YtejkoenlfcghbaaGreat.X
open Go.RowKit Go.Proofs.YtejkoenlfcghbaaGreatW.PrintWords Go.Proofs.YtejkoenlfcghbaaGreatW.PrintLast Go.Proofs.YtejkoenlfcghbaaGreatW.PrintMore
theorem okC_nat (c b : UInt8) : okC c b = (decide (c.toNat = 63) || decide (c.toNat = b.toNat)) := by
 unfold okC
 congr 1
 ·rw [Bool.eq_iff_iff, beq_iff_eq, decide_eq_true_eq]
  exact ⟨fun h => by rw [h]; rfl, fun h => u8_inj h⟩
 ·rw [Bool.eq_iff_iff, beq_iff_eq, decide_eq_true_eq]
  exact ⟨fun h => by rw [h], fun h => u8_inj h⟩
theorem fits_l0 (p t : List UInt8) (hp : p.length ≤ 1000) (hpt : p.length ≤ t.length) : ∀ (n i : Nat), i + n = p.length → Ev (fun k => crit_fits.l0 k (tx p) (tx t) (p.length : Int) (i : Int)) (fitL (p.drop i) (t.drop i))
 | 0, i, hi => by
  rw [List.drop_eq_nil_of_le (show p.length ≤ i by omega), fitL]
  refine Ev.step (fun k => crit_fits.l0.eq_2 ..) ?_
  exact ev_neg (by omega) (Ev.now _)
 | n + 1, i, hi => by
  have h : i < p.length := by omega
  have ht : i < t.length := by omega
  have ih := fits_l0 p t hp hpt n (i + 1) (by omega)
  rw [List.drop_eq_getElem_cons h, List.drop_eq_getElem_cons ht, fitL, okC_nat]
  refine Ev.step (fun k => crit_fits.l0.eq_2 ..) ?_
  rw [size_tx, size_tx, bt_tx p i h, bt_tx t i ht, w64s (n := 10000) (by omega) (by omega)]
  refine ev_pos (by omega) (ev_pos (by omega) (ev_pos (by omega) ?_))
  refine ev_ite (fun g => ?_) (fun g => ?_)
  ·rw [decide_eq_true (by omega)]; simpa using ih
  ·rw [decide_eq_false (by omega)]
   refine ev_pos (by omega) (ev_ite (fun g2 => ?_) (fun g2 => ?_))
   ·rw [decide_eq_true (by omega)]; simpa using ih
   ·rw [decide_eq_false (by omega)]; exact Ev.now _
theorem fitL_short : ∀ p t : List UInt8, t.length < p.length → fitL p t = false
 | [], _, h => by simp at h
 | _ :: _, [], _ => rfl
 | c :: p, b :: t, h => by rw [fitL, fitL_short p t (by simpa using h), Bool.and_false]
theorem fits_ev (p t : List UInt8) (hp : p.length ≤ 1000) (ht : t.length ≤ 1000) : Ev (fun k => crit_fits.f k (tx p) (tx t)) (fitL p t) := by
 unfold crit_fits.f
 rw [size_tx, size_tx]
 refine ev_ite (fun g => ?_) (fun g => ?_)
 ·rw [fitL_short p t (by omega)]; exact Ev.now _
 ·have := fits_l0 p t hp (by omega) p.length 0 (by omega)
  simpa using this
theorem cutC_app (c : UInt8) : ∀ l : List UInt8, (cutL c l).2.2 = true → l = (cutL c l).1 ++ c :: (cutL c l).2.1
 | [], h => by simp [cutL] at h
 | b :: l, h => by
  by_cases e : b = c
  ·subst e; rw [cutL, if_pos rfl]; rfl
  ·rw [cutL, if_neg e] at h ⊢
   have := cutC_app c l h
   show b :: l = b :: ((cutL c l).1 ++ c :: (cutL c l).2.1)
   rw [← this]
theorem cutC_no (c : UInt8) : ∀ l : List UInt8, c ∉ (cutL c l).1 ∧ ((cutL c l).2.2 = false → (cutL c l).1 = l ∧ (cutL c l).2.1 = [])
 | [] => by simp [cutL]
 | b :: l => by
  by_cases e : b = c
  ·subst e; rw [cutL, if_pos rfl]; simp
  ·rw [cutL, if_neg e]
   obtain ⟨h1, h2⟩ := cutC_no c l
   refine ⟨by simp only [List.mem_cons, not_or]; exact ⟨fun k => e k.symm, h1⟩, fun h => ?_⟩
   obtain ⟨k1, k2⟩ := h2 h
   exact ⟨by show b :: (cutL c l).1 = b :: l; rw [k1], k2⟩
theorem cut_tx (c : UInt8) (l : List UInt8) (hl : l.length ≤ 1000) : strings_Cut.f (tx l) (tx [c]) = some (tx (cutL c l).1, tx (cutL c l).2.1, (cutL c l).2.2) := by
 have e := cut_eq (tx l) c (by rw [size_tx]; omega)
 rw [by_tx] at e
 exact e
theorem ext_drop (l : List UInt8) (n : Nat) : (tx l).extract n l.length = tx (l.drop n) := by
 have := ext_tail (tx l) n
 rw [size_tx, by_tx] at this
 exact this
theorem like_l1 (p q : List UInt8) (h : (42 : UInt8) ∉ p) (hp : p.length ≤ 1000)
  (hq : ∀ t : List UInt8, t.length ≤ 1000 → Ev (fun k => crit_Like.l0 k (tx t) (tx q) true) (gl (42 :: q) t)) :
  ∀ t : List UInt8, t.length ≤ 1000 → Ev (fun k => crit_Like.l1 k (tx t) (tx p) (tx q) true) (gl (42 :: (p ++ 42 :: q)) t)
 | t, ht => by
  refine Ev.step (fun k => crit_Like.l1.eq_2 ..) ?_
  refine ev_bind (fits_ev p t hp ht) (ev_ite (fun g => ?_) (fun g => ?_))
  ·have hl := fitL_len p t g
   have e : gl (42 :: (p ++ 42 :: q)) t = gl (42 :: q) (t.drop p.length) := by rw [Bool.eq_iff_iff]; exact star_fit p q t h g
   rw [e, size_tx, size_tx]
   refine ev_pos (by omega) (ev_pos (by omega) ?_)
   rw [ext_drop]
   exact hq _ (by rw [List.length_drop]; omega)
  ·cases t with
   | nil =>
    rw [star_none p q h g]
    exact ev_pos (by rw [toList_by, by_tx]) (Ev.now _)
   | cons b t =>
    rw [star_skip p q t b h g]
    refine ev_neg (by rw [toList_by, by_tx]; simp) ?_
    rw [size_tx]
    refine ev_pos (by simp; omega) ?_
    rw [ext_drop]
    exact like_l1 p q h hp hq t (by simp at ht; omega)
theorem like_l0 : ∀ (n : Nat) (rest : List UInt8), rest.length < n → rest.length ≤ 1000 → ∀ t : List UInt8, t.length ≤ 1000 → Ev (fun k => crit_Like.l0 k (tx t) (tx rest) true) (gl (42 :: rest) t) := by
 intro n
 induction n with
 | zero => intro rest hr; omega
 | succ n ih =>
  intro rest hr hr2 t ht
  obtain ⟨h1, h2⟩ := cutC_no 42 rest
  have hc := cutL_length 42 rest
  refine Ev.step (fun k => crit_Like.l0.eq_2 ..) (ev_pos rfl ?_)
  refine ev_bind (ev_some fun _ => cut_tx 42 rest hr2) ?_
  cases hs : (cutL 42 rest).2.2 with
  | true =>
   refine ev_pos rfl ?_
   have e := cutC_app 42 rest hs
   have hlen : (cutL 42 rest).2.1.length < rest.length := by
    have := congrArg List.length e
    rw [List.length_append, List.length_cons] at this
    omega
   have := like_l1 (cutL 42 rest).1 (cutL 42 rest).2.1 h1 (by omega) (fun t' ht' => ih _ (by omega) (by omega) t' ht') t ht
   rw [← e] at this
   exact this
  | false =>
   obtain ⟨k1, k2⟩ := h2 hs
   refine ev_neg (by simp) ?_
   show Ev (fun k => if ((tx t).size : Int) ≥ ((tx (cutL 42 rest).1).size : Int) then _ else _) _
   rw [k1] at h1 ⊢
   rw [size_tx, size_tx]
   refine ev_ite (fun g => ?_) (fun g => ?_)
   ·have ew : wrap64 ((t.length : Int) - (rest.length : Int)) = ((t.length - rest.length : Nat) : Int) := by rw [w64 (by omega) (by omega)]; omega
    rw [ew]
    refine ev_pos (by omega) (ev_pos (by omega) ?_)
    rw [Int.toNat_natCast, ext_drop]
    have e : gl (42 :: rest) t = fitL rest (t.drop (t.length - rest.length)) := by
     rw [Bool.eq_iff_iff, star_last rest t h1]
     exact ⟨fun h => h.2, fun h => ⟨by omega, h⟩⟩
    rw [e]
    refine ev_bind (fits_ev rest _ hr2 (by rw [List.length_drop]; omega)) (Ev.now _)
   ·have e : gl (42 :: rest) t = false := by
     rw [Bool.eq_false_iff]
     intro h
     have := ((star_last rest t h1).1 h).1
     omega
    rw [e]
    exact Ev.now _
theorem like_ev (p t : List UInt8) (hp : p.length ≤ 1000) (ht : t.length ≤ 1000) : Ev (fun k => crit_Like.f k (tx p) (tx t)) (gl p t) := by
 unfold crit_Like.f
 obtain ⟨h1, h2⟩ := cutC_no 42 p
 have hc := cutL_length 42 p
 refine ev_bind (ev_some fun _ => cut_tx 42 p hp) (ev_bind (fits_ev _ t (by omega) ht) ?_)
 have j0t : ∀ (a b c : ByteArray) (d : Bool), Ev (fun k => crit_Like.j0 k a b c d true) false := fun a b c d => Ev.step (fun k => crit_Like.j0.eq_2 ..) (ev_pos rfl (Ev.now _))
 have j0f : ∀ (d : Bool) (r : Bool), (cutL 42 p).1.length ≤ t.length → Ev (fun k => crit_Like.l0 k (tx (t.drop (cutL 42 p).1.length)) (tx (cutL 42 p).2.1) d) r → Ev (fun k => crit_Like.j0 k (tx t) (tx (cutL 42 p).1) (tx (cutL 42 p).2.1) d false) r := by
  intro d r hl h
  refine Ev.step (fun k => crit_Like.j0.eq_2 ..) (ev_neg (by simp) ?_)
  rw [size_tx, size_tx]
  refine ev_pos (by omega) (ev_pos (by omega) ?_)
  rw [ext_drop]
  exact h
 cases hs : (cutL 42 p).2.2 with
 | true =>
  have e := cutC_app 42 p hs
  have eg : gl p t = (fitL (cutL 42 p).1 t && gl (42 :: (cutL 42 p).2.1) (t.drop (cutL 42 p).1.length)) := by
   conv => lhs; rw [e]
   rw [Bool.eq_iff_iff, gl_piece _ _ _ h1, Bool.and_eq_true]
  rw [eg]
  cases hf : fitL (cutL 42 p).1 t with
  | false => exact ev_neg (by simp) (j0t _ _ _ _)
  | true =>
   refine ev_pos rfl (ev_pos rfl ?_)
   rw [Bool.true_and]
   exact j0f _ _ (fitL_len _ _ hf) (like_l0 _ _ (Nat.lt_succ_self _) (by omega) _ (by rw [List.length_drop]; omega))
 | false =>
  obtain ⟨k1, k2⟩ := h2 hs
  have hp1 : (42 : UInt8) ∉ p := by rw [← k1]; exact h1
  cases hf : fitL (cutL 42 p).1 t with
  | false =>
   have eg : gl p t = false := by
    rw [Bool.eq_false_iff]
    intro h
    have := ((gl_plain p t hp1).1 h).1
    rw [k1] at hf
    rw [hf] at this
    cases this
   rw [eg]
   exact ev_neg (by simp) (j0t _ _ _ _)
  | true =>
   refine ev_pos rfl (ev_neg (by simp) ?_)
   rw [size_tx, size_tx]
   by_cases hl : (cutL 42 p).1.length = t.length
   ·have eg : gl p t = true := (gl_plain p t hp1).2 ⟨by rw [k1] at hf; exact hf, by rw [k1] at hl; exact hl⟩
    have eb : (((cutL 42 p).1.length : Int) != (t.length : Int)) = false := by rw [hl]; simp
    rw [eg, eb]
    refine j0f _ _ (by omega) ?_
    refine Ev.step (fun k => crit_Like.l0.eq_2 ..) (ev_neg (by simp) (Ev.now _))
   ·have eg : gl p t = false := by
     rw [Bool.eq_false_iff]
     intro h
     have := ((gl_plain p t hp1).1 h).2
     rw [k1] at hl
     exact hl this
    have eb : (((cutL 42 p).1.length : Int) != (t.length : Int)) = true := by rw [bne_iff_ne]; omega
    rw [eg, eb]
    exact j0t _ _ _ _
def rowF (p t : List UInt8) (i k : Nat) : Bool := gl (p.take i) (t.take k)
def rowW (p t : List UInt8) (i : Nat) : List Bool := (List.range (t.length + 1)).map (rowF p t i)
def partW (p t : List UInt8) (i k : Nat) : List Bool := (List.range k).map (rowF p t i) ++ List.replicate (t.length + 1 - k) false
theorem partW_len (p t : List UInt8) (i k : Nat) (h : k ≤ t.length + 1) : (partW p t i k).length = t.length + 1 := by
 unfold partW; simp; omega
theorem partW_set (p t : List UInt8) (i k : Nat) (h : k ≤ t.length) (v : Bool) (hv : v = rowF p t i k) : (partW p t i k).set k v = partW p t i (k + 1) := by
 unfold partW
 have e : t.length + 1 - k = (t.length + 1 - (k + 1)) + 1 := by omega
 rw [List.set_append_right _ _ (by simp), e, List.replicate_succ]
 simp only [List.length_map, List.length_range, Nat.sub_self, List.set_cons_zero]
 rw [List.range_succ, List.map_append, List.append_assoc, hv]
 rfl
theorem partW_skip (p t : List UInt8) (i k : Nat) (h : k ≤ t.length) (hv : rowF p t i k = false) : partW p t i k = partW p t i (k + 1) := by
 rw [← partW_set p t i k h false hv.symm]
 symm
 unfold partW
 have e : t.length + 1 - k = (t.length + 1 - (k + 1)) + 1 := by omega
 rw [List.set_append_right _ _ (by simp), e, List.replicate_succ]
 simp only [List.length_map, List.length_range, Nat.sub_self, List.set_cons_zero]
theorem partW_get (p t : List UInt8) (i k j : Nat) (h : j < k) (hk : k ≤ t.length + 1) : rdOf false (partW p t i k) (j : Int) = rowF p t i j := by
 unfold rdOf partW
 rw [Int.toNat_natCast, List.getD_eq_getElem?_getD, List.getElem?_append_left (by simp; omega), List.getElem?_map, List.getElem?_range h]; rfl
theorem rowW_get (p t : List UInt8) (i j : Nat) (h : j ≤ t.length) : rdOf false (rowW p t i) (j : Int) = rowF p t i j := by
 unfold rdOf rowW
 rw [Int.toNat_natCast, List.getD_eq_getElem?_getD, List.getElem?_map, List.getElem?_range (by omega)]; rfl
theorem partW_all (p t : List UInt8) (i : Nat) : partW p t i (t.length + 1) = rowW p t i := by
 unfold partW rowW
 rw [Nat.sub_self, List.replicate_zero, List.append_nil]
section
variable (p t : List UInt8) (hp : p.length ≤ 1000) (ht : t.length ≤ 1000) (i : Nat) (hi : i < p.length)
include hi in
theorem take_snoc : p.take (i + 1) = p.take i ++ [p[i]] := by rw [List.take_add_one, List.getElem?_eq_getElem hi]; rfl
include hi in
theorem row_star_zero (hc : p[i] = 42) : rowF p t (i + 1) 0 = rowF p t i 0 := by
 unfold rowF; rw [take_snoc p i hi, hc, List.take_zero, gl_snoc_star_nil]
include hi in
theorem row_star_succ (hc : p[i] = 42) (k : Nat) (hk : k < t.length) : rowF p t (i + 1) (k + 1) = (rowF p t i (k + 1) || rowF p t (i + 1) k) := by
 unfold rowF; rw [take_snoc p i hi, hc, take_snoc t k hk, gl_snoc_star]
include hi in
theorem row_one_zero (hc : p[i] ≠ 42) : rowF p t (i + 1) 0 = false := by
 unfold rowF; rw [take_snoc p i hi, List.take_zero, gl_snoc_one_nil _ hc]
include hi in
theorem row_one_succ (hc : p[i] ≠ 42) (k : Nat) (hk : k < t.length) : rowF p t (i + 1) (k + 1) = (rowF p t i k && okC p[i] t[k]) := by
 unfold rowF; rw [take_snoc p i hi, take_snoc t k hk, gl_snoc_one _ _ _ hc]
include hp ht hi in
theorem rlike_l1 (r : Bool) (hn : Ev (fun k => oculusref17_Like.l0 k (tx p) (tx t) (rowW p t (i + 1)) ((i + 1 : Nat) : Int)) r) : ∀ (m k : Nat), k + m = t.length + 1 → Ev (fun n => oculusref17_Like.l1 n (tx p) (tx t) (rowW p t i) (i : Int) (partW p t (i + 1) k) (k : Int)) r
 | 0, k, hk => by
  obtain rfl : k = t.length + 1 := by omega
  refine Ev.step (fun n => oculusref17_Like.l1.eq_2 ..) ?_
  rw [size_tx, partW_all, w64s (i := i) (n := 10000) (by omega) (by omega)]
  exact ev_neg (by omega) hn
 | m + 1, k, hk => by
  have hk2 : k ≤ t.length := by omega
  have ih := rlike_l1 r hn m (k + 1) (by omega)
  have hlen : (rowW p t i).length = t.length + 1 := by unfold rowW; simp
  have hplen := partW_len p t (i + 1) k (by omega)
  have hset : ∀ v, v = rowF p t (i + 1) k → Ev (fun n => oculusref17_Like.l1 n (tx p) (tx t) (rowW p t i) (i : Int) ((partW p t (i + 1) k).set ((k : Int)).toNat v) (wrap64 ((k : Int) + 1))) r := by
   intro v hv
   rw [Int.toNat_natCast, partW_set p t (i + 1) k hk2 v hv, w64s (n := 10000) (by omega) (by omega)]
   exact ih
  have hb := u8_lt p[i]
  refine Ev.step (fun n => oculusref17_Like.l1.eq_2 ..) ?_
  rw [size_tx, size_tx, bt_tx p i hi, hlen, hplen, rowW_get p t i k hk2]
  refine ev_pos (by omega) (ev_pos (by omega) (ev_pos (by omega) ?_))
  refine ev_ite (fun hc => ?_) (fun hc => ?_)
  ·have hc' : p[i] = 42 := u8_inj (by have : (42 : UInt8).toNat = 42 := rfl; omega)
   refine ev_pos (by omega) (ev_pos (by omega) (ev_ite (fun g => ?_) (fun g => ?_)))
   ·refine ev_pos (by omega) (hset true ?_)
    cases k with
    | zero => rw [row_star_zero p t i hi hc', g]
    | succ k => rw [row_star_succ p t i hi hc' k (by omega), g]; rfl
   ·have g' : rowF p t i k = false := by simpa using g
    refine ev_ite (fun g0 => ?_) (fun g0 => ?_)
    ·obtain ⟨j, rfl⟩ : ∃ j, k = j + 1 := ⟨k - 1, by omega⟩
     have ew : wrap64 (((j + 1 : Nat) : Int) - 1) = (j : Int) := by rw [w64 (by omega) (by omega)]; omega
     rw [ew]
     refine ev_pos (by omega) (ev_pos (by omega) (ev_pos (by omega) (hset _ ?_)))
     rw [partW_get p t (i + 1) (j + 1) j (by omega) (by omega), row_star_succ p t i hi hc' j (by omega), g']; rfl
    ·obtain rfl : k = 0 := by omega
     refine ev_pos (by omega) (hset false ?_)
     rw [row_star_zero p t i hi hc', g']
  ·have hc' : p[i] ≠ 42 := fun e => hc (by rw [e]; rfl)
   refine ev_ite (fun g0 => ?_) (fun g0 => ?_)
   ·obtain ⟨j, rfl⟩ : ∃ j, k = j + 1 := ⟨k - 1, by omega⟩
    have hj : j < t.length := by omega
    have ew : wrap64 (((j + 1 : Nat) : Int) - 1) = (j : Int) := by rw [w64 (by omega) (by omega)]; omega
    have hrow := row_one_succ p t i hi hc' j hj
    rw [okC_nat] at hrow
    rw [ew, rowW_get p t i j (by omega), bt_tx t j hj]
    refine ev_pos (by omega) (ev_pos (by omega) (ev_ite (fun g => ?_) (fun g => ?_)))
    ·refine ev_ite (fun g2 => ?_) (fun g2 => ?_)
     ·refine ev_pos (by omega) (ev_pos (by omega) (hset true ?_))
      rw [hrow, g, decide_eq_true (by omega)]; rfl
     ·refine ev_pos (by omega) (ev_pos (by omega) (ev_pos (by omega) (hset _ ?_)))
      rw [hrow, g, decide_eq_false (show ¬ p[i].toNat = 63 by omega), Bool.true_and, Bool.false_or, Bool.eq_iff_iff, beq_iff_eq, decide_eq_true_eq]
      omega
    ·have g' : rowF p t i j = false := by simpa using g
     refine ev_pos (by omega) (ev_pos (by omega) (hset false ?_))
     rw [hrow, g']; rfl
   ·obtain rfl : k = 0 := by omega
    rw [w64s (n := 10000) (by omega) (by omega)]
    rw [partW_skip p t (i + 1) 0 (by omega) (row_one_zero p t i hi hc')]
    exact ih
end
theorem rlike_l0 (p t : List UInt8) (hp : p.length ≤ 1000) (ht : t.length ≤ 1000) : ∀ (m i : Nat), i + m = p.length → Ev (fun k => oculusref17_Like.l0 k (tx p) (tx t) (rowW p t i) (i : Int)) (gl p t)
 | 0, i, hi => by
  obtain rfl : i = p.length := by omega
  have hlen : (rowW p t p.length).length = t.length + 1 := by unfold rowW; simp
  refine Ev.step (fun k => oculusref17_Like.l0.eq_2 ..) ?_
  rw [size_tx, size_tx, hlen, rowW_get p t _ _ (Nat.le_refl _)]
  refine ev_neg (by omega) (ev_pos (by omega) (ev_pos (by omega) ?_))
  unfold rowF
  rw [List.take_length, List.take_length]
  exact Ev.now _
 | m + 1, i, hi => by
  have ih := rlike_l0 p t hp ht m (i + 1) (by omega)
  have ew : wrap64 ((t.length : Int) + 1) = ((t.length + 1 : Nat) : Int) := by rw [w64 (by omega) (by omega)]; omega
  refine Ev.step (fun k => oculusref17_Like.l0.eq_2 ..) ?_
  rw [size_tx, size_tx, ew, Int.toNat_natCast]
  refine ev_pos (by omega) (ev_pos (by omega) (ev_pos (by omega) ?_))
  have := rlike_l1 p t hp ht i (by omega) _ ih (t.length + 1) 0 (by omega)
  exact this
theorem rlike_ev (p t : List UInt8) (hp : p.length ≤ 1000) (ht : t.length ≤ 1000) : Ev (fun k => oculusref17_Like.f k (tx p) (tx t)) (gl p t) := by
 unfold oculusref17_Like.f
 have ew : wrap64 ((t.length : Int) + 1) = ((t.length + 1 : Nat) : Int) := by rw [w64 (by omega) (by omega)]; omega
 rw [size_tx, ew, Int.toNat_natCast]
 refine ev_pos (by omega) (ev_pos (by omega) (ev_bsome ?_))
 refine ev_pos (by rw [List.length_replicate]; omega) ?_
 have e : (List.replicate (t.length + 1) false).set ((0 : Int)).toNat true = rowW p t 0 := by
  unfold rowW
  rw [List.range_succ_eq_map, List.map_cons, List.map_map, List.replicate_succ]
  show true :: List.replicate t.length false = _
  congr 1
  ·show true = gl (p.take 0) (t.take 0)
   rw [List.take_zero, List.take_zero, gl]
  ·apply List.ext_getElem
   ·simp
   ·intro j h1 h2
    simp only [List.getElem_replicate, List.getElem_map, List.getElem_range, Function.comp]
    symm
    rw [Bool.eq_false_iff]
    intro h
    have h3 : gl (p.take 0) (t.take (j + 1)) = true := h
    rw [List.take_zero, gl_nil] at h3
    have := congrArg List.length h3
    rw [List.length_take, List.length_nil] at this
    rw [List.length_replicate] at h1
    omega
 rw [e]
 exact rlike_l0 p t hp ht p.length 0 (by omega)
end Go.Proofs.YtejkoenlfcghbaaGreat.X
/- The reference's reading of decimals answers as the program's. -/
set_option linter.unusedVariables false
set_option linter.unusedSimpArgs false
namespace Go.Proofs.YtejkoenlfcghbaaGreat.X
open Go.RowKit Go.Proofs.YtejkoenlfcghbaaGreatW.PrintWords Go.Proofs.YtejkoenlfcghbaaGreatW.PrintLast Go.Proofs.YtejkoenlfcghbaaGreatW.PrintMore
theorem rmay_nat (n : Nat) : oculusref08_May.f (n : Int) = some true := by
 unfold oculusref08_May.f
 rw [decide_eq_true (by omega)]
theorem rabs_nat (n : Nat) (h : n ≤ 9223372036854775807) : oculusref08_Abs.f (n : Int) = some (n : Int) := by
 unfold oculusref08_Abs.f
 rw [if_neg (by omega), IntKind.wrap_u64]
 congr 1
 omega
theorem wu (n : Nat) : IntKind.u64.wrap (n : Int) = ((n % 18446744073709551616 : Nat) : Int) := by
 rw [IntKind.wrap_u64]; omega
theorem times_ten (a : Nat) (h : a ≤ 9223372036854775807) : oculusref08_Times.f (a : Int) 10 = some (((a * 10 / 18446744073709551616 : Nat) : Int), ((a * 10 % 18446744073709551616 : Nat) : Int)) := by
 unfold oculusref08_Times.f
 have e1 : Int.tdiv (a : Int) 4294967296 = ((a / 4294967296 : Nat) : Int) := rfl
 have e2 : Int.tmod (a : Int) 4294967296 = ((a % 4294967296 : Nat) : Int) := rfl
 have e3 : Int.tdiv (10 : Int) 4294967296 = 0 := by decide
 have e4 : Int.tmod (10 : Int) 4294967296 = 10 := by decide
 rw [e1, e2, e3, e4]
 have f1 : IntKind.u64.wrap (0 : Int) = 0 := by decide
 have d1 : a / 4294967296 < 2147483648 := by omega
 have d2 : a % 4294967296 < 4294967296 := by omega
 have d3 : a = a / 4294967296 * 4294967296 + a % 4294967296 := by omega
 generalize a / 4294967296 = h1 at *
 generalize a % 4294967296 = l1 at *
 have f2 : IntKind.u64.wrap ((h1 : Nat) : Int) = (h1 : Int) := by rw [wu]; omega
 have f3 : IntKind.u64.wrap (((l1 : Nat) : Int) * 10) = ((l1 * 10 : Nat) : Int) := by rw [IntKind.wrap_u64]; omega
 rw [f1, f2, f3]
 have f4 : Int.tdiv ((l1 * 10 : Nat) : Int) 4294967296 = ((l1 * 10 / 4294967296 : Nat) : Int) := rfl
 have f5 : Int.tmod ((l1 * 10 : Nat) : Int) 4294967296 = ((l1 * 10 % 4294967296 : Nat) : Int) := rfl
 rw [f4, f5]
 have f6 : IntKind.u64.wrap ((l1 * 10 / 4294967296 : Nat) : Int) = ((l1 * 10 / 4294967296 : Nat) : Int) := by rw [wu]; omega
 have f7 : IntKind.u64.wrap ((h1 : Int) * 10) = ((h1 * 10 : Nat) : Int) := by rw [IntKind.wrap_u64]; omega
 have f8 : IntKind.u64.wrap ((l1 * 10 % 4294967296 : Nat) : Int) = ((l1 * 10 % 4294967296 : Nat) : Int) := by rw [wu]; omega
 rw [f6, f7]
 have f9 : IntKind.u64.wrap (((h1 * 10 : Nat) : Int) + ((l1 * 10 / 4294967296 : Nat) : Int)) = ((h1 * 10 + l1 * 10 / 4294967296 : Nat) : Int) := by rw [IntKind.wrap_u64]; omega
 rw [f9]
 have g1 : Int.tdiv ((h1 * 10 + l1 * 10 / 4294967296 : Nat) : Int) 4294967296 = (((h1 * 10 + l1 * 10 / 4294967296) / 4294967296 : Nat) : Int) := rfl
 have g2 : Int.tmod ((h1 * 10 + l1 * 10 / 4294967296 : Nat) : Int) 4294967296 = (((h1 * 10 + l1 * 10 / 4294967296) % 4294967296 : Nat) : Int) := rfl
 rw [g1, g2]
 have f10 : IntKind.u64.wrap ((l1 : Int) * 0) = 0 := by rw [Int.mul_zero]; decide
 have f11 : IntKind.u64.wrap ((h1 : Int) * 0) = 0 := by rw [Int.mul_zero]; decide
 rw [f10, f11, Int.zero_add, Int.zero_add]
 have f12 : IntKind.u64.wrap (((h1 * 10 + l1 * 10 / 4294967296) % 4294967296 : Nat) : Int) = (((h1 * 10 + l1 * 10 / 4294967296) % 4294967296 : Nat) : Int) := by rw [wu]; omega
 have f13 : IntKind.u64.wrap (((h1 * 10 + l1 * 10 / 4294967296) / 4294967296 : Nat) : Int) = (((h1 * 10 + l1 * 10 / 4294967296) / 4294967296 : Nat) : Int) := by rw [wu]; omega
 rw [f12, f13, f13]
 have g3 : Int.tdiv (((h1 * 10 + l1 * 10 / 4294967296) % 4294967296 : Nat) : Int) 4294967296 = (((h1 * 10 + l1 * 10 / 4294967296) % 4294967296 / 4294967296 : Nat) : Int) := rfl
 have g4 : Int.tmod (((h1 * 10 + l1 * 10 / 4294967296) % 4294967296 : Nat) : Int) 4294967296 = (((h1 * 10 + l1 * 10 / 4294967296) % 4294967296 % 4294967296 : Nat) : Int) := rfl
 rw [g3, g4]
 have z1 : (h1 * 10 + l1 * 10 / 4294967296) % 4294967296 / 4294967296 = 0 := by omega
 rw [z1]
 simp only [IntKind.wrap_u64]
 congr 1
 refine Prod.ext ?_ ?_
 ·show ((((h1 * 10 + l1 * 10 / 4294967296) / 4294967296 : Nat) : Int) + _ % _) % _ = _
  have k1 : (h1 * 10 + l1 * 10 / 4294967296) / 4294967296 = a * 10 / 18446744073709551616 := by clear f1 f2 f3 f4 f5 f6 f7 f8 f9 f10 f11 f12 f13 g1 g2 g3 g4; omega
  have k2 : (h1 * 10 + l1 * 10 / 4294967296) / 4294967296 < 100 := by omega
  rw [k1] at k2 ⊢
  clear f1 f2 f3 f4 f5 f6 f7 f8 f9 f10 f11 f12 f13 g1 g2 g3 g4 k1
  omega
 ·show ((_ * _) % _ + _) % _ = _
  clear f1 f2 f3 f4 f5 f6 f7 f8 f9 f10 f11 f12 f13 g1 g2 g3 g4
  omega
theorem dstep (hi lo b s : Nat) (hv : hi * 18446744073709551616 + lo = b * 170141183460469231731687303715884105728 + s) (hb : b < 2) (hs : s < 170141183460469231731687303715884105728) (hlo : lo < 18446744073709551616) :
  hi / 9223372036854775808 = b ∧ (hi * 2 + lo / 9223372036854775808) % 18446744073709551616 * 18446744073709551616 + lo * 2 % 18446744073709551616 = s * 2 := by omega
theorem divide_l0 (r : Nat) : ∀ (i w q hi lo : Nat) (ok : Bool), i + r = 128 → w < 2 ^ r → q < 18446744073709551616 → lo < 18446744073709551616 → hi * 18446744073709551616 + lo = w * 2 ^ i →
  ∃ (q' : Nat) (ok' : Bool), Ev (fun k => oculusref08_Divide.l0 k 1 (i : Int) (hi : Int) (lo : Int) (q : Int) 0 ok) ((q' : Int), 0, ok') ∧
   (ok = true → q * 2 ^ r + w < 18446744073709551616 → q' = q * 2 ^ r + w ∧ ok' = true) ∧ (ok = false → ok' = false) ∧ (¬ q * 2 ^ r + w < 18446744073709551616 → ok' = false) := by
 induction r with
 | zero =>
  intro i w q hi lo ok hi0 hw hq hlo hv
  refine ⟨q, ok, ?_, ?_, fun h => h, fun h => ?_⟩
  ·exact Ev.step (fun k => oculusref08_Divide.l0.eq_2 ..) (ev_neg (by omega) (Ev.now _))
  ·intro h _
   exact ⟨by omega, h⟩
  ·exact absurd (show q * 2 ^ 0 + w < _ by omega) h
 | succ r ih =>
  intro i w q hi lo ok hi0 hw hq hlo hv
  have hp : 2 ^ i * 2 ^ (r + 1) = 340282366920938463463374607431768211456 := by rw [← Nat.pow_add, hi0]
  have hpi : 0 < 2 ^ i := Nat.pow_pos (by omega)
  have hp1 : 2 ^ (r + 1) = 2 ^ r * 2 := Nat.pow_succ ..
  have hp2 : 2 ^ (i + 1) = 2 ^ i * 2 := Nat.pow_succ ..
  have hpr : 0 < 2 ^ r := Nat.pow_pos (by omega)
  have hV : w * 2 ^ i < 340282366920938463463374607431768211456 := by
   rw [← hp, Nat.mul_comm (2 ^ i)]
   exact (Nat.mul_lt_mul_right hpi).2 hw
  have hhi : hi < 18446744073709551616 := by omega
  have hmod : w = w / 2 ^ r * 2 ^ r + w % 2 ^ r := by rw [Nat.mul_comm]; exact (Nat.div_add_mod w (2 ^ r)).symm
  have hb : w / 2 ^ r < 2 := Nat.div_lt_of_lt_mul (by rw [← hp1]; exact hw)
  have hwr : w % 2 ^ r < 2 ^ r := Nat.mod_lt _ hpr
  have half : 2 ^ r * 2 ^ i = 170141183460469231731687303715884105728 := by
   have : 2 ^ r * 2 ^ i * 2 = 340282366920938463463374607431768211456 := by rw [← hp, hp1, Nat.mul_comm (2 ^ i), Nat.mul_right_comm]
   omega
  have hrest : w % 2 ^ r * 2 ^ i < 170141183460469231731687303715884105728 := by rw [← half]; exact (Nat.mul_lt_mul_right hpi).2 hwr
  have hsplit : w * 2 ^ i = w / 2 ^ r * 170141183460469231731687303715884105728 + w % 2 ^ r * 2 ^ i := by
   rw [← half, ← Nat.mul_assoc, ← Nat.add_mul, ← hmod]
  obtain ⟨hbit, hnext⟩ := dstep hi lo (w / 2 ^ r) (w % 2 ^ r * 2 ^ i) (hv.trans hsplit) hb hrest hlo
  rw [Nat.mul_assoc, ← hp2] at hnext
  clear hsplit hrest hV hp half
  generalize hbb : w / 2 ^ r = b at *
  have q2 : (2 * q) % 18446744073709551616 + b < 18446744073709551616 := by omega
  obtain ⟨q', ok', ev, h1, h2, h3⟩ := ih (i + 1) (w % 2 ^ r) ((2 * q) % 18446744073709551616 + b) ((hi * 2 + lo / 9223372036854775808) % 18446744073709551616) (lo * 2 % 18446744073709551616) (ok && decide (q < 9223372036854775808)) (by omega) hwr q2 (Nat.mod_lt _ (by omega)) hnext
  have hsum : q < 9223372036854775808 → ((2 * q) % 18446744073709551616 + b) * 2 ^ r + w % 2 ^ r = q * 2 ^ (r + 1) + w := by
   intro hq2
   rw [show (2 * q) % 18446744073709551616 = 2 * q by omega, Nat.add_mul, Nat.add_assoc, ← hmod, hp1, Nat.mul_comm (2 ^ r) 2, ← Nat.mul_assoc, Nat.mul_comm 2 q]
  have hbig : ¬ q < 9223372036854775808 → ¬ q * 2 ^ (r + 1) + w < 18446744073709551616 := by
   intro hq2
   have : q * 2 ≤ q * (2 ^ r * 2) := Nat.mul_le_mul_left q (by omega)
   rw [hp1]
   omega
  refine ⟨q', ok', ?_, ?_, ?_, ?_⟩
  ·refine Ev.step (fun k => oculusref08_Divide.l0.eq_2 ..) (ev_pos (by omega) ?_)
   have e1 : Int.tdiv (hi : Int) 9223372036854775808 = ((hi / 9223372036854775808 : Nat) : Int) := rfl
   have e2 : Int.tdiv (lo : Int) 9223372036854775808 = ((lo / 9223372036854775808 : Nat) : Int) := rfl
   have e3 : IntKind.u64.wrap ((0 : Int) * 2) = 0 := by decide
   have e4 : IntKind.u64.wrap (((hi / 9223372036854775808 : Nat) : Int)) = ((b : Nat) : Int) := by rw [hbit, wu]; omega
   have e5 : IntKind.u64.wrap ((0 : Int) + (b : Int)) = (b : Int) := by rw [Int.zero_add, wu]; omega
   have e6 : IntKind.u64.wrap ((IntKind.u64.wrap ((hi : Int) * 2)) + (IntKind.u64.wrap ((lo / 9223372036854775808 : Nat) : Int))) = (((hi * 2 + lo / 9223372036854775808) % 18446744073709551616 : Nat) : Int) := by
    simp only [IntKind.wrap_u64]; omega
   have e7 : IntKind.u64.wrap ((lo : Int) * 2) = ((lo * 2 % 18446744073709551616 : Nat) : Int) := by rw [IntKind.wrap_u64]; omega
   have e8 : wrap64 ((i : Int) + 1) = ((i + 1 : Nat) : Int) := w64s (n := 200) (by omega) (by omega)
   rw [e1, e2, e3, e4, e5, e6, e7, e8]
   have ed : decide ((q : Int) < 9223372036854775808) = decide (q < 9223372036854775808) := by
    rw [Bool.eq_iff_iff, decide_eq_true_eq, decide_eq_true_eq]; omega
   rw [ed]
   have e9 : IntKind.u64.wrap ((b : Int) - 1) = 0 ∨ b = 0 := by
    by_cases hb0 : b = 0
    ·exact Or.inr hb0
    ·left
     have : b = 1 := by omega
     rw [this]; decide
   have e10 : IntKind.u64.wrap ((q : Int) * 2) = ((2 * q % 18446744073709551616 : Nat) : Int) := by rw [IntKind.wrap_u64]; omega
   rw [e10]
   have go : ∀ ok2 : Bool, ok2 = (ok && decide (q < 9223372036854775808)) → Ev (fun k => if (b : Int) ≥ 1 then oculusref08_Divide.l0 k 1 ((i + 1 : Nat) : Int) (((hi * 2 + lo / 9223372036854775808) % 18446744073709551616 : Nat) : Int) ((lo * 2 % 18446744073709551616 : Nat) : Int) (IntKind.u64.wrap (((2 * q % 18446744073709551616 : Nat) : Int) + 1)) (IntKind.u64.wrap ((b : Int) - 1)) ok2 else oculusref08_Divide.l0 k 1 ((i + 1 : Nat) : Int) (((hi * 2 + lo / 9223372036854775808) % 18446744073709551616 : Nat) : Int) ((lo * 2 % 18446744073709551616 : Nat) : Int) ((2 * q % 18446744073709551616 : Nat) : Int) (b : Int) ok2) ((q' : Int), 0, ok') := by
    intro ok2 h
    rw [h]
    rcases e9 with e9 | e9
    ·refine ev_ite (fun g => ?_) (fun g => ?_)
     ·rw [e9]
      have hb1 : b = 1 := by omega
      have : IntKind.u64.wrap (((2 * q % 18446744073709551616 : Nat) : Int) + 1) = ((2 * q % 18446744073709551616 + b : Nat) : Int) := by rw [IntKind.wrap_u64]; omega
      rw [this]
      exact ev
     ·have hb1 : b = 0 := by omega
      rw [hb1] at ev ⊢
      exact ev
    ·rw [e9] at ev ⊢
     exact ev_neg (by omega) ev
   cases ok with
   | true => exact ev_pos rfl (go _ (by simp))
   | false => exact ev_neg (by simp) (go _ (by simp))
  ·intro hok hlt
   have hq2 : q < 9223372036854775808 := Decidable.byContradiction fun h => hbig h hlt
   have := h1 (by rw [hok, decide_eq_true hq2]; rfl) (by rw [hsum hq2]; exact hlt)
   exact ⟨by rw [this.1, hsum hq2], this.2⟩
  ·intro hok
   exact h2 (by rw [hok]; rfl)
  ·intro hge
   by_cases hq2 : q < 9223372036854775808
   ·exact h3 (by rw [hsum hq2]; exact hge)
   ·exact h2 (by rw [decide_eq_false hq2]; simp)
theorem divide_one (p : Nat) (hp : p < 340282366920938463463374607431768211456) : ∃ (q' : Nat) (ok' : Bool), Ev (fun k => oculusref08_Divide.f k ((p / 18446744073709551616 : Nat) : Int) ((p % 18446744073709551616 : Nat) : Int) 1) ((q' : Int), 0, ok') ∧ (p < 18446744073709551616 → q' = p ∧ ok' = true) ∧ (¬ p < 18446744073709551616 → ok' = false) := by
 obtain ⟨q', ok', ev, h1, h2, h3⟩ := divide_l0 128 0 p 0 (p / 18446744073709551616) (p % 18446744073709551616) true rfl (by rw [show (2 : Nat) ^ 128 = 340282366920938463463374607431768211456 by decide]; exact hp) (by omega) (Nat.mod_lt _ (by omega)) (by omega)
 refine ⟨q', ok', ev, fun h => ?_, fun h => ?_⟩
 ·have := h1 rfl (by rw [Nat.zero_mul, Nat.zero_add]; exact h)
  rw [Nat.zero_mul, Nat.zero_add] at this
  exact this
 ·exact h3 (by rw [Nat.zero_mul, Nat.zero_add]; exact h)
theorem rscaled_ev (a : Nat) (ha : a ≤ 9223372036854775807) : Ev (fun k => oculusref08_Scaled.f k (a : Int) 10 1) (resN (if a * 10 ≤ 9223372036854775807 then some (a * 10) else none)) := by
 unfold oculusref08_Scaled.f
 have m10 : oculusref08_May.f (10 : Int) = some true := rmay_nat 10
 have m1 : oculusref08_May.f (1 : Int) = some true := rmay_nat 1
 refine ev_bind (ev_some fun _ => rmay_nat a) (ev_pos rfl (ev_bind (ev_some fun _ => m10) (ev_pos rfl (ev_bind (ev_some fun _ => m1) (ev_pos rfl ?_)))))
 refine Ev.step (fun k => oculusref08_Scaled.j0.eq_2 ..) (ev_neg (by decide) ?_)
 have a1 : oculusref08_Abs.f (1 : Int) = some 1 := rabs_nat 1 (by omega)
 have a10 : oculusref08_Abs.f (10 : Int) = some 10 := rabs_nat 10 (by omega)
 refine ev_bind (ev_some fun _ => a1) (ev_bind (ev_some fun _ => rabs_nat a ha) (ev_bind (ev_some fun _ => a10) (ev_bind (ev_some fun _ => times_ten a ha) ?_)))
 obtain ⟨q, ok, ev, h1, h2⟩ := divide_one (a * 10) (by omega)
 refine ev_bind ev ?_
 have jt : ∀ (x y z : Int) (o : Bool), Ev (fun k => oculusref08_Scaled.j1 k (a : Int) 10 1 1 true x y o) (0, false) := fun x y z o => Ev.step (fun k => oculusref08_Scaled.j1.eq_2 ..) (ev_pos rfl (Ev.now _))
 by_cases g : a * 10 < 18446744073709551616
 ·obtain ⟨rfl, rfl⟩ := h1 g
  refine ev_pos rfl ?_
  by_cases g2 : a * 10 ≤ 9223372036854775807
  ·rw [if_pos g2, decide_eq_false (by show ¬ ((a * 10 : Nat) : Int) > 9223372036854775807; omega)]
   refine Ev.step (fun k => oculusref08_Scaled.j1.eq_2 ..) (ev_neg (by simp) (ev_neg (by show ¬ IntKind.u64.wrap (1 - 0) ≤ (0 : Int); decide) ?_))
   refine Ev.step (fun k => oculusref08_Scaled.j2.eq_2 ..) (ev_neg (by show ¬ ((a * 10 : Nat) : Int) > 9223372036854775807; omega) ?_)
   refine ev_neg ?_ (ev_neg (by omega) (ev_some fun _ => ?_))
   ·rw [decide_eq_false (by omega), decide_eq_false (by omega)]; simp
   ·show some (wrap64 ((a * 10 : Nat) : Int), true) = _
    rw [w64 (by omega) (by omega)]; rfl
  ·rw [if_neg g2, decide_eq_true (by show ((a * 10 : Nat) : Int) > 9223372036854775807; omega)]
   exact jt _ _ 0 _
 ·obtain rfl := h2 g
  rw [if_neg (by omega)]
  exact ev_neg (by simp) (jt _ _ 0 _)
theorem radd_ev (a d : Nat) (ha : a ≤ 9223372036854775807) (hd : d ≤ 9) : Ev (fun k => oculusref08_Add.f k (a : Int) (d : Int)) (resN (if a + d ≤ 9223372036854775807 then some (a + d) else none)) := by
 unfold oculusref08_Add.f
 refine ev_bind (ev_some fun _ => rmay_nat a) (ev_pos rfl (ev_bind (ev_some fun _ => rmay_nat d) (ev_pos rfl ?_)))
 have jf : Ev (fun k => oculusref08_Add.j0 k (a : Int) (d : Int) false) (wrap64 ((a : Int) + (d : Int)), true) := Ev.step (fun k => oculusref08_Add.j0.eq_2 ..) (ev_neg (by simp) (Ev.now _))
 have jt : Ev (fun k => oculusref08_Add.j0 k (a : Int) (d : Int) true) (0, false) := Ev.step (fun k => oculusref08_Add.j0.eq_2 ..) (ev_pos rfl (Ev.now _))
 have ew : wrap64 (9223372036854775807 - (d : Int)) = 9223372036854775807 - (d : Int) := w64 (by omega) (by omega)
 rw [ew]
 by_cases g : a + d ≤ 9223372036854775807
 ·rw [if_pos g]
  have e : (wrap64 ((a : Int) + (d : Int)), true) = resN (some (a + d)) := by rw [w64 (by omega) (by omega)]; simp [resN]
  rw [← e]
  refine ev_ite (fun _ => ev_neg (by omega) (ev_neg (by omega) jf)) (fun _ => ev_neg (by omega) jf)
 ·rw [if_neg g]
  exact ev_pos (by omega) (ev_pos (by omega) jt)
def moreO (x : Option Nat) (d : Nat) : Option Nat := x.bind fun a => if a * 10 + d ≤ 9223372036854775807 then some (a * 10 + d) else none
def okO (x : Option Nat) : Prop := ∀ a, x = some a → a ≤ 9223372036854775807
theorem moreO_ok (x : Option Nat) (d : Nat) : okO (moreO x d) := by
 intro a h
 cases x with
 | none => cases h
 | some b =>
  by_cases g : b * 10 + d ≤ 9223372036854775807
  ·rw [moreO, Option.bind_some, if_pos g] at h
   obtain rfl := Option.some.inj h
   exact g
  ·rw [moreO, Option.bind_some, if_neg g] at h
   cases h
theorem more_ev (x : Option Nat) (hx : okO x) (d : Nat) (hd : d ≤ 9) : Ev (fun k => oculusref11_more.f k (resN x).1 (resN x).2 (d : Int)) (resN (moreO x d)) := by
 unfold oculusref11_more.f
 cases x with
 | none => exact ev_neg (by simp [resN]) (Ev.now _)
 | some a =>
  have ha := hx a rfl
  refine ev_pos rfl ?_
  refine ev_bind (rscaled_ev a ha) ?_
  rw [moreO, Option.bind_some]
  by_cases g : a * 10 ≤ 9223372036854775807
  ·rw [if_pos g]
   refine ev_pos rfl (ev_bind (radd_ev (a * 10) d g hd) (Ev.now _))
  ·rw [if_neg g, if_neg (by omega)]
   exact ev_neg (by simp [resN]) (Ev.now _)
def rl : Int → Nat → Option Nat → List UInt8 → Option (Int × Option Nat)
 | b, _, x, [] => some (b, x)
 | b, i, x, c :: l => if c.toNat = 46 ∧ b < 0 ∧ 0 < i then rl 0 (i + 1) x l else if 48 ≤ c.toNat ∧ c.toNat ≤ 57 then rl (if b ≥ 0 then b + 1 else b) (i + 1) (moreO x (c.toNat - 48)) l else none
end Go.Proofs.YtejkoenlfcghbaaGreat.X
/- The reference reads of a text what the program reads. -/
set_option linter.unusedVariables false
set_option linter.unusedSimpArgs false
namespace Go.Proofs.YtejkoenlfcghbaaGreat.X
open Go.RowKit Go.Proofs.YtejkoenlfcghbaaGreatW.PrintWords Go.Proofs.YtejkoenlfcghbaaGreatW.PrintLast Go.Proofs.YtejkoenlfcghbaaGreatW.PrintMore
def zerosO : Nat → Option Nat → Option Nat
 | 0, x => x
 | n + 1, x => zerosO n (moreO x 0)
def endO (minus : Bool) (l : List UInt8) (b : Int) (x : Option Nat) : Option Int := if l = [] ∨ b = 0 ∨ b > 4 then none else (zerosO (4 - b.toNat) x).map (signed minus)
theorem rread_l1 (minus : Bool) : ∀ (n k : Nat), k + n = 4 → ∀ x : Option Nat, okO x → Ev (fun m => oculusref11_Read.l1 m minus (k : Int) (resN x).1 (resN x).2) (resR ((zerosO n x).map (signed minus)))
 | 0, k, hk, x, hx => by
  refine Ev.step (fun k => oculusref11_Read.l1.eq_2 ..) (ev_neg (by omega) ?_)
  cases minus with
  | false =>
   refine ev_neg (by simp) (ev_some fun _ => ?_)
   cases x with
   | none => rfl
   | some a => rfl
  | true =>
   refine ev_pos rfl (ev_some fun _ => ?_)
   cases x with
   | none => show some (wrap64 (-(0 : Int)), false) = some ((0 : Int), false); rw [w64 (by omega) (by omega)]; rfl
   | some a =>
    have := hx a rfl
    show some (wrap64 (-(a : Int)), true) = some (-(a : Int), true)
    rw [w64 (by omega) (by omega)]
 | n + 1, k, hk, x, hx => by
  refine Ev.step (fun k => oculusref11_Read.l1.eq_2 ..) (ev_pos (by omega) ?_)
  refine ev_bind (more_ev x hx 0 (by omega)) ?_
  rw [w64s (n := 100) (by omega) (by omega)]
  exact rread_l1 minus n (k + 1) (by omega) _ (moreO_ok x 0)
theorem digit_eq (l : List UInt8) (i : Nat) (h : i < l.length) : oculusref11_Digit.f (tx l) (i : Int) = some (decide (48 ≤ l[i].toNat ∧ l[i].toNat ≤ 57)) := by
 unfold oculusref11_Digit.f
 rw [size_tx, bt_tx l i h, if_pos (by omega), if_pos (by omega)]
 by_cases g : (l[i].toNat : Int) ≥ 48
 ·rw [if_pos g]; congr 1; rw [Bool.eq_iff_iff, decide_eq_true_eq, decide_eq_true_eq]; omega
 ·rw [if_neg g, decide_eq_false (by omega)]
theorem rread_end (minus : Bool) (l : List UInt8) (hl : l.length ≤ 1000) (b : Int) (hb : -1 ≤ b ∧ b ≤ 1000) (x : Option Nat) (hx : okO x) :
  Ev (fun k => if ((l.length : Nat) : Int) = 0 then (oculusref11_Read.j6 k minus b true (resN x).1 (resN x).2) else (if b = 0 then (oculusref11_Read.j6 k minus b true (resN x).1 (resN x).2) else (oculusref11_Read.j6 k minus b (decide (b > 4)) (resN x).1 (resN x).2))) (resR (endO minus l b x)) := by
 have jt : Ev (fun k => oculusref11_Read.j6 k minus b true (resN x).1 (resN x).2) (0, false) := Ev.step (fun k => oculusref11_Read.j6.eq_2 ..) (ev_pos rfl (Ev.now _))
 unfold endO
 refine ev_ite (fun g => ?_) (fun g => ?_)
 ·rw [if_pos (Or.inl (List.eq_nil_of_length_eq_zero (by omega)))]; exact jt
 ·have hne : l ≠ [] := fun e => g (by rw [e]; rfl)
  refine ev_ite (fun g2 => ?_) (fun g2 => ?_)
  ·rw [if_pos (Or.inr (Or.inl g2))]; exact jt
  ·by_cases g3 : b > 4
   ·rw [if_pos (Or.inr (Or.inr g3)), decide_eq_true g3]; exact jt
   ·rw [if_neg (by rintro (e | e | e); exact hne e; exact g2 e; exact g3 e), decide_eq_false g3]
    refine Ev.step (fun k => oculusref11_Read.j6.eq_2 ..) (ev_neg (by simp) ?_)
    have em : mx b 0 = ((b.toNat : Nat) : Int) := by unfold mx; split <;> omega
    rw [em]
    exact rread_l1 minus (4 - b.toNat) b.toNat (by omega) x hx
theorem rread_l0 (minus : Bool) (l : List UInt8) (hl : l.length ≤ 1000) : ∀ (n i : Nat), i + n = l.length → ∀ (b : Int), -1 ≤ b ∧ b ≤ (i : Int) → ∀ x : Option Nat, okO x →
  Ev (fun k => oculusref11_Read.l0 k (tx l) minus b (i : Int) (resN x).1 (resN x).2) (resR ((rl b i x (l.drop i)).bind fun q => endO minus l q.1 q.2))
 | 0, i, hi, b, hb, x, hx => by
  rw [List.drop_eq_nil_of_le (by omega), rl, Option.bind_some]
  refine Ev.step (fun k => oculusref11_Read.l0.eq_2 ..) ?_
  rw [size_tx]
  exact ev_neg (by omega) (rread_end minus l hl b (by omega) x hx)
 | n + 1, i, hi, b, hb, x, hx => by
  have h : i < l.length := by omega
  rw [List.drop_eq_getElem_cons h, rl]
  refine Ev.step (fun k => oculusref11_Read.l0.eq_2 ..) ?_
  rw [size_tx, bt_tx l i h]
  refine ev_pos (by omega) (ev_pos (by omega) ?_)
  have hc := u8_lt l[i]
  have ew : wrap64 ((i : Int) + 1) = ((i + 1 : Nat) : Int) := w64s (n := 10000) (by omega) (by omega)
  -- no point here
  have jf : (¬ (l[i].toNat = 46 ∧ b < 0 ∧ 0 < i)) → Ev (fun k => oculusref11_Read.j3 k (tx l) minus b (i : Int) false (resN x).1 (resN x).2) (resR (((if 48 ≤ l[i].toNat ∧ l[i].toNat ≤ 57 then rl (if b ≥ 0 then b + 1 else b) (i + 1) (moreO x (l[i].toNat - 48)) (l.drop (i + 1)) else none)).bind fun q => endO minus l q.1 q.2)) := by
   intro _
   refine Ev.step (fun k => oculusref11_Read.j3.eq_2 ..) (ev_neg (by simp) (ev_bind (ev_some fun _ => digit_eq l i h) ?_))
   by_cases g : 48 ≤ l[i].toNat ∧ l[i].toNat ≤ 57
   ·rw [decide_eq_true g, if_pos g]
    refine Ev.step (fun k => oculusref11_Read.j4.eq_2 ..) (ev_neg (by simp) ?_)
    have j5 : ∀ b2 : Int, -1 ≤ b2 ∧ b2 ≤ ((i + 1 : Nat) : Int) → Ev (fun k => oculusref11_Read.j5 k (tx l) minus b2 (i : Int) (resN x).1 (resN x).2) (resR ((rl b2 (i + 1) (moreO x (l[i].toNat - 48)) (l.drop (i + 1))).bind fun q => endO minus l q.1 q.2)) := by
     intro b2 hb2
     refine Ev.step (fun k => oculusref11_Read.j5.eq_2 ..) ?_
     rw [size_tx, bt_tx l i h]
     refine ev_pos (by omega) (ev_pos (by omega) ?_)
     have e1 : wrap64 ((wrap64 (l[i].toNat : Int)) - 48) = ((l[i].toNat - 48 : Nat) : Int) := by rw [w64 (x := (l[i].toNat : Int)) (by omega) (by omega), w64 (by omega) (by omega)]; omega
     rw [e1]
     refine ev_bind (more_ev x hx _ (by omega)) ?_
     rw [ew]
     exact rread_l0 minus l hl n (i + 1) (by omega) b2 hb2 _ (moreO_ok _ _)
    refine ev_ite (fun g2 => ?_) (fun g2 => ?_)
    ·rw [if_pos g2, w64 (x := b + 1) (by omega) (by omega)]
     exact j5 _ (by omega)
    ·rw [if_neg g2]
     exact j5 _ (by omega)
   ·rw [decide_eq_false g, if_neg g]
    exact Ev.step (fun k => oculusref11_Read.j4.eq_2 ..) (ev_pos rfl (Ev.now _))
  refine ev_ite (fun g1 => ?_) (fun g1 => ?_)
  ·refine ev_ite (fun g2 => ?_) (fun g2 => ?_)
   ·by_cases g3 : (i : Int) > 0
    ·rw [decide_eq_true g3, if_pos ⟨by omega, g2, by omega⟩]
     refine Ev.step (fun k => oculusref11_Read.j3.eq_2 ..) (ev_pos rfl ?_)
     rw [ew]
     exact rread_l0 minus l hl n (i + 1) (by omega) 0 (by omega) x hx
    ·rw [decide_eq_false g3, if_neg (by omega)]
     exact jf (by omega)
   ·rw [if_neg (by omega)]
    exact jf (by omega)
  ·rw [if_neg (by omega)]
   exact jf (by omega)
def digL (l : List UInt8) : Bool := l.all fun c => decide (48 ≤ c.toNat ∧ c.toNat ≤ 57)
def numO (x : Option Nat) (l : List UInt8) : Option Nat := l.foldl (fun y c => moreO y (c.toNat - 48)) x
theorem numO_none : ∀ l : List UInt8, numO none l = none
 | [] => rfl
 | c :: l => numO_none l
theorem rl_digits (b0 : Int) (t : List UInt8) (hno : b0 ≥ 0 ∨ (46 : UInt8) ∉ t) : ∀ (i : Nat) (x : Option Nat), rl b0 i x t = if digL t = true then some (if b0 ≥ 0 then b0 + (t.length : Int) else b0, numO x t) else none := by
 induction t generalizing b0 with
 | nil => intro i x; rw [rl, digL, List.all_nil, if_pos rfl]; show _ = some (if b0 ≥ 0 then b0 + ((0 : Nat) : Int) else b0, x); split <;> simp
 | cons c t ih =>
  intro i x
  rw [rl]
  have hnot : ¬ (c.toNat = 46 ∧ b0 < 0 ∧ 0 < i) := by
   rintro ⟨h1, h2, _⟩
   rcases hno with h | h
   ·omega
   ·exact h (by rw [List.mem_cons]; left; exact (u8_inj (by rw [h1]; rfl)).symm)
  rw [if_neg hnot, digL, List.all_cons]
  by_cases g : 48 ≤ c.toNat ∧ c.toNat ≤ 57
  ·rw [if_pos g, decide_eq_true g, Bool.true_and]
   have := ih (if b0 ≥ 0 then b0 + 1 else b0) (by
    rcases hno with h | h
    ·left; rw [if_pos h]; omega
    ·right; exact fun k => h (List.mem_cons_of_mem _ k)) (i + 1) (moreO x (c.toNat - 48))
   rw [this]
   show (if digL t = true then _ else _) = (if digL t = true then _ else _)
   cases digL t with
   | false => rfl
   | true =>
    rw [if_pos rfl, if_pos rfl]
    congr 2
    by_cases h : b0 ≥ 0
    ·rw [if_pos h, if_pos h, if_pos (by omega), List.length_cons]; omega
    ·rw [if_neg h, if_neg h, if_neg h]
  ·rw [if_neg g, decide_eq_false g, Bool.false_and, if_neg (by simp)]
theorem rl_app (w : List UInt8) (hw : (46 : UInt8) ∉ w) (t : List UInt8) : ∀ (i : Nat) (x : Option Nat), 0 < i + w.length → rl (-1) i x (w ++ 46 :: t) = if digL w = true then rl 0 (i + w.length + 1) (numO x w) t else none := by
 induction w with
 | nil =>
  intro i x hi
  rw [List.nil_append, rl, if_pos ⟨rfl, by omega, by simpa using hi⟩, digL, List.all_nil, if_pos rfl]
  rfl
 | cons c w ih =>
  intro i x hi
  rw [List.cons_append, rl]
  have hnot : ¬ (c.toNat = 46 ∧ (-1 : Int) < 0 ∧ 0 < i) := fun h => hw (by rw [List.mem_cons]; left; exact (u8_inj (by rw [h.1]; rfl)).symm)
  rw [if_neg hnot, digL, List.all_cons]
  by_cases g : 48 ≤ c.toNat ∧ c.toNat ≤ 57
  ·rw [if_pos g, decide_eq_true g, Bool.true_and, if_neg (show ¬ (-1 : Int) ≥ 0 by omega), ih (fun k => hw (List.mem_cons_of_mem _ k)) (i + 1) _ (by omega)]
   show (if digL w = true then rl 0 (i + 1 + w.length + 1) _ t else none) = (if digL w = true then rl 0 (i + (w.length + 1) + 1) _ t else none)
   rw [show i + 1 + w.length + 1 = i + (w.length + 1) + 1 by omega]
   rfl
  ·rw [if_neg g, decide_eq_false g, Bool.false_and, if_neg (by simp)]
def valL (a : Nat) (l : List UInt8) : Nat := l.foldl (fun y c => y * 10 + (c.toNat - 48)) a
theorem valL_le : ∀ (l : List UInt8) (a : Nat), a ≤ valL a l
 | [], a => Nat.le_refl _
 | c :: l, a => Nat.le_trans (by omega) (valL_le l (a * 10 + (c.toNat - 48)))
theorem numO_val : ∀ (l : List UInt8) (a : Nat), a ≤ 9223372036854775807 → numO (some a) l = if valL a l ≤ 9223372036854775807 then some (valL a l) else none
 | [], a, h => by rw [if_pos (show valL a [] ≤ _ from h)]; rfl
 | c :: l, a, h => by
  show numO (moreO (some a) (c.toNat - 48)) l = if valL (a * 10 + (c.toNat - 48)) l ≤ 9223372036854775807 then some (valL (a * 10 + (c.toNat - 48)) l) else none
  rw [moreO, Option.bind_some]
  by_cases g : a * 10 + (c.toNat - 48) ≤ 9223372036854775807
  ·rw [if_pos g]; exact numO_val l _ g
  ·have := valL_le l (a * 10 + (c.toNat - 48))
   rw [if_neg g, if_neg (by omega), numO_none]
theorem numD_val : ∀ (l : List UInt8) (a : Nat), numD a l = if digL l = true then numO (some a) l else none
 | [], a => rfl
 | c :: l, a => by
  rw [numD, digL, List.all_cons]
  by_cases g : 48 ≤ c.toNat ∧ c.toNat ≤ 57
  ·rw [if_pos g, decide_eq_true g, Bool.true_and]
   show _ = if digL l = true then numO (moreO (some a) (c.toNat - 48)) l else none
   rw [moreO, Option.bind_some]
   by_cases g2 : a * 10 + (c.toNat - 48) ≤ 9223372036854775807
   ·rw [if_pos g2, if_pos g2]; exact numD_val l _
   ·rw [if_neg g2, if_neg g2, numO_none]; split <;> rfl
  ·rw [if_neg g, decide_eq_false g, Bool.false_and, if_neg (by simp)]
theorem valL_add : ∀ (l : List UInt8) (a : Nat), valL a l = a * 10 ^ l.length + valL 0 l
 | [], a => by simp [valL]
 | c :: l, a => by
  show valL (a * 10 + (c.toNat - 48)) l = a * 10 ^ (l.length + 1) + valL (0 * 10 + (c.toNat - 48)) l
  rw [valL_add l (a * 10 + (c.toNat - 48)), valL_add l (0 * 10 + (c.toNat - 48)), Nat.pow_succ, Nat.zero_mul, Nat.zero_add, Nat.add_mul, Nat.mul_assoc, Nat.mul_comm 10 (10 ^ l.length), Nat.add_assoc]
theorem valL_app (w t : List UInt8) (a : Nat) : valL a (w ++ t) = valL (valL a w) t := List.foldl_append ..
theorem numO_app (w t : List UInt8) (x : Option Nat) : numO x (w ++ t) = numO (numO x w) t := List.foldl_append ..
theorem zerosO_num : ∀ (n : Nat) (x : Option Nat), zerosO n x = numO x (List.replicate n 48)
 | 0, _ => rfl
 | n + 1, x => zerosO_num n (moreO x 0)
theorem valL_zeros : ∀ (n a : Nat), valL a (List.replicate n 48) = a * 10 ^ n
 | 0, a => by simp [valL]
 | n + 1, a => by
  show valL (a * 10 + 0) (List.replicate n 48) = _
  rw [valL_zeros n, Nat.pow_succ, Nat.add_zero, Nat.mul_assoc, Nat.mul_comm 10]
theorem valL_lt (l : List UInt8) (h : digL l = true) : valL 0 l < 10 ^ l.length := by
 induction l with
 | nil => simp [valL]
 | cons c l ih =>
  rw [digL, List.all_cons, Bool.and_eq_true, decide_eq_true_eq] at h
  have := ih h.2
  show valL (0 * 10 + (c.toNat - 48)) l < 10 ^ (l.length + 1)
  rw [valL_add, Nat.pow_succ]
  have h2 : (0 * 10 + (c.toNat - 48)) * 10 ^ l.length ≤ 9 * 10 ^ l.length := Nat.mul_le_mul_right _ (by omega)
  omega
theorem endO_val (minus : Bool) (l w t : List UInt8) (hl : l ≠ []) (q : Nat) (hq : q ≤ 4) (b : Int) (hb : b ≠ 0) (hb4 : b ≤ 4) (hbq : b.toNat = q) (hqt : t.length = q) :
  endO minus l b (numO (some 0) (w ++ t)) = putD minus (valL 0 w) (valL 0 t * 10 ^ (4 - q)) := by
 unfold endO putD
 rw [if_neg (by rintro (e | e | e); exact hl e; exact hb e; omega), hbq, zerosO_num, ← numO_app, numO_val _ 0 (by omega), valL_app, valL_app, valL_zeros, valL_add t, hqt]
 have e : (valL 0 w * 10 ^ q + valL 0 t) * 10 ^ (4 - q) = valL 0 w * 10000 + valL 0 t * 10 ^ (4 - q) := by
  rw [Nat.add_mul, Nat.mul_assoc, ← Nat.pow_add, show q + (4 - q) = 4 by omega]
 rw [e]
 split <;> rfl
theorem uns_eq (minus : Bool) (l : List UInt8) : ((rl (-1) 0 (some 0) l).bind fun q => endO minus l q.1 q.2) = unsD minus l := by
 unfold unsD
 have hno := cutC_no 46 l
 have happ := cutC_app 46 l
 rw [numD_val]
 cases h3 : (cutL 46 l).2.2 with
 | false =>
  obtain ⟨e1, e2⟩ := hno.2 h3
  rw [e1]
  have hw : (46 : UInt8) ∉ l := by rw [← e1]; exact hno.1
  rw [rl_digits (-1) l (Or.inr hw) 0 (some 0)]
  cases hd : digL l with
  | false => rfl
  | true =>
   rw [if_pos rfl, if_pos rfl, Option.bind_some, if_neg (show ¬ (-1 : Int) ≥ 0 by omega)]
   by_cases hl : l = []
   ·rw [hl]; rfl
   ·have := endO_val minus l l [] hl 0 (by omega) (-1) (by omega) (by omega) rfl rfl
    rw [List.append_nil] at this
    rw [this, numO_val l 0 (by omega)]
    by_cases g : valL 0 l ≤ 9223372036854775807
    ·rw [if_pos g]
     show _ = if l = [] then none else if false = true then _ else _
     rw [if_neg hl, if_neg (by simp)]
     simp [valL]
    ·rw [if_neg g]
     unfold putD
     rw [if_neg (Nat.not_le.2 (Nat.lt_of_lt_of_le (Nat.not_le.1 g) (Nat.le_trans (Nat.le_mul_of_pos_right _ (by decide)) (Nat.le_add_right _ _))))]
 | true =>
  have ea := happ h3
  have hw := hno.1
  generalize (cutL 46 l).1 = w at *
  generalize (cutL 46 l).2.1 = t at *
  have hl : l ≠ [] := by rw [ea]; simp
  by_cases hw0 : w = []
  ·rw [ea, hw0, List.nil_append, rl, if_neg (by omega), if_neg (by decide)]
   rfl
  ·have hpos : 0 < 0 + w.length := by have := List.length_pos_iff.2 hw0; omega
   have e := rl_app w hw t 0 (some 0) hpos
   rw [← ea] at e
   rw [e]
   cases hd : digL w with
   | false => rfl
   | true =>
    rw [if_pos rfl, if_pos rfl, rl_digits 0 t (Or.inl (by omega)), numD_val]
    cases hdt : digL t with
    | false =>
     rw [if_neg (by simp), if_neg (by simp), Option.bind_none]
     cases numO (some 0) w with
     | none => rfl
     | some x => show _ = if w = [] then none else if true = true then none else _; rw [if_neg hw0, if_pos rfl]
    | true =>
     rw [if_pos rfl, if_pos rfl, Option.bind_some, if_pos (show (0 : Int) ≥ 0 by omega), Int.zero_add, ← numO_app]
     by_cases ht : t = [] ∨ t.length > 4
     ·have hend : endO minus l (t.length : Int) (numO (some 0) (w ++ t)) = none := by
       unfold endO
       rw [if_pos]
       rcases ht with h | h
       ·right; left; rw [h]; rfl
       ·right; right; omega
      rw [hend]
      cases numO (some 0) w with
      | none => rfl
      | some x =>
       show _ = if w = [] then none else if true = true then _ else _
       rw [if_neg hw0, if_pos rfl]
       cases numO (some 0) t with
       | none => rfl
       | some y => show none = if t = [] ∨ t.length > 4 then none else _; rw [if_pos ht]
     ·have ht1 : t ≠ [] := fun h => ht (Or.inl h)
      have ht2 : t.length ≤ 4 := by have : ¬ t.length > 4 := fun h => ht (Or.inr h); omega
      have htp := List.length_pos_iff.2 ht1
      rw [endO_val minus l w t hl t.length ht2 (t.length : Int) (by omega) (by omega) (by omega) rfl, numO_val w 0 (by omega), numO_val t 0 (by omega)]
      have hlt := valL_lt t hdt
      have h10 : 10 ^ t.length ≤ 10 ^ 4 := Nat.pow_le_pow_right (by omega) ht2
      rw [if_pos (show valL 0 t ≤ 9223372036854775807 by omega)]
      by_cases g : valL 0 w ≤ 9223372036854775807
      ·rw [if_pos g]
       show _ = if w = [] then none else if true = true then (if t = [] ∨ t.length > 4 then none else _) else _
       rw [if_neg hw0, if_pos rfl, if_neg ht]
      ·rw [if_neg g]
       unfold putD
       rw [if_neg (Nat.not_le.2 (Nat.lt_of_lt_of_le (Nat.not_le.1 g) (Nat.le_trans (Nat.le_mul_of_pos_right _ (by decide)) (Nat.le_add_right _ _))))]
theorem rread_ev (l : List UInt8) (hl : l.length ≤ 1000) : Ev (fun k => oculusref11_Read.f k (tx l)) (resR (dRead l)) := by
 unfold oculusref11_Read.f dRead
 rw [size_tx]
 refine ev_ite (fun g => ?_) (fun g => ?_)
 ·rw [if_pos (by omega)]; exact Ev.now _
 ·rw [if_neg (show ¬ l.length > 40 by omega)]
  have j1 : ∀ (minus : Bool) (m : List UInt8), m.length ≤ 1000 → Ev (fun k => oculusref11_Read.j1 k (tx m) minus) (resR (unsD minus m)) := by
   intro minus m hm
   refine Ev.step (fun k => oculusref11_Read.j1.eq_2 ..) ?_
   have := rread_l0 minus m hm m.length 0 (by omega) (-1) (by omega) (some 0) (fun a h => by obtain rfl := Option.some.inj h; omega)
   rw [List.drop_zero, uns_eq] at this
   exact this
  cases l with
  | nil =>
   refine ev_neg (by simp) (Ev.step (fun k => oculusref11_Read.j0.eq_2 ..) (ev_neg (by simp) ?_))
   exact j1 false [] (by simp)
  | cons c l =>
   refine ev_pos (by rw [List.length_cons]; omega) (ev_pos (by rw [List.length_cons]; omega) ?_)
   rw [bt_tx0]
   have e45 : ((c.toNat : Int) == 45) = (c == 45) := by
    rw [Bool.eq_iff_iff, beq_iff_eq, beq_iff_eq]
    exact ⟨fun h => u8_inj (by rw [show c.toNat = 45 by omega]; rfl), fun h => by rw [h]; rfl⟩
   rw [e45]
   show Ev _ (resR (unsD (c == 45) (if (c == 45) = true then _ else _)))
   cases hc : (c == 45) with
   | false =>
    rw [if_neg (by simp)]
    exact Ev.step (fun k => oculusref11_Read.j0.eq_2 ..) (ev_neg (by simp) (j1 false _ (by omega)))
   | true =>
    rw [if_pos rfl]
    refine Ev.step (fun k => oculusref11_Read.j0.eq_2 ..) (ev_pos rfl ?_)
    rw [size_tx]
    refine ev_pos (by rw [List.length_cons]; omega) ?_
    have := ext_drop (c :: l) 1
    rw [this]
    exact j1 true _ (by rw [List.length_drop]; omega)
theorem dRead_may (l : List UInt8) (v : Int) (h : dRead l = some v) : v ≠ -9223372036854775808 ∧ -9223372036854775807 ≤ v := by
 have hs : ∀ (minus : Bool) (x y : Nat) (v : Int), putD minus x y = some v → v ≠ -9223372036854775808 ∧ -9223372036854775807 ≤ v := by
  intro minus x y v h
  unfold putD signed at h
  split at h
  ·obtain rfl := Option.some.inj h
   split <;> omega
  ·cases h
 have hu : ∀ (minus : Bool) (m : List UInt8) (v : Int), unsD minus m = some v → v ≠ -9223372036854775808 ∧ -9223372036854775807 ≤ v := by
  intro minus m v h
  unfold unsD at h
  generalize (cutL 46 m).1 = w at *
  generalize (cutL 46 m).2.1 = t at *
  cases hw : numD 0 w with
  | none => rw [hw] at h; cases h
  | some x =>
   rw [hw] at h
   replace h : (if w = [] then none else if (cutL 46 m).2.2 = true then (match numD 0 t with | none => none | some y => if t = [] ∨ t.length > 4 then none else putD minus x (y * 10 ^ (4 - t.length))) else putD minus x 0) = some v := h
   by_cases g : w = []
   ·rw [if_pos g] at h; cases h
   ·rw [if_neg g] at h
    by_cases g2 : (cutL 46 m).2.2 = true
    ·rw [if_pos g2] at h
     cases ht : numD 0 t with
     | none => rw [ht] at h; cases h
     | some y =>
      rw [ht] at h
      replace h : (if t = [] ∨ t.length > 4 then none else putD minus x (y * 10 ^ (4 - t.length))) = some v := h
      by_cases g3 : t = [] ∨ t.length > 4
      ·rw [if_pos g3] at h; cases h
      ·rw [if_neg g3] at h; exact hs _ _ _ _ h
    ·rw [if_neg g2] at h; exact hs _ _ _ _ h
 unfold dRead at h
 by_cases g : l.length > 40
 ·rw [if_pos g] at h; cases h
 ·rw [if_neg g] at h; exact hu _ _ _ h
end Go.Proofs.YtejkoenlfcghbaaGreat.X
/- Values, what is looked for; what is looked for. -/
set_option linter.unusedVariables false
set_option linter.unusedSimpArgs false
namespace Go.Proofs.YtejkoenlfcghbaaGreat.X
open Go.RowKit Go.Proofs.YtejkoenlfcghbaaGreatW.PrintWords Go.Proofs.YtejkoenlfcghbaaGreatW.PrintLast Go.Proofs.YtejkoenlfcghbaaGreatW.PrintMore
theorem nil_toList : ((⟨#[]⟩ : ByteArray).toList == ([] : List UInt8)) = true := by rw [toList_by]; rfl
theorem str_eq (l : List UInt8) : value_Str.f (tx l) = some (if l.length ≤ 256 then (2, 0, tx l) else (4, 2, (⟨#[]⟩ : ByteArray))) := by
 unfold value_Str.f value_made.f value_May.f
 rw [if_neg (by omega), if_neg (by omega), if_pos rfl, if_pos rfl, Option.bind_some, size_tx]
 by_cases h : l.length ≤ 256
 ·rw [if_pos h, decide_eq_true (by omega), if_pos rfl]; rfl
 ·rw [if_neg h, decide_eq_false (by omega), if_neg (by simp)]; rfl
theorem num_eq (x : Int) (h : x ≠ -9223372036854775808) : value_Num.f x = some (1, x, (⟨#[]⟩ : ByteArray)) := by
 unfold value_Num.f value_made.f value_May.f dec_May.f
 rw [if_neg (by omega), if_pos rfl, Option.bind_some, if_pos (bne_iff_ne.2 h), Option.bind_some, nil_toList, if_pos rfl]; rfl
theorem bad_eq (c : Int) (h : 1 ≤ c ∧ c ≤ 7) : value_Bad.f c = some (4, c, (⟨#[]⟩ : ByteArray)) := by
 unfold value_Bad.f value_made.f value_May.f
 rw [if_neg (by omega), if_neg (by omega), if_neg (by omega), if_neg (by omega), if_pos rfl, if_pos h.1, if_pos h.2, Option.bind_some, nil_toList, if_pos rfl]; rfl
end Go.Proofs.YtejkoenlfcghbaaGreat.X
/- What is looked for, and whether a value is it: the program's answers and the reference's are the same. -/
set_option linter.unusedVariables false
set_option linter.unusedSimpArgs false
namespace Go.Proofs.YtejkoenlfcghbaaGreat.X
open Go.RowKit Go.Proofs.YtejkoenlfcghbaaGreatW.PrintWords Go.Proofs.YtejkoenlfcghbaaGreatW.PrintLast Go.Proofs.YtejkoenlfcghbaaGreatW.PrintMore
abbrev Val : Type := Int × Int × ByteArray
def strV (l : List UInt8) : Val := if l.length ≤ 256 then (2, 0, tx l) else (4, 2, (⟨#[]⟩ : ByteArray))
def tTrue : List UInt8 := [84, 82, 85, 69]
def tFalse : List UInt8 := [70, 65, 76, 83, 69]
def wordV (l : List UInt8) : Val := if l = tTrue then (3, 1, (⟨#[]⟩ : ByteArray)) else if l = tFalse then (3, 0, (⟨#[]⟩ : ByteArray)) else strV l
def rdV (l : List UInt8) : Val := match dRead l with
 | some x => (1, x, (⟨#[]⟩ : ByteArray))
 | none => wordV l
theorem str_val (l : List UInt8) : value_Str.f (tx l) = some (strV l) := by rw [str_eq]; rfl
theorem bad2 : value_Bad.f 2 = some (4, 2, (⟨#[]⟩ : ByteArray)) := bad_eq 2 (by omega)
theorem truth_ev (l : List UInt8) : Ev (fun k => value_AsTruth.f k 2 0 (tx l)) (if l = tTrue then (3, 1, (⟨#[]⟩ : ByteArray)) else if l = tFalse then (3, 0, (⟨#[]⟩ : ByteArray)) else (4, 2, (⟨#[]⟩ : ByteArray))) := by
 unfold value_AsTruth.f
 refine ev_neg (by omega) (ev_neg (by omega) (ev_pos rfl ?_))
 rw [toList_by, by_tx]
 by_cases h : l = tTrue
 ·rw [if_pos h]
  refine ev_pos h (Ev.step (fun k => value_AsTruth.j0.eq_2 ..) (ev_pos rfl ?_))
  rw [toList_by, by_tx, h]
  exact Ev.now _
 ·rw [if_neg h]
  refine ev_neg h ?_
  by_cases h2 : l = tFalse
  ·rw [if_pos h2]
   have e : (l == ([70, 65, 76, 83, 69] : List UInt8)) = true := beq_iff_eq.2 h2
   rw [e]
   refine Ev.step (fun k => value_AsTruth.j0.eq_2 ..) (ev_pos rfl ?_)
   rw [toList_by, by_tx, h2]
   exact Ev.now _
  ·rw [if_neg h2]
   have e : (l == ([70, 65, 76, 83, 69] : List UInt8)) = false := beq_eq_false_iff_ne.2 h2
   rw [e]
   exact Ev.step (fun k => value_AsTruth.j0.eq_2 ..) (ev_neg (by simp) (ev_bind (ev_some fun _ => bad2) (Ev.now _)))
theorem cread_ev (l : List UInt8) (hl : l.length ≤ 1000) : Ev (fun k => crit_read.f k (tx l)) (rdV l) := by
 unfold crit_read.f
 refine ev_bind (dread_ev l hl) ?_
 unfold rdV
 cases hd : dRead l with
 | some x =>
  refine ev_pos rfl ?_
  exact ev_bind (ev_some fun _ => num_eq x (dRead_may l x hd).1) (Ev.now _)
 | none =>
  refine ev_neg (by simp [resR]) (ev_bind (ev_some fun _ => str_val l) ?_)
  show Ev _ (wordV l)
  by_cases h : l.length ≤ 256
  ·have es : strV l = (2, 0, tx l) := if_pos h
   rw [es]
   refine ev_bind (truth_ev l) ?_
   unfold wordV
   by_cases h1 : l = tTrue
   ·rw [if_pos h1, if_pos h1]; exact ev_pos rfl (Ev.now _)
   ·rw [if_neg h1, if_neg h1]
    by_cases h2 : l = tFalse
    ·rw [if_pos h2, if_pos h2]; exact ev_pos rfl (Ev.now _)
    ·rw [if_neg h2, if_neg h2]
     exact ev_neg (by decide) (ev_bind (ev_some fun _ => str_val l) (Ev.now _))
  ·have es : strV l = (4, 2, (⟨#[]⟩ : ByteArray)) := if_neg h
   have h1 : l ≠ tTrue := fun e => h (by rw [e]; decide)
   have h2 : l ≠ tFalse := fun e => h (by rw [e]; decide)
   rw [es]
   have et : Ev (fun k => value_AsTruth.f k 4 2 (⟨#[]⟩ : ByteArray)) (4, 2, (⟨#[]⟩ : ByteArray)) := by
    unfold value_AsTruth.f
    exact ev_neg (by omega) (ev_neg (by omega) (ev_neg (by omega) (Ev.now _)))
   refine ev_bind et ?_
   unfold wordV
   rw [if_neg h1, if_neg h2]
   exact ev_neg (by decide) (ev_bind (ev_some fun _ => str_val l) (Ev.now _))
theorem rstr_val (l : List UInt8) : oculusref12_Str.f (tx l) = some (strV l) := by
 unfold oculusref12_Str.f strV
 rw [size_tx]
 by_cases h : l.length ≤ 256
 ·rw [if_neg (by omega), if_pos h]
 ·rw [if_pos (by omega), if_neg h]; rfl
theorem rread17_ev (l : List UInt8) (hl : l.length ≤ 1000) : Ev (fun k => oculusref17_read.f k (tx l)) (rdV l) := by
 unfold oculusref17_read.f
 refine ev_bind (rread_ev l hl) ?_
 unfold rdV
 cases hd : dRead l with
 | some x =>
  refine ev_pos rfl ?_
  have e : oculusref12_Num.f x = some (1, x, (⟨#[]⟩ : ByteArray)) := by
   unfold oculusref12_Num.f oculusref08_May.f
   rw [decide_eq_true (by have := (dRead_may l x hd).2; omega), Option.bind_some, if_pos rfl]
  exact ev_bind (ev_some fun _ => e) (Ev.now _)
 | none =>
  refine ev_neg (by simp [resR]) ?_
  show Ev _ (wordV l)
  rw [toList_by, by_tx]
  unfold wordV
  by_cases h1 : l = tTrue
  ·rw [if_pos h1]
   refine ev_pos h1 (Ev.step (fun k => oculusref17_read.j0.eq_2 ..) (ev_pos rfl ?_))
   rw [toList_by, by_tx, h1]
   exact Ev.now _
  ·rw [if_neg h1]
   refine ev_neg h1 ?_
   by_cases h2 : l = tFalse
   ·rw [if_pos h2]
    have e : (l == ([70, 65, 76, 83, 69] : List UInt8)) = true := beq_iff_eq.2 h2
    rw [e]
    refine Ev.step (fun k => oculusref17_read.j0.eq_2 ..) (ev_pos rfl ?_)
    rw [toList_by, by_tx, h2]
    exact Ev.now _
   ·rw [if_neg h2]
    have e : (l == ([70, 65, 76, 83, 69] : List UInt8)) = false := beq_eq_false_iff_ne.2 h2
    rw [e]
    exact Ev.step (fun k => oculusref17_read.j0.eq_2 ..) (ev_neg (by simp) (ev_bind (ev_some fun _ => rstr_val l) (Ev.now _)))
def sgL (l : List UInt8) : Int × Nat := if l.take 2 = [60, 62] then (8, 2) else if l.take 2 = [60, 61] then (10, 2) else if l.take 2 = [62, 61] then (12, 2) else if l.take 1 = [60] then (9, 1) else if l.take 1 = [62] then (11, 1) else if l.take 1 = [61] then (7, 1) else (7, 0)
theorem take_mn (l : List UInt8) (n : Nat) : (((tx l).extract 0 (mn (n : Int) (l.length : Int)).toNat)).toList = l.take n := by
 rw [toList_by, by_head, by_tx]
 have : mn (n : Int) (l.length : Int) = ((min n l.length : Nat) : Int) := by unfold mn; split <;> omega
 rw [this, Int.toNat_natCast]
 by_cases h : n ≤ l.length
 ·rw [Nat.min_eq_left h]
 ·rw [Nat.min_eq_right (by omega), List.take_of_length_le (Nat.le_refl _), List.take_of_length_le (by omega)]
theorem sign_eq (l : List UInt8) : crit_sign.f (tx l) = some ((sgL l).1, ((sgL l).2 : Int)) := by
 unfold crit_sign.f sgL
 have t2 := take_mn l 2
 have t1 := take_mn l 1
 have e2 : ((2 : Nat) : Int) = 2 := rfl
 have e1 : ((1 : Nat) : Int) = 1 := rfl
 rw [e2] at t2
 rw [e1] at t1
 rw [size_tx, t2, t1]
 have b2 : 0 ≤ mn 2 (l.length : Int) ∧ mn 2 (l.length : Int) ≤ (l.length : Int) := by unfold mn; split <;> omega
 have b1 : 0 ≤ mn 1 (l.length : Int) ∧ mn 1 (l.length : Int) ≤ (l.length : Int) := by unfold mn; split <;> omega
 rw [if_pos b2.1, if_pos b2.2]
 by_cases g : l.take 2 = [60, 62]
 ·rw [if_pos g, if_pos g]; rfl
 rw [if_neg g, if_neg g]
 by_cases g : l.take 2 = [60, 61]
 ·rw [if_pos g, if_pos g]; rfl
 rw [if_neg g, if_neg g]
 by_cases g : l.take 2 = [62, 61]
 ·rw [if_pos g, if_pos g]; rfl
 rw [if_neg g, if_neg g, if_pos b1.1, if_pos b1.2]
 by_cases g : l.take 1 = [60]
 ·rw [if_pos g, if_pos g]; rfl
 rw [if_neg g, if_neg g]
 by_cases g : l.take 1 = [62]
 ·rw [if_pos g, if_pos g]; rfl
 rw [if_neg g, if_neg g]
 by_cases g : l.take 1 = [61]
 ·rw [if_pos g, if_pos g]; rfl
 rw [if_neg g, if_neg g]; rfl
theorem sgL_le (l : List UInt8) : (sgL l).2 ≤ l.length ∧ 7 ≤ (sgL l).1 ∧ (sgL l).1 ≤ 12 := by
 unfold sgL
 by_cases g : l.take 2 = [60, 62]
 ·rw [if_pos g]
  have := congrArg List.length g
  rw [List.length_take] at this
  simp at this
  exact ⟨by simp; omega, by simp, by simp⟩
 rw [if_neg g]
 by_cases g : l.take 2 = [60, 61]
 ·rw [if_pos g]
  have := congrArg List.length g
  rw [List.length_take] at this
  simp at this
  exact ⟨by simp; omega, by simp, by simp⟩
 rw [if_neg g]
 by_cases g : l.take 2 = [62, 61]
 ·rw [if_pos g]
  have := congrArg List.length g
  rw [List.length_take] at this
  simp at this
  exact ⟨by simp; omega, by simp, by simp⟩
 rw [if_neg g]
 by_cases g : l.take 1 = [60]
 ·rw [if_pos g]
  have := congrArg List.length g
  rw [List.length_take] at this
  simp at this
  exact ⟨by simp; omega, by simp, by simp⟩
 rw [if_neg g]
 by_cases g : l.take 1 = [62]
 ·rw [if_pos g]
  have := congrArg List.length g
  rw [List.length_take] at this
  simp at this
  exact ⟨by simp; omega, by simp, by simp⟩
 rw [if_neg g]
 by_cases g : l.take 1 = [61]
 ·rw [if_pos g]
  have := congrArg List.length g
  rw [List.length_take] at this
  simp at this
  exact ⟨by simp; omega, by simp, by simp⟩
 rw [if_neg g]
 exact ⟨by simp, by simp, by simp⟩
def ofV (l : List UInt8) : Int × Val := ((sgL l).1, rdV (l.drop (sgL l).2))
def WS : List ByteArray := [(⟨#[60, 62]⟩ : ByteArray), (⟨#[60, 61]⟩ : ByteArray), (⟨#[62, 61]⟩ : ByteArray), (⟨#[60]⟩ : ByteArray), (⟨#[62]⟩ : ByteArray), (⟨#[61]⟩ : ByteArray)]
def OPS : List Int := [8, 10, 12, 9, 11, 7]
theorem of_step (l : List UInt8) (hl : l.length ≤ 1000) (i : Nat) (hi : i < 6) (w : List UInt8) (o : Int) (hw : rdOf ByteArray.empty WS (i : Int) = tx w) (ho : rd OPS (i : Int) = o) (R : Int × Val)
  (hn : Ev (fun k => oculusref17_Of.l0 k (tx l) WS OPS ((i + 1 : Nat) : Int)) R) : Ev (fun k => oculusref17_Of.l0 k (tx l) WS OPS (i : Int)) (if l.take w.length = w then (o, rdV (l.drop w.length)) else R) := by
 refine Ev.step (fun k => oculusref17_Of.l0.eq_2 ..) (ev_pos (by omega) (ev_pos (by omega) (ev_pos (by show (i : Int) < ((6 : Nat) : Int); omega) ?_)))
 rw [hw, ho, size_tx, size_tx, w64s (n := 100) (by omega) (by omega)]
 refine ev_ite (fun g => ?_) (fun g => ?_)
 ·refine ev_pos (by omega) (ev_pos (by omega) ?_)
  have e : ((tx l).extract 0 ((w.length : Nat) : Int).toNat).toList = l.take w.length := by rw [toList_by, by_head, by_tx]; rfl
  rw [e, toList_by, by_tx]
  refine ev_ite (fun g2 => ?_) (fun g2 => ?_)
  ·rw [if_pos g2]
   refine ev_pos (by show (i : Int) < ((6 : Nat) : Int); omega) ?_
   have ed := ext_drop l w.length
   have et : (((w.length : Nat) : Int)).toNat = w.length := rfl
   rw [et, ed]
   exact ev_bind (rread17_ev _ (by rw [List.length_drop]; omega)) (Ev.now _)
  ·rw [if_neg g2]; exact hn
 ·rw [if_neg (fun e => g (by have := congrArg List.length e; rw [List.length_take] at this; omega))]
  exact hn
theorem rof_ev (l : List UInt8) (hl : l.length ≤ 1000) : Ev (fun k => oculusref17_Of.l0 k (tx l) WS OPS 0) (ofV l) := by
 have h6 : Ev (fun k => oculusref17_Of.l0 k (tx l) WS OPS ((6 : Nat) : Int)) (7, rdV l) := Ev.step (fun k => oculusref17_Of.l0.eq_2 ..) (ev_neg (by omega) (ev_bind (rread17_ev l hl) (Ev.now _)))
 have h5 := of_step l hl 5 (by omega) [61] 7 rfl rfl _ h6
 have h4 := of_step l hl 4 (by omega) [62] 11 rfl rfl _ h5
 have h3 := of_step l hl 3 (by omega) [60] 9 rfl rfl _ h4
 have h2 := of_step l hl 2 (by omega) [62, 61] 12 rfl rfl _ h3
 have h1 := of_step l hl 1 (by omega) [60, 61] 10 rfl rfl _ h2
 have h0 := of_step l hl 0 (by omega) [60, 62] 8 rfl rfl _ h1
 have e : (if l.take ([60, 62] : List UInt8).length = [60, 62] then (8, rdV (l.drop ([60, 62] : List UInt8).length)) else if l.take ([60, 61] : List UInt8).length = [60, 61] then (10, rdV (l.drop ([60, 61] : List UInt8).length)) else if l.take ([62, 61] : List UInt8).length = [62, 61] then (12, rdV (l.drop ([62, 61] : List UInt8).length)) else if l.take ([60] : List UInt8).length = [60] then (9, rdV (l.drop ([60] : List UInt8).length)) else if l.take ([62] : List UInt8).length = [62] then (11, rdV (l.drop ([62] : List UInt8).length)) else if l.take ([61] : List UInt8).length = [61] then (7, rdV (l.drop ([61] : List UInt8).length)) else ((7 : Int), rdV l)) = ofV l := by
  unfold ofV sgL
  show (if l.take 2 = [60, 62] then (8, rdV (l.drop 2)) else if l.take 2 = [60, 61] then (10, rdV (l.drop 2)) else if l.take 2 = [62, 61] then (12, rdV (l.drop 2)) else if l.take 1 = [60] then (9, rdV (l.drop 1)) else if l.take 1 = [62] then (11, rdV (l.drop 1)) else if l.take 1 = [61] then (7, rdV (l.drop 1)) else ((7 : Int), rdV l)) = _
  repeat' split
  all_goals rfl
 rw [e] at h0
 exact h0
theorem cof_ev (l : List UInt8) (hl : l.length ≤ 1000) (n : Int) : Ev (fun k => crit_Of.f k 2 n (tx l)) ((ofV l).1, (ofV l).2.1, (ofV l).2.2.1, (ofV l).2.2.2, true) := by
 unfold crit_Of.f
 have hs := sgL_le l
 refine ev_neg (by omega) (ev_neg (by omega) (ev_pos rfl (ev_bind (ev_some fun _ => sign_eq l) (ev_pos (by show (0 : Int) ≤ ((sgL l).2 : Int); omega) (ev_pos (by rw [size_tx]; show ((sgL l).2 : Int) ≤ _; omega) ?_)))))
 show Ev (fun k => (crit_read.f k ((tx l).extract (((sgL l).2 : Nat) : Int).toNat (tx l).size)).bind fun bt108 => some ((sgL l).1, bt108.1, bt108.2.1, bt108.2.2, true)) _
 have ed := ext_drop l (sgL l).2
 have et : (((sgL l).2 : Nat) : Int).toNat = (sgL l).2 := rfl
 rw [size_tx, et, ed]
 exact ev_bind (cread_ev _ (by rw [List.length_drop]; omega)) (Ev.now _)
theorem word_may (l : List UInt8) : value_May.f (wordV l).1 (wordV l).2.1 (wordV l).2.2 = some true := by
 unfold wordV strV
 by_cases h1 : l = tTrue
 ·rw [if_pos h1]; show value_May.f 3 1 (⟨#[]⟩ : ByteArray) = some true; unfold value_May.f; rw [if_neg (by omega), if_neg (by omega), if_neg (by omega), if_pos rfl, if_neg (by omega), if_pos rfl]; exact congrArg some nil_toList
 rw [if_neg h1]
 by_cases h2 : l = tFalse
 ·rw [if_pos h2]; show value_May.f 3 0 (⟨#[]⟩ : ByteArray) = some true; unfold value_May.f; rw [if_neg (by omega), if_neg (by omega), if_neg (by omega), if_pos rfl, if_pos rfl]; exact congrArg some nil_toList
 rw [if_neg h2]
 by_cases h3 : l.length ≤ 256
 ·rw [if_pos h3]; show value_May.f 2 0 (tx l) = some true; unfold value_May.f; rw [if_neg (by omega), if_neg (by omega), if_pos rfl, if_pos rfl, size_tx, decide_eq_true (by omega)]
 ·rw [if_neg h3]; show value_May.f 4 2 (⟨#[]⟩ : ByteArray) = some true; unfold value_May.f; rw [if_neg (by omega), if_neg (by omega), if_neg (by omega), if_neg (by omega), if_pos rfl, if_pos (by omega), if_pos (by omega)]; exact congrArg some nil_toList
theorem rd_may (l : List UInt8) : value_May.f (rdV l).1 (rdV l).2.1 (rdV l).2.2 = some true := by
 unfold rdV
 cases hd : dRead l with
 | none => exact word_may l
 | some x =>
  have hne := (dRead_may l x hd).1
  show value_May.f 1 x (⟨#[]⟩ : ByteArray) = some true
  unfold value_May.f dec_May.f
  rw [if_neg (by omega), if_pos rfl, Option.bind_some, if_pos (bne_iff_ne.2 hne)]
  exact congrArg some nil_toList
theorem nil_of (t : ByteArray) (h : t.toList = []) : t = tx [] := by rw [toList_by] at h; exact by_inj (by rw [h, by_tx])
theorem of_both (k n : Int) (t : ByteArray) (h : mayV k n t = true) : ∃ (o : Int) (v : Val) (ok : Bool),
  Ev (fun m => crit_Of.f m k n t) (o, v.1, v.2.1, v.2.2, ok) ∧ Ev (fun m => oculusref17_Of.f m k n t) (o, v.1, v.2.1, v.2.2) ∧ (ok = true → 7 ≤ o ∧ o ≤ 12 ∧ value_May.f v.1 v.2.1 v.2.2 = some true) ∧ (ok = false → o = 0 ∧ k = 4) := by
 rw [mayV, decide_eq_true_eq] at h
 rcases h with ⟨rfl, ht, rfl⟩ | ⟨rfl, ht, hn⟩ | ⟨rfl, rfl, hs⟩ | ⟨rfl, ht, hn⟩ | ⟨rfl, ht, hn⟩
 ·obtain rfl := nil_of t ht
  have e0 : ofV [] = (7, strV []) := by decide +kernel
  refine ⟨7, strV [], true, ?_, ?_, fun _ => ⟨by omega, by omega, word_may []⟩, fun h => by cases h⟩
  ·unfold crit_Of.f
   exact ev_neg (by omega) (ev_pos rfl (ev_bind (ev_some fun _ => str_val []) (Ev.now _)))
  ·unfold oculusref17_Of.f
   refine ev_neg (by omega) (ev_neg (by omega) (Ev.step (fun k => oculusref17_Of.j0.eq_2 ..) (ev_neg (by decide) ?_)))
   have := rof_ev [] (by simp)
   rw [e0] at this
   exact this
 ·obtain rfl := nil_of t ht
  refine ⟨7, (1, n, tx []), true, ?_, ?_, fun _ => ⟨by omega, by omega, ?_⟩, fun h => by cases h⟩
  ·unfold crit_Of.f
   exact ev_neg (by omega) (ev_neg (by omega) (ev_neg (by omega) (Ev.now _)))
  ·unfold oculusref17_Of.f
   exact ev_neg (by omega) (ev_pos rfl (Ev.step (fun k => oculusref17_Of.j0.eq_2 ..) (ev_pos rfl (Ev.now _))))
  ·show value_May.f 1 n (tx []) = some true
   unfold value_May.f dec_May.f
   rw [if_neg (by omega), if_pos rfl, Option.bind_some, if_pos (bne_iff_ne.2 (by omega)), ht]; rfl
 ·obtain ⟨l, rfl⟩ : ∃ l, t = tx l := ⟨by_ t, (tx_by t).symm⟩
  rw [size_tx] at hs
  have hb := sgL_le l
  refine ⟨(ofV l).1, (ofV l).2, true, cof_ev l (by omega) 0, ?_, fun _ => ⟨hb.2.1, hb.2.2, rd_may _⟩, fun h => by cases h⟩
  unfold oculusref17_Of.f
  refine ev_neg (by omega) (ev_neg (by omega) (Ev.step (fun k => oculusref17_Of.j0.eq_2 ..) (ev_neg (by decide) ?_)))
  exact rof_ev l (by omega)
 ·obtain rfl := nil_of t ht
  refine ⟨7, (3, n, tx []), true, ?_, ?_, fun _ => ⟨by omega, by omega, ?_⟩, fun h => by cases h⟩
  ·unfold crit_Of.f
   exact ev_neg (by omega) (ev_neg (by omega) (ev_neg (by omega) (Ev.now _)))
  ·unfold oculusref17_Of.f
   exact ev_neg (by omega) (ev_neg (by omega) (Ev.step (fun k => oculusref17_Of.j0.eq_2 ..) (ev_pos rfl (Ev.now _))))
  ·show value_May.f 3 n (tx []) = some true
   unfold value_May.f
   rw [if_neg (by omega), if_neg (by omega), if_neg (by omega), if_pos rfl, ht]
   rcases hn with rfl | rfl
   ·rfl
   ·rfl
 ·obtain rfl := nil_of t ht
  refine ⟨0, (0, 0, (⟨#[]⟩ : ByteArray)), false, ?_, ?_, fun h => (by cases h), fun _ => ⟨rfl, rfl⟩⟩
  ·unfold crit_Of.f
   exact ev_pos rfl (Ev.now _)
  ·unfold oculusref17_Of.f
   exact ev_pos rfl (Ev.now _)
theorem cmp_vals : ∀ a b : List UInt8, Lib.compareBytes a b = -1 ∨ Lib.compareBytes a b = 0 ∨ Lib.compareBytes a b = 1
 | [], [] => Or.inr (Or.inl rfl)
 | [], _ :: _ => Or.inl rfl
 | _ :: _, [] => Or.inr (Or.inr rfl)
 | a :: xs, b :: ys => by
  rw [Lib.compareBytes]
  split
  ·exact Or.inl rfl
  ·split
   ·exact Or.inr (Or.inr rfl)
   ·exact cmp_vals xs ys
theorem cmp_swap : ∀ a b : List UInt8, Lib.compareBytes b a = -1 ↔ Lib.compareBytes a b = 1
 | [], [] => by simp [Lib.compareBytes]
 | [], _ :: _ => by simp [Lib.compareBytes]
 | _ :: _, [] => by simp [Lib.compareBytes]
 | a :: xs, b :: ys => by
  rw [Lib.compareBytes, Lib.compareBytes]
  by_cases h1 : a < b
  ·have h2 : ¬ b < a := by rw [UInt8.lt_iff_toNat_lt] at *; omega
   simp only [h1, h2, if_true, if_false]; decide
  ·by_cases h2 : b < a
   ·simp only [h1, h2, if_true, if_false]
   ·simp only [h1, h2, if_false]; exact cmp_swap xs ys
theorem less_l0 (a b : List UInt8) (ha : a.length ≤ 1000) : ∀ (n i : Nat), i + n = a.length → i ≤ b.length → Ev (fun k => oculusref12_Less.l0 k (tx a) (tx b) (i : Int)) (decide (Lib.compareBytes (a.drop i) (b.drop i) = -1))
 | 0, i, hi, hb => by
  refine Ev.step (fun k => oculusref12_Less.l0.eq_2 ..) ?_
  rw [size_tx, size_tx]
  refine ev_neg (by omega) (Ev.step (fun k => oculusref12_Less.j1.eq_2 ..) (ev_neg (by simp) (ev_some fun _ => ?_)))
  rw [size_tx, size_tx, List.drop_eq_nil_of_le (show a.length ≤ i by omega)]
  congr 1
  rw [Bool.eq_iff_iff, decide_eq_true_eq, decide_eq_true_eq]
  by_cases h : i < b.length
  ·rw [List.drop_eq_getElem_cons h]
   exact ⟨fun _ => rfl, fun _ => by omega⟩
  ·rw [List.drop_eq_nil_of_le (by omega)]
   exact ⟨fun k => by omega, fun k => by cases k⟩
 | n + 1, i, hi, hb => by
  have h : i < a.length := by omega
  refine Ev.step (fun k => oculusref12_Less.l0.eq_2 ..) ?_
  rw [size_tx, size_tx]
  refine ev_pos (by omega) ?_
  by_cases h2 : i < b.length
  ·rw [decide_eq_true (show (i : Int) < (b.length : Int) by omega)]
   refine Ev.step (fun k => oculusref12_Less.j1.eq_2 ..) (ev_pos rfl ?_)
   rw [size_tx, size_tx, bt_tx a i h, bt_tx b i h2, w64s (n := 10000) (by omega) (by omega), List.drop_eq_getElem_cons h, List.drop_eq_getElem_cons h2, Lib.compareBytes]
   refine ev_pos (by omega) (ev_pos (by omega) (ev_pos (by omega) (ev_ite (fun g => ?_) (fun g => ?_))))
   ·have e1 : ¬ a[i] < b[i] := by rw [UInt8.lt_iff_toNat_lt]; omega
    have e2 : ¬ b[i] < a[i] := by rw [UInt8.lt_iff_toNat_lt]; omega
    rw [if_neg e1, if_neg e2]
    exact less_l0 a b ha n (i + 1) (by omega) (by omega)
   ·refine ev_some fun _ => ?_
    congr 1
    rw [Bool.eq_iff_iff, decide_eq_true_eq, decide_eq_true_eq]
    by_cases e1 : a[i] < b[i]
    ·rw [if_pos e1]
     rw [UInt8.lt_iff_toNat_lt] at e1
     exact ⟨fun _ => rfl, fun _ => by omega⟩
    ·rw [if_neg e1]
     have e2 : b[i] < a[i] := by rw [UInt8.lt_iff_toNat_lt] at *; omega
     rw [if_pos e2]
     rw [UInt8.lt_iff_toNat_lt] at e1
     exact ⟨fun k => by omega, fun k => by cases k⟩
  ·rw [decide_eq_false (show ¬ (i : Int) < (b.length : Int) by omega)]
   refine Ev.step (fun k => oculusref12_Less.j1.eq_2 ..) (ev_neg (by simp) (ev_some fun _ => ?_))
   rw [size_tx, size_tx, List.drop_eq_getElem_cons h, List.drop_eq_nil_of_le (show b.length ≤ i by omega)]
   congr 1
   rw [Bool.eq_iff_iff, decide_eq_true_eq, decide_eq_true_eq]
   exact ⟨fun k => by omega, fun k => by cases k⟩
theorem less_ev (a b : List UInt8) (ha : a.length ≤ 1000) : Ev (fun k => oculusref12_Less.f k (tx a) (tx b)) (decide (Lib.compareBytes a b = -1)) := by
 unfold oculusref12_Less.f
 have := less_l0 a b ha a.length 0 (by omega) (by omega)
 rw [List.drop_zero, List.drop_zero] at this
 exact this
theorem ahead_ev (k n m : Int) (a b : List UInt8) (hk : k ≠ 0) (ha : a.length ≤ 1000) (r : Bool) (hr : r = (decide (n < m) || decide (Lib.compareBytes a b = -1))) : Ev (fun j => oculusref12_ahead.f j k n (tx a) k m (tx b)) r := by
 unfold oculusref12_ahead.f
 refine ev_neg hk (Ev.step (fun k => oculusref12_ahead.j0.eq_2 ..) (ev_neg hk (Ev.step (fun k => oculusref12_ahead.j1.eq_2 ..) (ev_pos rfl (ev_ite (fun g => ?_) (fun g => ?_))))))
 ·rw [hr, decide_eq_true g, Bool.true_or]; exact Ev.now _
 ·rw [hr, decide_eq_false g, Bool.false_or]
  exact ev_bind (less_ev a b ha) (Ev.now _)
theorem compare_both (k n m : Int) (a b : List UInt8) (hk : k = 1 ∨ k = 2 ∨ k = 3) (h2 : k = 2 → n = 0 ∧ m = 0) (h13 : k ≠ 2 → a = [] ∧ b = []) (ha : a.length ≤ 1000) (hb : b.length ≤ 1000) :
  ∃ c : Int, Ev (fun j => value_Compare.f j k n (tx a) k m (tx b)) c ∧ Ev (fun j => oculusref12_Compare.f j k n (tx a) k m (tx b)) c := by
 have h4 : k ≠ 4 := by omega
 have h0 : k ≠ 0 := by omega
 have e4 : (k == 4) = false := beq_eq_false_iff_ne.2 h4
 have like : ∀ (x y : Int) (s t : ByteArray), value_like.f k x s k y t = some (k, x, s) := by
  intro x y s t
  unfold value_like.f
  rw [if_neg h0]
 have main : ∀ c : Int, Ev (fun j => value_Compare.j1 j k n (tx a) k m (tx b)) c → (c = if decide (n < m) || decide (Lib.compareBytes a b = -1) then -1 else if decide (m < n) || decide (Lib.compareBytes b a = -1) then 1 else 0) → ∃ c : Int, Ev (fun j => value_Compare.f j k n (tx a) k m (tx b)) c ∧ Ev (fun j => oculusref12_Compare.f j k n (tx a) k m (tx b)) c := by
  intro c hc hr
  refine ⟨c, ?_, ?_⟩
  ·unfold value_Compare.f
   refine ev_neg h4 ?_
   rw [e4]
   refine Ev.step (fun k => value_Compare.j0.eq_2 ..) (ev_neg (by simp) ?_)
   exact ev_bind (ev_some fun _ => like n m _ _) (ev_bind (ev_some fun _ => like m n _ _) hc)
  ·unfold oculusref12_Compare.f
   refine ev_neg h4 ?_
   rw [e4]
   refine Ev.step (fun k => oculusref12_Compare.j0.eq_2 ..) (ev_neg (by simp) ?_)
   refine ev_bind (ahead_ev k n m a b h0 ha _ rfl) ?_
   rw [hr]
   refine ev_ite (fun g => ?_) (fun g => ?_)
   ·rw [if_pos g]; exact Ev.now _
   ·rw [if_neg g]
    refine ev_bind (ahead_ev k m n b a h0 hb _ rfl) (ev_ite (fun g2 => ?_) (fun g2 => ?_))
    ·rw [if_pos g2]; exact Ev.now _
    ·rw [if_neg g2]; exact Ev.now _
 by_cases hk2 : k = 2
 ·obtain ⟨rfl, rfl⟩ := h2 hk2
  refine main (Lib.compareBytes a b) ?_ ?_
  ·refine Ev.step (fun k => value_Compare.j1.eq_2 ..) (ev_pos rfl (ev_pos hk2 (ev_bind (a := Lib.compareBytes a b) (ev_some fun _ => ?_) (Ev.now _))))
   rfl
  ·rw [decide_eq_false (show ¬ (0 : Int) < 0 by omega), Bool.false_or, Bool.false_or]
   have hsw := cmp_swap a b
   rcases cmp_vals a b with e | e | e
   ·rw [e]; rfl
   ·rw [if_neg (by rw [e]; decide), if_neg (by rw [decide_eq_true_eq, hsw, e]; decide), e]
   ·rw [if_neg (by rw [e]; decide), if_pos (by rw [decide_eq_true_eq, hsw, e]), e]
 ·obtain ⟨rfl, rfl⟩ := h13 hk2
  have e0 : decide (Lib.compareBytes [] [] = -1) = false := rfl
  refine main (if n < m then -1 else if n > m then 1 else 0) ?_ ?_
  ·refine Ev.step (fun k => value_Compare.j1.eq_2 ..) (ev_pos rfl (ev_neg hk2 ?_))
   refine ev_ite (fun g => ?_) (fun g => ?_)
   ·rw [if_pos g]; exact Ev.now _
   ·rw [if_neg g]
    refine ev_ite (fun g2 => ?_) (fun g2 => ?_)
    ·rw [if_pos g2]; exact Ev.now _
    ·rw [if_neg g2]; exact Ev.now _
  ·rw [e0, Bool.or_false, Bool.or_false]
   by_cases g : n < m
   ·rw [if_pos g, decide_eq_true g]; rfl
   ·rw [if_neg g, decide_eq_false g]
    by_cases g2 : n > m
    ·rw [if_pos g2, decide_eq_true (show m < n from g2)]; rfl
    ·rw [if_neg g2, decide_eq_false (show ¬ m < n from g2)]; rfl
theorem hits_both (o ck cn : Int) (ct : ByteArray) (vk vn : Int) (vt : ByteArray) (ho : 7 ≤ o ∧ o ≤ 12) (hc : value_May.f ck cn ct = some true) (hv : mayV vk vn vt = true) :
  ∃ b : Bool, Ev (fun j => crit_Hits.f j o ck cn ct vk vn vt) b ∧ Ev (fun j => oculusref17_Hits.f j o ck cn ct vk vn vt) b := by
 have hs : vt.size ≤ 256 := by
  rw [mayV, decide_eq_true_eq] at hv
  rcases hv with ⟨_, h, _⟩ | ⟨_, h, _⟩ | ⟨_, _, h⟩ | ⟨_, h, _⟩ | ⟨_, h, _⟩
  ·rw [nil_of _ h]; decide
  ·rw [nil_of _ h]; decide
  ·omega
  ·rw [nil_of _ h]; decide
  ·rw [nil_of _ h]; decide
 -- one kind, not a fault, not empty
 have core : ∀ (vk vn : Int) (vt : ByteArray), vk = 1 ∨ vk = 2 ∨ vk = 3 → (vk = 2 → vn = 0) → (vk ≠ 2 → vt.toList = []) → vt.size ≤ 256 →
   ∃ b : Bool, Ev (fun j => crit_Hits.j0 j o ck cn ct vk vn vt) b ∧ Ev (fun j => oculusref17_Hits.j0 j o ck cn ct vk vn vt) b := by
  intro vk vn vt hk hk2 hk13 hvs
  by_cases e : vk = ck
  ·subst e
   have hcv : (vk = 2 → cn = 0 ∧ ct.size ≤ 256) ∧ (vk ≠ 2 → ct.toList = []) := by
    unfold value_May.f at hc
    constructor
    ·rintro rfl
     rw [if_neg (by omega), if_neg (by omega), if_pos rfl] at hc
     by_cases g : cn = 0
     ·rw [if_pos g] at hc
      have := of_decide_eq_true (Option.some.inj hc)
      exact ⟨g, by omega⟩
     ·rw [if_neg g] at hc; cases hc
    ·intro g2
     rcases hk with rfl | rfl | rfl
     ·rw [if_neg (by omega), if_pos rfl, dec_May.f, Option.bind_some] at hc
      split at hc
      ·exact beq_iff_eq.1 (Option.some.inj hc)
      ·cases hc
     ·exact absurd rfl g2
     ·rw [if_neg (by omega), if_neg (by omega), if_neg (by omega), if_pos rfl] at hc
      split at hc
      ·exact beq_iff_eq.1 (Option.some.inj hc)
      ·split at hc
       ·exact beq_iff_eq.1 (Option.some.inj hc)
       ·cases hc
   obtain ⟨a, rfl⟩ : ∃ l, vt = tx l := ⟨by_ vt, (tx_by vt).symm⟩
   obtain ⟨c, rfl⟩ : ∃ l, ct = tx l := ⟨by_ ct, (tx_by ct).symm⟩
   have hcs : c.length ≤ 256 := by
    by_cases g : vk = 2
    ·have := (hcv.1 g).2; rw [size_tx] at this; exact this
    ·have := hcv.2 g; rw [toList_by, by_tx] at this; rw [this]; decide
   rw [size_tx] at hvs
   obtain ⟨x, hx1, hx2⟩ := compare_both vk vn cn a c hk (fun g => ⟨hk2 g, (hcv.1 g).1⟩) (fun g => ⟨by have := hk13 g; rw [toList_by, by_tx] at this; exact this, by have := hcv.2 g; rw [toList_by, by_tx] at this; exact this⟩) (by omega) (by omega)
   have ho6 : o = 7 ∨ o = 8 ∨ o = 9 ∨ o = 10 ∨ o = 11 ∨ o = 12 := by omega
   by_cases g2 : vk = 2
   ·have hl1 := like_ev c a (by omega) (by omega)
    have hl2 := rlike_ev c a (by omega) (by omega)
    have ref : ∀ (b : Bool) (i : Int), wrap64 (o - 7) = i → (some (([gl c a, !gl c a, decide (x < 0), decide (x ≤ 0), decide (x > 0), decide (x ≥ 0)] : List Bool) : List Bool)).bind (fun y105 => (if 0 ≤ i then (if i < (y105.length : Int) then (some (rdOf false y105 i)) else (none)) else (none))) = some b → Ev (fun j => oculusref17_Hits.j0 j o vk cn (tx c) vk vn (tx a)) b := by
     intro b i hi hb
     subst hi
     refine Ev.step (fun k => oculusref17_Hits.j0.eq_2 ..) (ev_pos rfl (ev_bind hx2 (ev_pos g2 (ev_bind hl2 (ev_some fun _ => hb)))))
    have lk : ∀ b : Bool, b = (gl c a == (o == 7)) → (o = 7 ∨ o = 8) → Ev (fun j => crit_Hits.j0 j o vk cn (tx c) vk vn (tx a)) b := by
     intro b hb h78
     have j1 : Ev (fun j => crit_Hits.j1 j true o vk cn (tx c) vk vn (tx a)) b := by
      refine Ev.step (fun k => crit_Hits.j1.eq_2 ..) (ev_pos rfl (ev_bind hl1 ?_))
      rw [hb]; exact Ev.now _
     refine Ev.step (fun k => crit_Hits.j0.eq_2 ..) (ev_pos rfl (ev_pos g2 ?_))
     rcases h78 with h | h
     ·exact ev_pos h j1
     ·refine ev_neg (by omega) ?_
      rw [h] at j1 ⊢
      exact j1
    have ck : ∀ b : Bool, o ≠ 7 → o ≠ 8 → Ev (fun j => crit_Hits.j2 j x o vk cn (tx c)) b → Ev (fun j => crit_Hits.j0 j o vk cn (tx c) vk vn (tx a)) b := by
     intro b h7 h8 hb
     refine Ev.step (fun k => crit_Hits.j0.eq_2 ..) (ev_pos rfl (ev_pos g2 (ev_neg h7 ?_)))
     rw [show (o == 8) = false from beq_eq_false_iff_ne.2 h8]
     exact Ev.step (fun k => crit_Hits.j1.eq_2 ..) (ev_neg (by simp) (ev_bind hx1 hb))
    rcases ho6 with rfl | rfl | rfl | rfl | rfl | rfl
    ·refine ⟨gl c a, lk _ (by cases gl c a <;> rfl) (Or.inl rfl), ref _ 0 (by decide +kernel) rfl⟩
    ·refine ⟨!gl c a, lk _ (by cases gl c a <;> rfl) (Or.inr rfl), ref _ 1 (by decide +kernel) rfl⟩
    ·exact ⟨decide (x < 0), ck _ (by omega) (by omega) (Ev.step (fun k => crit_Hits.j2.eq_2 ..) (ev_neg (by omega) (ev_neg (by omega) (ev_pos rfl (Ev.now _))))), ref _ 2 (by decide +kernel) rfl⟩
    ·exact ⟨decide (x ≤ 0), ck _ (by omega) (by omega) (Ev.step (fun k => crit_Hits.j2.eq_2 ..) (ev_neg (by omega) (ev_neg (by omega) (ev_neg (by omega) (ev_pos rfl (Ev.now _)))))), ref _ 3 (by decide +kernel) rfl⟩
    ·exact ⟨decide (x > 0), ck _ (by omega) (by omega) (Ev.step (fun k => crit_Hits.j2.eq_2 ..) (ev_neg (by omega) (ev_neg (by omega) (ev_neg (by omega) (ev_neg (by omega) (ev_pos rfl (Ev.now _))))))), ref _ 4 (by decide +kernel) rfl⟩
    ·exact ⟨decide (x ≥ 0), ck _ (by omega) (by omega) (Ev.step (fun k => crit_Hits.j2.eq_2 ..) (ev_neg (by omega) (ev_neg (by omega) (ev_neg (by omega) (ev_neg (by omega) (ev_neg (by omega) (Ev.now _))))))), ref _ 5 (by decide +kernel) rfl⟩
   ·have ref : ∀ (b : Bool) (i : Int), wrap64 (o - 7) = i → (some (([(x == 0), !(x == 0), decide (x < 0), decide (x ≤ 0), decide (x > 0), decide (x ≥ 0)] : List Bool) : List Bool)).bind (fun y105 => (if 0 ≤ i then (if i < (y105.length : Int) then (some (rdOf false y105 i)) else (none)) else (none))) = some b → Ev (fun j => oculusref17_Hits.j0 j o vk cn (tx c) vk vn (tx a)) b := by
     intro b i hi hb
     subst hi
     exact Ev.step (fun k => oculusref17_Hits.j0.eq_2 ..) (ev_pos rfl (ev_bind hx2 (ev_neg g2 (ev_some fun _ => hb))))
    have ck : ∀ b : Bool, Ev (fun j => crit_Hits.j2 j x o vk cn (tx c)) b → Ev (fun j => crit_Hits.j0 j o vk cn (tx c) vk vn (tx a)) b := by
     intro b hb
     exact Ev.step (fun k => crit_Hits.j0.eq_2 ..) (ev_pos rfl (ev_neg g2 (Ev.step (fun k => crit_Hits.j1.eq_2 ..) (ev_neg (by simp) (ev_bind hx1 hb)))))
    rcases ho6 with rfl | rfl | rfl | rfl | rfl | rfl
    ·exact ⟨x == 0, ck _ (Ev.step (fun k => crit_Hits.j2.eq_2 ..) (ev_pos rfl (Ev.now _))), ref _ 0 (by decide +kernel) rfl⟩
    ·exact ⟨x != 0, ck _ (Ev.step (fun k => crit_Hits.j2.eq_2 ..) (ev_neg (by omega) (ev_pos rfl (Ev.now _)))), ref _ 1 (by decide +kernel) rfl⟩
    ·exact ⟨decide (x < 0), ck _ (Ev.step (fun k => crit_Hits.j2.eq_2 ..) (ev_neg (by omega) (ev_neg (by omega) (ev_pos rfl (Ev.now _))))), ref _ 2 (by decide +kernel) rfl⟩
    ·exact ⟨decide (x ≤ 0), ck _ (Ev.step (fun k => crit_Hits.j2.eq_2 ..) (ev_neg (by omega) (ev_neg (by omega) (ev_neg (by omega) (ev_pos rfl (Ev.now _)))))), ref _ 3 (by decide +kernel) rfl⟩
    ·exact ⟨decide (x > 0), ck _ (Ev.step (fun k => crit_Hits.j2.eq_2 ..) (ev_neg (by omega) (ev_neg (by omega) (ev_neg (by omega) (ev_neg (by omega) (ev_pos rfl (Ev.now _))))))), ref _ 4 (by decide +kernel) rfl⟩
    ·exact ⟨decide (x ≥ 0), ck _ (Ev.step (fun k => crit_Hits.j2.eq_2 ..) (ev_neg (by omega) (ev_neg (by omega) (ev_neg (by omega) (ev_neg (by omega) (ev_neg (by omega) (Ev.now _))))))), ref _ 5 (by decide +kernel) rfl⟩
  ·exact ⟨o == 8, Ev.step (fun k => crit_Hits.j0.eq_2 ..) (ev_neg e (Ev.now _)), Ev.step (fun k => oculusref17_Hits.j0.eq_2 ..) (ev_neg e (Ev.now _))⟩
 rw [mayV, decide_eq_true_eq] at hv
 rcases hv with ⟨rfl, ht, rfl⟩ | ⟨rfl, ht, hn⟩ | ⟨rfl, rfl, hs2⟩ | ⟨rfl, ht, hn⟩ | ⟨rfl, ht, hn⟩
 ·obtain rfl := nil_of vt ht
  obtain ⟨b, h1, h2⟩ := core 2 0 (tx []) (by omega) (fun _ => rfl) (fun h => absurd rfl h) (by decide)
  refine ⟨b, ?_, ?_⟩
  ·unfold crit_Hits.f
   exact ev_neg (by omega) (ev_pos rfl (ev_bind (ev_some fun _ => str_val []) h1))
  ·unfold oculusref17_Hits.f
   exact ev_neg (by omega) (ev_pos rfl h2)
 ·obtain ⟨b, h1, h2⟩ := core 1 vn vt (by omega) (fun h => absurd h (by omega)) (fun _ => ht) hs
  refine ⟨b, ?_, ?_⟩
  ·unfold crit_Hits.f
   exact ev_neg (by omega) (ev_neg (by omega) h1)
  ·unfold oculusref17_Hits.f
   exact ev_neg (by omega) (ev_neg (by omega) h2)
 ·obtain ⟨b, h1, h2⟩ := core 2 0 vt (by omega) (fun _ => rfl) (fun h => absurd rfl h) hs
  refine ⟨b, ?_, ?_⟩
  ·unfold crit_Hits.f
   exact ev_neg (by omega) (ev_neg (by omega) h1)
  ·unfold oculusref17_Hits.f
   exact ev_neg (by omega) (ev_neg (by omega) h2)
 ·obtain ⟨b, h1, h2⟩ := core 3 vn vt (by omega) (fun h => absurd h (by omega)) (fun _ => ht) hs
  refine ⟨b, ?_, ?_⟩
  ·unfold crit_Hits.f
   exact ev_neg (by omega) (ev_neg (by omega) h1)
  ·unfold oculusref17_Hits.f
   exact ev_neg (by omega) (ev_neg (by omega) h2)
 ·refine ⟨false, ?_, ?_⟩
  ·unfold crit_Hits.f
   exact ev_pos rfl (Ev.now _)
  ·unfold oculusref17_Hits.f
   exact ev_pos rfl (Ev.now _)
end Go.Proofs.YtejkoenlfcghbaaGreat.X
/- Tables: what is found, down and across: the program's answers and the reference's, told once. -/
set_option linter.unusedVariables false
set_option linter.unusedSimpArgs false
namespace Go.Proofs.YtejkoenlfcghbaaGreat.X
open Go.RowKit Go.Proofs.YtejkoenlfcghbaaGreatW.PrintWords Go.Proofs.YtejkoenlfcghbaaGreatW.PrintLast Go.Proofs.YtejkoenlfcghbaaGreatW.PrintMore
theorem alive18_ev : Ev (fun k => oculuslaw18_alive.f k) true := Ev.of (fun k => oculuslaw18_alive.mono k) (k := 60) (by decide +kernel)
abbrev mayS (x : S26) : Bool := mayV x.f0 x.f1 x.f2
theorem rdS (V : List S26) (i : Nat) (h : i < V.length) : rd_T26 V (i : Int) = V[i] := by
 unfold rd_T26
 rw [Int.toNat_natCast, List.getD_eq_getElem?_getD, List.getElem?_eq_getElem h]
 rfl
def mayT (V : List S26) : Bool := V.all mayS
def shp (R C : Int) (V : List S26) : Bool := decide (1 ≤ R ∧ 1 ≤ C ∧ R ≤ 1000 ∧ C ≤ 1000 ∧ V.length ≤ 1000 ∧ R * C = (V.length : Int))
theorem prodw {R C : Int} (h1 : 1 ≤ R) (h2 : 1 ≤ C) (h3 : R ≤ 1000) (h4 : C ≤ 1000) : wrap64 (R * C) = R * C := by
 have a : 0 ≤ R * C := Int.mul_nonneg (by omega) (by omega)
 have b : R * C ≤ 1000 * 1000 := Int.mul_le_mul h3 h4 (by omega) (by omega)
 exact w64 (by omega) (by omega)
end Go.Proofs.YtejkoenlfcghbaaGreat.X
/- Sums and middles of values: the program's answers and the reference's, told once. -/
set_option linter.unusedVariables false
set_option linter.unusedSimpArgs false
namespace Go.Proofs.YtejkoenlfcghbaaGreat.X
open Go.RowKit Go.Proofs.YtejkoenlfcghbaaGreatW.PrintWords Go.Proofs.YtejkoenlfcghbaaGreatW.PrintLast Go.Proofs.YtejkoenlfcghbaaGreatW.PrintMore
def rq (p n : Nat) : Nat := if n - p % n ≤ p % n then p / n + 1 else p / n
def mean (s : Int) (n : Nat) : Int := if s < 0 then -((rq s.natAbs n : Nat) : Int) else ((rq s.natAbs n : Nat) : Int)
theorem rq_le (p n : Nat) (hn : 1 ≤ n) (hp : p ≤ 9223372036854775807) : rq p n ≤ 9223372036854775807 := by
 unfold rq
 have h1 : p / n ≤ p := Nat.div_le_self p n
 split
 ·rename_i h
  have hm : p % n < n := Nat.mod_lt _ (by omega)
  have e := Nat.div_add_mod p n
  have : p / n ≤ n * (p / n) := Nat.le_mul_of_pos_left _ (by omega)
  omega
 ·omega
theorem div_n (k : Nat) (p n : Nat) (hn : 1 ≤ n) (hn2 : n < 1000000) (hp : p < 18446744073709551616) : bits_Div64.f k 0 (p : Int) (n : Int) = some (((p / n : Nat) : Int), ((p % n : Nat) : Int)) := by
 unfold bits_Div64.f
 have h1 : p / n ≤ p := Nat.div_le_self p n
 have e1 : Int.tdiv (p : Int) (n : Int) = ((p / n : Nat) : Int) := rfl
 have e2 : Int.tmod (p : Int) (n : Int) = ((p % n : Nat) : Int) := rfl
 rw [if_neg (by omega), if_neg (by omega), if_pos rfl, e1, e2]
 clear e1 e2
 generalize p / n = q at *
 rw [IntKind.wrap_u64, Int.emod_eq_of_lt (by omega) (by omega)]
theorem size_abs (s : Int) (h : -9223372036854775807 ≤ s ∧ s ≤ 9223372036854775807) : dec_size.f s = some ((s.natAbs : Nat) : Int) := by
 unfold dec_size.f
 by_cases g : s < 0
 ·rw [if_pos g, w64 (x := -s) (by omega) (by omega), IntKind.wrap_u64, Int.emod_eq_of_lt (by omega) (by omega)]; congr 1; omega
 ·rw [if_neg g, IntKind.wrap_u64, Int.emod_eq_of_lt (by omega) (by omega)]; congr 1; omega
theorem rabs_abs (s : Int) (h : -9223372036854775807 ≤ s ∧ s ≤ 9223372036854775807) : oculusref08_Abs.f s = some ((s.natAbs : Nat) : Int) := by
 unfold oculusref08_Abs.f
 by_cases g : s < 0
 ·rw [if_pos g, w64 (by omega) (by omega), IntKind.wrap_u64, Int.emod_eq_of_lt (by omega) (by omega)]; congr 1; omega
 ·rw [if_neg g, IntKind.wrap_u64, Int.emod_eq_of_lt (by omega) (by omega)]; congr 1; omega
theorem may_int (s : Int) (h : -9223372036854775807 ≤ s) : dec_May.f s = some true := by
 unfold dec_May.f; congr 1; exact bne_iff_ne.2 (by omega)
theorem rmay_int (s : Int) (h : -9223372036854775807 ≤ s) : oculusref08_May.f s = some true := by
 unfold oculusref08_May.f; congr 1; exact decide_eq_true (by omega)
theorem sub_u64 (n r : Nat) (h : r < n) (hn : n < 1000000) : IntKind.u64.wrap ((n : Int) - (r : Int)) = ((n - r : Nat) : Int) := by
 rw [IntKind.wrap_u64, Int.emod_eq_of_lt (by omega) (by omega)]; omega
theorem neg_w (x : Nat) (h : x ≤ 9223372036854775807) : wrap64 (-(wrap64 (x : Int))) = -(x : Int) := by
 rw [w64 (x := (x : Int)) (by omega) (by omega), w64 (by omega) (by omega)]
theorem add1_u64 (x : Nat) (h : x ≤ 9223372036854775807) : IntKind.u64.wrap ((x : Int) + 1) = ((x + 1 : Nat) : Int) := by
 rw [IntKind.wrap_u64, Int.emod_eq_of_lt (by omega) (by omega)]; omega
theorem sign_int (s : Int) : dec_Sign.f s = some (if s < 0 then -1 else if s > 0 then 1 else 0) := by
 unfold dec_Sign.f
 split
 ·rfl
 ·split <;> rfl
theorem lmean_ev (s : Int) (n : Nat) (hs : -9223372036854775807 ≤ s ∧ s ≤ 9223372036854775807) (hn : 1 ≤ n) (hn2 : n < 1000000) : Ev (fun k => dec_Scaled.f k s 1 (n : Int)) (mean s n, true) := by
 have ha : s.natAbs ≤ 9223372036854775807 := by omega
 have hq := rq_le s.natAbs n hn ha
 have hm : s.natAbs % n < n := Nat.mod_lt _ (by omega)
 have hd : s.natAbs / n ≤ s.natAbs := Nat.div_le_self _ _
 unfold dec_Scaled.f
 refine ev_bind (ev_some fun _ => may_int s hs.1) (ev_pos rfl (ev_bind (ev_some fun _ => may_int 1 (by omega)) (ev_pos rfl (ev_bind (ev_some fun _ => may_int (n : Int) (by omega)) (ev_pos rfl ?_)))))
 rw [beq_eq_false_iff_ne.2 (show (n : Int) ≠ 0 by omega)]
 refine Ev.step (fun k => dec_Scaled.j0.eq_2 ..) (ev_neg (by simp) ?_)
 have s1 : dec_size.f (n : Int) = some (n : Int) := size_nat n (by omega)
 have s2 : dec_size.f (1 : Int) = some 1 := size_nat 1 (by omega)
 have em : bits_Mul64.f ((s.natAbs : Nat) : Int) 1 = some (0, ((s.natAbs : Nat) : Int)) := by
  unfold bits_Mul64.f
  rw [if_pos (by omega)]
  have z1 : s.natAbs * 1 / 18446744073709551616 = 0 := by omega
  have z2 : s.natAbs * 1 % 18446744073709551616 = s.natAbs := by omega
  show some (((s.natAbs * 1 / 18446744073709551616 : Nat) : Int), ((s.natAbs * 1 % 18446744073709551616 : Nat) : Int)) = _
  rw [z1, z2]; rfl
 refine ev_bind (ev_some fun _ => s1) (ev_bind (ev_some fun _ => size_abs s hs) (ev_bind (ev_some fun _ => s2) (ev_bind (ev_some fun _ => em) (ev_neg (by show ¬ (0 : Int) ≥ (n : Int); omega) ?_))))
 refine ev_bind (ev_some fun k => div_n k s.natAbs n hn hn2 (by omega)) ?_
 have fin : ∀ x : Nat, x = rq s.natAbs n → Ev (fun k => dec_Scaled.j1 k s 1 (n : Int) (x : Int)) (mean s n, true) := by
  intro x hx
  subst hx
  refine Ev.step (fun k => dec_Scaled.j1.eq_2 ..) (ev_neg (by omega) (ev_bind (ev_some fun _ => sign_int s) (ev_bind (ev_some fun _ => sign_int 1) (ev_bind (ev_some fun _ => sign_int (n : Int)) ?_))))
  rw [if_neg (show ¬ (1 : Int) < 0 by omega), if_pos (show (1 : Int) > 0 by omega), if_neg (show ¬ (n : Int) < 0 by omega), if_pos (show (n : Int) > 0 by omega)]
  unfold mean
  by_cases g : s < 0
  ·rw [if_pos g, if_pos g, neg_w _ hq]
   exact ev_pos (by decide +kernel) (Ev.now _)
  ·rw [if_neg g, if_neg g, w64 (x := ((rq s.natAbs n : Nat) : Int)) (by omega) (by omega)]
   by_cases g2 : s > 0
   ·rw [if_pos g2]; exact ev_neg (by decide +kernel) (Ev.now _)
   ·rw [if_neg g2]; exact ev_neg (by decide +kernel) (Ev.now _)
 show Ev (fun k => if ((s.natAbs % n : Nat) : Int) ≥ (IntKind.u64.wrap ((n : Int) - ((s.natAbs % n : Nat) : Int))) then (dec_Scaled.j1 k s 1 (n : Int) (IntKind.u64.wrap (((s.natAbs / n : Nat) : Int) + 1))) else (dec_Scaled.j1 k s 1 (n : Int) ((s.natAbs / n : Nat) : Int))) _
 rw [sub_u64 n _ hm hn2, add1_u64 _ (by omega)]
 refine ev_ite (fun g => fin _ ?_) (fun g => fin _ ?_)
 ·rw [rq, if_pos (by omega)]
 ·rw [rq, if_neg (by omega)]
theorem times_1 (a : Nat) (ha : a < 18446744073709551616) : oculusref08_Times.f (a : Int) 1 = some (0, (a : Int)) := by
 have d1 : Int.tdiv (1 : Int) 4294967296 = 0 := by decide
 have m1 : Int.tmod (1 : Int) 4294967296 = 1 := by decide
 have d2 : Int.tdiv (a : Int) 4294967296 = ((a / 4294967296 : Nat) : Int) := rfl
 have m2 : Int.tmod (a : Int) 4294967296 = ((a % 4294967296 : Nat) : Int) := rfl
 have w1 : ∀ x : Nat, x < 18446744073709551616 → IntKind.u64.wrap (x : Int) = (x : Int) := fun x hx => by rw [IntKind.wrap_u64, Int.emod_eq_of_lt (by omega) (by omega)]
 have w0 : IntKind.u64.wrap (0 : Int) = 0 := by decide
 have td : ∀ x : Nat, Int.tdiv (x : Int) 4294967296 = ((x / 4294967296 : Nat) : Int) := fun _ => rfl
 have tm : ∀ x : Nat, Int.tmod (x : Int) 4294967296 = ((x % 4294967296 : Nat) : Int) := fun _ => rfl
 unfold oculusref08_Times.f
 simp only [d1, m1, d2, m2, Int.mul_one, Int.mul_zero, w0, Int.zero_add, Int.add_zero]
 have b1 : a / 4294967296 < 4294967296 := by omega
 have b2 : a % 4294967296 < 4294967296 := Nat.mod_lt _ (by omega)
 have q1 : a % 4294967296 / 4294967296 = 0 := by omega
 simp only [w1 (a / 4294967296) (by omega), w1 (a % 4294967296) (by omega), td, tm, q1]
 have z0 : ((0 : Nat) : Int) = 0 := rfl
 simp only [z0, w0, Int.add_zero, w1 (a / 4294967296) (by omega), td, tm]
 have q2 : a / 4294967296 / 4294967296 = 0 := by omega
 have q3 : a / 4294967296 % 4294967296 = a / 4294967296 := by omega
 have q4 : a % 4294967296 % 4294967296 = a % 4294967296 := by omega
 simp only [q2, q3, q4, z0, w0, Int.add_zero, Int.zero_add, w1 (a / 4294967296) (by omega), td, tm, q2, q3]
 congr 1
 refine Prod.ext rfl ?_
 show IntKind.u64.wrap (IntKind.u64.wrap (((a / 4294967296 : Nat) : Int) * 4294967296) + ((a % 4294967296 : Nat) : Int)) = (a : Int)
 simp only [IntKind.wrap_u64]
 omega
theorem divn_l0 (n : Nat) (hn : 1 ≤ n) (hn2 : n < 1000000) (r : Nat) : ∀ (i w q R hi lo : Nat), i + r = 128 → w < 2 ^ r → R < n → lo < 18446744073709551616 → hi * 18446744073709551616 + lo = w * 2 ^ i → ((q * n + R) * 2 ^ r + w) / n < 9223372036854775808 →
  Ev (fun k => oculusref08_Divide.l0 k (n : Int) (i : Int) (hi : Int) (lo : Int) (q : Int) (R : Int) true) (((((q * n + R) * 2 ^ r + w) / n : Nat) : Int), ((((q * n + R) * 2 ^ r + w) % n : Nat) : Int), true) := by
 induction r with
 | zero =>
  intro i w q R hi lo hi0 hw hR hlo hv hT
  have w0 : w = 0 := by simpa using hw
  subst w0
  have e1 : ((q * n + R) * 2 ^ 0 + 0) / n = q := by
   rw [Nat.pow_zero, Nat.mul_one, Nat.add_zero, Nat.mul_comm, Nat.mul_add_div (by omega), Nat.div_eq_of_lt hR, Nat.add_zero]
  have e2 : ((q * n + R) * 2 ^ 0 + 0) % n = R := by
   rw [Nat.pow_zero, Nat.mul_one, Nat.add_zero, Nat.mul_comm, Nat.mul_add_mod, Nat.mod_eq_of_lt hR]
  rw [e1, e2]
  exact Ev.step (fun k => oculusref08_Divide.l0.eq_2 ..) (ev_neg (by omega) (Ev.now _))
 | succ r ih =>
  intro i w q R hi lo hi0 hw hR hlo hv hT
  have hp : 2 ^ i * 2 ^ (r + 1) = 340282366920938463463374607431768211456 := by rw [← Nat.pow_add, hi0]
  have hpi : 0 < 2 ^ i := Nat.pow_pos (by omega)
  have hp1 : 2 ^ (r + 1) = 2 ^ r * 2 := Nat.pow_succ ..
  have hp2 : 2 ^ (i + 1) = 2 ^ i * 2 := Nat.pow_succ ..
  have hpr : 0 < 2 ^ r := Nat.pow_pos (by omega)
  have hV : w * 2 ^ i < 340282366920938463463374607431768211456 := by
   rw [← hp, Nat.mul_comm (2 ^ i)]
   exact (Nat.mul_lt_mul_right hpi).2 hw
  have hhi : hi < 18446744073709551616 := by omega
  have hmod : w = w / 2 ^ r * 2 ^ r + w % 2 ^ r := by rw [Nat.mul_comm]; exact (Nat.div_add_mod w (2 ^ r)).symm
  have hb : w / 2 ^ r < 2 := Nat.div_lt_of_lt_mul (by rw [← hp1]; exact hw)
  have hwr : w % 2 ^ r < 2 ^ r := Nat.mod_lt _ hpr
  have half : 2 ^ r * 2 ^ i = 170141183460469231731687303715884105728 := by
   have : 2 ^ r * 2 ^ i * 2 = 340282366920938463463374607431768211456 := by rw [← hp, hp1, Nat.mul_comm (2 ^ i), Nat.mul_right_comm]
   omega
  have hrest : w % 2 ^ r * 2 ^ i < 170141183460469231731687303715884105728 := by rw [← half]; exact (Nat.mul_lt_mul_right hpi).2 hwr
  have hsplit : w * 2 ^ i = w / 2 ^ r * 170141183460469231731687303715884105728 + w % 2 ^ r * 2 ^ i := by
   rw [← half, ← Nat.mul_assoc, ← Nat.add_mul, ← hmod]
  obtain ⟨hbit, hnext⟩ := dstep hi lo (w / 2 ^ r) (w % 2 ^ r * 2 ^ i) (hv.trans hsplit) hb hrest hlo
  rw [Nat.mul_assoc, ← hp2] at hnext
  clear hsplit hrest hV hp half
  -- the same whole
  have hqq : q < 9223372036854775808 := by
   have h1 : q * n ≤ (q * n + R) * 2 ^ (r + 1) + w := by
    have : (q * n + R) * 1 ≤ (q * n + R) * 2 ^ (r + 1) := Nat.mul_le_mul_left _ (Nat.pow_pos (by omega))
    omega
   have h2 : q ≤ ((q * n + R) * 2 ^ (r + 1) + w) / n := (Nat.le_div_iff_mul_le (by omega)).2 h1
   omega
  generalize hbb : w / 2 ^ r = b at *
  have hT1 : (q * n + R) * 2 ^ (r + 1) + w = (2 * (q * n + R) + b) * 2 ^ r + w % 2 ^ r := by
   have e0 : (2 * (q * n + R) + b) * 2 ^ r + w % 2 ^ r = 2 * (q * n + R) * 2 ^ r + (b * 2 ^ r + w % 2 ^ r) := by rw [Nat.add_mul, Nat.add_assoc]
   rw [e0, ← hmod, hp1, Nat.mul_comm (2 ^ r) 2, ← Nat.mul_assoc, Nat.mul_comm 2 (q * n + R)]
  refine Ev.step (fun k => oculusref08_Divide.l0.eq_2 ..) (ev_pos (by omega) (ev_pos rfl ?_))
  have e1 : Int.tdiv (hi : Int) 9223372036854775808 = ((hi / 9223372036854775808 : Nat) : Int) := rfl
  have e2 : Int.tdiv (lo : Int) 9223372036854775808 = ((lo / 9223372036854775808 : Nat) : Int) := rfl
  have e3 : IntKind.u64.wrap ((R : Int) * 2) = ((2 * R : Nat) : Int) := by rw [IntKind.wrap_u64]; omega
  have e4 : IntKind.u64.wrap (((hi / 9223372036854775808 : Nat) : Int)) = ((b : Nat) : Int) := by rw [hbit, wu]; omega
  have e5 : IntKind.u64.wrap (((2 * R : Nat) : Int) + (b : Int)) = ((2 * R + b : Nat) : Int) := by rw [IntKind.wrap_u64]; omega
  have e6 : IntKind.u64.wrap ((IntKind.u64.wrap ((hi : Int) * 2)) + (IntKind.u64.wrap ((lo / 9223372036854775808 : Nat) : Int))) = (((hi * 2 + lo / 9223372036854775808) % 18446744073709551616 : Nat) : Int) := by
   simp only [IntKind.wrap_u64]; omega
  have e7 : IntKind.u64.wrap ((lo : Int) * 2) = ((lo * 2 % 18446744073709551616 : Nat) : Int) := by rw [IntKind.wrap_u64]; omega
  have e8 : wrap64 ((i : Int) + 1) = ((i + 1 : Nat) : Int) := w64s (n := 200) (by omega) (by omega)
  have e10 : IntKind.u64.wrap ((q : Int) * 2) = ((2 * q : Nat) : Int) := by rw [IntKind.wrap_u64]; omega
  have e11 : decide ((q : Int) < 9223372036854775808) = true := decide_eq_true (by omega)
  rw [e1, e2, e3, e4, e5, e6, e7, e8, e10, e11]
  clear e1 e2 e3 e4 e5 e6 e7 e8 e10 e11
  refine ev_ite (fun g => ?_) (fun g => ?_)
  ·have f1 : IntKind.u64.wrap (((2 * q : Nat) : Int) + 1) = ((2 * q + 1 : Nat) : Int) := by rw [IntKind.wrap_u64]; omega
   have f2 : IntKind.u64.wrap (((2 * R + b : Nat) : Int) - (n : Int)) = ((2 * R + b - n : Nat) : Int) := by rw [IntKind.wrap_u64]; omega
   rw [f1, f2]
   clear f1 f2
   have eqn : (2 * q + 1) * n + (2 * R + b - n) = 2 * (q * n + R) + b := by
    have : (2 * q + 1) * n = 2 * (q * n) + n := by rw [Nat.add_mul, Nat.one_mul, Nat.mul_assoc]
    omega
   have := ih (i + 1) (w % 2 ^ r) (2 * q + 1) (2 * R + b - n) _ _ (by omega) hwr (by omega) (Nat.mod_lt _ (by omega)) hnext (by rw [eqn, ← hT1]; exact hT)
   rw [eqn, ← hT1] at this
   exact this
  ·have eqn : (2 * q) * n + (2 * R + b) = 2 * (q * n + R) + b := by
    have : (2 * q) * n = 2 * (q * n) := Nat.mul_assoc ..
    omega
   have := ih (i + 1) (w % 2 ^ r) (2 * q) (2 * R + b) _ _ (by omega) hwr (by omega) (Nat.mod_lt _ (by omega)) hnext (by rw [eqn, ← hT1]; exact hT)
   rw [eqn, ← hT1] at this
   exact this
theorem divn_ev (p n : Nat) (hn : 1 ≤ n) (hn2 : n < 1000000) (hp : p ≤ 9223372036854775807) : Ev (fun k => oculusref08_Divide.f k 0 (p : Int) (n : Int)) (((p / n : Nat) : Int), ((p % n : Nat) : Int), true) := by
 have h1 : p / n ≤ p := Nat.div_le_self p n
 have hP : p < 2 ^ 128 := by rw [show (2 : Nat) ^ 128 = 340282366920938463463374607431768211456 by decide]; omega
 have h8 := divn_l0 n hn hn2 128 0 p 0 0 0 p rfl hP (by omega) (by omega) (by omega)
 simp only [Nat.zero_mul, Nat.zero_add] at h8
 exact h8 (by omega)
theorem rmean_ev (s : Int) (n : Nat) (hs : -9223372036854775807 ≤ s ∧ s ≤ 9223372036854775807) (hn : 1 ≤ n) (hn2 : n < 1000000) : Ev (fun k => oculusref08_Scaled.f k s 1 (n : Int)) (mean s n, true) := by
 have ha : s.natAbs ≤ 9223372036854775807 := by omega
 have hq := rq_le s.natAbs n hn ha
 have hm : s.natAbs % n < n := Nat.mod_lt _ (by omega)
 have hd : s.natAbs / n ≤ s.natAbs := Nat.div_le_self _ _
 unfold oculusref08_Scaled.f
 refine ev_bind (ev_some fun _ => rmay_int s hs.1) (ev_pos rfl (ev_bind (ev_some fun _ => rmay_int 1 (by omega)) (ev_pos rfl (ev_bind (ev_some fun _ => rmay_int (n : Int) (by omega)) (ev_pos rfl ?_)))))
 rw [beq_eq_false_iff_ne.2 (show (n : Int) ≠ 0 by omega)]
 have r1 : oculusref08_Abs.f (n : Int) = some (n : Int) := rabs_nat n (by omega)
 have r2 : oculusref08_Abs.f (1 : Int) = some 1 := rabs_nat 1 (by omega)
 refine Ev.step (fun k => oculusref08_Scaled.j0.eq_2 ..) (ev_neg (by simp) (ev_bind (ev_some fun _ => r1) (ev_bind (ev_some fun _ => rabs_abs s hs) (ev_bind (ev_some fun _ => r2) (ev_bind (ev_some fun _ => times_1 s.natAbs (by omega)) (ev_bind (divn_ev s.natAbs n hn hn2 ha) (ev_pos rfl ?_)))))))
 show Ev (fun k => oculusref08_Scaled.j1 k s 1 (n : Int) (n : Int) (decide (((s.natAbs / n : Nat) : Int) > 9223372036854775807)) ((s.natAbs / n : Nat) : Int) ((s.natAbs % n : Nat) : Int) true) _
 rw [decide_eq_false (by omega)]
 refine Ev.step (fun k => oculusref08_Scaled.j1.eq_2 ..) (ev_neg (by simp) ?_)
 rw [sub_u64 n _ hm hn2, add1_u64 _ (by omega)]
 have fin : ∀ x : Nat, x = rq s.natAbs n → Ev (fun k => oculusref08_Scaled.j2 k s 1 (n : Int) (x : Int)) (mean s n, true) := by
  intro x hx
  subst hx
  refine Ev.step (fun k => oculusref08_Scaled.j2.eq_2 ..) (ev_neg (by omega) ?_)
  unfold mean
  rw [neg_w _ hq, w64 (x := ((rq s.natAbs n : Nat) : Int)) (by omega) (by omega)]
  by_cases g : s < 0
  ·rw [if_pos g, decide_eq_true g]
   exact ev_pos (by decide) (ev_neg (by omega) (Ev.now _))
  ·rw [if_neg g, decide_eq_false g]
   exact ev_neg (by decide) (ev_neg (by omega) (Ev.now _))
 refine ev_ite (fun g => fin _ ?_) (fun g => fin _ ?_)
 ·rw [rq, if_pos (by omega)]
 ·rw [rq, if_neg (by omega)]
def addR (a b : Int) : Int × Bool := if -9223372036854775807 ≤ a + b ∧ a + b ≤ 9223372036854775807 then (a + b, true) else (0, false)
abbrev okD (a : Int) : Prop := -9223372036854775807 ≤ a ∧ a ≤ 9223372036854775807
theorem ladd_ev (a b : Int) (ha : okD a) (hb : okD b) : Ev (fun k => dec_Add.f k a b) (addR a b) := by
 have jt : Ev (fun k => dec_Add.j0 k (wrap64 (a + b)) true) (0, false) := Ev.step (fun k => dec_Add.j0.eq_2 ..) (ev_pos rfl (Ev.now _))
 have jf : Ev (fun k => dec_Add.j0 k (wrap64 (a + b)) false) (wrap64 (a + b), true) := Ev.step (fun k => dec_Add.j0.eq_2 ..) (ev_neg (by simp) (Ev.now _))
 unfold dec_Add.f
 refine ev_bind (ev_some fun _ => may_int a ha.1) (ev_pos rfl (ev_bind (ev_some fun _ => may_int b hb.1) (ev_pos rfl ?_)))
 by_cases g : -9223372036854775807 ≤ a + b ∧ a + b ≤ 9223372036854775807
 ·have hw : wrap64 (a + b) = a + b := w64 (by omega) (by omega)
  rw [hw] at jt jf ⊢
  rw [addR, if_pos g]
  refine ev_bind (ev_some fun _ => may_int (a + b) g.1) (ev_pos rfl ?_)
  refine ev_ite (fun g1 => ev_ite (fun g2 => ev_neg (by omega) (ev_neg (by omega) jf)) (fun g2 => ev_neg (by omega) jf)) (fun g1 => ?_)
  refine ev_ite (fun g2 => ev_ite (fun g3 => ?_) (fun _ => jf)) (fun _ => jf)
  rw [decide_eq_false (by omega)]
  exact jf
 ·rw [addR, if_neg g]
  refine ev_bind (a := (wrap64 (a + b) != -9223372036854775808)) (ev_some fun _ => rfl) (ev_ite (fun gm => ?_) (fun _ => jt))
  have gm := bne_iff_ne.1 gm
  by_cases gp : a + b > 9223372036854775807
  ·have hw : wrap64 (a + b) = a + b - 18446744073709551616 := by unfold wrap64; omega
   exact ev_pos (by omega) (ev_pos (by omega) (ev_pos (by omega) jt))
  ·have hw : wrap64 (a + b) = a + b + 18446744073709551616 ∨ wrap64 (a + b) = a + b := by unfold wrap64; omega
   have hw2 : wrap64 (a + b) ≥ 0 := by unfold wrap64 at gm ⊢; omega
   refine ev_neg (by omega) (ev_pos (by omega) (ev_pos (by omega) ?_))
   rw [decide_eq_true hw2]
   exact jt
theorem raddi_ev (a b : Int) (ha : okD a) (hb : okD b) : Ev (fun k => oculusref08_Add.f k a b) (addR a b) := by
 have jt : Ev (fun k => oculusref08_Add.j0 k a b true) (0, false) := Ev.step (fun k => oculusref08_Add.j0.eq_2 ..) (ev_pos rfl (Ev.now _))
 have jf : Ev (fun k => oculusref08_Add.j0 k a b false) (wrap64 (a + b), true) := Ev.step (fun k => oculusref08_Add.j0.eq_2 ..) (ev_neg (by simp) (Ev.now _))
 unfold oculusref08_Add.f
 refine ev_bind (ev_some fun _ => rmay_int a ha.1) (ev_pos rfl (ev_bind (ev_some fun _ => rmay_int b hb.1) (ev_pos rfl ?_)))
 by_cases g : -9223372036854775807 ≤ a + b ∧ a + b ≤ 9223372036854775807
 ·have hw : wrap64 (a + b) = a + b := w64 (by omega) (by omega)
  rw [hw] at jf
  rw [addR, if_pos g]
  have neg : b < 0 → Ev (fun k => oculusref08_Add.j0 k a b (decide (a < (wrap64 ((-9223372036854775807) - b))))) (a + b, true) := by
   intro hb0
   rw [w64 (x := -9223372036854775807 - b) (by omega) (by omega), decide_eq_false (by omega)]
   exact jf
  refine ev_ite (fun g1 => ?_) (fun g1 => ev_ite neg (fun _ => jf))
  rw [w64 (x := 9223372036854775807 - b) (by omega) (by omega)]
  exact ev_neg (by omega) (ev_ite neg (fun _ => jf))
 ·rw [addR, if_neg g]
  refine ev_ite (fun g1 => ?_) (fun g1 => ?_)
  ·rw [w64 (x := 9223372036854775807 - b) (by omega) (by omega)]
   exact ev_pos (by omega) jt
  ·refine ev_pos (by omega) ?_
   rw [w64 (x := -9223372036854775807 - b) (by omega) (by omega), decide_eq_true (by omega)]
   exact jt
def tot : Int → List Int → Int × Bool
 | a, [] => (a, true)
 | a, x :: xs => if (addR a x).2 = true then tot (addR a x).1 xs else (0, false)
theorem addR_ok {a b : Int} (h : (addR a b).2 = true) : okD (addR a b).1 := by
 unfold addR at h ⊢
 split at h
 ·rename_i g; rw [if_pos g]; exact g
 ·cases h
theorem addR_no {a b : Int} (h : ¬ (addR a b).2 = true) : addR a b = (0, false) := by
 unfold addR at h ⊢
 split at h
 ·exact absurd rfl h
 ·rename_i g; rw [if_neg g]
theorem tot_ok : ∀ (l : List Int) (a : Int), okD a → (tot a l).2 = true → okD (tot a l).1
 | [], a, ha, _ => ha
 | x :: xs, a, ha, h => by
  rw [tot] at h ⊢
  by_cases g : (addR a x).2 = true
  ·rw [if_pos g] at h ⊢; exact tot_ok xs _ (addR_ok g) h
  ·rw [if_neg g] at h; cases h
theorem rdI (xs : List Int) (i : Nat) (h : i < xs.length) : rd xs (i : Int) = xs[i] := by
 unfold rd
 rw [Int.toNat_natCast, List.getD_eq_getElem?_getD, List.getElem?_eq_getElem h]; rfl
abbrev NV : ByteArray := ⟨#[]⟩
def totV (r : Int × Bool) : Int × Int × ByteArray := if r.2 = true then (1, r.1, NV) else (4, 4, NV)
theorem rnum_eq (x : Int) (h : okD x) : oculusref12_Num.f x = some (1, x, NV) := by
 unfold oculusref12_Num.f
 rw [rmay_int x h.1, Option.bind_some, if_pos rfl]
theorem rbad_eq (c : Int) (h : 1 ≤ c ∧ c ≤ 7) : oculusref12_Bad.f c = some (4, c, NV) := by
 unfold oculusref12_Bad.f
 rw [if_neg (by omega), if_neg (by omega)]
theorem lall_l0 (xs : List Int) (hx : ∀ x ∈ xs, okD x) (hl : xs.length ≤ 100000) : ∀ (d i : Nat) (a : Int), i + d = xs.length → okD a → Ev (fun k => fold_all.l0 k a xs (xs.length : Int) (i : Int)) (totV (tot a (xs.drop i)))
 | 0, i, a, h, ha => by
  refine Ev.step (fun k => fold_all.l0.eq_2 ..) (ev_neg (by omega) ?_)
  rw [List.drop_eq_nil_of_le (by omega)]
  exact ev_bind (ev_some fun _ => num_eq a (by omega)) (Ev.now _)
 | d + 1, i, a, h, ha => by
  have hi : i < xs.length := by omega
  refine Ev.step (fun k => fold_all.l0.eq_2 ..) (ev_pos (by omega) (ev_pos (by omega) (ev_pos (by omega) ?_)))
  rw [rdI xs i hi, List.drop_eq_getElem_cons hi, tot]
  refine ev_bind (ladd_ev a xs[i] ha (hx _ (List.getElem_mem hi))) (ev_ite (fun g => ?_) (fun g => ?_))
  ·rw [if_pos g, w64s (n := 1000000) (by omega) (by omega)]
   exact lall_l0 xs hx hl d (i + 1) _ (by omega) (addR_ok g)
  ·rw [if_neg g]
   exact ev_bind (ev_some fun _ => bad_eq 4 (by omega)) (Ev.now _)
theorem rtot_l0 (xs : List Int) (hx : ∀ x ∈ xs, okD x) (hl : xs.length ≤ 100000) : ∀ (d i : Nat) (a : Int), i + d = xs.length → okD a → Ev (fun k => oculusref15_Total.l0 k xs 0 (i : Int) a true) (tot a (xs.drop i))
 | 0, i, a, h, ha => by
  refine Ev.step (fun k => oculusref15_Total.l0.eq_2 ..) (ev_neg (by omega) ?_)
  rw [List.drop_eq_nil_of_le (by omega)]
  exact Ev.now _
 | d + 1, i, a, h, ha => by
  have hi : i < xs.length := by omega
  refine Ev.step (fun k => oculusref15_Total.l0.eq_2 ..) (ev_pos (by omega) (ev_pos rfl (ev_pos (by omega) ?_)))
  rw [rdI xs i hi, List.drop_eq_getElem_cons hi, tot]
  have hs : Ev (fun k => oculusref15_step.f k 0 a xs[i]) (addR a xs[i]) := by
   unfold oculusref15_step.f
   exact ev_pos rfl (ev_bind (raddi_ev a xs[i] ha (hx _ (List.getElem_mem hi))) (Ev.now _))
  refine ev_bind hs ?_
  by_cases g : (addR a xs[i]).2 = true
  ·rw [if_pos g, w64s (n := 1000000) (by omega) (by omega), g]
   exact rtot_l0 xs hx hl d (i + 1) _ (by omega) (addR_ok g)
  ·rw [if_neg g, addR_no g]
   refine Ev.step (fun k => oculusref15_Total.l0.eq_2 ..) (ev_ite (fun _ => ev_neg (by simp) (Ev.now _)) (fun _ => Ev.now _))
abbrev SW := S26
def fstF : List SW → Option SW
 | [] => none
 | v :: vs => if v.f0 = 4 then some v else fstF vs
def nums (l : List SW) : List Int := (l.filter fun v => decide (v.f0 = 1)).map (·.f1)
def fv (o : Option SW) : Int × Int × ByteArray := match o with
 | some v => (v.f0, v.f1, v.f2)
 | none => (0, 0, NV)
theorem fstF_4 : ∀ {l : List SW} {v : SW}, fstF l = some v → v.f0 = 4
 | v0 :: vs, v, h => by
  rw [fstF] at h
  split at h
  ·rename_i g; rw [← Option.some.inj h]; exact g
  ·exact fstF_4 h
theorem fault_l0 (V : List SW) (hl : V.length ≤ 100000) : ∀ (d i : Nat), i + d = V.length → Ev (fun k => fold_fault.l0 k V (V.length : Int) (i : Int)) (fv (fstF (V.drop i)))
 | 0, i, h => by
  refine Ev.step (fun k => fold_fault.l0.eq_2 ..) (ev_neg (by omega) ?_)
  rw [List.drop_eq_nil_of_le (by omega)]
  exact Ev.now _
 | d + 1, i, h => by
  have hi : i < V.length := by omega
  refine Ev.step (fun k => fold_fault.l0.eq_2 ..) (ev_pos (by omega) (ev_pos (by omega) (ev_pos (by omega) ?_)))
  rw [rdS V i hi, List.drop_eq_getElem_cons hi, fstF]
  refine ev_ite (fun g => ?_) (fun g => ?_)
  ·rw [if_pos g]; exact Ev.now _
  ·rw [if_neg g, w64s (n := 1000000) (by omega) (by omega)]
   exact fault_l0 V hl d (i + 1) (by omega)
theorem fault_ev (V : List SW) (hl : V.length ≤ 100000) : Ev (fun k => fold_fault.f k V) (fv (fstF V)) := fault_l0 V hl V.length 0 (by omega)
theorem rfault_l0 (V : List SW) (hl : V.length ≤ 100000) : ∀ (d i : Nat), i + d = V.length → ∃ c : Int, Ev (fun k => oculusref15_Fault.l0 k V (i : Int)) c ∧
  (fstF (V.drop i) = none → c = -1) ∧ (∀ v, fstF (V.drop i) = some v → 0 ≤ c ∧ c < (V.length : Int) ∧ rd_T26 V c = v)
 | 0, i, h => by
  refine ⟨-1, Ev.step (fun k => oculusref15_Fault.l0.eq_2 ..) (ev_neg (by omega) (Ev.now _)), fun _ => rfl, ?_⟩
  rw [List.drop_eq_nil_of_le (by omega)]
  intro v hv; cases hv
 | d + 1, i, h => by
  have hi : i < V.length := by omega
  rw [List.drop_eq_getElem_cons hi, fstF]
  by_cases g : V[i].f0 = 4
  ·refine ⟨(i : Int), Ev.step (fun k => oculusref15_Fault.l0.eq_2 ..) (ev_pos (by omega) (ev_pos (by omega) ?_)), ?_, ?_⟩
   ·rw [rdS V i hi]; exact ev_pos g (Ev.now _)
   ·rw [if_pos g]; intro h; cases h
   ·rw [if_pos g]
    intro v hv
    exact ⟨by omega, by omega, by rw [rdS V i hi]; exact Option.some.inj hv⟩
  ·obtain ⟨c, h1, h2, h3⟩ := rfault_l0 V hl d (i + 1) (by omega)
   refine ⟨c, Ev.step (fun k => oculusref15_Fault.l0.eq_2 ..) (ev_pos (by omega) (ev_pos (by omega) ?_)), ?_, ?_⟩
   ·rw [rdS V i hi, w64s (n := 1000000) (by omega) (by omega)]
    exact ev_neg g h1
   ·rw [if_neg g]; exact h2
   ·rw [if_neg g]; exact h3
theorem nums_1 (v : SW) (vs : List SW) (g : v.f0 = 1) : nums (v :: vs) = v.f1 :: nums vs := by simp [nums, g]
theorem nums_0 (v : SW) (vs : List SW) (g : ¬ v.f0 = 1) : nums (v :: vs) = nums vs := by simp [nums, g]
theorem numbers_l0 (V : List SW) (hl : V.length ≤ 100000) : ∀ (d i : Nat) (acc : List Int), i + d = V.length → acc.length ≤ i → Ev (fun k => fold_Numbers.l0 k acc V (V.length : Int) (i : Int)) (acc ++ nums (V.drop i), 0, 0, NV)
 | 0, i, acc, h, ha => by
  refine Ev.step (fun k => fold_Numbers.l0.eq_2 ..) (ev_neg (by omega) ?_)
  rw [List.drop_eq_nil_of_le (by omega), show nums [] = [] from rfl, List.append_nil]
  exact Ev.now _
 | d + 1, i, acc, h, ha => by
  have hi : i < V.length := by omega
  refine Ev.step (fun k => fold_Numbers.l0.eq_2 ..) (ev_pos (by omega) (ev_pos (by omega) (ev_pos (by omega) ?_)))
  rw [rdS V i hi, List.drop_eq_getElem_cons hi, w64s (n := 1000000) (by omega) (by omega)]
  refine ev_ite (fun g => ?_) (fun g => ?_)
  ·have e : nums (V[i] :: V.drop (i + 1)) = V[i].f1 :: nums (V.drop (i + 1)) := nums_1 _ _ g
   rw [e, show acc ++ V[i].f1 :: nums (V.drop (i + 1)) = (acc ++ [V[i].f1]) ++ nums (V.drop (i + 1)) by simp]
   exact ev_pos (by omega) (numbers_l0 V hl d (i + 1) _ (by omega) (by rw [List.length_append, List.length_singleton]; omega))
  ·have e : nums (V[i] :: V.drop (i + 1)) = nums (V.drop (i + 1)) := nums_0 _ _ g
   rw [e]
   exact numbers_l0 V hl d (i + 1) acc (by omega) (by omega)
theorem rnumbers_l0 (V : List SW) (hl : V.length ≤ 100000) : ∀ (d i : Nat) (acc : List Int), i + d = V.length → acc.length ≤ i → Ev (fun k => oculusref15_Numbers.l0 k V acc (i : Int)) (acc ++ nums (V.drop i))
 | 0, i, acc, h, ha => by
  refine Ev.step (fun k => oculusref15_Numbers.l0.eq_2 ..) (ev_neg (by omega) ?_)
  rw [List.drop_eq_nil_of_le (by omega), show nums [] = [] from rfl, List.append_nil]
  exact Ev.now _
 | d + 1, i, acc, h, ha => by
  have hi : i < V.length := by omega
  refine Ev.step (fun k => oculusref15_Numbers.l0.eq_2 ..) (ev_pos (by omega) (ev_pos (by omega) ?_))
  rw [rdS V i hi, List.drop_eq_getElem_cons hi, w64s (n := 1000000) (by omega) (by omega)]
  refine ev_ite (fun g => ?_) (fun g => ?_)
  ·have e : nums (V[i] :: V.drop (i + 1)) = V[i].f1 :: nums (V.drop (i + 1)) := nums_1 _ _ g
   rw [e, show acc ++ V[i].f1 :: nums (V.drop (i + 1)) = (acc ++ [V[i].f1]) ++ nums (V.drop (i + 1)) by simp]
   exact ev_pos (by omega) (rnumbers_l0 V hl d (i + 1) _ (by omega) (by rw [List.length_append, List.length_singleton]; omega))
  ·have e : nums (V[i] :: V.drop (i + 1)) = nums (V.drop (i + 1)) := nums_0 _ _ g
   rw [e]
   exact rnumbers_l0 V hl d (i + 1) acc (by omega) (by omega)
theorem count_l0 (V : List SW) (hl : V.length ≤ 100000) : ∀ (d i a : Nat), i + d = V.length → a ≤ i → Ev (fun k => fold_Count.l0 k 1 (a : Int) V (V.length : Int) (i : Int)) ((a + (nums (V.drop i)).length : Nat) : Int)
 | 0, i, a, h, ha => by
  refine Ev.step (fun k => fold_Count.l0.eq_2 ..) (ev_neg (by omega) ?_)
  rw [List.drop_eq_nil_of_le (by omega), show nums [] = [] from rfl]
  exact Ev.now _
 | d + 1, i, a, h, ha => by
  have hi : i < V.length := by omega
  refine Ev.step (fun k => fold_Count.l0.eq_2 ..) (ev_pos (by omega) (ev_pos (by omega) (ev_pos (by omega) (ev_pos rfl ?_))))
  rw [rdS V i hi, List.drop_eq_getElem_cons hi, w64s (i := i) (n := 1000000) (by omega) (by omega)]
  refine ev_ite (fun g => ?_) (fun g => ?_)
  ·have e : nums (V[i] :: V.drop (i + 1)) = V[i].f1 :: nums (V.drop (i + 1)) := nums_1 _ _ g
   rw [e, w64s (i := a) (n := 1000000) (by omega) (by omega), List.length_cons, show a + ((nums (V.drop (i + 1))).length + 1) = (a + 1) + (nums (V.drop (i + 1))).length by omega]
   exact count_l0 V hl d (i + 1) (a + 1) (by omega) (by omega)
  ·have e : nums (V[i] :: V.drop (i + 1)) = nums (V.drop (i + 1)) := nums_0 _ _ g
   rw [e]
   exact count_l0 V hl d (i + 1) a (by omega) (by omega)
def okL (V : List SW) : Prop := V.length ≤ 1000 ∧ ∀ v ∈ V, mayS v = true ∧ v.f1 ≤ 9223372036854775807
theorem nums_ok {V : List SW} (h : okL V) : ∀ x ∈ nums V, okD x := by
 intro x hx
 obtain ⟨v, hv, rfl⟩ := List.mem_map.1 hx
 obtain ⟨hv1, hv2⟩ := List.mem_filter.1 hv
 have h1 := of_decide_eq_true hv2
 obtain ⟨hm, hu⟩ := h.2 v hv1
 refine ⟨?_, hu⟩
 rw [mayS, mayV, decide_eq_true_eq] at hm
 rcases hm with ⟨a, b, c⟩ | ⟨a, b, c⟩ | ⟨a, b, c⟩ | ⟨a, b, c⟩ | ⟨a, b, c⟩ <;> omega
theorem nums_le (V : List SW) : (nums V).length ≤ V.length := by unfold nums; rw [List.length_map]; exact List.length_filter_le ..
def sumV (V : List SW) : Int × Int × ByteArray := match fstF V with
 | some v => (v.f0, v.f1, v.f2)
 | none => totV (tot 0 (nums V))
theorem lsum_ev (V : List SW) (h : okL V) : Ev (fun k => fold_Sum.f k V) (sumV V) := by
 have hl := h.1
 have hn := nums_le V
 unfold fold_Sum.f fold_all.f fold_Numbers.f sumV
 refine ev_bind (a := sumV V) ?_ (Ev.now _)
 unfold sumV
 have hf := fault_ev V (by omega)
 cases e : fstF V with
 | some v =>
  rw [e] at hf
  have h4 := fstF_4 e
  refine ev_bind (a := (([] : List Int), v.f0, v.f1, v.f2)) (ev_bind hf (ev_pos h4 (Ev.now _))) (ev_pos h4 (Ev.now _))
 | none =>
  rw [e] at hf
  have hN := numbers_l0 V (by omega) V.length 0 [] (by omega) (by simp)
  rw [List.drop_zero, List.nil_append] at hN
  refine ev_bind (ev_bind hf (ev_neg (by show ¬ (0 : Int) = 4; omega) hN)) (ev_neg (by show ¬ (0 : Int) = 4; omega) ?_)
  have := lall_l0 (nums V) (nums_ok h) (by omega) (nums V).length 0 0 (by omega) (by omega)
  rw [List.drop_zero] at this
  exact this
theorem rnumbers_ev (V : List SW) (h : okL V) : Ev (fun k => oculusref15_Numbers.f k V) (if fstF V = none then nums V else []) := by
 have hl := h.1
 obtain ⟨c, h1, h2, h3⟩ := rfault_l0 V (by omega) V.length 0 (by omega)
 rw [List.drop_zero] at h2 h3
 unfold oculusref15_Numbers.f
 refine ev_bind (a := c) h1 ?_
 cases e : fstF V with
 | some v =>
  rw [if_neg (by simp)]
  exact ev_pos (h3 v e).1 (Ev.now _)
 | none =>
  rw [if_pos rfl]
  refine ev_neg (by rw [h2 e]; omega) ?_
  have hN := rnumbers_l0 V (by omega) V.length 0 [] (by omega) (by simp)
  rw [List.drop_zero, List.nil_append] at hN
  exact hN
theorem rsum_ev (V : List SW) (h : okL V) : Ev (fun k => oculusref15_All.f k V 0) (sumV V) := by
 have hl := h.1
 have hn := nums_le V
 obtain ⟨c, h1, h2, h3⟩ := rfault_l0 V (by omega) V.length 0 (by omega)
 rw [List.drop_zero] at h2 h3
 have hN := rnumbers_ev V h
 unfold oculusref15_All.f
 refine ev_bind (a := c) h1 (Ev.step (fun k => oculusref15_All.j0.eq_2 ..) ?_)
 unfold sumV
 cases e : fstF V with
 | some v =>
  obtain ⟨a1, a2, a3⟩ := h3 v e
  rw [a3]
  exact ev_pos a1 (ev_pos a1 (ev_pos a2 (Ev.now _)))
 | none =>
  rw [e, if_pos rfl] at hN
  refine ev_neg (by rw [h2 e]; omega) (ev_bind hN ?_)
  have hT : Ev (fun k => oculusref15_Total.f k (nums V) 0) (tot 0 (nums V)) := by
   unfold oculusref15_Total.f
   have := rtot_l0 (nums V) (nums_ok h) (by omega) (nums V).length 0 0 (by omega) (by omega)
   rw [List.drop_zero] at this
   exact ev_neg (by omega) (Ev.step (fun k => oculusref15_Total.j0.eq_2 ..) (ev_neg (by simp) (Ev.step (fun k => oculusref15_Total.j1.eq_2 ..) this)))
  refine ev_bind hT (ev_bind (a := totV (tot 0 (nums V))) (ev_some fun _ => ?_) (Ev.now _))
  unfold oculusref12_Of.f totV
  have hok := tot_ok (nums V) 0 (by omega)
  split
  ·rename_i g; rw [rnum_eq _ (hok g)]; rfl
  ·rw [rbad_eq 4 (by omega)]; rfl
def meanV (V : List SW) : Int × Int × ByteArray := match fstF V with
 | some v => (v.f0, v.f1, v.f2)
 | none => if (nums V).length = 0 then (4, 1, NV) else if (tot 0 (nums V)).2 = true then (1, mean (tot 0 (nums V)).1 (nums V).length, NV) else (4, 4, NV)
theorem mean_ok (s : Int) (n : Nat) (hn : 1 ≤ n) (hs : okD s) : okD (mean s n) := by
 have := rq_le s.natAbs n hn (by omega)
 unfold mean
 split <;> omega
theorem lmeanV_ev (V : List SW) (h : okL V) : Ev (fun k => fold_Mean.f k V) (meanV V) := by
 have hl := h.1
 have hn := nums_le V
 have hs := lsum_ev V h
 have hf := fault_ev V (by omega)
 have hc := count_l0 V (by omega) V.length 0 0 (by omega) (by omega)
 rw [List.drop_zero, Nat.zero_add] at hc
 unfold fold_Mean.f
 refine ev_bind hs (ev_bind (a := ((nums V).length : Int)) hc (ev_bind hf ?_))
 unfold meanV sumV
 cases e : fstF V with
 | some v => exact ev_pos (fstF_4 e) (Ev.now _)
 | none =>
  refine ev_neg (by show ¬ (0 : Int) = 4; omega) ?_
  by_cases g : (nums V).length = 0
  ·rw [if_pos g]
   exact ev_pos (by omega) (ev_bind (ev_some fun _ => bad_eq 1 (by omega)) (Ev.now _))
  ·rw [if_neg g]
   refine ev_neg (by omega) ?_
   by_cases g2 : (tot 0 (nums V)).2 = true
   ·have hok := tot_ok (nums V) 0 (by omega) g2
    have hmk := mean_ok (tot 0 (nums V)).1 (nums V).length (by omega) hok
    rw [if_pos g2]
    have e2 : totV (tot 0 (nums V)) = (1, (tot 0 (nums V)).1, NV) := by rw [totV, if_pos g2]
    show Ev (fun k => if (totV (tot 0 (nums V))).1 = 4 then some ((totV (tot 0 (nums V))).1, (totV (tot 0 (nums V))).2.1, (totV (tot 0 (nums V))).2.2) else (dec_Scaled.f k (totV (tot 0 (nums V))).2.1 1 ((nums V).length : Int)).bind fun bt113 => (value_Got.f bt113.1 bt113.2).bind fun bt115 => some (bt115.1, bt115.2.1, bt115.2.2)) _
    rw [e2]
    refine ev_neg (by show ¬ (1 : Int) = 4; omega) (ev_bind (lmean_ev _ _ hok (by omega) (by omega)) (ev_bind (a := (1, mean (tot 0 (nums V)).1 (nums V).length, NV)) (ev_some fun _ => ?_) (Ev.now _)))
    unfold value_Got.f
    rw [if_pos rfl, num_eq (mean (tot 0 (nums V)).1 (nums V).length) (by omega)]; rfl
   ·rw [if_neg g2]
    have e2 : totV (tot 0 (nums V)) = (4, 4, NV) := by rw [totV, if_neg g2]
    show Ev (fun k => if (totV (tot 0 (nums V))).1 = 4 then some ((totV (tot 0 (nums V))).1, (totV (tot 0 (nums V))).2.1, (totV (tot 0 (nums V))).2.2) else (dec_Scaled.f k (totV (tot 0 (nums V))).2.1 1 ((nums V).length : Int)).bind fun bt113 => (value_Got.f bt113.1 bt113.2).bind fun bt115 => some (bt115.1, bt115.2.1, bt115.2.2)) _
    rw [e2]
    exact ev_pos rfl (Ev.now _)
theorem rmeanV_ev (V : List SW) (h : okL V) : Ev (fun k => oculusref15_Mean.f k V) (meanV V) := by
 have hl := h.1
 have hn := nums_le V
 have hs := rsum_ev V h
 have hN := rnumbers_ev V h
 obtain ⟨c, h1, h2, h3⟩ := rfault_l0 V (by omega) V.length 0 (by omega)
 rw [List.drop_zero] at h2 h3
 unfold oculusref15_Mean.f
 refine ev_bind hN (ev_bind hs (ev_bind (a := c) h1 ?_))
 unfold meanV sumV
 cases e : fstF V with
 | some v =>
  refine ev_neg (by have := (h3 v e).1; omega) (Ev.step (fun k => oculusref15_Mean.j0.eq_2 ..) (ev_neg (by simp) (ev_pos (fstF_4 e) (Ev.now _))))
 | none =>
  rw [if_pos rfl]
  refine ev_pos (by rw [h2 e]; omega) (Ev.step (fun k => oculusref15_Mean.j0.eq_2 ..) ?_)
  by_cases g : (nums V).length = 0
  ·rw [if_pos g]
   exact ev_pos (by rw [beq_iff_eq]; omega) (ev_bind (ev_some fun _ => rbad_eq 1 (by omega)) (Ev.now _))
  ·rw [if_neg g]
   refine ev_neg (by rw [beq_iff_eq]; omega) ?_
   by_cases g2 : (tot 0 (nums V)).2 = true
   ·have hok := tot_ok (nums V) 0 (by omega) g2
    have hmk := mean_ok (tot 0 (nums V)).1 (nums V).length (by omega) hok
    rw [if_pos g2]
    have e2 : totV (tot 0 (nums V)) = (1, (tot 0 (nums V)).1, NV) := by rw [totV, if_pos g2]
    show Ev (fun k => if (totV (tot 0 (nums V))).1 = 4 then some ((totV (tot 0 (nums V))).1, (totV (tot 0 (nums V))).2.1, (totV (tot 0 (nums V))).2.2) else (oculusref08_Scaled.f k (totV (tot 0 (nums V))).2.1 1 ((nums V).length : Int)).bind fun bt113 => (oculusref12_Of.f bt113.1 bt113.2).bind fun bt115 => some (bt115.1, bt115.2.1, bt115.2.2)) _
    rw [e2]
    refine ev_neg (by show ¬ (1 : Int) = 4; omega) (ev_bind (rmean_ev _ _ hok (by omega) (by omega)) (ev_bind (a := (1, mean (tot 0 (nums V)).1 (nums V).length, NV)) (ev_some fun _ => ?_) (Ev.now _)))
    unfold oculusref12_Of.f
    rw [if_pos rfl, rnum_eq _ hmk]; rfl
   ·rw [if_neg g2]
    have e2 : totV (tot 0 (nums V)) = (4, 4, NV) := by rw [totV, if_neg g2]
    show Ev (fun k => if (totV (tot 0 (nums V))).1 = 4 then some ((totV (tot 0 (nums V))).1, (totV (tot 0 (nums V))).2.1, (totV (tot 0 (nums V))).2.2) else (oculusref08_Scaled.f k (totV (tot 0 (nums V))).2.1 1 ((nums V).length : Int)).bind fun bt113 => (oculusref12_Of.f bt113.1 bt113.2).bind fun bt115 => some (bt115.1, bt115.2.1, bt115.2.2)) _
    rw [e2]
    exact ev_pos rfl (Ev.now _)
end Go.Proofs.YtejkoenlfcghbaaGreat.X
