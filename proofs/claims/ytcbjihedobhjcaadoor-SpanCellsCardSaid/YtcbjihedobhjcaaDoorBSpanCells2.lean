/- Contracts of the functions that the law SpanCells reaches, and what they answer (a session's own texts, joined; part 2). -/
import Derived.Shelf.Strconv.Itoa0
import Derived.Shelf.Strconv.Itoa1
import Derived.Shelf.LaysM
import Derived.Shelf.Strconv.Itoa2
import Derived.Shelf.Strconv.Itoa3
import Derived.Shelf.Strings.Search1
import Derived.Shelf.Strings.Search2
import Derived.Shelf.Strings.Cut
import Derived.Shelf.Strings.Shaped
import Derived.Test.YtcbjihedobhjcaaDoorProg
import Derived.Sort.QuietTacIn
import Derived.Lib.QuietBelow
import Derived.Test.YtcbjihedobhjcaaDoorBSpanCells1
/-
  DERIVED: THE SHELF's CONTRACTS AT THIS DUMP, IN PLAIN WORDS (tools/lay-plain.mjs out of 'TrydShelf.lean', which tools/lay-shelf.mjs wrote): THE SAME DECLARATIONS UNDER THE SAME NAMES: 'import', 'namespace', 'open', 'def', 'theorem' AND NOTHING ELSE: no command of the shelf's: FOR A HAND-IN. Each laying: the table of numbers ('.._ren') and one theorem, a field a fact of the dump's own or the kernel's comparison; each contract: ONE APPLICATION.
-/
namespace Go.Proofs
open Go.Shelf
def Tryd.laysM171_ren : Go.Shelf.Ren := ⟨fun | 171 => 33 | 243 => 35 | 246 => 40 | 283 => 43 | 284 => 44 | 285 => 45 | 286 => 46 | 129 => 48 | 317 => 47 | 318 => 49 | 319 => 50 | 320 => 51 | 337 => 52 | 338 => 53 | n => n, fun | 3 => 3 | 9 => 9 | 2 => 2 | 4 => 4 | 171 => 60 | 0 => 0 | 53 => 61 | 37 => 52 | 5 => 5 | 173 => 64 | 212 => 67 | 51 => 57 | 20 => 20 | 213 => 68 | 46 => 55 | 232 => 72 | 233 => 73 | n => n, fun | 17 => 1 | 18 => 2 | 19 => 3 | n => n⟩
theorem Tryd.laysM171 : Go.Proofs.LaysM.n171 Tryd.prog Tryd.laysM171_ren := {
  mixed := by kernel_rfl
  f129 := Tryd.func48.trans (congrArg some (by kernel_rfl))
  f171 := Tryd.func33.trans (congrArg some (by kernel_rfl))
  f243 := Tryd.func35.trans (congrArg some (by kernel_rfl))
  f246 := Tryd.func40.trans (congrArg some (by kernel_rfl))
  f283 := Tryd.func43.trans (congrArg some (by kernel_rfl))
  f284 := Tryd.func44.trans (congrArg some (by kernel_rfl))
  f285 := Tryd.func45.trans (congrArg some (by kernel_rfl))
  f286 := Tryd.func46.trans (congrArg some (by kernel_rfl))
  f317 := Tryd.func47.trans (congrArg some (by kernel_rfl))
  f318 := Tryd.func49.trans (congrArg some (by kernel_rfl))
  f319 := Tryd.func50.trans (congrArg some (by kernel_rfl))
  f320 := Tryd.func51.trans (congrArg some (by kernel_rfl))
  f337 := Tryd.func52.trans (congrArg some (by kernel_rfl))
  f338 := Tryd.func53.trans (congrArg some (by kernel_rfl))
  t0 := Tryd.underlying0
  a0 := Tryd.isAgg0
  z0 := Tryd.sizeOf0
  v0 := Tryd.zeroValue0
  t2 := Tryd.underlying2
  a2 := Tryd.isAgg2
  z2 := Tryd.sizeOf2
  v2 := Tryd.zeroValue2
  t3 := Tryd.underlying3
  a3 := Tryd.isAgg3
  z3 := Tryd.sizeOf3
  v3 := Tryd.zeroValue3
  t4 := Tryd.underlying4
  a4 := Tryd.isAgg4
  z4 := Tryd.sizeOf4
  v4 := Tryd.zeroValue4
  t5 := Tryd.underlying5
  a5 := Tryd.isAgg5
  z5 := Tryd.sizeOf5
  v5 := Tryd.zeroValue5
  t9 := Tryd.underlying9
  a9 := Tryd.isAgg9
  z9 := Tryd.sizeOf9
  v9 := Tryd.zeroValue9
  t20 := Tryd.underlying20
  a20 := Tryd.isAgg20
  z20 := Tryd.sizeOf20
  v20 := Tryd.zeroValue20
  t37 := Tryd.underlying52
  a37 := Tryd.isAgg52
  z37 := Tryd.sizeOf52
  v37 := Tryd.zeroValue52
  t46 := Tryd.underlying55
  a46 := Tryd.isAgg55
  z46 := Tryd.sizeOf55
  v46 := Tryd.zeroValue55
  t51 := Tryd.underlying57
  a51 := Tryd.isAgg57
  z51 := Tryd.sizeOf57
  v51 := Tryd.zeroValue57
  t53 := Tryd.underlying61
  a53 := Tryd.isAgg61
  z53 := Tryd.sizeOf61
  v53 := Tryd.zeroValue61
  t171 := Tryd.underlying60
  a171 := Tryd.isAgg60
  z171 := Tryd.sizeOf60
  v171 := Tryd.zeroValue60
  t173 := Tryd.underlying64
  a173 := Tryd.isAgg64
  z173 := Tryd.sizeOf64
  v173 := Tryd.zeroValue64
  t212 := Tryd.underlying67
  a212 := Tryd.isAgg67
  z212 := Tryd.sizeOf67
  v212 := Tryd.zeroValue67
  t213 := Tryd.underlying68
  a213 := Tryd.isAgg68
  z213 := Tryd.sizeOf68
  t232 := Tryd.underlying72
  a232 := Tryd.isAgg72
  z232 := Tryd.sizeOf72
  v232 := Tryd.zeroValue72
  t233 := Tryd.underlying73
  a233 := Tryd.isAgg73
  z233 := Tryd.sizeOf73
  v233 := Tryd.zeroValue73
  g17 := by kernel_rfl
  g18 := by kernel_rfl
  g19 := by kernel_rfl
  i0 := by kernel_rfl
  i2 := by kernel_rfl
  i3 := by kernel_rfl
  i4 := by kernel_rfl
  i5 := by kernel_rfl
  i9 := by kernel_rfl
  i20 := by kernel_rfl
  i37 := by kernel_rfl
  i46 := by kernel_rfl
  i51 := by kernel_rfl
  i53 := by kernel_rfl
  i171 := by kernel_rfl
  i173 := by kernel_rfl
  i212 := by kernel_rfl
  i232 := by kernel_rfl
  i233 := by kernel_rfl
  m17 := by kernel_rfl
  m18 := by kernel_rfl
  m19 := by kernel_rfl }
open Go.RowKit Go.Sort Go.Lib in
theorem Tryd.strconv_Itoa (n : Int) (h0 : -9223372036854775808 ≤ n) (h1 : n ≤ 9223372036854775807) (w : World) (htab : Lib.TabIs Tryd.prog w "internal/strconv.uint64pow10" .u64 Lib.pow10Tab) :
    Calls Tryd.prog 33 #[.int .i64 n] w fun e w' => e = .returned (.string ⟨(Lib.itoa n).toArray⟩) ∧ ∃ k os, w' = grow (w.drewN k) os := Any.strconv_Itoa Tryd.laysM171 n h0 h1 w htab
def Tryd.lays219_ren : Go.Shelf.Ren := ⟨fun | 219 => 34 | 217 => 36 | 225 => 37 | 224 => 38 | 267 => 39 | 266 => 41 | 314 => 42 | n => n, fun | 9 => 9 | 3 => 3 | 4 => 4 | 5 => 5 | 46 => 55 | 146 => 58 | 51 => 57 | n => n, fun | 1 => 0 | n => n⟩
theorem Tryd.lays219 : Go.Proofs.Lays.n219 Tryd.prog Tryd.lays219_ren := {
  mixed := by kernel_rfl
  f217 := Tryd.func36.trans (congrArg some (by kernel_rfl))
  f219 := Tryd.func34.trans (congrArg some (by kernel_rfl))
  f224 := Tryd.func38.trans (congrArg some (by kernel_rfl))
  f225 := Tryd.func37.trans (congrArg some (by kernel_rfl))
  f266 := Tryd.func41.trans (congrArg some (by kernel_rfl))
  f267 := Tryd.func39.trans (congrArg some (by kernel_rfl))
  f314 := Tryd.func42.trans (congrArg some (by kernel_rfl))
  t3 := Tryd.underlying3
  a3 := Tryd.isAgg3
  z3 := Tryd.sizeOf3
  v3 := Tryd.zeroValue3
  t4 := Tryd.underlying4
  a4 := Tryd.isAgg4
  z4 := Tryd.sizeOf4
  v4 := Tryd.zeroValue4
  t5 := Tryd.underlying5
  a5 := Tryd.isAgg5
  z5 := Tryd.sizeOf5
  v5 := Tryd.zeroValue5
  t9 := Tryd.underlying9
  a9 := Tryd.isAgg9
  z9 := Tryd.sizeOf9
  v9 := Tryd.zeroValue9
  t46 := Tryd.underlying55
  a46 := Tryd.isAgg55
  z46 := Tryd.sizeOf55
  v46 := Tryd.zeroValue55
  t51 := Tryd.underlying57
  a51 := Tryd.isAgg57
  z51 := Tryd.sizeOf57
  v51 := Tryd.zeroValue57
  t146 := Tryd.underlying58
  a146 := Tryd.isAgg58
  z146 := Tryd.sizeOf58
  v146 := Tryd.zeroValue58
  g1 := by kernel_rfl }
open Go.RowKit Go.Lib in
theorem Tryd.stringslite_Index_one (s : ByteArray) (c : UInt8) (w : World) :
    Calls Tryd.prog 34 #[.string s, .string ⟨#[c]⟩] w fun e w' => e = .returned (.int .i64 (Lib.indexByte s.data.toList c)) ∧ w' = w := Any.stringslite_Index_one Tryd.lays219 s c w
open Go.RowKit Go.Lib in
theorem Tryd.stringslite_Index (s sub : ByteArray) (m : Int) (w : World) (hs : s.size < 4294967281) (hm : w.cell? ⟨0, 0, none⟩ = some (.int .i64 m)) :
    Calls Tryd.prog 34 #[.string s, .string sub] w fun e w' => e = .returned (.int .i64 (Lib.index s.data.toList sub.data.toList)) ∧ w' = w := Any.stringslite_Index Tryd.lays219 s sub m w hs hm
def Tryd.lays220_ren : Go.Shelf.Ren := ⟨fun | 220 => 29 | 219 => 34 | 217 => 36 | 225 => 37 | 224 => 38 | 267 => 39 | 266 => 41 | 314 => 42 | n => n, fun | 9 => 9 | 4 => 4 | 3 => 3 | 5 => 5 | 46 => 55 | 146 => 58 | 51 => 57 | n => n, fun | 1 => 0 | n => n⟩
theorem Tryd.lays220 : Go.Proofs.Lays.n220 Tryd.prog Tryd.lays220_ren := {
  mixed := by kernel_rfl
  f217 := Tryd.func36.trans (congrArg some (by kernel_rfl))
  f219 := Tryd.func34.trans (congrArg some (by kernel_rfl))
  f220 := Tryd.func29.trans (congrArg some (by kernel_rfl))
  f224 := Tryd.func38.trans (congrArg some (by kernel_rfl))
  f225 := Tryd.func37.trans (congrArg some (by kernel_rfl))
  f266 := Tryd.func41.trans (congrArg some (by kernel_rfl))
  f267 := Tryd.func39.trans (congrArg some (by kernel_rfl))
  f314 := Tryd.func42.trans (congrArg some (by kernel_rfl))
  t3 := Tryd.underlying3
  a3 := Tryd.isAgg3
  z3 := Tryd.sizeOf3
  v3 := Tryd.zeroValue3
  t4 := Tryd.underlying4
  a4 := Tryd.isAgg4
  z4 := Tryd.sizeOf4
  v4 := Tryd.zeroValue4
  t5 := Tryd.underlying5
  a5 := Tryd.isAgg5
  z5 := Tryd.sizeOf5
  v5 := Tryd.zeroValue5
  t9 := Tryd.underlying9
  a9 := Tryd.isAgg9
  z9 := Tryd.sizeOf9
  v9 := Tryd.zeroValue9
  t46 := Tryd.underlying55
  a46 := Tryd.isAgg55
  z46 := Tryd.sizeOf55
  v46 := Tryd.zeroValue55
  t51 := Tryd.underlying57
  a51 := Tryd.isAgg57
  z51 := Tryd.sizeOf57
  v51 := Tryd.zeroValue57
  t146 := Tryd.underlying58
  a146 := Tryd.isAgg58
  z146 := Tryd.sizeOf58
  v146 := Tryd.zeroValue58
  g1 := by kernel_rfl }
open Go.RowKit Go.Lib in
theorem Tryd.stringslite_Cut (s sep : ByteArray) (m : Int) (w : World) (hs : s.size < 4294967281) (hm : w.cell? ⟨0, 0, none⟩ = some (.int .i64 m)) :
    Calls Tryd.prog 29 #[.string s, .string sep] w fun e w' => e = .returned (.tuple #[.string ⟨(Lib.cut s.data.toList sep.data.toList).1.toArray⟩, .string ⟨(Lib.cut s.data.toList sep.data.toList).2.1.toArray⟩, .bool (Lib.cut s.data.toList sep.data.toList).2.2]) ∧ ∃ n, w' = w.drewN n := Any.stringslite_Cut Tryd.lays220 s sep m w hs hm
def Tryd.lays145_ren : Go.Shelf.Ren := ⟨fun | 145 => 26 | 220 => 29 | 219 => 34 | 217 => 36 | 225 => 37 | 224 => 38 | 267 => 39 | 266 => 41 | 314 => 42 | n => n, fun | 9 => 9 | 4 => 4 | 59 => 43 | 3 => 3 | 5 => 5 | 46 => 55 | 146 => 58 | 51 => 57 | n => n, fun | 1 => 0 | n => n⟩
theorem Tryd.lays145 : Go.Proofs.Lays.n145 Tryd.prog Tryd.lays145_ren := {
  mixed := by kernel_rfl
  f145 := Tryd.func26.trans (congrArg some (by kernel_rfl))
  f217 := Tryd.func36.trans (congrArg some (by kernel_rfl))
  f219 := Tryd.func34.trans (congrArg some (by kernel_rfl))
  f220 := Tryd.func29.trans (congrArg some (by kernel_rfl))
  f224 := Tryd.func38.trans (congrArg some (by kernel_rfl))
  f225 := Tryd.func37.trans (congrArg some (by kernel_rfl))
  f266 := Tryd.func41.trans (congrArg some (by kernel_rfl))
  f267 := Tryd.func39.trans (congrArg some (by kernel_rfl))
  f314 := Tryd.func42.trans (congrArg some (by kernel_rfl))
  t3 := Tryd.underlying3
  a3 := Tryd.isAgg3
  z3 := Tryd.sizeOf3
  v3 := Tryd.zeroValue3
  t4 := Tryd.underlying4
  a4 := Tryd.isAgg4
  z4 := Tryd.sizeOf4
  v4 := Tryd.zeroValue4
  t5 := Tryd.underlying5
  a5 := Tryd.isAgg5
  z5 := Tryd.sizeOf5
  v5 := Tryd.zeroValue5
  t9 := Tryd.underlying9
  a9 := Tryd.isAgg9
  z9 := Tryd.sizeOf9
  v9 := Tryd.zeroValue9
  t46 := Tryd.underlying55
  a46 := Tryd.isAgg55
  z46 := Tryd.sizeOf55
  v46 := Tryd.zeroValue55
  t51 := Tryd.underlying57
  a51 := Tryd.isAgg57
  z51 := Tryd.sizeOf57
  v51 := Tryd.zeroValue57
  t59 := Tryd.underlying43
  a59 := Tryd.isAgg43
  z59 := Tryd.sizeOf43
  v59 := Tryd.zeroValue43
  t146 := Tryd.underlying58
  a146 := Tryd.isAgg58
  z146 := Tryd.sizeOf58
  v146 := Tryd.zeroValue58
  g1 := by kernel_rfl }
open Go.RowKit Go.Lib in
theorem Tryd.strings_Cut (s sep : ByteArray) (m : Int) (w : World) (hs : s.size < 4294967281) (hm : w.cell? ⟨0, 0, none⟩ = some (.int .i64 m)) :
    Calls Tryd.prog 26 #[.string s, .string sep] w fun e w' => e = .returned (.tuple #[.string ⟨(Lib.cut s.data.toList sep.data.toList).1.toArray⟩, .string ⟨(Lib.cut s.data.toList sep.data.toList).2.1.toArray⟩, .bool (Lib.cut s.data.toList sep.data.toList).2.2]) ∧ ∃ n, w' = w.drewN n := Any.strings_Cut Tryd.lays145 s sep m w hs hm
end Go.Proofs
/- The contract, by hand, of internal/stringslite.Index at a needle of one byte: out of the shelf's. -/
set_option linter.unusedVariables false
namespace Go.Proofs.YtcbjihedobhjcaaDoor.X
open Go.RowKit Go.Proofs.YtcbjihedobhjcaaDoorW.PrintWords Go.Proofs.YtcbjihedobhjcaaDoorW.PrintLast Go.Proofs.YtcbjihedobhjcaaDoorW.PrintMore
def stringslite_Index.f (a0 : ByteArray) (a1 : ByteArray) : Option Int := if h : a1.size = 1 then some (Lib.indexByte a0.data.toList (a1[0]'(by omega))) else none
theorem stringslite_Index.calls (a0 : ByteArray) (a1 : ByteArray) (r : Int) (w : World) (h : stringslite_Index.f a0 a1 = some r) :
    Calls Tryd.prog 34 #[.string a0, .string a1] w fun e w' => e = .returned (.int .i64 r) ∧ Drawn0 w w' := by
  unfold stringslite_Index.f at h
  by_cases hs : a1.size = 1
  · rw [dif_pos hs] at h
    obtain rfl := Option.some.inj h
    obtain ⟨⟨l⟩⟩ := a1
    obtain ⟨c, rfl⟩ : ∃ c, l = [c] := by
      match l, hs with
      | [c], _ => exact ⟨c, rfl⟩
    refine (Tryd.stringslite_Index_one a0 c w).mono ?_
    rintro e w' ⟨rfl, rfl⟩
    exact ⟨rfl, Drawn0.refl _⟩
  · rw [dif_neg hs] at h
    cases h
end Go.Proofs.YtcbjihedobhjcaaDoor.X
namespace Go.Proofs.YtcbjihedobhjcaaDoor.X
open Go.RowKit Go.Proofs.YtcbjihedobhjcaaDoorW.PrintWords Go.Proofs.YtcbjihedobhjcaaDoorW.PrintLast Go.Proofs.YtcbjihedobhjcaaDoorW.PrintMore
attribute [local go_sem] max2_int min2_int max_two min_two max_three min_three max_four min_four
set_option linter.unusedVariables false
set_option linter.unusedSimpArgs false
def stringslite_Cut.f (a0 : ByteArray) (a1 : ByteArray) : Option (ByteArray × ByteArray × Bool) := (stringslite_Index.f a0 a1).bind fun t101 => (if t101 ≥ 0 then (if 0 ≤ t101 then (if t101 ≤ (a0.size : Int) then (if 0 ≤ (wrap64 (t101 + (a1.size : Int))) then (if (wrap64 (t101 + (a1.size : Int))) ≤ (a0.size : Int) then (some (a0.extract 0 (t101 : Int).toNat, a0.extract ((wrap64 (t101 + (a1.size : Int))) : Int).toNat a0.size, true)) else (none)) else (none)) else (none)) else (none)) else (some (a0, (⟨#[]⟩ : ByteArray), false)))
set_option maxHeartbeats 8000000 in
set_option maxRecDepth 100000 in
theorem stringslite_Cut.calls (a0 : ByteArray) (a1 : ByteArray) (r1 : ByteArray) (r2 : ByteArray) (r3 : Bool) (w : World) (h : stringslite_Cut.f a0 a1 = some (r1, r2, r3)) :
  Calls Tryd.prog 29 #[.string a0, .string a1] w fun e w' => e = .returned (.tuple #[.string r1, .string r2, .bool r3]) ∧ Drawn0 w w' := by
 have H : ((stringslite_Index.f a0 a1).bind fun t101 => (if t101 ≥ 0 then (if 0 ≤ t101 then (if t101 ≤ (a0.size : Int) then (if 0 ≤ (wrap64 (t101 + (a1.size : Int))) then (if (wrap64 (t101 + (a1.size : Int))) ≤ (a0.size : Int) then (some (a0.extract 0 (t101 : Int).toNat, a0.extract ((wrap64 (t101 + (a1.size : Int))) : Int).toNat a0.size, true)) else (none)) else (none)) else (none)) else (none)) else (some (a0, (⟨#[]⟩ : ByteArray), false)))) = some (r1, r2, r3) := h
 clear h; replace H := Option.bind_eq_some_iff.mp H; obtain ⟨t101, A30, H⟩ := H
 replace H : (if t101 ≥ 0 then (if 0 ≤ t101 then (if t101 ≤ (a0.size : Int) then (if 0 ≤ (wrap64 (t101 + (a1.size : Int))) then (if (wrap64 (t101 + (a1.size : Int))) ≤ (a0.size : Int) then (some (a0.extract 0 (t101 : Int).toNat, a0.extract ((wrap64 (t101 + (a1.size : Int))) : Int).toNat a0.size, true)) else (none)) else (none)) else (none)) else (none)) else (some (a0, (⟨#[]⟩ : ByteArray), false))) = some (r1, r2, r3) := H
 have A3 := Aside0.mk A30; clear A30
 by_cases c4 : t101 ≥ 0
 ·rw [if_pos c4] at H; have c4b0 : decide (0 ≤ t101) = true := decide_eq_true c4; clear c4
  by_cases c5 : 0 ≤ t101
  ·rw [if_pos c5] at H; have c5b0 := eq_true c5; have c5b1 : decide (0 ≤ t101) = true := decide_eq_true c5; clear c5
   by_cases c6 : t101 ≤ (a0.size : Int)
   ·rw [if_pos c6] at H; have c6b0 := eq_true c6; have c6b1 : decide (t101 ≤ (a0.size : Int)) = true := decide_eq_true c6; clear c6; obtain ⟨ji7, hji7⟩ : ∃ j_ : Int, (wrap64 (t101 + (a1.size : Int))) = j_ := ⟨_, rfl⟩
    replace H : (if 0 ≤ (ji7) then (if (ji7) ≤ (a0.size : Int) then (some (a0.extract 0 (t101 : Int).toNat, a0.extract ((ji7) : Int).toNat a0.size, true)) else (none)) else (none)) = some (r1, r2, r3) := by first | (rw [hji7] at H; exact H) | (simp only [hji7] at H ⊢; exact H)
    (try rw [hji7] at A3)
    have hji7w : (IntKind.i64.wrap (t101 + (a1.size : Int))) = ji7 := (i64_w _).trans hji7
    by_cases c8 : 0 ≤ (ji7)
    ·rw [if_pos c8] at H; have c8b0 := eq_true c8; have c8b1 : decide (0 ≤ (ji7)) = true := decide_eq_true c8; clear c8
     by_cases c9 : (ji7) ≤ (a0.size : Int)
     ·rw [if_pos c9] at H; have c9b0 := eq_true c9; have c9b1 : decide ((ji7) ≤ (a0.size : Int)) = true := decide_eq_true c9; clear c9
      simp only [Option.some.injEq, Prod.mk.injEq] at H
      obtain ⟨rfl, rfl, rfl⟩ := H
      go_enter Tryd.func29, Tryd.ntmps29
      go_wp2_with (first | (go_at_call 34; (with_reducible refine (stringslite_Index.calls a0 a1 t101 _ A3.out).mono ?_); rintro e w' ⟨rfl, ⟨nd, rfl⟩⟩; (try first | exact ⟨rfl, _, World.drewN_drewN _ _ _⟩ | exact ⟨rfl, _, Eq.trans (World.drewN_drewN _ _ _) (congrArg (World.drewN _) (Nat.add_assoc _ _ _))⟩)))
      repeat (go_quiet (first | (go_at_call 34; (with_reducible refine (stringslite_Index.calls a0 a1 t101 _ A3.out).mono ?_); rintro e w' ⟨rfl, ⟨nd, rfl⟩⟩; (try first | exact ⟨rfl, _, World.drewN_drewN _ _ _⟩ | exact ⟨rfl, _, Eq.trans (World.drewN_drewN _ _ _) (congrArg (World.drewN _) (Nat.add_assoc _ _ _))⟩))); try go_wp2_with (first | (go_at_call 34; (with_reducible refine (stringslite_Index.calls a0 a1 t101 _ A3.out).mono ?_); rintro e w' ⟨rfl, ⟨nd, rfl⟩⟩; (try first | exact ⟨rfl, _, World.drewN_drewN _ _ _⟩ | exact ⟨rfl, _, Eq.trans (World.drewN_drewN _ _ _) (congrArg (World.drewN _) (Nat.add_assoc _ _ _))⟩))))
      go_ret3
      exact ⟨by first | rfl | (simp; done) | (simp only [← hji7] <;> (first | rfl | simp)) | (simp [*]; done), by repeat (first | exact Drawn0.refl _ | apply Drawn0.step)⟩
     ·rw [if_neg c9] at H
      exact absurd H (by simp)
    ·rw [if_neg c8] at H
     exact absurd H (by simp)
   ·rw [if_neg c6] at H
    exact absurd H (by simp)
  ·rw [if_neg c5] at H
   exact absurd H (by simp)
 ·rw [if_neg c4] at H; have c4b0 : decide (0 ≤ t101) = false := decide_eq_false c4; clear c4
  simp only [Option.some.injEq, Prod.mk.injEq] at H
  obtain ⟨rfl, rfl, rfl⟩ := H
  go_enter Tryd.func29, Tryd.ntmps29
  go_wp2_with (first | (go_at_call 34; (with_reducible refine (stringslite_Index.calls a0 a1 t101 _ A3.out).mono ?_); rintro e w' ⟨rfl, ⟨nd, rfl⟩⟩; (try first | exact ⟨rfl, _, World.drewN_drewN _ _ _⟩ | exact ⟨rfl, _, Eq.trans (World.drewN_drewN _ _ _) (congrArg (World.drewN _) (Nat.add_assoc _ _ _))⟩)))
  repeat (go_quiet (first | (go_at_call 34; (with_reducible refine (stringslite_Index.calls a0 a1 t101 _ A3.out).mono ?_); rintro e w' ⟨rfl, ⟨nd, rfl⟩⟩; (try first | exact ⟨rfl, _, World.drewN_drewN _ _ _⟩ | exact ⟨rfl, _, Eq.trans (World.drewN_drewN _ _ _) (congrArg (World.drewN _) (Nat.add_assoc _ _ _))⟩))); try go_wp2_with (first | (go_at_call 34; (with_reducible refine (stringslite_Index.calls a0 a1 t101 _ A3.out).mono ?_); rintro e w' ⟨rfl, ⟨nd, rfl⟩⟩; (try first | exact ⟨rfl, _, World.drewN_drewN _ _ _⟩ | exact ⟨rfl, _, Eq.trans (World.drewN_drewN _ _ _) (congrArg (World.drewN _) (Nat.add_assoc _ _ _))⟩))))
  go_ret3
  exact ⟨by first | rfl | (simp; done) | (simp [*]; done), by repeat (first | exact Drawn0.refl _ | apply Drawn0.step)⟩

def strings_Cut.f (a0 : ByteArray) (a1 : ByteArray) : Option (ByteArray × ByteArray × Bool) := (stringslite_Cut.f a0 a1).bind fun bt101 => (some (bt101.1, bt101.2.1, bt101.2.2))
set_option maxHeartbeats 8000000 in
set_option maxRecDepth 100000 in
theorem strings_Cut.calls (a0 : ByteArray) (a1 : ByteArray) (r1 : ByteArray) (r2 : ByteArray) (r3 : Bool) (w : World) (h : strings_Cut.f a0 a1 = some (r1, r2, r3)) :
  Calls Tryd.prog 26 #[.string a0, .string a1] w fun e w' => e = .returned (.tuple #[.string r1, .string r2, .bool r3]) ∧ Drawn0 w w' := by
 have H : ((stringslite_Cut.f a0 a1).bind fun bt101 => (some (bt101.1, bt101.2.1, bt101.2.2))) = some (r1, r2, r3) := h
 clear h; replace H := Option.bind_eq_some_iff.mp H; obtain ⟨⟨t101, t102, t103⟩, A30, H⟩ := H
 replace H : (some (t101, t102, t103)) = some (r1, r2, r3) := H
 have A3 := Aside0.mk A30; clear A30
 simp only [Option.some.injEq, Prod.mk.injEq] at H
 obtain ⟨rfl, rfl, rfl⟩ := H
 go_enter Tryd.func26, Tryd.ntmps26
 go_wp2_with (first | ((with_reducible refine gate_callee (f:=29) rfl ?_); refine gL_ (some 9) rfl rfl Tryd.func29 rfl #[.string a0, .string a1] rfl ?_; (with_reducible refine (stringslite_Cut.calls a0 a1 t101 t102 t103 _ A3.out).mono ?_); rintro e w' ⟨rfl, ⟨nd, rfl⟩⟩; refine ⟨_, rfl, ?_⟩))
 go_ret3
 exact ⟨by first | rfl | (simp; done) | (simp [*]; done), by repeat (first | exact Drawn0.refl _ | apply Drawn0.step)⟩

mutual
def addr_Column.j0 : Nat → ByteArray → Bool → Option (Int × Bool)
 | 0, _, _ => none
 | k + 1, x0, x13 => if x13 = true then (some (0, false)) else (addr_Column.l0 k x0 0 (x0.size : Int) 0)
def addr_Column.l0 : Nat → ByteArray → Int → Int → Int → Option (Int × Bool)
 | 0, _, _, _, _ => none
 | k + 1, x0, x4, x15, x16 => if x16 < x15 then (if 0 ≤ x16 then (if x16 < (x0.size : Int) then (if (bt x0 x16) < 65 then (some (0, false)) else (if (bt x0 x16) > 90 then (some (0, false)) else (addr_Column.l0 k x0 (wrap64 ((wrap64 ((wrap64 (x4 * 26)) + (((bt x0 x16) - 65) % 256))) + 1)) x15 (wrap64 (x16 + 1))))) else (none)) else (none)) else (some (wrap64 (x4 - 1), true))
end
def addr_Column.f (k : Nat) (a0 : ByteArray) : Option (Int × Bool) := if (a0.size : Int) < 1 then (addr_Column.j0 k a0 true) else (addr_Column.j0 k a0 (decide ((a0.size : Int) > 2)))
theorem addr_Column.mono_l : ∀ k, (∀ y0 y1, LeO (addr_Column.j0 k y0 y1) (addr_Column.j0 (k + 1) y0 y1)) ∧ (∀ y0 y1 y2 y3, LeO (addr_Column.l0 k y0 y1 y2 y3) (addr_Column.l0 (k + 1) y0 y1 y2 y3))
 | 0 => ⟨fun _ _ r h => by simp [addr_Column.j0] at h, fun _ _ _ _ r h => by simp [addr_Column.l0] at h⟩
 | k + 1 => by
  obtain ⟨ih0, ih1⟩ := addr_Column.mono_l k
  refine ⟨?_, ?_⟩
  ·intro y0 y1
   unfold addr_Column.j0
   repeat' first
   | (with_reducible exact ih0 _ _)
   | (with_reducible exact ih1 _ _ _ _)
   | (with_reducible exact LeO.refl _)
   | (with_reducible exact LeO.none _)
   | (with_reducible refine LeO.ite ?_ ?_)
   | (with_reducible refine LeO.bind ?_ (fun _ => ?_))
  ·intro y0 y1 y2 y3
   unfold addr_Column.l0
   repeat' first
   | (with_reducible exact ih0 _ _)
   | (with_reducible exact ih1 _ _ _ _)
   | (with_reducible exact LeO.refl _)
   | (with_reducible exact LeO.none _)
   | (with_reducible refine LeO.ite ?_ ?_)
   | (with_reducible refine LeO.bind ?_ (fun _ => ?_))
theorem addr_Column.mono : ∀ a0 k, LeO (addr_Column.f k a0) (addr_Column.f (k + 1) a0) := by
 intro a0 k; obtain ⟨ih0, ih1⟩ := addr_Column.mono_l k
 unfold addr_Column.f
 repeat' first
   | (with_reducible exact ih0 _ _)
   | (with_reducible exact ih1 _ _ _ _)
   | (with_reducible exact LeO.refl _)
   | (with_reducible exact LeO.none _)
   | (with_reducible refine LeO.ite ?_ ?_)
   | (with_reducible refine LeO.bind ?_ (fun _ => ?_))
set_option maxHeartbeats 8000000 in
set_option maxRecDepth 100000 in
theorem addr_Column.calls (k : Nat) (a0 : ByteArray) (r1 : Int) (r2 : Bool) (w : World) (h : addr_Column.f k a0 = some (r1, r2)) :
  Calls Tryd.prog 30 #[.string a0] w fun e w' => e = .returned (.tuple #[.int .i64 r1, .bool r2]) ∧ Drawn0 w w' := by
 have H : (if (a0.size : Int) < 1 then (addr_Column.j0 k a0 true) else (addr_Column.j0 k a0 (decide ((a0.size : Int) > 2)))) = some (r1, r2) := h
 clear h; have HC2 := Aside0.mk H; clear H
 go_enter Tryd.func30, Tryd.ntmps30
 go_upto_region 1 with (fail)
 go_cut [13] (fun v13 wc => ∃ (kq : Nat) (x13_1 : Bool), v13 = .bool x13_1 ∧ Aside0 (addr_Column.j0 kq a0 x13_1 = some (r1, r2)) ∧ Aside0 (kq ≤ k) ∧ Drawn0 w wc)
 case first =>
  have H := HC2.out; clear HC2
  by_cases c3 : (a0.size : Int) < 1
  ·rw [if_pos c3] at H; have c3b0 : decide ((a0.size : Int) < 1) = true := decide_eq_true c3; have c3b1 : decide (a0.size < 1) = true := decide_eq_true (by omega); clear c3; (first | rw [c3b0] | (simp only [i64_w, i32_w]; rw [c3b0]) | skip)
   have H' := Aside0.mk H
   clear H
   go_wp2
   go_meet
   case rel => exact ⟨_, (true), (by first | rfl | (simp; done) | (simp [*]; done)), H', ⟨by first | omega | exact Nat.le_refl _⟩, by repeat (first | exact Drawn0.refl _ | apply Drawn0.step)⟩
  ·rw [if_neg c3] at H; have c3b0 : decide ((a0.size : Int) < 1) = false := decide_eq_false c3; have c3b1 : decide (a0.size < 1) = false := decide_eq_false (by omega); clear c3; (first | rw [c3b0] | (simp only [i64_w, i32_w]; rw [c3b0]) | skip)
   have H' := Aside0.mk H
   clear H
   go_wp2
   go_meet
   case rel => exact ⟨_, (decide ((a0.size : Int) > 2)), (by first | rfl | (simp; done) | (simp [*]; done)), H', ⟨by first | omega | exact Nat.le_refl _⟩, by repeat (first | exact Drawn0.refl _ | apply Drawn0.step)⟩
 case rest =>
  clear HC2; (try clear p2); (try clear c3); (try clear c3b0); (try clear c3b1); obtain ⟨kq, x13_1, rfl, HA, HJ1, ⟨mc1, rfl⟩⟩ := hcut
  cases kq with
  | zero => exact absurd HA.out (by simp [addr_Column.j0])
  | succ kj1 =>
   have H := HA.out; clear HA
   simp only [addr_Column.j0] at H
   by_cases c4 : x13_1 = true
   ·subst c4
    have H1 : (some (0, false)) = some (r1, r2) := by rw [if_pos rfl] at H; exact H
    clear H; have H := H1; clear H1
    simp only [Option.some.injEq, Prod.mk.injEq] at H
    obtain ⟨rfl, rfl⟩ := H
    go_wp2
    go_ret2
    exact ⟨by first | rfl | (simp; done) | (simp [*]; done), by repeat (first | exact Drawn0.refl _ | apply Drawn0.step)⟩
   ·replace c4 := Bool.eq_false_iff.mpr c4; subst c4
    have H1 : (addr_Column.l0 kj1 a0 0 (a0.size : Int) 0) = some (r1, r2) := by rw [if_neg (show ¬ (false = true) by decide)] at H; exact H
    clear H; have H := H1; clear H1
    have H' := Aside0.mk H
    clear H
    go_wp2
    go_loopg [4, 16] kj1 (fun kq v4 v16 w' => ∃ (x4_2 : Int) (x16_2 : Int), v4 = .int .i64 x4_2 ∧ v16 = .int .i64 x16_2 ∧ Aside0 (addr_Column.l0 kq a0 x4_2 (a0.size : Int) x16_2 = some (r1, r2)) ∧ Aside0 (kq ≤ kj1) ∧ Drawn0 w w')
    case atStart => exact ⟨(0), (0), (by first | rfl | (simp; done) | (simp [*]; done)), (by first | rfl | (simp; done) | (simp [*]; done)), H', ⟨Nat.le_refl _⟩, by repeat (first | exact Drawn0.refl _ | apply Drawn0.step)⟩
    case round =>
     clear H'; (try clear c1); (try clear p2); (try clear c3); (try clear c3b0); (try clear c3b1); (try clear c4); (try clear p2); obtain ⟨x4_2, x16_2, rfl, rfl, HA, HK2, ⟨m2, rfl⟩⟩ := hrel
     cases gk with
     | zero => exact absurd HA.out (by simp [addr_Column.l0])
     | succ k2 =>
      have H := HA.out; clear HA
      simp only [addr_Column.l0] at H
      by_cases c5 : x16_2 < (a0.size : Int)
      ·rw [if_pos c5] at H; have c5b0 : decide (x16_2 < (a0.size : Int)) = true := decide_eq_true c5; clear c5
       by_cases c6 : 0 ≤ x16_2
       ·rw [if_pos c6] at H; have c6b0 : decide (0 ≤ x16_2) = true := decide_eq_true c6; clear c6
        by_cases c7 : x16_2 < (a0.size : Int)
        ·rw [if_pos c7] at H; have c7b0 : decide (x16_2 < (a0.size : Int)) = true := decide_eq_true c7; clear c7
         by_cases c9 : (bt a0 x16_2) < 65
         ·rw [if_pos c9] at H; have c9b0 : decide ((bt a0 x16_2) < 65) = true := decide_eq_true c9; clear c9
          simp only [Option.some.injEq, Prod.mk.injEq] at H
          obtain ⟨rfl, rfl⟩ := H
          have p8 : 0 ≤ (x16_2 : Int) := of_decide_eq_true (by first | (with_reducible assumption) | assumption)
          have q8 : x16_2 < (a0.size : Int) := of_decide_eq_true (by first | (with_reducible assumption) | assumption)
          have hx8 := bt_at a0 x16_2; replace p8 := eq_true p8; replace q8 := eq_true q8
          go_wp2
          go_ret2
          exact ⟨by first | rfl | (simp; done) | (simp [*]; done), by repeat (first | exact Drawn0.refl _ | apply Drawn0.step)⟩
         ·rw [if_neg c9] at H; have c9b0 : decide ((bt a0 x16_2) < 65) = false := decide_eq_false c9; clear c9
          by_cases c11 : (bt a0 x16_2) > 90
          ·rw [if_pos c11] at H; have c11b0 : decide (90 < (bt a0 x16_2)) = true := decide_eq_true c11; clear c11
           simp only [Option.some.injEq, Prod.mk.injEq] at H
           obtain ⟨rfl, rfl⟩ := H
           have p8 : 0 ≤ (x16_2 : Int) := of_decide_eq_true (by first | (with_reducible assumption) | assumption)
           have q8 : x16_2 < (a0.size : Int) := of_decide_eq_true (by first | (with_reducible assumption) | assumption)
           have hx8 := bt_at a0 x16_2; replace p8 := eq_true p8; replace q8 := eq_true q8
           have p10 : 0 ≤ (x16_2 : Int) := of_decide_eq_true (by first | (with_reducible assumption) | assumption)
           have q10 : x16_2 < (a0.size : Int) := of_decide_eq_true (by first | (with_reducible assumption) | assumption)
           have hx10 := bt_at a0 x16_2; replace p10 := eq_true p10; replace q10 := eq_true q10
           go_wp2
           go_ret2
           exact ⟨by first | rfl | (simp; done) | (simp [*]; done), by repeat (first | exact Drawn0.refl _ | apply Drawn0.step)⟩
          ·rw [if_neg c11] at H; have c11b0 : decide (90 < (bt a0 x16_2)) = false := decide_eq_false c11; clear c11
           have H' := Aside0.mk H
           clear H
           have p8 : 0 ≤ (x16_2 : Int) := of_decide_eq_true (by first | (with_reducible assumption) | assumption)
           have q8 : x16_2 < (a0.size : Int) := of_decide_eq_true (by first | (with_reducible assumption) | assumption)
           have hx8 := bt_at a0 x16_2; replace p8 := eq_true p8; replace q8 := eq_true q8
           have p10 : 0 ≤ (x16_2 : Int) := of_decide_eq_true (by first | (with_reducible assumption) | assumption)
           have q10 : x16_2 < (a0.size : Int) := of_decide_eq_true (by first | (with_reducible assumption) | assumption)
           have hx10 := bt_at a0 x16_2; replace p10 := eq_true p10; replace q10 := eq_true q10
           have p12 : 0 ≤ (x16_2 : Int) := of_decide_eq_true (by first | (with_reducible assumption) | assumption)
           have q12 : x16_2 < (a0.size : Int) := of_decide_eq_true (by first | (with_reducible assumption) | assumption)
           have hx12 := bt_at a0 x16_2; replace p12 := eq_true p12; replace q12 := eq_true q12
           go_wp2
           go_roundg k2
           case measure => have := HJ1.out; have := HK2.out; omega
           case rel => exact ⟨(wrap64 ((wrap64 ((wrap64 (x4_2 * 26)) + (((bt a0 x16_2) - 65) % 256))) + 1)), (wrap64 (x16_2 + 1)), (by first | rfl | (simp; done) | (simp [*]; done)), (by first | rfl | (simp; done) | (simp [*]; done)), H', ⟨by have := HJ1.out; have := HK2.out; omega⟩, by repeat (first | exact Drawn0.refl _ | apply Drawn0.step)⟩
        ·rw [if_neg c7] at H
         exact absurd H (by simp)
       ·rw [if_neg c6] at H
        exact absurd H (by simp)
      ·rw [if_neg c5] at H; have c5b0 : decide (x16_2 < (a0.size : Int)) = false := decide_eq_false c5; clear c5
       simp only [Option.some.injEq, Prod.mk.injEq] at H
       obtain ⟨rfl, rfl⟩ := H
       go_wp2
       go_ret2
       exact ⟨by first | rfl | (simp; done) | (simp [*]; done), by repeat (first | exact Drawn0.refl _ | apply Drawn0.step)⟩

mutual
def addr_Number.j0 : Nat → ByteArray → Bool → Option (Int × Bool)
 | 0, _, _ => none
 | k + 1, x0, x18 => if x18 = true then (some (0, false)) else (addr_Number.l0 k x0 0 (x0.size : Int) 0)
def addr_Number.l0 : Nat → ByteArray → Int → Int → Int → Option (Int × Bool)
 | 0, _, _, _, _ => none
 | k + 1, x0, x4, x20, x21 => if x21 < x20 then (if 0 ≤ x21 then (if x21 < (x0.size : Int) then (if (bt x0 x21) < 48 then (some (0, false)) else (if (bt x0 x21) > 57 then (some (0, false)) else (addr_Number.l0 k x0 (wrap64 ((wrap64 (x4 * 10)) + (((bt x0 x21) - 48) % 256))) x20 (wrap64 (x21 + 1))))) else (none)) else (none)) else (some (wrap64 (x4 - 1), true))
end
def addr_Number.f (k : Nat) (a0 : ByteArray) : Option (Int × Bool) := if (a0.size : Int) < 1 then (addr_Number.j0 k a0 true) else (if (a0.size : Int) > 3 then (addr_Number.j0 k a0 true) else (if 0 < (a0.size : Int) then (addr_Number.j0 k a0 ((bt a0 0) == 48)) else (none)))
theorem addr_Number.mono_l : ∀ k, (∀ y0 y1, LeO (addr_Number.j0 k y0 y1) (addr_Number.j0 (k + 1) y0 y1)) ∧ (∀ y0 y1 y2 y3, LeO (addr_Number.l0 k y0 y1 y2 y3) (addr_Number.l0 (k + 1) y0 y1 y2 y3))
 | 0 => ⟨fun _ _ r h => by simp [addr_Number.j0] at h, fun _ _ _ _ r h => by simp [addr_Number.l0] at h⟩
 | k + 1 => by
  obtain ⟨ih0, ih1⟩ := addr_Number.mono_l k
  refine ⟨?_, ?_⟩
  ·intro y0 y1
   unfold addr_Number.j0
   repeat' first
   | (with_reducible exact ih0 _ _)
   | (with_reducible exact ih1 _ _ _ _)
   | (with_reducible exact LeO.refl _)
   | (with_reducible exact LeO.none _)
   | (with_reducible refine LeO.ite ?_ ?_)
   | (with_reducible refine LeO.bind ?_ (fun _ => ?_))
  ·intro y0 y1 y2 y3
   unfold addr_Number.l0
   repeat' first
   | (with_reducible exact ih0 _ _)
   | (with_reducible exact ih1 _ _ _ _)
   | (with_reducible exact LeO.refl _)
   | (with_reducible exact LeO.none _)
   | (with_reducible refine LeO.ite ?_ ?_)
   | (with_reducible refine LeO.bind ?_ (fun _ => ?_))
theorem addr_Number.mono : ∀ a0 k, LeO (addr_Number.f k a0) (addr_Number.f (k + 1) a0) := by
 intro a0 k; obtain ⟨ih0, ih1⟩ := addr_Number.mono_l k
 unfold addr_Number.f
 repeat' first
   | (with_reducible exact ih0 _ _)
   | (with_reducible exact ih1 _ _ _ _)
   | (with_reducible exact LeO.refl _)
   | (with_reducible exact LeO.none _)
   | (with_reducible refine LeO.ite ?_ ?_)
   | (with_reducible refine LeO.bind ?_ (fun _ => ?_))
set_option maxHeartbeats 8000000 in
set_option maxRecDepth 100000 in
theorem addr_Number.calls (k : Nat) (a0 : ByteArray) (r1 : Int) (r2 : Bool) (w : World) (h : addr_Number.f k a0 = some (r1, r2)) :
  Calls Tryd.prog 31 #[.string a0] w fun e w' => e = .returned (.tuple #[.int .i64 r1, .bool r2]) ∧ Drawn0 w w' := by
 have H : (if (a0.size : Int) < 1 then (addr_Number.j0 k a0 true) else (if (a0.size : Int) > 3 then (addr_Number.j0 k a0 true) else (if 0 < (a0.size : Int) then (addr_Number.j0 k a0 ((bt a0 0) == 48)) else (none)))) = some (r1, r2) := h
 clear h; have HC2 := Aside0.mk H; clear H
 go_enter Tryd.func31, Tryd.ntmps31
 go_upto_region 1 with (fail)
 go_cut [18] (fun v18 wc => ∃ (kq : Nat) (x18_1 : Bool), v18 = .bool x18_1 ∧ Aside0 (addr_Number.j0 kq a0 x18_1 = some (r1, r2)) ∧ Aside0 (kq ≤ k) ∧ Drawn0 w wc)
 case first =>
  have H := HC2.out; clear HC2
  by_cases c3 : (a0.size : Int) < 1
  ·rw [if_pos c3] at H; have c3b0 : decide ((a0.size : Int) < 1) = true := decide_eq_true c3; have c3b1 : decide (a0.size < 1) = true := decide_eq_true (by omega); clear c3; (first | rw [c3b0] | (simp only [i64_w, i32_w]; rw [c3b0]) | skip)
   have H' := Aside0.mk H
   clear H
   go_wp2
   go_meet
   case rel => exact ⟨_, (true), (by first | rfl | (simp; done) | (simp [*]; done)), H', ⟨by first | omega | exact Nat.le_refl _⟩, by repeat (first | exact Drawn0.refl _ | apply Drawn0.step)⟩
  ·rw [if_neg c3] at H; have c3b0 : decide ((a0.size : Int) < 1) = false := decide_eq_false c3; have c3b1 : decide (a0.size < 1) = false := decide_eq_false (by omega); clear c3; (first | rw [c3b0] | (simp only [i64_w, i32_w]; rw [c3b0]) | skip)
   by_cases c4 : (a0.size : Int) > 3
   ·rw [if_pos c4] at H; have c4b0 : decide (3 < (a0.size : Int)) = true := decide_eq_true c4; have c4b1 : decide (3 < a0.size) = true := decide_eq_true (by omega); clear c4
    have H' := Aside0.mk H
    clear H
    go_wp2
    go_meet
    case rel => exact ⟨_, (true), (by first | rfl | (simp; done) | (simp [*]; done)), H', ⟨by first | omega | exact Nat.le_refl _⟩, by repeat (first | exact Drawn0.refl _ | apply Drawn0.step)⟩
   ·rw [if_neg c4] at H; have c4b0 : decide (3 < (a0.size : Int)) = false := decide_eq_false c4; have c4b1 : decide (3 < a0.size) = false := decide_eq_false (by omega); clear c4
    by_cases c5 : 0 < (a0.size : Int)
    ·rw [if_pos c5] at H; have c5b0 : decide (0 < (a0.size : Int)) = true := decide_eq_true c5; have c5b1 : decide (0 < a0.size) = true := decide_eq_true (by omega); clear c5
     have H' := Aside0.mk H
     clear H
     have p6 : 0 ≤ (0 : Int) := (by omega)
     have q6 : 0 < a0.size := (by have : (0 : Int) < (a0.size : Int) := of_decide_eq_true (by first | (with_reducible assumption) | assumption); omega)
     have hx6 : ∀ h : 0 < a0.size, ((a0[0]'h).toNat : Int) = bt a0 0 := bt_at a0 0
     clear p6; have qi6 : (0 < (a0.size : Int)) = True := eq_true (of_decide_eq_true (by first | (with_reducible assumption) | assumption)); replace q6 := eq_true q6
     go_wp2
     go_meet
     case rel => exact ⟨_, (((bt a0 0) == 48)), (by first | rfl | (simp; done) | (simp [*]; done)), H', ⟨by first | omega | exact Nat.le_refl _⟩, by repeat (first | exact Drawn0.refl _ | apply Drawn0.step)⟩
    ·rw [if_neg c5] at H
     exact absurd H (by simp)
 case rest =>
  clear HC2; (try clear p2); (try clear c3); (try clear c3b0); (try clear c3b1); (try clear c4); (try clear c4b0); (try clear c4b1); (try clear c5); (try clear c5b0); (try clear c5b1); (try clear p6); (try clear q6); (try clear hx6); (try clear qi6); (try clear p6); (try clear q6); obtain ⟨kq, x18_1, rfl, HA, HJ1, ⟨mc1, rfl⟩⟩ := hcut
  cases kq with
  | zero => exact absurd HA.out (by simp [addr_Number.j0])
  | succ kj1 =>
   have H := HA.out; clear HA
   simp only [addr_Number.j0] at H
   by_cases c7 : x18_1 = true
   ·subst c7
    have H1 : (some (0, false)) = some (r1, r2) := by rw [if_pos rfl] at H; exact H
    clear H; have H := H1; clear H1
    simp only [Option.some.injEq, Prod.mk.injEq] at H
    obtain ⟨rfl, rfl⟩ := H
    go_wp2
    go_ret2
    exact ⟨by first | rfl | (simp; done) | (simp [*]; done), by repeat (first | exact Drawn0.refl _ | apply Drawn0.step)⟩
   ·replace c7 := Bool.eq_false_iff.mpr c7; subst c7
    have H1 : (addr_Number.l0 kj1 a0 0 (a0.size : Int) 0) = some (r1, r2) := by rw [if_neg (show ¬ (false = true) by decide)] at H; exact H
    clear H; have H := H1; clear H1
    have H' := Aside0.mk H
    clear H
    go_wp2
    go_loopg [4, 21] kj1 (fun kq v4 v21 w' => ∃ (x4_2 : Int) (x21_2 : Int), v4 = .int .i64 x4_2 ∧ v21 = .int .i64 x21_2 ∧ Aside0 (addr_Number.l0 kq a0 x4_2 (a0.size : Int) x21_2 = some (r1, r2)) ∧ Aside0 (kq ≤ kj1) ∧ Drawn0 w w')
    case atStart => exact ⟨(0), (0), (by first | rfl | (simp; done) | (simp [*]; done)), (by first | rfl | (simp; done) | (simp [*]; done)), H', ⟨Nat.le_refl _⟩, by repeat (first | exact Drawn0.refl _ | apply Drawn0.step)⟩
    case round =>
     clear H'; (try clear c1); (try clear p2); (try clear c3); (try clear c3b0); (try clear c3b1); (try clear c4); (try clear c4b0); (try clear c4b1); (try clear c5); (try clear c5b0); (try clear c5b1); (try clear p6); (try clear q6); (try clear hx6); (try clear qi6); (try clear c7); (try clear p2); (try clear p6); (try clear q6); obtain ⟨x4_2, x21_2, rfl, rfl, HA, HK2, ⟨m2, rfl⟩⟩ := hrel
     cases gk with
     | zero => exact absurd HA.out (by simp [addr_Number.l0])
     | succ k2 =>
      have H := HA.out; clear HA
      simp only [addr_Number.l0] at H
      by_cases c8 : x21_2 < (a0.size : Int)
      ·rw [if_pos c8] at H; have c8b0 : decide (x21_2 < (a0.size : Int)) = true := decide_eq_true c8; clear c8
       by_cases c9 : 0 ≤ x21_2
       ·rw [if_pos c9] at H; have c9b0 : decide (0 ≤ x21_2) = true := decide_eq_true c9; clear c9
        by_cases c10 : x21_2 < (a0.size : Int)
        ·rw [if_pos c10] at H; have c10b0 : decide (x21_2 < (a0.size : Int)) = true := decide_eq_true c10; clear c10
         by_cases c12 : (bt a0 x21_2) < 48
         ·rw [if_pos c12] at H; have c12b0 : decide ((bt a0 x21_2) < 48) = true := decide_eq_true c12; clear c12
          simp only [Option.some.injEq, Prod.mk.injEq] at H
          obtain ⟨rfl, rfl⟩ := H
          have p11 : 0 ≤ (x21_2 : Int) := of_decide_eq_true (by first | (with_reducible assumption) | assumption)
          have q11 : x21_2 < (a0.size : Int) := of_decide_eq_true (by first | (with_reducible assumption) | assumption)
          have hx11 := bt_at a0 x21_2; replace p11 := eq_true p11; replace q11 := eq_true q11
          go_wp2
          go_ret2
          exact ⟨by first | rfl | (simp; done) | (simp [*]; done), by repeat (first | exact Drawn0.refl _ | apply Drawn0.step)⟩
         ·rw [if_neg c12] at H; have c12b0 : decide ((bt a0 x21_2) < 48) = false := decide_eq_false c12; clear c12
          by_cases c14 : (bt a0 x21_2) > 57
          ·rw [if_pos c14] at H; have c14b0 : decide (57 < (bt a0 x21_2)) = true := decide_eq_true c14; clear c14
           simp only [Option.some.injEq, Prod.mk.injEq] at H
           obtain ⟨rfl, rfl⟩ := H
           have p11 : 0 ≤ (x21_2 : Int) := of_decide_eq_true (by first | (with_reducible assumption) | assumption)
           have q11 : x21_2 < (a0.size : Int) := of_decide_eq_true (by first | (with_reducible assumption) | assumption)
           have hx11 := bt_at a0 x21_2; replace p11 := eq_true p11; replace q11 := eq_true q11
           have p13 : 0 ≤ (x21_2 : Int) := of_decide_eq_true (by first | (with_reducible assumption) | assumption)
           have q13 : x21_2 < (a0.size : Int) := of_decide_eq_true (by first | (with_reducible assumption) | assumption)
           have hx13 := bt_at a0 x21_2; replace p13 := eq_true p13; replace q13 := eq_true q13
           go_wp2
           go_ret2
           exact ⟨by first | rfl | (simp; done) | (simp [*]; done), by repeat (first | exact Drawn0.refl _ | apply Drawn0.step)⟩
          ·rw [if_neg c14] at H; have c14b0 : decide (57 < (bt a0 x21_2)) = false := decide_eq_false c14; clear c14
           have H' := Aside0.mk H
           clear H
           have p11 : 0 ≤ (x21_2 : Int) := of_decide_eq_true (by first | (with_reducible assumption) | assumption)
           have q11 : x21_2 < (a0.size : Int) := of_decide_eq_true (by first | (with_reducible assumption) | assumption)
           have hx11 := bt_at a0 x21_2; replace p11 := eq_true p11; replace q11 := eq_true q11
           have p13 : 0 ≤ (x21_2 : Int) := of_decide_eq_true (by first | (with_reducible assumption) | assumption)
           have q13 : x21_2 < (a0.size : Int) := of_decide_eq_true (by first | (with_reducible assumption) | assumption)
           have hx13 := bt_at a0 x21_2; replace p13 := eq_true p13; replace q13 := eq_true q13
           have p15 : 0 ≤ (x21_2 : Int) := of_decide_eq_true (by first | (with_reducible assumption) | assumption)
           have q15 : x21_2 < (a0.size : Int) := of_decide_eq_true (by first | (with_reducible assumption) | assumption)
           have hx15 := bt_at a0 x21_2; replace p15 := eq_true p15; replace q15 := eq_true q15
           go_wp2
           go_roundg k2
           case measure => have := HJ1.out; have := HK2.out; omega
           case rel => exact ⟨(wrap64 ((wrap64 (x4_2 * 10)) + (((bt a0 x21_2) - 48) % 256))), (wrap64 (x21_2 + 1)), (by first | rfl | (simp; done) | (simp [*]; done)), (by first | rfl | (simp; done) | (simp [*]; done)), H', ⟨by have := HJ1.out; have := HK2.out; omega⟩, by repeat (first | exact Drawn0.refl _ | apply Drawn0.step)⟩
        ·rw [if_neg c10] at H
         exact absurd H (by simp)
       ·rw [if_neg c9] at H
        exact absurd H (by simp)
      ·rw [if_neg c8] at H; have c8b0 : decide (x21_2 < (a0.size : Int)) = false := decide_eq_false c8; clear c8
       simp only [Option.some.injEq, Prod.mk.injEq] at H
       obtain ⟨rfl, rfl⟩ := H
       go_wp2
       go_ret2
       exact ⟨by first | rfl | (simp; done) | (simp [*]; done), by repeat (first | exact Drawn0.refl _ | apply Drawn0.step)⟩

mutual
def addr_Parse.j1 : Nat → ByteArray → Int → Option (Int × Int × Bool)
 | 0, _, _ => none
 | k + 1, x0, x4 => if 0 ≤ x4 then (if x4 ≤ (x0.size : Int) then ((addr_Column.f k (x0.extract 0 (x4 : Int).toNat)).bind fun bt102 => ((addr_Number.f k (x0.extract (x4 : Int).toNat x0.size)).bind fun bt104 => (if bt102.2 = true then (if bt104.2 = true then (some (bt104.1, bt102.1, true)) else (some (0, 0, false))) else (some (0, 0, false))))) else (none)) else (none)
def addr_Parse.l0 : Nat → ByteArray → Int → Option (Int × Int × Bool)
 | 0, _, _ => none
 | k + 1, x0, x4 => if x4 < (x0.size : Int) then (if 0 ≤ x4 then (if (bt x0 x4) ≥ 65 then (if (bt x0 x4) ≤ 90 then (addr_Parse.l0 k x0 (wrap64 (x4 + 1))) else (addr_Parse.j1 k x0 x4)) else (addr_Parse.j1 k x0 x4)) else (none)) else (addr_Parse.j1 k x0 x4)
end
def addr_Parse.f (k : Nat) (a0 : ByteArray) : Option (Int × Int × Bool) := addr_Parse.l0 k a0 0
theorem addr_Parse.mono_l : ∀ k, (∀ y0 y1, LeO (addr_Parse.j1 k y0 y1) (addr_Parse.j1 (k + 1) y0 y1)) ∧ (∀ y0 y1, LeO (addr_Parse.l0 k y0 y1) (addr_Parse.l0 (k + 1) y0 y1))
 | 0 => ⟨fun _ _ r h => by simp [addr_Parse.j1] at h, fun _ _ r h => by simp [addr_Parse.l0] at h⟩
 | k + 1 => by
  obtain ⟨ih0, ih1⟩ := addr_Parse.mono_l k
  refine ⟨?_, ?_⟩
  ·intro y0 y1
   unfold addr_Parse.j1
   repeat' first
   | (with_reducible exact ih0 _ _)
   | (with_reducible exact ih1 _ _)
   | (with_reducible exact addr_Column.mono _ _)
   | (with_reducible exact addr_Number.mono _ _)
   | (with_reducible exact LeO.refl _)
   | (with_reducible exact LeO.none _)
   | (with_reducible refine LeO.ite ?_ ?_)
   | (with_reducible refine LeO.bind ?_ (fun _ => ?_))
  ·intro y0 y1
   unfold addr_Parse.l0
   repeat' first
   | (with_reducible exact ih0 _ _)
   | (with_reducible exact ih1 _ _)
   | (with_reducible exact addr_Column.mono _ _)
   | (with_reducible exact addr_Number.mono _ _)
   | (with_reducible exact LeO.refl _)
   | (with_reducible exact LeO.none _)
   | (with_reducible refine LeO.ite ?_ ?_)
   | (with_reducible refine LeO.bind ?_ (fun _ => ?_))
theorem addr_Parse.mono : ∀ a0 k, LeO (addr_Parse.f k a0) (addr_Parse.f (k + 1) a0) := by
 intro a0 k; obtain ⟨ih0, ih1⟩ := addr_Parse.mono_l k
 unfold addr_Parse.f
 repeat' first
   | (with_reducible exact ih0 _ _)
   | (with_reducible exact ih1 _ _)
   | (with_reducible exact addr_Column.mono _ _)
   | (with_reducible exact addr_Number.mono _ _)
   | (with_reducible exact LeO.refl _)
   | (with_reducible exact LeO.none _)
   | (with_reducible refine LeO.ite ?_ ?_)
   | (with_reducible refine LeO.bind ?_ (fun _ => ?_))
set_option maxHeartbeats 8000000 in
set_option maxRecDepth 100000 in
theorem addr_Parse.calls (k : Nat) (a0 : ByteArray) (r1 : Int) (r2 : Int) (r3 : Bool) (w : World) (h : addr_Parse.f k a0 = some (r1, r2, r3)) :
  Calls Tryd.prog 27 #[.string a0] w fun e w' => e = .returned (.tuple #[.agg #[.int .i64 r1, .int .i64 r2], .bool r3]) ∧ Below w.heap.size w w' := by
 have hu23 := Tryd.underlying23; have HB := Aside0.mk (Below.refl w.heap.size w)
 have H : (addr_Parse.l0 k a0 0) = some (r1, r2, r3) := h
 clear h; have HC2 := Aside0.mk H; clear H
 go_enter Tryd.func27, Tryd.ntmps27
 go_upto_block 0 with (first | ((with_reducible refine gate_dst (N:=2) rfl ?_); refine be_ (N:=2) (cs := #[.int .i64 0, .int .i64 0]) (t:=23) ?_; intro gb101 hg w3 hbox hb; have BK101 := Aside0.mk (hbox); have GW101 := hs_ HB hg; have GE101 := hs_ HB hg; replace HB := bs_ HB hb; clear hb hbox hg))
 (try simp only [q_])
 go_cut [4] (fun v4 wc => ∃ (kq : Nat) (x4_1 : Int), v4 = .int .i64 x4_1 ∧ Aside0 (addr_Parse.j1 kq a0 x4_1 = some (r1, r2, r3)) ∧ Aside0 (kq ≤ k) ∧ Aside0 (wc.heap[gb101]? = some (.cells #[.int .i64 0, .int .i64 0] 23 (0, 0))) ∧ Aside0 (Below w.heap.size w wc))
 case first =>
  have H := HC2.out; clear HC2
  have H' := Aside0.mk H
  clear H
  go_wp2
  go_loopg [4] k (fun kq v4 w' => ∃ (x4_1 : Int), v4 = .int .i64 x4_1 ∧ Aside0 (addr_Parse.l0 kq a0 x4_1 = some (r1, r2, r3)) ∧ Aside0 (kq ≤ k) ∧ Aside0 (w'.heap[gb101]? = some (.cells #[.int .i64 0, .int .i64 0] 23 (0, 0))) ∧ Aside0 (Below w.heap.size w w'))
  case atStart => exact ⟨(0), (by first | rfl | (simp; done) | (simp [*]; done)), H', ⟨Nat.le_refl _⟩, ⟨pkx BK101⟩, ⟨pbx HB⟩⟩
  case round =>
   clear H'; (try clear c2); (try clear p2); obtain ⟨x4_1, rfl, HA, HK1, BK101, HB⟩ := hrel
   cases gk with
   | zero => exact absurd HA.out (by simp [addr_Parse.l0])
   | succ k1 =>
    have H := HA.out; clear HA
    simp only [addr_Parse.l0] at H
    by_cases c4 : x4_1 < (a0.size : Int)
    ·rw [if_pos c4] at H; have c4b0 : decide (x4_1 < (a0.size : Int)) = true := decide_eq_true c4; clear c4; (first | rw [c4b0] | (simp only [i64_w, i32_w]; rw [c4b0]) | skip)
     by_cases c5 : 0 ≤ x4_1
     ·rw [if_pos c5] at H; have c5b0 : decide (0 ≤ x4_1) = true := decide_eq_true c5; clear c5
      by_cases c7 : (bt a0 x4_1) ≥ 65
      ·rw [if_pos c7] at H; have c7b0 : decide (65 ≤ (bt a0 x4_1)) = true := decide_eq_true c7; clear c7
       by_cases c9 : (bt a0 x4_1) ≤ 90
       ·rw [if_pos c9] at H; have c9b0 : decide ((bt a0 x4_1) ≤ 90) = true := decide_eq_true c9; clear c9
        have H' := Aside0.mk H
        clear H
        have p6 : 0 ≤ (x4_1 : Int) := of_decide_eq_true (by first | (with_reducible assumption) | assumption)
        have q6 : x4_1 < (a0.size : Int) := of_decide_eq_true (by first | (with_reducible assumption) | assumption)
        have hx6 := bt_at a0 x4_1; replace p6 := eq_true p6; replace q6 := eq_true q6
        have p8 : 0 ≤ (x4_1 : Int) := of_decide_eq_true (by first | (with_reducible assumption) | assumption)
        have q8 : x4_1 < (a0.size : Int) := of_decide_eq_true (by first | (with_reducible assumption) | assumption)
        have hx8 := bt_at a0 x4_1; replace p8 := eq_true p8; replace q8 := eq_true q8
        go_wp2
        go_roundg k1
        case measure => have := HK1.out; omega
        case rel => exact ⟨(wrap64 (x4_1 + 1)), (by first | rfl | (simp; done) | (simp [*]; done)), H', ⟨by have := HK1.out; omega⟩, ⟨pkx BK101⟩, ⟨pbx HB⟩⟩
       ·rw [if_neg c9] at H; have c9b0 : decide ((bt a0 x4_1) ≤ 90) = false := decide_eq_false c9; clear c9
        have H' := Aside0.mk H
        clear H
        have p6 : 0 ≤ (x4_1 : Int) := of_decide_eq_true (by first | (with_reducible assumption) | assumption)
        have q6 : x4_1 < (a0.size : Int) := of_decide_eq_true (by first | (with_reducible assumption) | assumption)
        have hx6 := bt_at a0 x4_1; replace p6 := eq_true p6; replace q6 := eq_true q6
        have p8 : 0 ≤ (x4_1 : Int) := of_decide_eq_true (by first | (with_reducible assumption) | assumption)
        have q8 : x4_1 < (a0.size : Int) := of_decide_eq_true (by first | (with_reducible assumption) | assumption)
        have hx8 := bt_at a0 x4_1; replace p8 := eq_true p8; replace q8 := eq_true q8
        go_wp2
        go_meet
        case rel => exact ⟨_, (x4_1), (by first | rfl | (simp; done) | (simp [*]; done)), H', ⟨by have := HK1.out; first | omega | exact Nat.le_refl _⟩, ⟨pkx BK101⟩, ⟨pbx HB⟩⟩
      ·rw [if_neg c7] at H; have c7b0 : decide (65 ≤ (bt a0 x4_1)) = false := decide_eq_false c7; clear c7
       have H' := Aside0.mk H
       clear H
       have p6 : 0 ≤ (x4_1 : Int) := of_decide_eq_true (by first | (with_reducible assumption) | assumption)
       have q6 : x4_1 < (a0.size : Int) := of_decide_eq_true (by first | (with_reducible assumption) | assumption)
       have hx6 := bt_at a0 x4_1; replace p6 := eq_true p6; replace q6 := eq_true q6
       go_wp2
       go_meet
       case rel => exact ⟨_, (x4_1), (by first | rfl | (simp; done) | (simp [*]; done)), H', ⟨by have := HK1.out; first | omega | exact Nat.le_refl _⟩, ⟨pkx BK101⟩, ⟨pbx HB⟩⟩
     ·rw [if_neg c5] at H
      exact absurd H (by simp)
    ·rw [if_neg c4] at H; have c4b0 : decide (x4_1 < (a0.size : Int)) = false := decide_eq_false c4; clear c4; (first | rw [c4b0] | (simp only [i64_w, i32_w]; rw [c4b0]) | skip)
     have H' := Aside0.mk H
     clear H
     go_wp2
     go_meet
     case rel => exact ⟨_, (x4_1), (by first | rfl | (simp; done) | (simp [*]; done)), H', ⟨by have := HK1.out; first | omega | exact Nat.le_refl _⟩, ⟨pkx BK101⟩, ⟨pbx HB⟩⟩
 case rest =>
  clear HC2; (try clear c2); (try clear p2); (try clear c4); (try clear c4b0); (try clear c5); (try clear c5b0); (try clear p6); (try clear q6); (try clear hx6); (try clear c7); (try clear c7b0); (try clear p8); (try clear q8); (try clear hx8); (try clear c9); (try clear c9b0); (try clear p2); (try clear p6); (try clear p8); (try clear q6); (try clear q8); obtain ⟨kq, x4_1, rfl, HA, HJ1, BK101, HB⟩ := hcut
  cases kq with
  | zero => exact absurd HA.out (by simp [addr_Parse.j1])
  | succ kj1 =>
   have H := HA.out; clear HA
   simp only [addr_Parse.j1] at H
   by_cases c10 : 0 ≤ x4_1
   ·rw [if_pos c10] at H; have c10b0 := eq_true c10; have c10b1 : decide (0 ≤ x4_1) = true := decide_eq_true c10; clear c10
    by_cases c11 : x4_1 ≤ (a0.size : Int)
    ·rw [if_pos c11] at H; have c11b0 := eq_true c11; have c11b1 : decide (x4_1 ≤ (a0.size : Int)) = true := decide_eq_true c11; clear c11; replace H := Option.bind_eq_some_iff.mp H; obtain ⟨⟨t102, t103⟩, A120, H⟩ := H
     replace H : ((addr_Number.f kj1 (a0.extract (x4_1 : Int).toNat a0.size)).bind fun bt104 => (if t103 = true then (if bt104.2 = true then (some (bt104.1, t102, true)) else (some (0, 0, false))) else (some (0, 0, false)))) = some (r1, r2, r3) := H
     have A12 := Aside0.mk A120; clear A120; have c13b0 := eq_true (of_decide_eq_true (by first | (with_reducible assumption) | assumption) : 0 ≤ x4_1); have c14b0 := eq_true (of_decide_eq_true (by first | (with_reducible assumption) | assumption) : x4_1 ≤ (a0.size : Int)); replace H := Option.bind_eq_some_iff.mp H; obtain ⟨⟨t104, t105⟩, A150, H⟩ := H
     replace H : (if t103 = true then (if t105 = true then (some (t104, t102, true)) else (some (0, 0, false))) else (some (0, 0, false))) = some (r1, r2, r3) := H
     have A15 := Aside0.mk A150; clear A150
     by_cases c16 : t103 = true
     ·subst c16
      have H1 : (if t105 = true then (some (t104, t102, true)) else (some (0, 0, false))) = some (r1, r2, r3) := by rw [if_pos rfl] at H; exact H
      clear H; have H := H1; clear H1
      by_cases c17 : t105 = true
      ·subst c17
       have H1 : (some (t104, t102, true)) = some (r1, r2, r3) := by rw [if_pos rfl] at H; exact H
       clear H; have H := H1; clear H1
       simp only [Option.some.injEq, Prod.mk.injEq] at H
       obtain ⟨rfl, rfl, rfl⟩ := H
       go_wp2_with (first | ((with_reducible refine gate_callee (f:=30) rfl ?_); refine gL_ (some 31) rfl rfl Tryd.func30 rfl #[.string (a0.extract 0 (x4_1 : Int).toNat)] rfl ?_; (with_reducible refine (addr_Column.calls kj1 (a0.extract 0 (x4_1 : Int).toNat) t102 true _ A12.out).mono ?_); rintro e w' ⟨rfl, ⟨nd, rfl⟩⟩; refine ⟨_, rfl, ?_⟩; (try (rw [drewN_self wc]; generalize hq_ : World.drewN wc _ = wc; have n0_ : Aside0 (wc.heap[gb101]? = some (.cells #[.int .i64 0, .int .i64 0] 23 (0, 0))) := ⟨by rw [← hq_]; exact (pkx BK101)⟩; have n1_ : Aside0 (Below w.heap.size w wc) := ⟨by rw [← hq_]; exact (pbx HB)⟩; clear BK101 HB hq_; have BK101 := n0_; have HB := n1_; clear n0_ n1_))) | ((with_reducible refine gate_callee (f:=31) rfl ?_); refine gL_ (some 38) rfl rfl Tryd.func31 rfl #[.string (a0.extract (x4_1 : Int).toNat a0.size)] rfl ?_; (with_reducible refine (addr_Number.calls kj1 (a0.extract (x4_1 : Int).toNat a0.size) t104 true _ A15.out).mono ?_); rintro e w' ⟨rfl, ⟨nd, rfl⟩⟩; refine ⟨_, rfl, ?_⟩; (try (rw [drewN_self wc]; generalize hq_ : World.drewN wc _ = wc; have n0_ : Aside0 (wc.heap[gb101]? = some (.cells #[.int .i64 0, .int .i64 0] 23 (0, 0))) := ⟨by rw [← hq_]; exact (pkx BK101)⟩; have n1_ : Aside0 (Below w.heap.size w wc) := ⟨by rw [← hq_]; exact (pbx HB)⟩; clear BK101 HB hq_; have BK101 := n0_; have HB := n1_; clear n0_ n1_)); have hcz18_0 : wc.cell? ⟨gb101, 0, none⟩ = some (.int .i64 0) := bc_ BK101 0 rfl; have hcz18_1 : wc.cell? ⟨gb101, 1, none⟩ = some (.int .i64 0) := bc_ BK101 1 rfl; have hfz18_0 := blk_frozen BK101.out 0; have hfz18_1 := blk_frozen BK101.out 1))
       refine bodyPost_ret (results_ct rfl _ _ gb101 23 #[.int .i64 t104, .int .i64 t102] (0, 0) _ rfl (by refine pp_ (cs := #[.int .i64 t104, .int .i64 0]) 1 ?_ rfl; refine blk_put (cs := #[.int .i64 0, .int .i64 0]) ?_ 0 _ rfl; exact pkx BK101) Tryd.underlying23 rfl (by kernel_rfl)) rfl ?_
       exact ⟨by first | rfl | (simp [errW_none, errW_some] <;> rfl) | (simp [*, errW_none, errW_some] <;> rfl), by repeat (first | (with_reducible first | exact HB.out | apply below_alloc | apply pw_below_drewN | apply below_drew1 | refine below_set ?_ GE101.out) | exact HB.out)⟩
      ·replace c17 := Bool.eq_false_iff.mpr c17; subst c17
       have H1 : (some (0, 0, false)) = some (r1, r2, r3) := by rw [if_neg (show ¬ (false = true) by decide)] at H; exact H
       clear H; have H := H1; clear H1
       simp only [Option.some.injEq, Prod.mk.injEq] at H
       obtain ⟨rfl, rfl, rfl⟩ := H
       go_wp2_with (first | ((with_reducible refine gate_callee (f:=30) rfl ?_); refine gL_ (some 31) rfl rfl Tryd.func30 rfl #[.string (a0.extract 0 (x4_1 : Int).toNat)] rfl ?_; (with_reducible refine (addr_Column.calls kj1 (a0.extract 0 (x4_1 : Int).toNat) t102 true _ A12.out).mono ?_); rintro e w' ⟨rfl, ⟨nd, rfl⟩⟩; refine ⟨_, rfl, ?_⟩; (try (rw [drewN_self wc]; generalize hq_ : World.drewN wc _ = wc; have n0_ : Aside0 (wc.heap[gb101]? = some (.cells #[.int .i64 0, .int .i64 0] 23 (0, 0))) := ⟨by rw [← hq_]; exact (pkx BK101)⟩; have n1_ : Aside0 (Below w.heap.size w wc) := ⟨by rw [← hq_]; exact (pbx HB)⟩; clear BK101 HB hq_; have BK101 := n0_; have HB := n1_; clear n0_ n1_))) | ((with_reducible refine gate_callee (f:=31) rfl ?_); refine gL_ (some 38) rfl rfl Tryd.func31 rfl #[.string (a0.extract (x4_1 : Int).toNat a0.size)] rfl ?_; (with_reducible refine (addr_Number.calls kj1 (a0.extract (x4_1 : Int).toNat a0.size) t104 false _ A15.out).mono ?_); rintro e w' ⟨rfl, ⟨nd, rfl⟩⟩; refine ⟨_, rfl, ?_⟩; (try (rw [drewN_self wc]; generalize hq_ : World.drewN wc _ = wc; have n0_ : Aside0 (wc.heap[gb101]? = some (.cells #[.int .i64 0, .int .i64 0] 23 (0, 0))) := ⟨by rw [← hq_]; exact (pkx BK101)⟩; have n1_ : Aside0 (Below w.heap.size w wc) := ⟨by rw [← hq_]; exact (pbx HB)⟩; clear BK101 HB hq_; have BK101 := n0_; have HB := n1_; clear n0_ n1_)); have hcz19_0 : wc.cell? ⟨gb101, 0, none⟩ = some (.int .i64 0) := bc_ BK101 0 rfl; have hcz19_1 : wc.cell? ⟨gb101, 1, none⟩ = some (.int .i64 0) := bc_ BK101 1 rfl; have hfz19_0 := blk_frozen BK101.out 0; have hfz19_1 := blk_frozen BK101.out 1))
       refine bodyPost_ret (results_ct rfl _ _ gb101 23 #[.int .i64 0, .int .i64 0] (0, 0) _ rfl (by refine pp_ (cs := #[.int .i64 0, .int .i64 0]) 1 ?_ rfl; refine blk_put (cs := #[.int .i64 0, .int .i64 0]) ?_ 0 _ rfl; exact pkx BK101) Tryd.underlying23 rfl (by kernel_rfl)) rfl ?_
       exact ⟨by first | rfl | (simp [errW_none, errW_some] <;> rfl) | (simp [*, errW_none, errW_some] <;> rfl), by repeat (first | (with_reducible first | exact HB.out | apply below_alloc | apply pw_below_drewN | apply below_drew1 | refine below_set ?_ GE101.out) | exact HB.out)⟩
     ·replace c16 := Bool.eq_false_iff.mpr c16; subst c16
      have H1 : (some (0, 0, false)) = some (r1, r2, r3) := by rw [if_neg (show ¬ (false = true) by decide)] at H; exact H
      clear H; have H := H1; clear H1
      simp only [Option.some.injEq, Prod.mk.injEq] at H
      obtain ⟨rfl, rfl, rfl⟩ := H
      go_wp2_with (first | ((with_reducible refine gate_callee (f:=30) rfl ?_); refine gL_ (some 31) rfl rfl Tryd.func30 rfl #[.string (a0.extract 0 (x4_1 : Int).toNat)] rfl ?_; (with_reducible refine (addr_Column.calls kj1 (a0.extract 0 (x4_1 : Int).toNat) t102 false _ A12.out).mono ?_); rintro e w' ⟨rfl, ⟨nd, rfl⟩⟩; refine ⟨_, rfl, ?_⟩; (try (rw [drewN_self wc]; generalize hq_ : World.drewN wc _ = wc; have n0_ : Aside0 (wc.heap[gb101]? = some (.cells #[.int .i64 0, .int .i64 0] 23 (0, 0))) := ⟨by rw [← hq_]; exact (pkx BK101)⟩; have n1_ : Aside0 (Below w.heap.size w wc) := ⟨by rw [← hq_]; exact (pbx HB)⟩; clear BK101 HB hq_; have BK101 := n0_; have HB := n1_; clear n0_ n1_))) | ((with_reducible refine gate_callee (f:=31) rfl ?_); refine gL_ (some 38) rfl rfl Tryd.func31 rfl #[.string (a0.extract (x4_1 : Int).toNat a0.size)] rfl ?_; (with_reducible refine (addr_Number.calls kj1 (a0.extract (x4_1 : Int).toNat a0.size) t104 t105 _ A15.out).mono ?_); rintro e w' ⟨rfl, ⟨nd, rfl⟩⟩; refine ⟨_, rfl, ?_⟩; (try (rw [drewN_self wc]; generalize hq_ : World.drewN wc _ = wc; have n0_ : Aside0 (wc.heap[gb101]? = some (.cells #[.int .i64 0, .int .i64 0] 23 (0, 0))) := ⟨by rw [← hq_]; exact (pkx BK101)⟩; have n1_ : Aside0 (Below w.heap.size w wc) := ⟨by rw [← hq_]; exact (pbx HB)⟩; clear BK101 HB hq_; have BK101 := n0_; have HB := n1_; clear n0_ n1_)); have hcz20_0 : wc.cell? ⟨gb101, 0, none⟩ = some (.int .i64 0) := bc_ BK101 0 rfl; have hcz20_1 : wc.cell? ⟨gb101, 1, none⟩ = some (.int .i64 0) := bc_ BK101 1 rfl; have hfz20_0 := blk_frozen BK101.out 0; have hfz20_1 := blk_frozen BK101.out 1))
      refine bodyPost_ret (results_ct rfl _ _ gb101 23 #[.int .i64 0, .int .i64 0] (0, 0) _ rfl (by refine pp_ (cs := #[.int .i64 0, .int .i64 0]) 1 ?_ rfl; refine blk_put (cs := #[.int .i64 0, .int .i64 0]) ?_ 0 _ rfl; exact pkx BK101) Tryd.underlying23 rfl (by kernel_rfl)) rfl ?_
      exact ⟨by first | rfl | (simp [errW_none, errW_some] <;> rfl) | (simp [*, errW_none, errW_some] <;> rfl), by repeat (first | (with_reducible first | exact HB.out | apply below_alloc | apply pw_below_drewN | apply below_drew1 | refine below_set ?_ GE101.out) | exact HB.out)⟩
    ·rw [if_neg c11] at H
     exact absurd H (by simp)
   ·rw [if_neg c10] at H
    exact absurd H (by simp)

end Go.Proofs.YtcbjihedobhjcaaDoor.X
namespace Go.Proofs.YtcbjihedobhjcaaDoor.X
open Go.RowKit Go.Proofs.YtcbjihedobhjcaaDoorW.PrintWords Go.Proofs.YtcbjihedobhjcaaDoorW.PrintLast Go.Proofs.YtcbjihedobhjcaaDoorW.PrintMore
attribute [local go_sem] max2_int min2_int max_two min_two max_three min_three max_four min_four
set_option linter.unusedVariables false
set_option linter.unusedSimpArgs false
attribute [local go_sem high] eqA23
def span_Parse.j0 : Nat → ByteArray → Bool → Bool → Int → Int → Option (Int × Int × Int × Int × Bool)
 | 0, _, _, _, _, _ => none
 | k + 1, x5, x8, x26, x109000, x109001 => if x26 = true then (some (x109000, x109001, x109000, x109001, true)) else ((addr_Parse.f k x5).bind fun bt109 => (if x8 = true then (if bt109.2.2 = true then (if (x109000 == bt109.1 && (x109001 == bt109.2.1)) = true then (some (0, 0, 0, 0, false)) else (some (x109000, x109001, bt109.1, bt109.2.1, true))) else (some (0, 0, 0, 0, false))) else (some (0, 0, 0, 0, false))))
def span_Parse.f (k : Nat) (a0 : ByteArray) : Option (Int × Int × Int × Int × Bool) := (strings_Cut.f a0 (⟨#[58]⟩ : ByteArray)).bind fun bt102 => ((addr_Parse.f k bt102.1).bind fun bt105 => (if bt105.2.2 = true then (span_Parse.j0 k bt102.2.1 bt105.2.2 (!bt102.2.2) bt105.1 bt105.2.1) else (span_Parse.j0 k bt102.2.1 bt105.2.2 false bt105.1 bt105.2.1)))
theorem span_Parse.mono_l : ∀ k, (∀ y0 y1 y2 y3 y4, LeO (span_Parse.j0 k y0 y1 y2 y3 y4) (span_Parse.j0 (k + 1) y0 y1 y2 y3 y4))
 | 0 => fun _ _ _ _ _ r h => by simp [span_Parse.j0] at h
 | k + 1 => by
  have ih0 := span_Parse.mono_l k
  ·intro y0 y1 y2 y3 y4
   unfold span_Parse.j0
   repeat' first
   | (with_reducible exact ih0 _ _ _ _ _)
   | (with_reducible exact addr_Parse.mono _ _)
   | (with_reducible exact LeO.refl _)
   | (with_reducible exact LeO.none _)
   | (with_reducible refine LeO.ite ?_ ?_)
   | (with_reducible refine LeO.bind ?_ (fun _ => ?_))
theorem span_Parse.mono : ∀ a0 k, LeO (span_Parse.f k a0) (span_Parse.f (k + 1) a0) := by
 intro a0 k; have ih0 := span_Parse.mono_l k
 unfold span_Parse.f
 repeat' first
   | (with_reducible exact ih0 _ _ _ _ _)
   | (with_reducible exact addr_Parse.mono _ _)
   | (with_reducible exact LeO.refl _)
   | (with_reducible exact LeO.none _)
   | (with_reducible refine LeO.ite ?_ ?_)
   | (with_reducible refine LeO.bind ?_ (fun _ => ?_))
set_option maxHeartbeats 8000000 in
set_option maxRecDepth 100000 in
theorem span_Parse.calls (k : Nat) (a0 : ByteArray) (r1 : Int) (r2 : Int) (r3 : Int) (r4 : Int) (r5 : Bool) (w : World) (h : span_Parse.f k a0 = some (r1, r2, r3, r4, r5)) :
  Calls Tryd.prog 21 #[.string a0] w fun e w' => e = .returned (.tuple #[.agg #[.int .i64 r1, .int .i64 r2, .int .i64 r3, .int .i64 r4], .bool r5]) ∧ Below w.heap.size w w' := by
 have hu25 := Tryd.underlying25; have hu23 := Tryd.underlying23; have HB := Aside0.mk (Below.refl w.heap.size w)
 have H : ((strings_Cut.f a0 (⟨#[58]⟩ : ByteArray)).bind fun bt102 => ((addr_Parse.f k bt102.1).bind fun bt105 => (if bt105.2.2 = true then (span_Parse.j0 k bt102.2.1 bt105.2.2 (!bt102.2.2) bt105.1 bt105.2.1) else (span_Parse.j0 k bt102.2.1 bt105.2.2 false bt105.1 bt105.2.1)))) = some (r1, r2, r3, r4, r5) := h
 clear h; replace H := Option.bind_eq_some_iff.mp H; obtain ⟨⟨t102, t103, t104⟩, A20, H⟩ := H
 replace H : ((addr_Parse.f k t102).bind fun bt105 => (if bt105.2.2 = true then (span_Parse.j0 k t103 bt105.2.2 (!t104) bt105.1 bt105.2.1) else (span_Parse.j0 k t103 bt105.2.2 false bt105.1 bt105.2.1))) = some (r1, r2, r3, r4, r5) := H
 have A2 := Aside0.mk A20; clear A20; replace H := Option.bind_eq_some_iff.mp H; obtain ⟨⟨t105, t106, t107⟩, A30, H⟩ := H
 replace H : (if t107 = true then (span_Parse.j0 k t103 t107 (!t104) t105 t106) else (span_Parse.j0 k t103 t107 false t105 t106)) = some (r1, r2, r3, r4, r5) := H
 have A3 := Aside0.mk A30; clear A30; have HC4 := Aside0.mk H; clear H
 go_enter Tryd.func21, Tryd.ntmps21
 go_upto_region 3 with (first | ((with_reducible refine gate_dst (N:=2) rfl ?_); refine be_ (N:=2) (cs := #[.int .i64 0, .int .i64 0, .int .i64 0, .int .i64 0]) (t:=25) ?_; intro gb101 hg w5 hbox hb; have BK101 := Aside0.mk (hbox); have GW101 := hs_ HB hg; have GE101 := hs_ HB hg; replace HB := bs_ HB hb; clear hb hbox hg) | ((with_reducible refine gate_callee (f:=26) rfl ?_); refine gL_ (some 13) rfl rfl Tryd.func26 rfl #[.string a0, .string (⟨#[58]⟩ : ByteArray)] rfl ?_; (with_reducible refine (strings_Cut.calls a0 (⟨#[58]⟩ : ByteArray) t102 t103 t104 _ A2.out).mono ?_); rintro e w' ⟨rfl, ⟨nd, rfl⟩⟩; refine ⟨_, rfl, ?_⟩; (try (rw [drewN_self w5]; generalize hq_ : World.drewN w5 _ = w5; have n0_ : Aside0 (w5.heap[gb101]? = some (.cells #[.int .i64 0, .int .i64 0, .int .i64 0, .int .i64 0] 25 (0, 0))) := ⟨by rw [← hq_]; exact (pkx BK101)⟩; have n1_ : Aside0 (Below w.heap.size w w5) := ⟨by rw [← hq_]; exact (pbx HB)⟩; clear BK101 HB hq_; have BK101 := n0_; have HB := n1_; clear n0_ n1_))) | ((with_reducible refine gate_callee (f:=27) rfl ?_); refine gL_ (some 19) rfl rfl Tryd.func27 rfl #[.string t102] rfl ?_; (with_reducible refine (addr_Parse.calls k t102 t105 t106 t107 _ A3.out).mono ?_); rintro e w6 ⟨rfl, hb⟩; refine ⟨_, rfl, ?_⟩; replace BK101 := bb_ BK101 hb; replace HB := bs_ HB hb; (try clear hb); (try clear hb2); (try clear hk); (try clear hi)) | ((with_reducible refine gate_dst (N:=7) rfl ?_); refine be_ (N:=7) (cs := #[.int .i64 0, .int .i64 0]) (t:=23) ?_; intro gb108 hg w7 hbox hb; have BK108 := Aside0.mk (hbox); have GW108 := hs_ HB hg; have GE108 := hs_ HB hg; have NB101_108 := hl_ BK101 hg; have NB108_101 := hr_ BK101 hg; replace BK101 := bb_ BK101 hb; replace HB := bs_ HB hb; clear hb hbox hg; have hnb8 := NB108_101.out; have hnc8 := NB101_108.out; have hcz9_0 : w7.cell? ⟨gb108, 0, none⟩ = some (.int .i64 0) := bc_ BK108 0 rfl; have hcz9_1 : w7.cell? ⟨gb108, 1, none⟩ = some (.int .i64 0) := bc_ BK108 1 rfl; have hfz9_0 := blk_frozen BK108.out 0; have hfz9_1 := blk_frozen BK108.out 1))
 (try simp only [q_])
 go_cut [26] (fun v26 wc => ∃ (kq : Nat) (x26_3 : Bool), v26 = .bool x26_3 ∧ Aside0 (span_Parse.j0 kq t103 t107 x26_3 t105 t106 = some (r1, r2, r3, r4, r5)) ∧ Aside0 (kq ≤ k) ∧ Aside0 (wc.heap[gb101]? = some (.cells #[.int .i64 0, .int .i64 0, .int .i64 0, .int .i64 0] 25 (0, 0))) ∧ Aside0 (wc.heap[gb108]? = some (.cells #[.int .i64 t105, .int .i64 t106] 23 (0, 0))) ∧ Aside0 (Below w.heap.size w wc))
 case first =>
  have H := HC4.out; clear HC4
  by_cases c10 : t107 = true
  ·subst c10
   have H1 : (span_Parse.j0 k t103 true (!t104) t105 t106) = some (r1, r2, r3, r4, r5) := by rw [if_pos rfl] at H; exact H
   clear H; have H := H1; clear H1
   have H' := Aside0.mk H
   clear H
   go_wp2
   go_meet
   case rel => exact ⟨_, (!t104), (by first | rfl | (simp; done) | (simp [*]; done) | (cases t104 <;> simp; done)), H', ⟨by first | omega | exact Nat.le_refl _⟩, ⟨by refine pf_ ?_ NB101_108.out; refine blk_far ?_ NB101_108.out _; exact pkx BK101⟩, ⟨by refine pp_ (cs := #[.int .i64 t105, .int .i64 0]) 1 ?_ rfl; refine blk_put (cs := #[.int .i64 0, .int .i64 0]) ?_ 0 _ rfl; exact pkx BK108⟩, ⟨by repeat (first | (with_reducible first | exact HB.out | apply below_alloc | apply pw_below_drewN | apply below_drew1 | refine below_set ?_ GE101.out | refine below_set ?_ GE108.out) | exact HB.out)⟩⟩
  ·replace c10 := Bool.eq_false_iff.mpr c10; subst c10
   have H1 : (span_Parse.j0 k t103 false false t105 t106) = some (r1, r2, r3, r4, r5) := by rw [if_neg (show ¬ (false = true) by decide)] at H; exact H
   clear H; have H := H1; clear H1
   have H' := Aside0.mk H
   clear H
   go_wp2
   go_meet
   case rel => exact ⟨_, (false), (by first | rfl | (simp; done) | (simp [*]; done)), H', ⟨by first | omega | exact Nat.le_refl _⟩, ⟨by refine pf_ ?_ NB101_108.out; refine blk_far ?_ NB101_108.out _; exact pkx BK101⟩, ⟨by refine pp_ (cs := #[.int .i64 t105, .int .i64 0]) 1 ?_ rfl; refine blk_put (cs := #[.int .i64 0, .int .i64 0]) ?_ 0 _ rfl; exact pkx BK108⟩, ⟨by repeat (first | (with_reducible first | exact HB.out | apply below_alloc | apply pw_below_drewN | apply below_drew1 | refine below_set ?_ GE101.out | refine below_set ?_ GE108.out) | exact HB.out)⟩⟩
 case rest =>
  clear HC4; (try clear c1); (try clear c2); (try clear p2); (try clear c8); (try clear c10); (try clear hcz9_0); (try clear hcz9_1); (try clear hfz9_0); (try clear hfz9_1); obtain ⟨kq, x26_3, rfl, HA, HJ3, BK101, BK108, HB⟩ := hcut
  cases kq with
  | zero => exact absurd HA.out (by simp [span_Parse.j0])
  | succ kj3 =>
   have H := HA.out; clear HA
   simp only [span_Parse.j0] at H
   by_cases c11 : x26_3 = true
   ·subst c11
    have H1 : (some (t105, t106, t105, t106, true)) = some (r1, r2, r3, r4, r5) := by rw [if_pos rfl] at H; exact H
    clear H; have H := H1; clear H1
    simp only [Option.some.injEq, Prod.mk.injEq] at H
    obtain ⟨rfl, rfl, rfl, rfl, rfl⟩ := H; have hnb12 := NB108_101.out; have hnc12 := NB101_108.out
    have hcz13_0 : wc.cell? ⟨gb108, 0, none⟩ = some (.int .i64 t105) := bc_ BK108 0 rfl
    have hcz13_1 : wc.cell? ⟨gb108, 1, none⟩ = some (.int .i64 t106) := bc_ BK108 1 rfl
    have hfz13_0 := blk_frozen BK108.out 0; have hfz13_1 := blk_frozen BK108.out 1
    have hcz14_0 : wc.cell? ⟨gb101, 0, none⟩ = some (.int .i64 0) := bc_ BK101 0 rfl
    have hcz14_1 : wc.cell? ⟨gb101, 1, none⟩ = some (.int .i64 0) := bc_ BK101 1 rfl
    have hcz14_2 : wc.cell? ⟨gb101, 2, none⟩ = some (.int .i64 0) := bc_ BK101 2 rfl
    have hcz14_3 : wc.cell? ⟨gb101, 3, none⟩ = some (.int .i64 0) := bc_ BK101 3 rfl
    have hfz14_0 := blk_frozen BK101.out 0; have hfz14_1 := blk_frozen BK101.out 1; have hfz14_2 := blk_frozen BK101.out 2; have hfz14_3 := blk_frozen BK101.out 3
    go_wp2
    refine bodyPost_ret (results_ct rfl _ _ gb101 25 #[.int .i64 t105, .int .i64 t106, .int .i64 t105, .int .i64 t106] (0, 0) _ rfl (by refine pp_ (cs := #[.int .i64 t105, .int .i64 t106, .int .i64 t105, .int .i64 0]) 3 ?_ rfl; refine blk_put (cs := #[.int .i64 t105, .int .i64 t106, .int .i64 0, .int .i64 0]) ?_ 2 _ rfl; refine blk_put (cs := #[.int .i64 t105, .int .i64 0, .int .i64 0, .int .i64 0]) ?_ 1 _ rfl; refine blk_put (cs := #[.int .i64 0, .int .i64 0, .int .i64 0, .int .i64 0]) ?_ 0 _ rfl; exact pkx BK101) Tryd.underlying25 rfl (by kernel_rfl)) rfl ?_
    exact ⟨by first | rfl | (simp [errW_none, errW_some] <;> rfl) | (simp [*, errW_none, errW_some] <;> rfl), by repeat (first | (with_reducible first | exact HB.out | apply below_alloc | apply pw_below_drewN | apply below_drew1 | refine below_set ?_ GE101.out | refine below_set ?_ GE108.out) | exact HB.out)⟩
   ·replace c11 := Bool.eq_false_iff.mpr c11; subst c11
    have H1 : ((addr_Parse.f kj3 t103).bind fun bt109 => (if t107 = true then (if bt109.2.2 = true then (if (t105 == bt109.1 && (t106 == bt109.2.1)) = true then (some (0, 0, 0, 0, false)) else (some (t105, t106, bt109.1, bt109.2.1, true))) else (some (0, 0, 0, 0, false))) else (some (0, 0, 0, 0, false)))) = some (r1, r2, r3, r4, r5) := by rw [if_neg (show ¬ (false = true) by decide)] at H; exact H
    clear H; have H := H1; clear H1; replace H := Option.bind_eq_some_iff.mp H; obtain ⟨⟨t109, t110, t111⟩, A150, H⟩ := H
    replace H : (if t107 = true then (if t111 = true then (if (t105 == t109 && (t106 == t110)) = true then (some (0, 0, 0, 0, false)) else (some (t105, t106, t109, t110, true))) else (some (0, 0, 0, 0, false))) else (some (0, 0, 0, 0, false))) = some (r1, r2, r3, r4, r5) := H
    have A15 := Aside0.mk A150; clear A150
    by_cases c16 : t107 = true
    ·subst c16
     have H1 : (if t111 = true then (if (t105 == t109 && (t106 == t110)) = true then (some (0, 0, 0, 0, false)) else (some (t105, t106, t109, t110, true))) else (some (0, 0, 0, 0, false))) = some (r1, r2, r3, r4, r5) := by rw [if_pos rfl] at H; exact H
     clear H; have H := H1; clear H1
     by_cases c17 : t111 = true
     ·subst c17
      have H1 : (if (t105 == t109 && (t106 == t110)) = true then (some (0, 0, 0, 0, false)) else (some (t105, t106, t109, t110, true))) = some (r1, r2, r3, r4, r5) := by rw [if_pos rfl] at H; exact H
      clear H; have H := H1; clear H1
      by_cases c18 : (t105 == t109 && (t106 == t110)) = true
      ·rw [if_pos c18] at H
       have c18b0 : (t105 == t109 && (t106 == t110)) = true := c18
       (try (have c18b1 : decide (t105 = t109 && (t106 == t110)) = true := by simpa using c18)); (try (have c18b2 : (t105 == t109 && (t106 == t110)) = true := by simpa using c18)); clear c18
       simp only [Option.some.injEq, Prod.mk.injEq] at H
       obtain ⟨rfl, rfl, rfl, rfl, rfl⟩ := H
       go_wp2_with (first | ((with_reducible refine gate_callee (f:=27) rfl ?_); refine gL_ (some 32) rfl rfl Tryd.func27 rfl #[.string t103] rfl ?_; (with_reducible refine (addr_Parse.calls kj3 t103 t109 t110 true _ A15.out).mono ?_); rintro e w19 ⟨rfl, hb⟩; refine ⟨_, rfl, ?_⟩; replace BK101 := bb_ BK101 hb; replace BK108 := bb_ BK108 hb; replace HB := bs_ HB hb; (try clear hb); (try clear hb2); (try clear hk); (try clear hi)) | ((with_reducible refine gate_dst (N:=9) rfl ?_); refine be_ (N:=9) (cs := #[.int .i64 0, .int .i64 0]) (t:=23) ?_; intro gb112 hg w20 hbox hb; have BK112 := Aside0.mk (hbox); have GW112 := hs_ HB hg; have GE112 := hs_ HB hg; have NB101_112 := hl_ BK101 hg; have NB112_101 := hr_ BK101 hg; have NB108_112 := hl_ BK108 hg; have NB112_108 := hr_ BK108 hg; replace BK101 := bb_ BK101 hb; replace BK108 := bb_ BK108 hb; replace HB := bs_ HB hb; clear hb hbox hg; have hnb21 := NB112_101.out; have hnc21 := NB101_112.out; have hnb22 := NB112_108.out; have hnc22 := NB108_112.out; have hcz23_0 : w20.cell? ⟨gb112, 0, none⟩ = some (.int .i64 0) := bc_ BK112 0 rfl; have hcz23_1 : w20.cell? ⟨gb112, 1, none⟩ = some (.int .i64 0) := bc_ BK112 1 rfl; have hfz23_0 := blk_frozen BK112.out 0; have hfz23_1 := blk_frozen BK112.out 1; have hnb24 := NB108_101.out; have hnc24 := NB101_108.out; have hcz25_0 : w20.cell? ⟨gb108, 0, none⟩ = some (.int .i64 t105) := bc_ BK108 0 rfl; have hcz25_1 : w20.cell? ⟨gb108, 1, none⟩ = some (.int .i64 t106) := bc_ BK108 1 rfl; have hfz25_0 := blk_frozen BK108.out 0; have hfz25_1 := blk_frozen BK108.out 1; have hcz26_0 : w20.cell? ⟨gb101, 0, none⟩ = some (.int .i64 0) := bc_ BK101 0 rfl; have hcz26_1 : w20.cell? ⟨gb101, 1, none⟩ = some (.int .i64 0) := bc_ BK101 1 rfl; have hcz26_2 : w20.cell? ⟨gb101, 2, none⟩ = some (.int .i64 0) := bc_ BK101 2 rfl; have hcz26_3 : w20.cell? ⟨gb101, 3, none⟩ = some (.int .i64 0) := bc_ BK101 3 rfl; have hfz26_0 := blk_frozen BK101.out 0; have hfz26_1 := blk_frozen BK101.out 1; have hfz26_2 := blk_frozen BK101.out 2; have hfz26_3 := blk_frozen BK101.out 3))
       refine bodyPost_ret (results_ct rfl _ _ gb101 25 #[.int .i64 0, .int .i64 0, .int .i64 0, .int .i64 0] (0, 0) _ rfl (by refine pp_ (cs := #[.int .i64 0, .int .i64 0, .int .i64 0, .int .i64 0]) 3 ?_ rfl; refine blk_put (cs := #[.int .i64 0, .int .i64 0, .int .i64 0, .int .i64 0]) ?_ 2 _ rfl; refine blk_put (cs := #[.int .i64 0, .int .i64 0, .int .i64 0, .int .i64 0]) ?_ 1 _ rfl; refine blk_put (cs := #[.int .i64 0, .int .i64 0, .int .i64 0, .int .i64 0]) ?_ 0 _ rfl; refine pf_ ?_ NB101_112.out; refine blk_far ?_ NB101_112.out _; exact pkx BK101) Tryd.underlying25 rfl (by kernel_rfl)) rfl ?_
       exact ⟨by first | rfl | (simp [errW_none, errW_some] <;> rfl) | (simp [*, errW_none, errW_some] <;> rfl), by repeat (first | (with_reducible first | exact HB.out | apply below_alloc | apply pw_below_drewN | apply below_drew1 | refine below_set ?_ GE101.out | refine below_set ?_ GE108.out | refine below_set ?_ GE112.out) | exact HB.out)⟩
      ·rw [if_neg c18] at H
       have c18b0 : (t105 == t109 && (t106 == t110)) = false := by simpa using c18
       (try (have c18b1 : decide (t105 = t109 && (t106 == t110)) = false := by simpa using c18)); (try (have c18b2 : (t105 == t109 && (t106 == t110)) = false := by simpa using c18)); (try (have c18b3 : ¬ (t105 = t109 && (t106 == t110)) := by simpa using c18)); clear c18
       simp only [Option.some.injEq, Prod.mk.injEq] at H
       obtain ⟨rfl, rfl, rfl, rfl, rfl⟩ := H
       go_wp2_with (first | ((with_reducible refine gate_callee (f:=27) rfl ?_); refine gL_ (some 32) rfl rfl Tryd.func27 rfl #[.string t103] rfl ?_; (with_reducible refine (addr_Parse.calls kj3 t103 t109 t110 true _ A15.out).mono ?_); rintro e w27 ⟨rfl, hb⟩; refine ⟨_, rfl, ?_⟩; replace BK101 := bb_ BK101 hb; replace BK108 := bb_ BK108 hb; replace HB := bs_ HB hb; (try clear hb); (try clear hb2); (try clear hk); (try clear hi)) | ((with_reducible refine gate_dst (N:=9) rfl ?_); refine be_ (N:=9) (cs := #[.int .i64 0, .int .i64 0]) (t:=23) ?_; intro gb112 hg w28 hbox hb; have BK112 := Aside0.mk (hbox); have GW112 := hs_ HB hg; have GE112 := hs_ HB hg; have NB101_112 := hl_ BK101 hg; have NB112_101 := hr_ BK101 hg; have NB108_112 := hl_ BK108 hg; have NB112_108 := hr_ BK108 hg; replace BK101 := bb_ BK101 hb; replace BK108 := bb_ BK108 hb; replace HB := bs_ HB hb; clear hb hbox hg; have hnb29 := NB112_101.out; have hnc29 := NB101_112.out; have hnb30 := NB112_108.out; have hnc30 := NB108_112.out; have hcz31_0 : w28.cell? ⟨gb112, 0, none⟩ = some (.int .i64 0) := bc_ BK112 0 rfl; have hcz31_1 : w28.cell? ⟨gb112, 1, none⟩ = some (.int .i64 0) := bc_ BK112 1 rfl; have hfz31_0 := blk_frozen BK112.out 0; have hfz31_1 := blk_frozen BK112.out 1; have hnb32 := NB108_101.out; have hnc32 := NB101_108.out; have hcz33_0 : w28.cell? ⟨gb108, 0, none⟩ = some (.int .i64 t105) := bc_ BK108 0 rfl; have hcz33_1 : w28.cell? ⟨gb108, 1, none⟩ = some (.int .i64 t106) := bc_ BK108 1 rfl; have hfz33_0 := blk_frozen BK108.out 0; have hfz33_1 := blk_frozen BK108.out 1; have hcz34_0 : w28.cell? ⟨gb101, 0, none⟩ = some (.int .i64 0) := bc_ BK101 0 rfl; have hcz34_1 : w28.cell? ⟨gb101, 1, none⟩ = some (.int .i64 0) := bc_ BK101 1 rfl; have hcz34_2 : w28.cell? ⟨gb101, 2, none⟩ = some (.int .i64 0) := bc_ BK101 2 rfl; have hcz34_3 : w28.cell? ⟨gb101, 3, none⟩ = some (.int .i64 0) := bc_ BK101 3 rfl; have hfz34_0 := blk_frozen BK101.out 0; have hfz34_1 := blk_frozen BK101.out 1; have hfz34_2 := blk_frozen BK101.out 2; have hfz34_3 := blk_frozen BK101.out 3))
       refine bodyPost_ret (results_ct rfl _ _ gb101 25 #[.int .i64 t105, .int .i64 t106, .int .i64 t109, .int .i64 t110] (0, 0) _ rfl (by refine pp_ (cs := #[.int .i64 t105, .int .i64 t106, .int .i64 t109, .int .i64 0]) 3 ?_ rfl; refine blk_put (cs := #[.int .i64 t105, .int .i64 t106, .int .i64 0, .int .i64 0]) ?_ 2 _ rfl; refine blk_put (cs := #[.int .i64 t105, .int .i64 0, .int .i64 0, .int .i64 0]) ?_ 1 _ rfl; refine blk_put (cs := #[.int .i64 0, .int .i64 0, .int .i64 0, .int .i64 0]) ?_ 0 _ rfl; refine pf_ ?_ NB101_112.out; refine blk_far ?_ NB101_112.out _; exact pkx BK101) Tryd.underlying25 rfl (by kernel_rfl)) rfl ?_
       exact ⟨by first | rfl | (simp [errW_none, errW_some] <;> rfl) | (simp [*, errW_none, errW_some] <;> rfl), by repeat (first | (with_reducible first | exact HB.out | apply below_alloc | apply pw_below_drewN | apply below_drew1 | refine below_set ?_ GE101.out | refine below_set ?_ GE108.out | refine below_set ?_ GE112.out) | exact HB.out)⟩
     ·replace c17 := Bool.eq_false_iff.mpr c17; subst c17
      have H1 : (some (0, 0, 0, 0, false)) = some (r1, r2, r3, r4, r5) := by rw [if_neg (show ¬ (false = true) by decide)] at H; exact H
      clear H; have H := H1; clear H1
      simp only [Option.some.injEq, Prod.mk.injEq] at H
      obtain ⟨rfl, rfl, rfl, rfl, rfl⟩ := H
      go_wp2_with (first | ((with_reducible refine gate_callee (f:=27) rfl ?_); refine gL_ (some 32) rfl rfl Tryd.func27 rfl #[.string t103] rfl ?_; (with_reducible refine (addr_Parse.calls kj3 t103 t109 t110 false _ A15.out).mono ?_); rintro e w35 ⟨rfl, hb⟩; refine ⟨_, rfl, ?_⟩; replace BK101 := bb_ BK101 hb; replace BK108 := bb_ BK108 hb; replace HB := bs_ HB hb; (try clear hb); (try clear hb2); (try clear hk); (try clear hi)) | ((with_reducible refine gate_dst (N:=9) rfl ?_); refine be_ (N:=9) (cs := #[.int .i64 0, .int .i64 0]) (t:=23) ?_; intro gb112 hg w36 hbox hb; have BK112 := Aside0.mk (hbox); have GW112 := hs_ HB hg; have GE112 := hs_ HB hg; have NB101_112 := hl_ BK101 hg; have NB112_101 := hr_ BK101 hg; have NB108_112 := hl_ BK108 hg; have NB112_108 := hr_ BK108 hg; replace BK101 := bb_ BK101 hb; replace BK108 := bb_ BK108 hb; replace HB := bs_ HB hb; clear hb hbox hg; have hnb37 := NB112_101.out; have hnc37 := NB101_112.out; have hnb38 := NB112_108.out; have hnc38 := NB108_112.out; have hcz39_0 : w36.cell? ⟨gb112, 0, none⟩ = some (.int .i64 0) := bc_ BK112 0 rfl; have hcz39_1 : w36.cell? ⟨gb112, 1, none⟩ = some (.int .i64 0) := bc_ BK112 1 rfl; have hfz39_0 := blk_frozen BK112.out 0; have hfz39_1 := blk_frozen BK112.out 1; have hnb40 := NB101_108.out; have hnc40 := NB108_101.out; have hcz41_0 : w36.cell? ⟨gb101, 0, none⟩ = some (.int .i64 0) := bc_ BK101 0 rfl; have hcz41_1 : w36.cell? ⟨gb101, 1, none⟩ = some (.int .i64 0) := bc_ BK101 1 rfl; have hcz41_2 : w36.cell? ⟨gb101, 2, none⟩ = some (.int .i64 0) := bc_ BK101 2 rfl; have hcz41_3 : w36.cell? ⟨gb101, 3, none⟩ = some (.int .i64 0) := bc_ BK101 3 rfl; have hfz41_0 := blk_frozen BK101.out 0; have hfz41_1 := blk_frozen BK101.out 1; have hfz41_2 := blk_frozen BK101.out 2; have hfz41_3 := blk_frozen BK101.out 3))
      refine bodyPost_ret (results_ct rfl _ _ gb101 25 #[.int .i64 0, .int .i64 0, .int .i64 0, .int .i64 0] (0, 0) _ rfl (by refine pp_ (cs := #[.int .i64 0, .int .i64 0, .int .i64 0, .int .i64 0]) 3 ?_ rfl; refine blk_put (cs := #[.int .i64 0, .int .i64 0, .int .i64 0, .int .i64 0]) ?_ 2 _ rfl; refine blk_put (cs := #[.int .i64 0, .int .i64 0, .int .i64 0, .int .i64 0]) ?_ 1 _ rfl; refine blk_put (cs := #[.int .i64 0, .int .i64 0, .int .i64 0, .int .i64 0]) ?_ 0 _ rfl; refine pf_ ?_ NB101_112.out; refine blk_far ?_ NB101_112.out _; exact pkx BK101) Tryd.underlying25 rfl (by kernel_rfl)) rfl ?_
      exact ⟨by first | rfl | (simp [errW_none, errW_some] <;> rfl) | (simp [*, errW_none, errW_some] <;> rfl), by repeat (first | (with_reducible first | exact HB.out | apply below_alloc | apply pw_below_drewN | apply below_drew1 | refine below_set ?_ GE101.out | refine below_set ?_ GE108.out | refine below_set ?_ GE112.out) | exact HB.out)⟩
    ·replace c16 := Bool.eq_false_iff.mpr c16; subst c16
     have H1 : (some (0, 0, 0, 0, false)) = some (r1, r2, r3, r4, r5) := by rw [if_neg (show ¬ (false = true) by decide)] at H; exact H
     clear H; have H := H1; clear H1
     simp only [Option.some.injEq, Prod.mk.injEq] at H
     obtain ⟨rfl, rfl, rfl, rfl, rfl⟩ := H
     go_wp2_with (first | ((with_reducible refine gate_callee (f:=27) rfl ?_); refine gL_ (some 32) rfl rfl Tryd.func27 rfl #[.string t103] rfl ?_; (with_reducible refine (addr_Parse.calls kj3 t103 t109 t110 t111 _ A15.out).mono ?_); rintro e w42 ⟨rfl, hb⟩; refine ⟨_, rfl, ?_⟩; replace BK101 := bb_ BK101 hb; replace BK108 := bb_ BK108 hb; replace HB := bs_ HB hb; (try clear hb); (try clear hb2); (try clear hk); (try clear hi)) | ((with_reducible refine gate_dst (N:=9) rfl ?_); refine be_ (N:=9) (cs := #[.int .i64 0, .int .i64 0]) (t:=23) ?_; intro gb112 hg w43 hbox hb; have BK112 := Aside0.mk (hbox); have GW112 := hs_ HB hg; have GE112 := hs_ HB hg; have NB101_112 := hl_ BK101 hg; have NB112_101 := hr_ BK101 hg; have NB108_112 := hl_ BK108 hg; have NB112_108 := hr_ BK108 hg; replace BK101 := bb_ BK101 hb; replace BK108 := bb_ BK108 hb; replace HB := bs_ HB hb; clear hb hbox hg; have hnb44 := NB112_101.out; have hnc44 := NB101_112.out; have hnb45 := NB112_108.out; have hnc45 := NB108_112.out; have hcz46_0 : w43.cell? ⟨gb112, 0, none⟩ = some (.int .i64 0) := bc_ BK112 0 rfl; have hcz46_1 : w43.cell? ⟨gb112, 1, none⟩ = some (.int .i64 0) := bc_ BK112 1 rfl; have hfz46_0 := blk_frozen BK112.out 0; have hfz46_1 := blk_frozen BK112.out 1; have hnb47 := NB101_108.out; have hnc47 := NB108_101.out; have hcz48_0 : w43.cell? ⟨gb101, 0, none⟩ = some (.int .i64 0) := bc_ BK101 0 rfl; have hcz48_1 : w43.cell? ⟨gb101, 1, none⟩ = some (.int .i64 0) := bc_ BK101 1 rfl; have hcz48_2 : w43.cell? ⟨gb101, 2, none⟩ = some (.int .i64 0) := bc_ BK101 2 rfl; have hcz48_3 : w43.cell? ⟨gb101, 3, none⟩ = some (.int .i64 0) := bc_ BK101 3 rfl; have hfz48_0 := blk_frozen BK101.out 0; have hfz48_1 := blk_frozen BK101.out 1; have hfz48_2 := blk_frozen BK101.out 2; have hfz48_3 := blk_frozen BK101.out 3))
     refine bodyPost_ret (results_ct rfl _ _ gb101 25 #[.int .i64 0, .int .i64 0, .int .i64 0, .int .i64 0] (0, 0) _ rfl (by refine pp_ (cs := #[.int .i64 0, .int .i64 0, .int .i64 0, .int .i64 0]) 3 ?_ rfl; refine blk_put (cs := #[.int .i64 0, .int .i64 0, .int .i64 0, .int .i64 0]) ?_ 2 _ rfl; refine blk_put (cs := #[.int .i64 0, .int .i64 0, .int .i64 0, .int .i64 0]) ?_ 1 _ rfl; refine blk_put (cs := #[.int .i64 0, .int .i64 0, .int .i64 0, .int .i64 0]) ?_ 0 _ rfl; refine pf_ ?_ NB101_112.out; refine blk_far ?_ NB101_112.out _; exact pkx BK101) Tryd.underlying25 rfl (by kernel_rfl)) rfl ?_
     exact ⟨by first | rfl | (simp [errW_none, errW_some] <;> rfl) | (simp [*, errW_none, errW_some] <;> rfl), by repeat (first | (with_reducible first | exact HB.out | apply below_alloc | apply pw_below_drewN | apply below_drew1 | refine below_set ?_ GE101.out | refine below_set ?_ GE108.out | refine below_set ?_ GE112.out) | exact HB.out)⟩

end Go.Proofs.YtcbjihedobhjcaaDoor.X
namespace Go.Proofs.YtcbjihedobhjcaaDoor.X
open Go.RowKit Go.Proofs.YtcbjihedobhjcaaDoorW.PrintWords Go.Proofs.YtcbjihedobhjcaaDoorW.PrintLast Go.Proofs.YtcbjihedobhjcaaDoorW.PrintMore
attribute [local go_sem] max2_int min2_int max_two min_two max_three min_three max_four min_four
set_option linter.unusedVariables false
set_option linter.unusedSimpArgs false
def addr_Letters.j0 : Nat → Int → Bool → Option (ByteArray)
 | 0, _, _ => none
 | k + 1, x0, x3 => if x3 = true then (some (⟨#[]⟩ : ByteArray)) else (if x0 < 26 then (some (strOfNums (([(wrap64 (65 + x0)) % 256] : List Int)))) else (some (strOfNums (([(wrap64 ((wrap64 (65 + (wrap64 (Int.tdiv x0 26)))) - 1)) % 256, (wrap64 (65 + (Int.tmod x0 26))) % 256] : List Int)))))
def addr_Letters.f (k : Nat) (a0 : Int) : Option (ByteArray) := if a0 < 0 then (addr_Letters.j0 k a0 true) else (addr_Letters.j0 k a0 (decide (a0 ≥ 702)))
theorem addr_Letters.mono_l : ∀ k, (∀ y0 y1, LeO (addr_Letters.j0 k y0 y1) (addr_Letters.j0 (k + 1) y0 y1))
 | 0 => fun _ _ r h => by simp [addr_Letters.j0] at h
 | k + 1 => by
  have ih0 := addr_Letters.mono_l k
  ·intro y0 y1
   unfold addr_Letters.j0
   repeat' first
   | (with_reducible exact ih0 _ _)
   | (with_reducible exact LeO.refl _)
   | (with_reducible exact LeO.none _)
   | (with_reducible refine LeO.ite ?_ ?_)
   | (with_reducible refine LeO.bind ?_ (fun _ => ?_))
theorem addr_Letters.mono : ∀ a0 k, LeO (addr_Letters.f k a0) (addr_Letters.f (k + 1) a0) := by
 intro a0 k; have ih0 := addr_Letters.mono_l k
 unfold addr_Letters.f
 repeat' first
   | (with_reducible exact ih0 _ _)
   | (with_reducible exact LeO.refl _)
   | (with_reducible exact LeO.none _)
   | (with_reducible refine LeO.ite ?_ ?_)
   | (with_reducible refine LeO.bind ?_ (fun _ => ?_))
set_option maxHeartbeats 8000000 in
set_option maxRecDepth 100000 in
theorem addr_Letters.calls (k : Nat) (a0 : Int) (r : ByteArray) (w : World) (h : addr_Letters.f k a0 = some r) :
  Calls Tryd.prog 32 #[.int .i64 a0] w fun e w' => e = .returned (.string r) ∧ Below w.heap.size w w' := by
 have HB := Aside0.mk (Below.refl w.heap.size w)
 have H : (if a0 < 0 then (addr_Letters.j0 k a0 true) else (addr_Letters.j0 k a0 (decide (a0 ≥ 702)))) = some r := h
 clear h; have HC2 := Aside0.mk H; clear H
 go_enter Tryd.func32, Tryd.ntmps32
 go_upto_region 1 with (fail)
 go_cut [3] (fun v3 wc => ∃ (kq : Nat) (x3_1 : Bool), v3 = .bool x3_1 ∧ Aside0 (addr_Letters.j0 kq a0 x3_1 = some r) ∧ Aside0 (kq ≤ k) ∧ Aside0 (Below w.heap.size w wc))
 case first =>
  have H := HC2.out; clear HC2
  by_cases c3 : a0 < 0
  ·rw [if_pos c3] at H; have c3b0 : decide (a0 < 0) = true := decide_eq_true c3; clear c3; (first | rw [c3b0] | (simp only [i64_w, i32_w]; rw [c3b0]) | skip)
   have H' := Aside0.mk H
   clear H
   go_wp2
   go_meet
   case rel => exact ⟨_, (true), (by first | rfl | (simp; done) | (simp [*]; done)), H', ⟨by first | omega | exact Nat.le_refl _⟩, ⟨pbx HB⟩⟩
  ·rw [if_neg c3] at H; have c3b0 : decide (a0 < 0) = false := decide_eq_false c3; clear c3; (first | rw [c3b0] | (simp only [i64_w, i32_w]; rw [c3b0]) | skip)
   have H' := Aside0.mk H
   clear H
   go_wp2
   go_meet
   case rel => exact ⟨_, (decide (a0 ≥ 702)), (by first | rfl | (simp; done) | (simp [*]; done)), H', ⟨by first | omega | exact Nat.le_refl _⟩, ⟨pbx HB⟩⟩
 case rest =>
  clear HC2; (try clear p2); (try clear c3); (try clear c3b0); obtain ⟨kq, x3_1, rfl, HA, HJ1, HB⟩ := hcut
  cases kq with
  | zero => exact absurd HA.out (by simp [addr_Letters.j0])
  | succ kj1 =>
   have H := HA.out; clear HA
   simp only [addr_Letters.j0] at H
   by_cases c4 : x3_1 = true
   ·subst c4
    have H1 : (some (⟨#[]⟩ : ByteArray)) = some r := by rw [if_pos rfl] at H; exact H
    clear H; have H := H1; clear H1; obtain rfl := Option.some.inj H
    go_wp2
    go_ret
    exact ⟨by first | rfl | (simp [errW_none, errW_some] <;> rfl) | (simp [*, errW_none, errW_some] <;> rfl), pbx HB⟩
   ·replace c4 := Bool.eq_false_iff.mpr c4; subst c4
    have H1 : (if a0 < 26 then (some (strOfNums (([(wrap64 (65 + a0)) % 256] : List Int)))) else (some (strOfNums (([(wrap64 ((wrap64 (65 + (wrap64 (Int.tdiv a0 26)))) - 1)) % 256, (wrap64 (65 + (Int.tmod a0 26))) % 256] : List Int))))) = some r := by rw [if_neg (show ¬ (false = true) by decide)] at H; exact H
    clear H; have H := H1; clear H1
    by_cases c5 : a0 < 26
    ·rw [if_pos c5] at H; have c5b0 : decide (a0 < 26) = true := decide_eq_true c5; clear c5; obtain ⟨y101, hy101⟩ : ∃ y_ : List Int, y_ = (([(wrap64 (65 + a0)) % 256] : List Int)) := ⟨_, rfl⟩
     replace H : (some (strOfNums y101)) = some r := by first | (rw [hy101]; with_reducible exact H) | (have H2_ := (Option.bind_some _ _).symm.trans H; rw [hy101]; with_reducible exact H2_) | (have H2_ := (Option.bind_some _ _).symm.trans H; with_reducible exact H2_) | with_reducible exact H | (rw [hy101]; exact H) | exact H
     have Ny101 := Aside0.mk hy101; clear hy101; obtain rfl := Option.some.inj H
     go_wp2_with (first | ((with_reducible refine gate_dst (N:=16) rfl ?_); refine Kd.R_lit (Kd.int .u8) _ 5 ?hg (N:=16) ?hd (xs := ([(wrap64 (65 + a0)) % 256] : List Int)) (inner := [.int .u8 ((wrap64 (65 + a0)) % 256)]) (ok := fun _ => True) (okp := fun _ => True) ?hr ?hp (fun _ hk => hk) trivial (Below.refl _ _) (Nat.le_refl _) (by simp) ?_; (case hd => rfl); (case hg => rfl); (case hr => first | (go_simp; done) | (go_simp; rfl)); (case hp => exact (Reps.one (show Kd.M (Kd.int .u8) _ _ _ ((wrap64 (65 + a0)) % 256) [.int .u8 ((wrap64 (65 + a0)) % 256)] from rfl) (Reps.none _ _))); intro v102 w6 ho7 hb hg_ hnew_; clear hg_ hnew_; (first | rw [← Ny101.out] at ho7 | (simp only [Int.reduceToNat] at ho7; rw [← Ny101.out] at ho7)); have HO103 := Aside0.mk (Kd.R_lower ho7 (below_size (pbx HB))); replace HB := bs_ HB hb; clear hb ho7; have hcv8 := own_string (P := Tryd.prog) Tryd.underlying52 Tryd.underlying5 Tryd.underlying9 (Kd.own_of_R HO103.out)))
     go_ret
     exact ⟨by first | rfl | (simp [errW_none, errW_some] <;> rfl) | (simp [*, errW_none, errW_some] <;> rfl), pbx HB⟩
    ·rw [if_neg c5] at H; have c5b0 : decide (a0 < 26) = false := decide_eq_false c5; clear c5; obtain ⟨y104, hy104⟩ : ∃ y_ : List Int, y_ = (([(wrap64 ((wrap64 (65 + (wrap64 (Int.tdiv a0 26)))) - 1)) % 256, (wrap64 (65 + (Int.tmod a0 26))) % 256] : List Int)) := ⟨_, rfl⟩
     replace H : (some (strOfNums y104)) = some r := by first | (rw [hy104]; with_reducible exact H) | (have H2_ := (Option.bind_some _ _).symm.trans H; rw [hy104]; with_reducible exact H2_) | (have H2_ := (Option.bind_some _ _).symm.trans H; with_reducible exact H2_) | with_reducible exact H | (rw [hy104]; exact H) | exact H
     have Ny104 := Aside0.mk hy104; clear hy104; obtain rfl := Option.some.inj H
     go_wp2_with (first | ((with_reducible refine gate_dst (N:=27) rfl ?_); refine Kd.R_lit (Kd.int .u8) _ 5 ?hg (N:=27) ?hd (xs := ([(wrap64 ((wrap64 (65 + (wrap64 (Int.tdiv a0 26)))) - 1)) % 256, (wrap64 (65 + (Int.tmod a0 26))) % 256] : List Int)) (inner := [.int .u8 ((wrap64 ((wrap64 (65 + (wrap64 (Int.tdiv a0 26)))) - 1)) % 256), .int .u8 ((wrap64 (65 + (Int.tmod a0 26))) % 256)]) (ok := fun _ => True) (okp := fun _ => True) ?hr ?hp (fun _ hk => hk) trivial (Below.refl _ _) (Nat.le_refl _) (by simp) ?_; (case hd => rfl); (case hg => rfl); (case hr => first | (go_simp; done) | (go_simp; rfl)); (case hp => exact (Reps.one (show Kd.M (Kd.int .u8) _ _ _ ((wrap64 ((wrap64 (65 + (wrap64 (Int.tdiv a0 26)))) - 1)) % 256) [.int .u8 ((wrap64 ((wrap64 (65 + (wrap64 (Int.tdiv a0 26)))) - 1)) % 256)] from rfl) (Reps.one (show Kd.M (Kd.int .u8) _ _ _ ((wrap64 (65 + (Int.tmod a0 26))) % 256) [.int .u8 ((wrap64 (65 + (Int.tmod a0 26))) % 256)] from rfl) (Reps.none _ _)))); intro v105 w9 ho10 hb hg_ hnew_; clear hg_ hnew_; (first | rw [← Ny104.out] at ho10 | (simp only [Int.reduceToNat] at ho10; rw [← Ny104.out] at ho10)); have HO106 := Aside0.mk (Kd.R_lower ho10 (below_size (pbx HB))); replace HB := bs_ HB hb; clear hb ho10; have hcv11 := own_string (P := Tryd.prog) Tryd.underlying52 Tryd.underlying5 Tryd.underlying9 (Kd.own_of_R HO106.out)))
     go_ret
     exact ⟨by first | rfl | (simp [errW_none, errW_some] <;> rfl) | (simp [*, errW_none, errW_some] <;> rfl), pbx HB⟩

end Go.Proofs.YtcbjihedobhjcaaDoor.X
/- The contract of strconv.Itoa, out of the shelf's: where the table is laid. -/
set_option linter.unusedVariables false
namespace Go.Proofs.YtcbjihedobhjcaaDoor.X
open Go.RowKit Go.Proofs.YtcbjihedobhjcaaDoorW.PrintWords Go.Proofs.YtcbjihedobhjcaaDoorW.PrintLast Go.Proofs.YtcbjihedobhjcaaDoorW.PrintMore
open Go.Sort
def strconv_Itoa.f (a0 : Int) : Option ByteArray := if -9223372036854775808 ≤ a0 ∧ a0 ≤ 9223372036854775807 then some ⟨(Lib.itoa a0).toArray⟩ else none
theorem strconv_Itoa.calls (a0 : Int) (r : ByteArray) (w : World) (hT : Aside0 (Tab w)) (h : strconv_Itoa.f a0 = some r) :
    Calls Tryd.prog 33 #[.int .i64 a0] w fun e w' => e = .returned (.string r) ∧ Below w.heap.size w w' := by
  unfold strconv_Itoa.f at h
  by_cases hs : -9223372036854775808 ≤ a0 ∧ a0 ≤ 9223372036854775807
  · rw [if_pos hs] at h
    obtain rfl := Option.some.inj h
    refine (Tryd.strconv_Itoa a0 hs.1 hs.2 w hT.out.pow).mono ?_
    rintro e w' ⟨rfl, k, os, rfl⟩
    refine ⟨rfl, ?_⟩
    have h1 : Below w.heap.size w (w.drewN k) := (Drawn0.refl w).step k |>.below
    have h2 : Below (w.drewN k).heap.size (w.drewN k) (grow (w.drewN k) os) := ⟨rfl, rfl, rfl, by simp [grow], fun i hi => by simp only [grow]; exact Array.getElem?_append_left hi⟩
    exact h1.trans h2
  · rw [if_neg hs] at h
    cases h
end Go.Proofs.YtcbjihedobhjcaaDoor.X
namespace Go.Proofs.YtcbjihedobhjcaaDoor.X
open Go.RowKit Go.Proofs.YtcbjihedobhjcaaDoorW.PrintWords Go.Proofs.YtcbjihedobhjcaaDoorW.PrintLast Go.Proofs.YtcbjihedobhjcaaDoorW.PrintMore
attribute [local go_sem] max2_int min2_int max_two min_two max_three min_three max_four min_four
set_option linter.unusedVariables false
set_option linter.unusedSimpArgs false
def addr_Name.f (k : Nat) (a0_0 : Int) (a0_1 : Int) : Option (ByteArray) := (addr_May.f a0_0 a0_1).bind fun t102 => (if t102 = true then ((addr_Letters.f k a0_1).bind fun t103 => ((strconv_Itoa.f (wrap64 (a0_0 + 1))).bind fun t104 => (if t103.size + t104.size ≤ 9223372036854775807 then (some (t103 ++ t104)) else (none)))) else (some (⟨#[]⟩ : ByteArray)))
theorem addr_Name.mono : ∀ a0 a1 k, LeO (addr_Name.f k a0 a1) (addr_Name.f (k + 1) a0 a1) := by
 intro a0 a1 k
 unfold addr_Name.f
 repeat' first
   | (with_reducible exact addr_Letters.mono _ _)
   | (with_reducible exact LeO.refl _)
   | (with_reducible exact LeO.none _)
   | (with_reducible refine LeO.ite ?_ ?_)
   | (with_reducible refine LeO.bind ?_ (fun _ => ?_))
def addr_Name.T3 : Bool × List (List Nat × List Nat) := (true, [([], []), ([0], [0]), ([1], [1]), ([], []), ([3], [3]), ([4], [4]), ([5, 2], [5]), ([2, 6], [2, 6]), ([7, 6, 0, 1, 2, 3, 4, 5, 6, 7], [7])])
def addr_Name.B3 : List Nat := [0, 1, 3, 0, 8, 24, 63, 127, 255]
theorem addr_Name.tab3 : rtab .any (opsOf Tryd.f28 3) = addr_Name.T3 := by kernel_rfl
theorem addr_Name.bits3 : waitsOk addr_Name.T3.2 addr_Name.B3 = true := by kernel_rfl
set_option maxHeartbeats 8000000 in
set_option maxRecDepth 100000 in
theorem addr_Name.calls (k : Nat) (a0_0 : Int) (a0_1 : Int) (r : ByteArray) (w : World) (hT : Aside0 (Tab w)) (h : addr_Name.f k a0_0 a0_1 = some r) :
  Calls Tryd.prog 28 #[.agg #[.int .i64 a0_0, .int .i64 a0_1]] w fun e w' => e = .returned (.string r) ∧ Below w.heap.size w w' := by
 have hu23 := Tryd.underlying23; have HB := Aside0.mk (Below.refl w.heap.size w)
 have H : ((addr_May.f a0_0 a0_1).bind fun t102 => (if t102 = true then ((addr_Letters.f k a0_1).bind fun t103 => ((strconv_Itoa.f (wrap64 (a0_0 + 1))).bind fun t104 => (if t103.size + t104.size ≤ 9223372036854775807 then (some (t103 ++ t104)) else (none)))) else (some (⟨#[]⟩ : ByteArray)))) = some r := h
 clear h; replace H := Option.bind_eq_some_iff.mp H; obtain ⟨t102, A20, H⟩ := H
 replace H : (if t102 = true then ((addr_Letters.f k a0_1).bind fun t103 => ((strconv_Itoa.f (wrap64 (a0_0 + 1))).bind fun t104 => (if t103.size + t104.size ≤ 9223372036854775807 then (some (t103 ++ t104)) else (none)))) else (some (⟨#[]⟩ : ByteArray))) = some r := H
 have A2 := Aside0.mk A20; clear A20
 by_cases c3 : t102 = true
 ·subst c3
  have H1 : ((addr_Letters.f k a0_1).bind fun t103 => ((strconv_Itoa.f (wrap64 (a0_0 + 1))).bind fun t104 => (if t103.size + t104.size ≤ 9223372036854775807 then (some (t103 ++ t104)) else (none)))) = some r := by rw [if_pos rfl] at H; exact H
  clear H; have H := H1; clear H1; replace H := Option.bind_eq_some_iff.mp H; obtain ⟨t103, A40, H⟩ := H
  replace H : ((strconv_Itoa.f (wrap64 (a0_0 + 1))).bind fun t104 => (if t103.size + t104.size ≤ 9223372036854775807 then (some (t103 ++ t104)) else (none))) = some r := H
  have A4 := Aside0.mk A40; clear A40; replace H := Option.bind_eq_some_iff.mp H; obtain ⟨t104, A50, H⟩ := H
  replace H : (if t103.size + t104.size ≤ 9223372036854775807 then (some (t103 ++ t104)) else (none)) = some r := H
  have A5 := Aside0.mk A50; clear A50
  by_cases c6 : t103.size + t104.size ≤ 9223372036854775807
  ·rw [if_pos c6] at H; have c6b0 := eq_true c6; have c6b1 : decide (t103.size + t104.size ≤ 9223372036854775807) = true := decide_eq_true c6
   try have c6b2 : (9223372036854775807 < t103.size + t104.size) = False := eq_false (Nat.not_lt.2 c6)
   obtain rfl := Option.some.inj H
   go_enter Tryd.func28, Tryd.ntmps28
   try go_wp2_with (first | ((with_reducible refine gate_dst (N:=1) rfl ?_); refine be_ (N:=1) (cs := #[.int .i64 a0_0, .int .i64 a0_1]) (t:=23) ?_; intro gb101 hg w7 hbox hb; have BK101 := Aside0.mk (hbox); have GW101 := hs_ HB hg; have GE101 := hs_ HB hg; replace HB := bs_ HB hb; clear hb hbox hg; have hcz8_0 : w7.cell? ⟨gb101, 0, none⟩ = some (.int .i64 a0_0) := bc_ BK101 0 rfl; have hcz8_1 : w7.cell? ⟨gb101, 1, none⟩ = some (.int .i64 a0_1) := bc_ BK101 1 rfl; have hfz8_0 := blk_frozen BK101.out 0; have hfz8_1 := blk_frozen BK101.out 1) | ((with_reducible refine gate_callee (f:=25) rfl ?_); refine gL_ (some 4) rfl rfl Tryd.func25 rfl #[.agg #[.int .i64 a0_0, .int .i64 a0_1]] rfl ?_; (with_reducible refine (addr_May.calls a0_0 a0_1 true _ A2.out).mono ?_); rintro e w9 ⟨rfl, hb⟩; refine ⟨_, rfl, ?_⟩; replace BK101 := bb_ BK101 hb; replace HB := bs_ HB hb; (try clear hb); (try clear hb2); (try clear hk); (try clear hi)))
   (try (rw [drewN_self w9]; generalize hq_ : World.drewN w9 _ = w9; have n0_ : Aside0 (w9.heap[gb101]? = some (.cells #[.int .i64 a0_0, .int .i64 a0_1] 23 (0, 0))) := ⟨by rw [← hq_]; exact (pkx BK101)⟩; have n1_ : Aside0 (Below w.heap.size w w9) := ⟨by rw [← hq_]; exact (pbx HB)⟩; clear BK101 HB hq_; have BK101 := n0_; have HB := n1_; clear n0_ n1_))
   replace BK101 := Aside0.mk (blk_drew BK101.out); replace HB := Aside0.mk (below_drew1 HB.out)
   refine start_ (n:=9) (S := fun w' => w'.cell? ⟨gb101, 0, none⟩ = some (.int .i64 a0_0) ∧ w'.cell? ⟨gb101, 1, none⟩ = some (.int .i64 a0_1)) (ds := []) #[F,F,F,F,F,F,F,F,F] (by kernel_rfl) rfl rfl ⟨bc_ BK101 0 rfl, bc_ BK101 1 rfl⟩ (fun hHeld => ?_); refine with_tabW addr_Name.tab3 addr_Name.bits3 (fun HT_ HW_ => ?_)
   generalize w9.drew = w10 at BK101 HB hHeld ⊢; refine pure_ (i:=0) (N:=some 6) (v:=?_) (a':=?_) ⟨m_ 9 1⟩ rfl rfl (any_of HT_.out (by kernel_rfl)) (fun _ _ _ h=>h) (Or.inl ⟨rfl, ?_⟩) ?_ ?_; rotate_left
   ·intro w'; go_simp; with_reducible rfl
   rotate_left
   ·simp only [q_, i64_w, i32_w]; rfl
   refine pure_ (i:=3) (N:=some 9) (v:=?_) (a':=?_) ⟨m_ 9 9⟩ rfl rfl (any_of HT_.out (by kernel_rfl)) (fun _ _ _ h=>h) (Or.inl ⟨rfl, ?_⟩) ?_ ?_; rotate_left
   ·intro w'; go_simp; with_reducible rfl
   rotate_left
   ·simp only [q_, i64_w, i32_w]; rfl
   refine take_ (i:=1) (N:=some 7) (v:=?_) (a':=?_) ⟨m_ 9 11⟩ rfl rfl (take_ofW HT_.out HW_.out (by kernel_rfl)) (fun _ _ _ h=>h) (Or.inl ⟨rfl, ?_⟩) hHeld ?_ ?_; rotate_left
   ·rintro w' ⟨s0, s1⟩; go_simp; with_reducible rfl
   rotate_left
   ·simp only [q_, i64_w, i32_w]; rfl
   refine take_ (i:=4) (N:=some 10) (v:=?_) (a':=?_) ⟨m_ 9 27⟩ rfl rfl (take_ofW HT_.out HW_.out (by kernel_rfl)) (fun _ _ _ h=>h) (Or.inl ⟨rfl, ?_⟩) hHeld ?_ ?_; rotate_left
   ·rintro w' ⟨s0, s1⟩; go_simp; with_reducible rfl
   rotate_left
   ·simp only [q_, i64_w, i32_w]; rfl
   refine pure_ (i:=5) (N:=some 11) (v:=?_) (a':=?_) ⟨m_ 9 59⟩ rfl rfl (any_of HT_.out (by kernel_rfl)) (fun _ _ _ h=>h) (Or.inl ⟨rfl, ?_⟩) ?_ ?_; rotate_left
   ·intro w'; go_simp; with_reducible rfl
   rotate_left
   ·simp only [q_, i64_w, i32_w]; rfl
   refine one_ (i:=2) (N:=some 8) ⟨m_ 9 63⟩ rfl rfl (one_of HT_.out (by kernel_rfl)) (by decide) (fun K hK => ?_); refine goes_ Tryd.func32 (by kernel_rfl) rfl #[.int .i64 a0_1] (by rfl) rfl rfl (by (try simp only [List.map_toArray, List.map_cons, List.map_nil]); first | done | rfl | (simp only [List.length_drop, List.length_take]; rfl)) ?_; with_reducible refine (addr_Letters.calls k a0_1 t103 _ A4.out).mono ?_; rintro e w11 ⟨rfl, hb⟩; refine ⟨_, rfl, ?_⟩
   replace BK101 := bb_ BK101 hb; replace HB := bs_ HB hb; (try clear hb); (try clear hb2); (try clear hk); (try clear hi); refine hK.out _ _ ⟨bc_ BK101 0 rfl, bc_ BK101 1 rfl⟩ (fun hHeld => ?_); clear hK K; refine norm_ (a':=?_) ?_ ?_; rotate_left
   ·show Act.put _ (some 8) _ = _; simp only [q_, i64_w, i32_w]; rfl
   refine one_ (i:=6) (N:=some 12) ⟨m_ 9 127⟩ rfl rfl (one_of HT_.out (by kernel_rfl)) (by decide) (fun K hK => ?_); refine goes_ Tryd.func33 (by kernel_rfl) rfl #[.int .i64 (wrap64 (a0_0 + 1))] (by rfl) rfl rfl (by (try simp only [List.map_toArray, List.map_cons, List.map_nil]); first | done | rfl | (simp only [List.length_drop, List.length_take]; rfl)) ?_; with_reducible refine (strconv_Itoa.calls (wrap64 (a0_0 + 1)) t104 _ (by refine tb_ ?_ hT; repeat' (first | exact pbx HB | exact Below.refl _ _ | assumption | refine below_set ?_ (Aside0.out ?_))) A5.out).mono ?_; rintro e w12 ⟨rfl, hb⟩; refine ⟨_, rfl, ?_⟩
   replace BK101 := bb_ BK101 hb; replace HB := bs_ HB hb; (try clear hb); (try clear hb2); (try clear hk); (try clear hi); refine hK.out _ _ ⟨bc_ BK101 0 rfl, bc_ BK101 1 rfl⟩ (fun hHeld => ?_); clear hK K; refine norm_ (a':=?_) ?_ ?_; rotate_left
   ·show Act.put _ (some 12) _ = _; simp only [q_, i64_w, i32_w]; rfl
   refine pure_ (i:=7) (N:=some 13) (v:=?_) (a':=?_) ⟨m_ 9 255⟩ rfl rfl (any_of HT_.out (by kernel_rfl)) (fun _ _ _ h=>h) (Or.inl ⟨rfl, ?_⟩) ?_ ?_; rotate_left
   ·intro w'; go_simp; with_reducible rfl
   rotate_left
   ·simp only [q_, i64_w, i32_w]; rfl
   refine pure_ (i:=8) (N:=some 2) (v:=?_) (a':=?_) ⟨m_ 9 511⟩ rfl rfl (any_of HT_.out (by kernel_rfl)) (fun _ _ _ h=>h) (Or.inl ⟨rfl, ?_⟩) ?_ ?_; rotate_left
   ·intro w'; go_simp; with_reducible rfl
   rotate_left
   ·simp only [q_, i64_w, i32_w]; rfl
   refine done_ (done_of HT_.out (by kernel_rfl)) ?_
   try go_wp2
   go_ret
   exact ⟨by first | rfl | (simp [errW_none, errW_some] <;> rfl) | (simp [*, errW_none, errW_some] <;> rfl), pbx HB⟩
  ·rw [if_neg c6] at H
   exact absurd H (by simp)
 ·replace c3 := Bool.eq_false_iff.mpr c3; subst c3
  have H1 : (some (⟨#[]⟩ : ByteArray)) = some r := by rw [if_neg (show ¬ (false = true) by decide)] at H; exact H
  clear H; have H := H1; clear H1; obtain rfl := Option.some.inj H
  go_enter Tryd.func28, Tryd.ntmps28
  go_wp2_with (first | ((with_reducible refine gate_dst (N:=1) rfl ?_); refine be_ (N:=1) (cs := #[.int .i64 a0_0, .int .i64 a0_1]) (t:=23) ?_; intro gb101 hg w13 hbox hb; have BK101 := Aside0.mk (hbox); have GW101 := hs_ HB hg; have GE101 := hs_ HB hg; replace HB := bs_ HB hb; clear hb hbox hg; have hcz14_0 : w13.cell? ⟨gb101, 0, none⟩ = some (.int .i64 a0_0) := bc_ BK101 0 rfl; have hcz14_1 : w13.cell? ⟨gb101, 1, none⟩ = some (.int .i64 a0_1) := bc_ BK101 1 rfl; have hfz14_0 := blk_frozen BK101.out 0; have hfz14_1 := blk_frozen BK101.out 1) | ((with_reducible refine gate_callee (f:=25) rfl ?_); refine gL_ (some 4) rfl rfl Tryd.func25 rfl #[.agg #[.int .i64 a0_0, .int .i64 a0_1]] rfl ?_; (with_reducible refine (addr_May.calls a0_0 a0_1 false _ A2.out).mono ?_); rintro e w15 ⟨rfl, hb⟩; refine ⟨_, rfl, ?_⟩; replace BK101 := bb_ BK101 hb; replace HB := bs_ HB hb; (try clear hb); (try clear hb2); (try clear hk); (try clear hi)))
  go_ret
  exact ⟨by first | rfl | (simp [errW_none, errW_some] <;> rfl) | (simp [*, errW_none, errW_some] <;> rfl), pbx HB⟩

end Go.Proofs.YtcbjihedobhjcaaDoor.X
namespace Go.Proofs.YtcbjihedobhjcaaDoor.X
open Go.RowKit Go.Proofs.YtcbjihedobhjcaaDoorW.PrintWords Go.Proofs.YtcbjihedobhjcaaDoorW.PrintLast Go.Proofs.YtcbjihedobhjcaaDoorW.PrintMore
attribute [local go_sem] max2_int min2_int max_two min_two max_three min_three max_four min_four
set_option linter.unusedVariables false
set_option linter.unusedSimpArgs false
attribute [local go_sem high] eqA23
def span_Text.j0 : Nat → Bool → Int → Int → Int → Int → Option (ByteArray)
 | 0, _, _, _, _, _ => none
 | k + 1, x3, x102000, x102001, x102002, x102003 => if x3 = true then (some (⟨#[]⟩ : ByteArray)) else (if (x102000 == x102002 && (x102001 == x102003)) = true then ((addr_Name.f k x102000 x102001).bind fun t103 => (some t103)) else ((addr_Name.f k x102000 x102001).bind fun t104 => (if t104.size + 1 ≤ 9223372036854775807 then ((addr_Name.f k x102002 x102003).bind fun t105 => (if (t104 ++ (⟨#[58]⟩ : ByteArray)).size + t105.size ≤ 9223372036854775807 then (some ((t104 ++ (⟨#[58]⟩ : ByteArray)) ++ t105)) else (none))) else (none))))
def span_Text.f (k : Nat) (a0_0 : Int) (a0_1 : Int) (a0_2 : Int) (a0_3 : Int) : Option (ByteArray) := (span_May.f a0_0 a0_1 a0_2 a0_3).bind fun t102 => (span_Text.j0 k (!t102) a0_0 a0_1 a0_2 a0_3)
theorem span_Text.mono_l : ∀ k, (∀ y0 y1 y2 y3 y4, LeO (span_Text.j0 k y0 y1 y2 y3 y4) (span_Text.j0 (k + 1) y0 y1 y2 y3 y4))
 | 0 => fun _ _ _ _ _ r h => by simp [span_Text.j0] at h
 | k + 1 => by
  have ih0 := span_Text.mono_l k
  ·intro y0 y1 y2 y3 y4
   unfold span_Text.j0
   repeat' first
   | (with_reducible exact ih0 _ _ _ _ _)
   | (with_reducible exact addr_Name.mono _ _ _)
   | (with_reducible exact LeO.refl _)
   | (with_reducible exact LeO.none _)
   | (with_reducible refine LeO.ite ?_ ?_)
   | (with_reducible refine LeO.bind ?_ (fun _ => ?_))
theorem span_Text.mono : ∀ a0 a1 a2 a3 k, LeO (span_Text.f k a0 a1 a2 a3) (span_Text.f (k + 1) a0 a1 a2 a3) := by
 intro a0 a1 a2 a3 k; have ih0 := span_Text.mono_l k
 unfold span_Text.f
 repeat' first
   | (with_reducible exact ih0 _ _ _ _ _)
   | (with_reducible exact addr_Name.mono _ _ _)
   | (with_reducible exact LeO.refl _)
   | (with_reducible exact LeO.none _)
   | (with_reducible refine LeO.ite ?_ ?_)
   | (with_reducible refine LeO.bind ?_ (fun _ => ?_))
def span_Text.T5 : Bool × List (List Nat × List Nat) := (true, [([], []), ([0], [0]), ([1], [1]), ([2], [2]), ([], []), ([4], [4]), ([5, 2], [5]), ([3, 6], [3, 6]), ([7, 6, 0, 1, 2, 3, 4, 5, 6, 7], [7])])
def span_Text.B5 : List Nat := [0, 1, 3, 7, 0, 16, 55, 127, 255]
theorem span_Text.tab5 : rtab .any (opsOf Tryd.f22 5) = span_Text.T5 := by kernel_rfl
theorem span_Text.bits5 : waitsOk span_Text.T5.2 span_Text.B5 = true := by kernel_rfl
set_option maxHeartbeats 8000000 in
set_option maxRecDepth 100000 in
theorem span_Text.calls (k : Nat) (a0_0 : Int) (a0_1 : Int) (a0_2 : Int) (a0_3 : Int) (r : ByteArray) (w : World) (hT : Aside0 (Tab w)) (h : span_Text.f k a0_0 a0_1 a0_2 a0_3 = some r) :
  Calls Tryd.prog 22 #[.agg #[.int .i64 a0_0, .int .i64 a0_1, .int .i64 a0_2, .int .i64 a0_3]] w fun e w' => e = .returned (.string r) ∧ Below w.heap.size w w' := by
 have hu25 := Tryd.underlying25; have hu23 := Tryd.underlying23; have HB := Aside0.mk (Below.refl w.heap.size w)
 have H : ((span_May.f a0_0 a0_1 a0_2 a0_3).bind fun t102 => (span_Text.j0 k (!t102) a0_0 a0_1 a0_2 a0_3)) = some r := h
 clear h; have HC2 := Aside0.mk H; clear H
 go_enter Tryd.func22, Tryd.ntmps22
 go_upto_region 1 with (first | ((with_reducible refine gate_dst (N:=1) rfl ?_); refine be_ (N:=1) (cs := #[.int .i64 a0_0, .int .i64 a0_1, .int .i64 a0_2, .int .i64 a0_3]) (t:=25) ?_; intro gb101 hg w3 hbox hb; have BK101 := Aside0.mk (hbox); have GW101 := hs_ HB hg; have GE101 := hs_ HB hg; replace HB := bs_ HB hb; clear hb hbox hg))
 (try simp only [q_])
 go_cut [3] (fun v3 wc => ∃ (kq : Nat) (x3_1 : Bool), v3 = .bool x3_1 ∧ Aside0 (span_Text.j0 kq x3_1 a0_0 a0_1 a0_2 a0_3 = some r) ∧ Aside0 (kq ≤ k) ∧ Aside0 (wc.heap[gb101]? = some (.cells #[.int .i64 a0_0, .int .i64 a0_1, .int .i64 a0_2, .int .i64 a0_3] 25 (0, 0))) ∧ Aside0 (Below w.heap.size w wc))
 case first =>
  have H := HC2.out; clear HC2; replace H := Option.bind_eq_some_iff.mp H; obtain ⟨t102, A40, H⟩ := H
  replace H : (span_Text.j0 k (!t102) a0_0 a0_1 a0_2 a0_3) = some r := H
  have A4 := Aside0.mk A40; clear A40
  have H' := Aside0.mk H
  clear H
  have hcz5_0 : w3.cell? ⟨gb101, 0, none⟩ = some (.int .i64 a0_0) := bc_ BK101 0 rfl
  have hcz5_1 : w3.cell? ⟨gb101, 1, none⟩ = some (.int .i64 a0_1) := bc_ BK101 1 rfl
  have hcz5_2 : w3.cell? ⟨gb101, 2, none⟩ = some (.int .i64 a0_2) := bc_ BK101 2 rfl
  have hcz5_3 : w3.cell? ⟨gb101, 3, none⟩ = some (.int .i64 a0_3) := bc_ BK101 3 rfl
  have hfz5_0 := blk_frozen BK101.out 0; have hfz5_1 := blk_frozen BK101.out 1; have hfz5_2 := blk_frozen BK101.out 2; have hfz5_3 := blk_frozen BK101.out 3
  go_wp2_with (first | ((with_reducible refine gate_callee (f:=16) rfl ?_); refine gL_ (some 5) rfl rfl Tryd.func16 rfl #[.agg #[.int .i64 a0_0, .int .i64 a0_1, .int .i64 a0_2, .int .i64 a0_3]] rfl ?_; (with_reducible refine (span_May.calls a0_0 a0_1 a0_2 a0_3 t102 _ A4.out).mono ?_); rintro e w6 ⟨rfl, hb⟩; refine ⟨_, rfl, ?_⟩; replace BK101 := bb_ BK101 hb; replace HB := bs_ HB hb; (try clear hb); (try clear hb2); (try clear hk); (try clear hi)))
  go_meet
  case rel => exact ⟨_, (!t102), (by first | rfl | (simp; done) | (simp [*]; done) | (cases t102 <;> simp; done)), H', ⟨by first | omega | exact Nat.le_refl _⟩, ⟨pkx BK101⟩, ⟨pbx HB⟩⟩
 case rest =>
  clear HC2; (try clear c1); (try clear c2); (try clear p2); (try clear hcz5_0); (try clear hcz5_1); (try clear hcz5_2); (try clear hcz5_3); (try clear hfz5_0); (try clear hfz5_1); (try clear hfz5_2); (try clear hfz5_3); obtain ⟨kq, x3_1, rfl, HA, HJ1, BK101, HB⟩ := hcut
  cases kq with
  | zero => exact absurd HA.out (by simp [span_Text.j0])
  | succ kj1 =>
   have H := HA.out; clear HA
   simp only [span_Text.j0] at H
   by_cases c7 : x3_1 = true
   ·subst c7
    have H1 : (some (⟨#[]⟩ : ByteArray)) = some r := by rw [if_pos rfl] at H; exact H
    clear H; have H := H1; clear H1; obtain rfl := Option.some.inj H
    go_wp2
    go_ret
    exact ⟨by first | rfl | (simp [errW_none, errW_some] <;> rfl) | (simp [*, errW_none, errW_some] <;> rfl), pbx HB⟩
   ·replace c7 := Bool.eq_false_iff.mpr c7; subst c7
    have H1 : (if (a0_0 == a0_2 && (a0_1 == a0_3)) = true then ((addr_Name.f kj1 a0_0 a0_1).bind fun t103 => (some t103)) else ((addr_Name.f kj1 a0_0 a0_1).bind fun t104 => (if t104.size + 1 ≤ 9223372036854775807 then ((addr_Name.f kj1 a0_2 a0_3).bind fun t105 => (if (t104 ++ (⟨#[58]⟩ : ByteArray)).size + t105.size ≤ 9223372036854775807 then (some ((t104 ++ (⟨#[58]⟩ : ByteArray)) ++ t105)) else (none))) else (none)))) = some r := by rw [if_neg (show ¬ (false = true) by decide)] at H; exact H
    clear H; have H := H1; clear H1
    by_cases c8 : (a0_0 == a0_2 && (a0_1 == a0_3)) = true
    ·rw [if_pos c8] at H
     have c8b0 : (a0_0 == a0_2 && (a0_1 == a0_3)) = true := c8
     (try (have c8b1 : decide (a0_0 = a0_2 && (a0_1 == a0_3)) = true := by simpa using c8)); (try (have c8b2 : (a0_0 == a0_2 && (a0_1 == a0_3)) = true := by simpa using c8))
     clear c8; replace H := Option.bind_eq_some_iff.mp H; obtain ⟨t103, A90, H⟩ := H
     replace H : (some t103) = some r := H
     have A9 := Aside0.mk A90; clear A90; obtain rfl := Option.some.inj H
     have hcz10_0 : wc.cell? ⟨gb101, 0, none⟩ = some (.int .i64 a0_0) := bc_ BK101 0 rfl
     have hcz10_1 : wc.cell? ⟨gb101, 1, none⟩ = some (.int .i64 a0_1) := bc_ BK101 1 rfl
     have hcz10_2 : wc.cell? ⟨gb101, 2, none⟩ = some (.int .i64 a0_2) := bc_ BK101 2 rfl
     have hcz10_3 : wc.cell? ⟨gb101, 3, none⟩ = some (.int .i64 a0_3) := bc_ BK101 3 rfl
     have hfz10_0 := blk_frozen BK101.out 0; have hfz10_1 := blk_frozen BK101.out 1; have hfz10_2 := blk_frozen BK101.out 2; have hfz10_3 := blk_frozen BK101.out 3
     go_wp2_with (first | ((with_reducible refine gate_callee (f:=28) rfl ?_); refine gL_ (some 15) rfl rfl Tryd.func28 rfl #[.agg #[.int .i64 a0_0, .int .i64 a0_1]] rfl ?_; (with_reducible refine (addr_Name.calls kj1 a0_0 a0_1 t103 _ (by refine tb_ ?_ hT; repeat' (first | exact pbx HB | exact Below.refl _ _ | assumption | refine below_set ?_ (Aside0.out ?_))) A9.out).mono ?_); rintro e w11 ⟨rfl, hb⟩; refine ⟨_, rfl, ?_⟩; replace BK101 := bb_ BK101 hb; replace HB := bs_ HB hb; (try clear hb); (try clear hb2); (try clear hk); (try clear hi)))
     go_ret
     exact ⟨by first | rfl | (simp [errW_none, errW_some] <;> rfl) | (simp [*, errW_none, errW_some] <;> rfl), pbx HB⟩
    ·rw [if_neg c8] at H
     have c8b0 : (a0_0 == a0_2 && (a0_1 == a0_3)) = false := by simpa using c8
     (try (have c8b1 : decide (a0_0 = a0_2 && (a0_1 == a0_3)) = false := by simpa using c8)); (try (have c8b2 : (a0_0 == a0_2 && (a0_1 == a0_3)) = false := by simpa using c8)); (try (have c8b3 : ¬ (a0_0 = a0_2 && (a0_1 == a0_3)) := by simpa using c8))
     clear c8; replace H := Option.bind_eq_some_iff.mp H; obtain ⟨t104, A120, H⟩ := H
     replace H : (if t104.size + 1 ≤ 9223372036854775807 then ((addr_Name.f kj1 a0_2 a0_3).bind fun t105 => (if (t104 ++ (⟨#[58]⟩ : ByteArray)).size + t105.size ≤ 9223372036854775807 then (some ((t104 ++ (⟨#[58]⟩ : ByteArray)) ++ t105)) else (none))) else (none)) = some r := H
     have A12 := Aside0.mk A120; clear A120
     by_cases c13 : t104.size + 1 ≤ 9223372036854775807
     ·rw [if_pos c13] at H; have c13b0 := eq_true c13; have c13b1 : decide (t104.size + 1 ≤ 9223372036854775807) = true := decide_eq_true c13
      try have c13b2 : (9223372036854775807 < t104.size + 1) = False := eq_false (Nat.not_lt.2 c13)
      replace H := Option.bind_eq_some_iff.mp H; obtain ⟨t105, A140, H⟩ := H
      replace H : (if (t104 ++ (⟨#[58]⟩ : ByteArray)).size + t105.size ≤ 9223372036854775807 then (some ((t104 ++ (⟨#[58]⟩ : ByteArray)) ++ t105)) else (none)) = some r := H
      have A14 := Aside0.mk A140; clear A140
      by_cases c15 : (t104 ++ (⟨#[58]⟩ : ByteArray)).size + t105.size ≤ 9223372036854775807
      ·rw [if_pos c15] at H; have c15b0 := eq_true c15; have c15b1 : decide ((t104 ++ (⟨#[58]⟩ : ByteArray)).size + t105.size ≤ 9223372036854775807) = true := decide_eq_true c15
       try have c15b2 : (9223372036854775807 < (t104 ++ (⟨#[58]⟩ : ByteArray)).size + t105.size) = False := eq_false (Nat.not_lt.2 c15)
       try have c15b2z : (9223372036854775807 < t104.size + 1 + t105.size) = False := by have h9_ := c15b2; rw [ByteArray.size_append] at h9_; exact h9_
       obtain rfl := Option.some.inj H
       have hcz16_0 : wc.cell? ⟨gb101, 0, none⟩ = some (.int .i64 a0_0) := bc_ BK101 0 rfl
       have hcz16_1 : wc.cell? ⟨gb101, 1, none⟩ = some (.int .i64 a0_1) := bc_ BK101 1 rfl
       have hcz16_2 : wc.cell? ⟨gb101, 2, none⟩ = some (.int .i64 a0_2) := bc_ BK101 2 rfl
       have hcz16_3 : wc.cell? ⟨gb101, 3, none⟩ = some (.int .i64 a0_3) := bc_ BK101 3 rfl
       have hfz16_0 := blk_frozen BK101.out 0; have hfz16_1 := blk_frozen BK101.out 1; have hfz16_2 := blk_frozen BK101.out 2; have hfz16_3 := blk_frozen BK101.out 3
       try go_wp2
       (try (rw [drewN_self wc]; generalize hq_ : World.drewN wc _ = wc; have n0_ : Aside0 (wc.heap[gb101]? = some (.cells #[.int .i64 a0_0, .int .i64 a0_1, .int .i64 a0_2, .int .i64 a0_3] 25 (0, 0))) := ⟨by rw [← hq_]; exact (pkx BK101)⟩; have n1_ : Aside0 (Below w.heap.size w wc) := ⟨by rw [← hq_]; exact (pbx HB)⟩; clear BK101 HB hq_; have BK101 := n0_; have HB := n1_; clear n0_ n1_))
       replace BK101 := Aside0.mk (blk_drew BK101.out); replace HB := Aside0.mk (below_drew1 HB.out)
       refine start_ (n:=9) (S := fun w' => w'.cell? ⟨gb101, 0, none⟩ = some (.int .i64 a0_0) ∧ w'.cell? ⟨gb101, 1, none⟩ = some (.int .i64 a0_1) ∧ w'.cell? ⟨gb101, 2, none⟩ = some (.int .i64 a0_2) ∧ w'.cell? ⟨gb101, 3, none⟩ = some (.int .i64 a0_3)) (ds := []) #[F,F,F,F,F,F,F,F,F] (by kernel_rfl) rfl rfl ⟨bc_ BK101 0 rfl, bc_ BK101 1 rfl, bc_ BK101 2 rfl, bc_ BK101 3 rfl⟩ (fun hHeld => ?_); refine with_tabW span_Text.tab5 span_Text.bits5 (fun HT_ HW_ => ?_)
       generalize wc.drew = w17 at BK101 HB hHeld ⊢; refine pure_ (i:=0) (N:=some 16) (v:=?_) (a':=?_) ⟨m_ 9 1⟩ rfl rfl (any_of HT_.out (by kernel_rfl)) (fun _ _ _ h=>h) (Or.inl ⟨rfl, ?_⟩) ?_ ?_; rotate_left
       ·intro w'; go_simp; with_reducible rfl
       rotate_left
       ·simp only [q_, i64_w, i32_w]; rfl
       refine pure_ (i:=4) (N:=some 20) (v:=?_) (a':=?_) ⟨m_ 9 17⟩ rfl rfl (any_of HT_.out (by kernel_rfl)) (fun _ _ _ h=>h) (Or.inl ⟨rfl, ?_⟩) ?_ ?_; rotate_left
       ·intro w'; go_simp; with_reducible rfl
       rotate_left
       ·simp only [q_, i64_w, i32_w]; rfl
       refine take_ (i:=1) (N:=some 17) (v:=?_) (a':=?_) ⟨m_ 9 19⟩ rfl rfl (take_ofW HT_.out HW_.out (by kernel_rfl)) (fun _ _ _ h=>h) (Or.inl ⟨rfl, ?_⟩) hHeld ?_ ?_; rotate_left
       ·rintro w' ⟨s0, s1, s2, s3⟩; go_simp; with_reducible rfl
       rotate_left
       ·simp only [q_, i64_w, i32_w]; rfl
       refine take_ (i:=5) (N:=some 21) (v:=?_) (a':=?_) ⟨m_ 9 51⟩ rfl rfl (take_ofW HT_.out HW_.out (by kernel_rfl)) (fun _ _ _ h=>h) (Or.inl ⟨rfl, ?_⟩) hHeld ?_ ?_; rotate_left
       ·rintro w' ⟨s0, s1, s2, s3⟩; go_simp; with_reducible rfl
       rotate_left
       ·simp only [q_, i64_w, i32_w]; rfl
       refine one_ (i:=2) (N:=some 18) ⟨m_ 9 55⟩ rfl rfl (one_of HT_.out (by kernel_rfl)) (by decide) (fun K hK => ?_); refine goes_ Tryd.func28 (by kernel_rfl) rfl #[.agg #[.int .i64 a0_0, .int .i64 a0_1]] (by rfl) rfl rfl (by (try simp only [List.map_toArray, List.map_cons, List.map_nil]); first | done | rfl | (simp only [List.length_drop, List.length_take]; rfl)) ?_; with_reducible refine (addr_Name.calls kj1 a0_0 a0_1 t104 _ (by refine tb_ ?_ hT; repeat' (first | exact pbx HB | exact Below.refl _ _ | assumption | refine below_set ?_ (Aside0.out ?_))) A12.out).mono ?_; rintro e w18 ⟨rfl, hb⟩; refine ⟨_, rfl, ?_⟩
       replace BK101 := bb_ BK101 hb; replace HB := bs_ HB hb; (try clear hb); (try clear hb2); (try clear hk); (try clear hi); refine hK.out _ _ ⟨bc_ BK101 0 rfl, bc_ BK101 1 rfl, bc_ BK101 2 rfl, bc_ BK101 3 rfl⟩ (fun hHeld => ?_); clear hK K; refine norm_ (a':=?_) ?_ ?_; rotate_left
       ·show Act.put _ (some 18) _ = _; simp only [q_, i64_w, i32_w]; rfl
       refine pure_ (i:=3) (N:=some 19) (v:=?_) (a':=?_) ⟨m_ 9 63⟩ rfl rfl (any_of HT_.out (by kernel_rfl)) (fun _ _ _ h=>h) (Or.inl ⟨rfl, ?_⟩) ?_ ?_; rotate_left
       ·intro w'; go_simp; with_reducible rfl
       rotate_left
       ·simp only [q_, i64_w, i32_w]; rfl
       refine one_ (i:=6) (N:=some 22) ⟨m_ 9 127⟩ rfl rfl (one_of HT_.out (by kernel_rfl)) (by decide) (fun K hK => ?_); refine goes_ Tryd.func28 (by kernel_rfl) rfl #[.agg #[.int .i64 a0_2, .int .i64 a0_3]] (by rfl) rfl rfl (by (try simp only [List.map_toArray, List.map_cons, List.map_nil]); first | done | rfl | (simp only [List.length_drop, List.length_take]; rfl)) ?_; with_reducible refine (addr_Name.calls kj1 a0_2 a0_3 t105 _ (by refine tb_ ?_ hT; repeat' (first | exact pbx HB | exact Below.refl _ _ | assumption | refine below_set ?_ (Aside0.out ?_))) A14.out).mono ?_; rintro e w19 ⟨rfl, hb⟩; refine ⟨_, rfl, ?_⟩
       replace BK101 := bb_ BK101 hb; replace HB := bs_ HB hb; (try clear hb); (try clear hb2); (try clear hk); (try clear hi); refine hK.out _ _ ⟨bc_ BK101 0 rfl, bc_ BK101 1 rfl, bc_ BK101 2 rfl, bc_ BK101 3 rfl⟩ (fun hHeld => ?_); clear hK K; refine norm_ (a':=?_) ?_ ?_; rotate_left
       ·show Act.put _ (some 22) _ = _; simp only [q_, i64_w, i32_w]; rfl
       refine pure_ (i:=7) (N:=some 23) (v:=?_) (a':=?_) ⟨m_ 9 255⟩ rfl rfl (any_of HT_.out (by kernel_rfl)) (fun _ _ _ h=>h) (Or.inl ⟨rfl, ?_⟩) ?_ ?_; rotate_left
       ·intro w'; go_simp; with_reducible rfl
       rotate_left
       ·simp only [q_, i64_w, i32_w]; rfl
       refine pure_ (i:=8) (N:=some 2) (v:=?_) (a':=?_) ⟨m_ 9 511⟩ rfl rfl (any_of HT_.out (by kernel_rfl)) (fun _ _ _ h=>h) (Or.inl ⟨rfl, ?_⟩) ?_ ?_; rotate_left
       ·intro w'; go_simp; with_reducible rfl
       rotate_left
       ·simp only [q_, i64_w, i32_w]; rfl
       refine done_ (done_of HT_.out (by kernel_rfl)) ?_
       try go_wp2
       go_ret
       exact ⟨by first | rfl | (simp [errW_none, errW_some] <;> rfl) | (simp [*, errW_none, errW_some] <;> rfl), pbx HB⟩
      ·rw [if_neg c15] at H
       exact absurd H (by simp)
     ·rw [if_neg c13] at H
      exact absurd H (by simp)

def oculuslaw04_alive.f (k : Nat)  : Option (Bool) := (span_Parse.f k (⟨#[66, 50, 58, 65, 49]⟩ : ByteArray)).bind fun bt101 => ((span_Cells.f bt101.1 bt101.2.1 bt101.2.2.1 bt101.2.2.2.1).bind fun t107 => (if bt101.2.2.2.2 = true then (if (t107.length : Int) = 4 then (if 0 < (t107.length : Int) then (if (((rd_T23 t107 0).f0) == 0 && (((rd_T23 t107 0).f1) == 0)) = true then (if 1 < (t107.length : Int) then (if (((rd_T23 t107 1).f0) == 0 && (((rd_T23 t107 1).f1) == 1)) = true then ((span_Text.f k bt101.1 bt101.2.1 bt101.2.2.1 bt101.2.2.2.1).bind fun t112 => (if t112.toList = ([66, 50, 58, 65, 49] : List UInt8) then ((span_Straight.f bt101.1 bt101.2.1 bt101.2.2.1 bt101.2.2.2.1).bind fun bt113 => ((span_Text.f k bt113.1 bt113.2.1 bt113.2.2.1 bt113.2.2.2).bind fun t117 => (if t117.toList = ([65, 49, 58, 66, 50] : List UInt8) then ((span_Size.f bt101.1 bt101.2.1 bt101.2.2.1 bt101.2.2.2.1).bind fun t118 => (some (t118 == 4))) else (none)))) else (none))) else (none)) else (none)) else (none)) else (none)) else (none)) else (none)))
theorem oculuslaw04_alive.mono : ∀ k, LeO (oculuslaw04_alive.f k ) (oculuslaw04_alive.f (k + 1) ) := by
 intro  k
 unfold oculuslaw04_alive.f
 repeat' first
   | (with_reducible exact span_Parse.mono _ _)
   | (with_reducible exact span_Text.mono _ _ _ _ _)
   | (with_reducible exact LeO.refl _)
   | (with_reducible exact LeO.none _)
   | (with_reducible refine LeO.ite ?_ ?_)
   | (with_reducible refine LeO.bind ?_ (fun _ => ?_))
set_option maxHeartbeats 8000000 in
set_option maxRecDepth 100000 in
theorem oculuslaw04_alive.calls (k : Nat)  (r : Bool) (w : World) (hT : Aside0 (Tab w)) (h : oculuslaw04_alive.f k  = some r) :
  Calls Tryd.prog 11 #[] w fun e w' => e = .returned (.bool r) ∧ Below w.heap.size w w' := by
 have hu25 := Tryd.underlying25; have hu23 := Tryd.underlying23; have HB := Aside0.mk (Below.refl w.heap.size w)
 have H : ((span_Parse.f k (⟨#[66, 50, 58, 65, 49]⟩ : ByteArray)).bind fun bt101 => ((span_Cells.f bt101.1 bt101.2.1 bt101.2.2.1 bt101.2.2.2.1).bind fun t107 => (if bt101.2.2.2.2 = true then (if (t107.length : Int) = 4 then (if 0 < (t107.length : Int) then (if (((rd_T23 t107 0).f0) == 0 && (((rd_T23 t107 0).f1) == 0)) = true then (if 1 < (t107.length : Int) then (if (((rd_T23 t107 1).f0) == 0 && (((rd_T23 t107 1).f1) == 1)) = true then ((span_Text.f k bt101.1 bt101.2.1 bt101.2.2.1 bt101.2.2.2.1).bind fun t112 => (if t112.toList = ([66, 50, 58, 65, 49] : List UInt8) then ((span_Straight.f bt101.1 bt101.2.1 bt101.2.2.1 bt101.2.2.2.1).bind fun bt113 => ((span_Text.f k bt113.1 bt113.2.1 bt113.2.2.1 bt113.2.2.2).bind fun t117 => (if t117.toList = ([65, 49, 58, 66, 50] : List UInt8) then ((span_Size.f bt101.1 bt101.2.1 bt101.2.2.1 bt101.2.2.2.1).bind fun t118 => (some (t118 == 4))) else (none)))) else (none))) else (none)) else (none)) else (none)) else (none)) else (none)) else (none)))) = some r := h
 clear h; replace H := Option.bind_eq_some_iff.mp H; obtain ⟨⟨t101, t102, t103, t104, t105⟩, A10, H⟩ := H
 replace H : ((span_Cells.f t101 t102 t103 t104).bind fun t107 => (if t105 = true then (if (t107.length : Int) = 4 then (if 0 < (t107.length : Int) then (if (((rd_T23 t107 0).f0) == 0 && (((rd_T23 t107 0).f1) == 0)) = true then (if 1 < (t107.length : Int) then (if (((rd_T23 t107 1).f0) == 0 && (((rd_T23 t107 1).f1) == 1)) = true then ((span_Text.f k t101 t102 t103 t104).bind fun t112 => (if t112.toList = ([66, 50, 58, 65, 49] : List UInt8) then ((span_Straight.f t101 t102 t103 t104).bind fun bt113 => ((span_Text.f k bt113.1 bt113.2.1 bt113.2.2.1 bt113.2.2.2).bind fun t117 => (if t117.toList = ([65, 49, 58, 66, 50] : List UInt8) then ((span_Size.f t101 t102 t103 t104).bind fun t118 => (some (t118 == 4))) else (none)))) else (none))) else (none)) else (none)) else (none)) else (none)) else (none)) else (none))) = some r := H
 have A1 := Aside0.mk A10; clear A10; replace H := Option.bind_eq_some_iff.mp H; obtain ⟨t107, A20, H⟩ := H
 replace H : (if t105 = true then (if (t107.length : Int) = 4 then (if 0 < (t107.length : Int) then (if (((rd_T23 t107 0).f0) == 0 && (((rd_T23 t107 0).f1) == 0)) = true then (if 1 < (t107.length : Int) then (if (((rd_T23 t107 1).f0) == 0 && (((rd_T23 t107 1).f1) == 1)) = true then ((span_Text.f k t101 t102 t103 t104).bind fun t112 => (if t112.toList = ([66, 50, 58, 65, 49] : List UInt8) then ((span_Straight.f t101 t102 t103 t104).bind fun bt113 => ((span_Text.f k bt113.1 bt113.2.1 bt113.2.2.1 bt113.2.2.2).bind fun t117 => (if t117.toList = ([65, 49, 58, 66, 50] : List UInt8) then ((span_Size.f t101 t102 t103 t104).bind fun t118 => (some (t118 == 4))) else (none)))) else (none))) else (none)) else (none)) else (none)) else (none)) else (none)) else (none)) = some r := H
 have A2 := Aside0.mk A20; clear A20
 by_cases c3 : t105 = true
 ·subst c3
  have H1 : (if (t107.length : Int) = 4 then (if 0 < (t107.length : Int) then (if (((rd_T23 t107 0).f0) == 0 && (((rd_T23 t107 0).f1) == 0)) = true then (if 1 < (t107.length : Int) then (if (((rd_T23 t107 1).f0) == 0 && (((rd_T23 t107 1).f1) == 1)) = true then ((span_Text.f k t101 t102 t103 t104).bind fun t112 => (if t112.toList = ([66, 50, 58, 65, 49] : List UInt8) then ((span_Straight.f t101 t102 t103 t104).bind fun bt113 => ((span_Text.f k bt113.1 bt113.2.1 bt113.2.2.1 bt113.2.2.2).bind fun t117 => (if t117.toList = ([65, 49, 58, 66, 50] : List UInt8) then ((span_Size.f t101 t102 t103 t104).bind fun t118 => (some (t118 == 4))) else (none)))) else (none))) else (none)) else (none)) else (none)) else (none)) else (none)) = some r := by rw [if_pos rfl] at H; exact H
  clear H; have H := H1; clear H1
  by_cases c4 : (t107.length : Int) = 4
  ·rw [if_pos c4] at H; have c4b0 : ((t107.length : Int) == 4) = true := beq_iff_eq.mpr c4; have c4b1 : ((t107.length : Int) != 4) = false := bne_eq_false_iff_eq.mpr c4; clear c4
   by_cases c5 : 0 < (t107.length : Int)
   ·rw [if_pos c5] at H; have c5b0 : decide (0 < (t107.length : Int)) = true := decide_eq_true c5; have c5b1 : decide (0 < t107.length) = true := decide_eq_true (by omega); clear c5
    by_cases c6 : (((rd_T23 t107 0).f0) == 0 && (((rd_T23 t107 0).f1) == 0)) = true
    ·rw [if_pos c6] at H
     have c6b0 : (((rd_T23 t107 0).f0) == 0 && (((rd_T23 t107 0).f1) == 0)) = true := c6
     (try (have c6b1 : decide (((rd_T23 t107 0).f0) = 0 && (((rd_T23 t107 0).f1) == 0)) = true := by simpa using c6)); (try (have c6b2 : (((rd_T23 t107 0).f0) == 0 && (((rd_T23 t107 0).f1) == 0)) = true := by simpa using c6)); clear c6
     by_cases c7 : 1 < (t107.length : Int)
     ·rw [if_pos c7] at H; have c7b0 : decide (1 < (t107.length : Int)) = true := decide_eq_true c7; have c7b1 : decide (1 < t107.length) = true := decide_eq_true (by omega); clear c7
      by_cases c8 : (((rd_T23 t107 1).f0) == 0 && (((rd_T23 t107 1).f1) == 1)) = true
      ·rw [if_pos c8] at H
       have c8b0 : (((rd_T23 t107 1).f0) == 0 && (((rd_T23 t107 1).f1) == 1)) = true := c8
       (try (have c8b1 : decide (((rd_T23 t107 1).f0) = 0 && (((rd_T23 t107 1).f1) == 1)) = true := by simpa using c8)); (try (have c8b2 : (((rd_T23 t107 1).f0) == 0 && (((rd_T23 t107 1).f1) == 1)) = true := by simpa using c8))
       clear c8; replace H := Option.bind_eq_some_iff.mp H; obtain ⟨t112, A90, H⟩ := H
       replace H : (if t112.toList = ([66, 50, 58, 65, 49] : List UInt8) then ((span_Straight.f t101 t102 t103 t104).bind fun bt113 => ((span_Text.f k bt113.1 bt113.2.1 bt113.2.2.1 bt113.2.2.2).bind fun t117 => (if t117.toList = ([65, 49, 58, 66, 50] : List UInt8) then ((span_Size.f t101 t102 t103 t104).bind fun t118 => (some (t118 == 4))) else (none)))) else (none)) = some r := H
       have A9 := Aside0.mk A90; clear A90
       by_cases c10 : t112.toList = ([66, 50, 58, 65, 49] : List UInt8)
       ·rw [if_pos c10] at H; have c10b0 : (t112.toList == ([66, 50, 58, 65, 49] : List UInt8)) = true := beq_iff_eq.mpr c10; have c10b1 : (t112.toList != ([66, 50, 58, 65, 49] : List UInt8)) = false := bne_eq_false_iff_eq.mpr c10; clear c10; replace H := Option.bind_eq_some_iff.mp H; obtain ⟨⟨t113, t114, t115, t116⟩, A110, H⟩ := H
        replace H : ((span_Text.f k t113 t114 t115 t116).bind fun t117 => (if t117.toList = ([65, 49, 58, 66, 50] : List UInt8) then ((span_Size.f t101 t102 t103 t104).bind fun t118 => (some (t118 == 4))) else (none))) = some r := H
        have A11 := Aside0.mk A110; clear A110; replace H := Option.bind_eq_some_iff.mp H; obtain ⟨t117, A120, H⟩ := H
        replace H : (if t117.toList = ([65, 49, 58, 66, 50] : List UInt8) then ((span_Size.f t101 t102 t103 t104).bind fun t118 => (some (t118 == 4))) else (none)) = some r := H
        have A12 := Aside0.mk A120; clear A120
        by_cases c13 : t117.toList = ([65, 49, 58, 66, 50] : List UInt8)
        ·rw [if_pos c13] at H; have c13b0 : (t117.toList == ([65, 49, 58, 66, 50] : List UInt8)) = true := beq_iff_eq.mpr c13; have c13b1 : (t117.toList != ([65, 49, 58, 66, 50] : List UInt8)) = false := bne_eq_false_iff_eq.mpr c13; clear c13; replace H := Option.bind_eq_some_iff.mp H; obtain ⟨t118, A140, H⟩ := H
         replace H : (some (t118 == 4)) = some r := H
         have A14 := Aside0.mk A140; clear A140; obtain rfl := Option.some.inj H
         go_enter Tryd.func11, Tryd.ntmps11
         go_wp2_with (first | ((with_reducible refine gate_callee (f:=21) rfl ?_); refine gL_ (some 5) rfl rfl Tryd.func21 rfl #[.string (⟨#[66, 50, 58, 65, 49]⟩ : ByteArray)] rfl ?_; (with_reducible refine (span_Parse.calls k (⟨#[66, 50, 58, 65, 49]⟩ : ByteArray) t101 t102 t103 t104 true _ A1.out).mono ?_); rintro e w15 ⟨rfl, hb⟩; refine ⟨_, rfl, ?_⟩; replace HB := bs_ HB hb; (try clear hb); (try clear hb2); (try clear hk); (try clear hi)) | ((with_reducible refine gate_dst (N:=1) rfl ?_); (try (refine gate_guard (by rfl) ?_; dsimp only)); refine be_ (N:=1) (cs := #[.int .i64 0, .int .i64 0, .int .i64 0, .int .i64 0]) (t:=25) ?_; intro gb106 hg w16 hbox hb; have BK106 := Aside0.mk (hbox); have GW106 := hs_ HB hg; have GE106 := hs_ HB hg; replace HB := bs_ HB hb; clear hb hbox hg; have hcz17_0 : w16.cell? ⟨gb106, 0, none⟩ = some (.int .i64 0) := bc_ BK106 0 rfl; have hcz17_1 : w16.cell? ⟨gb106, 1, none⟩ = some (.int .i64 0) := bc_ BK106 1 rfl; have hcz17_2 : w16.cell? ⟨gb106, 2, none⟩ = some (.int .i64 0) := bc_ BK106 2 rfl; have hcz17_3 : w16.cell? ⟨gb106, 3, none⟩ = some (.int .i64 0) := bc_ BK106 3 rfl; have hfz17_0 := blk_frozen BK106.out 0; have hfz17_1 := blk_frozen BK106.out 1; have hfz17_2 := blk_frozen BK106.out 2; have hfz17_3 := blk_frozen BK106.out 3) | ((with_reducible refine gate_callee (f:=4) rfl ?_); refine gL_ (some 9) rfl rfl Tryd.func4 rfl #[.agg #[.int .i64 t101, .int .i64 t102, .int .i64 t103, .int .i64 t104]] rfl ?_; (with_reducible refine (span_Cells.calls t101 t102 t103 t104 t107 _ A2.out).mono ?_); rintro e w18 ⟨v108, rfl, ho0, hb⟩; refine ⟨_, rfl, ?_⟩; have HO109 := Aside0.mk (Kd.R_lower ho0 (below_size (by repeat (first | (with_reducible first | exact HB.out | apply below_alloc | apply pw_below_drewN | apply below_drew1 | refine below_set ?_ GE106.out) | exact HB.out)))); replace BK106 := Aside0.mk (blk_below (g:=gb106) (o := .cells #[.int .i64 t101, .int .i64 t102, .int .i64 t103, .int .i64 t104] 25 (0, 0)) (by refine pp_ (cs := #[.int .i64 t101, .int .i64 t102, .int .i64 t103, .int .i64 0]) 3 ?_ rfl; refine blk_put (cs := #[.int .i64 t101, .int .i64 t102, .int .i64 0, .int .i64 0]) ?_ 2 _ rfl; refine blk_put (cs := #[.int .i64 t101, .int .i64 0, .int .i64 0, .int .i64 0]) ?_ 1 _ rfl; refine blk_put (cs := #[.int .i64 0, .int .i64 0, .int .i64 0, .int .i64 0]) ?_ 0 _ rfl; exact pkx BK106) hb); replace HB := Aside0.mk (below_step (by repeat (first | (with_reducible first | exact HB.out | apply below_alloc | apply pw_below_drewN | apply below_drew1 | refine below_set ?_ GE106.out) | exact HB.out)) hb); (try clear hb); (try clear hb2); (try clear hk); (try clear hi); (try clear ho0); obtain ⟨Ao19, co19, eo19⟩ := Kd.R_slice HO109.out; subst eo19; have p110 : 0 ≤ (0 : Int) := (by omega); have q110 : 0 < (t107.length : Int) := of_decide_eq_true (by first | (with_reducible assumption) | assumption); obtain ⟨ad110, e110, hx110_0, hx110_1⟩ := at_T23 (Kd.R_reads' HO109.out).2.2 0 p110 q110; cases e110; have qi110 : (0 < t107.length) = True := eq_true (by omega); (try rw [show ((0 : Int)).toNat = 0 from rfl] at hx110_0); (try rw [show 0 * 2 = 0 from rfl] at hx110_0); (try rw [Addr.add_zero'] at hx110_0); (try rw [show ((0 : Int)).toNat = 0 from rfl] at hx110_1); (try rw [show 0 * 2 = 0 from rfl] at hx110_1); (try rw [Addr.add_zero'] at hx110_1); replace p110 := eq_true p110; replace q110 := eq_true q110; have p111 : 0 ≤ (1 : Int) := (by omega); have q111 : 1 < (t107.length : Int) := of_decide_eq_true (by first | (with_reducible assumption) | assumption); obtain ⟨ad111, e111, hx111_0, hx111_1⟩ := at_T23 (Kd.R_reads' HO109.out).2.2 1 p111 q111; obtain rfl : ad110 = ad111 := (by injection e111); (try simp only [show (1 : Int).toNat = 1 from rfl, Nat.reduceMul, Nat.reduceEqDiff, Go.Addr.add, ↓reduceIte] at hx111_0); (try simp only [show (1 : Int).toNat = 1 from rfl, Nat.reduceMul, Nat.reduceEqDiff, Go.Addr.add, ↓reduceIte] at hx111_1); have qi111 : (1 < t107.length) = True := eq_true (by omega); (try rw [show ((1 : Int)).toNat = 1 from rfl] at hx111_0); (try rw [show 1 * 2 = 2 from rfl] at hx111_0); (try rw [show ((1 : Int)).toNat = 1 from rfl] at hx111_1); (try rw [show 1 * 2 = 2 from rfl] at hx111_1); replace p111 := eq_true p111; replace q111 := eq_true q111; have hcz20_0 : w18.cell? ⟨gb106, 0, none⟩ = some (.int .i64 t101) := bc_ BK106 0 rfl; have hcz20_1 : w18.cell? ⟨gb106, 1, none⟩ = some (.int .i64 t102) := bc_ BK106 1 rfl; have hcz20_2 : w18.cell? ⟨gb106, 2, none⟩ = some (.int .i64 t103) := bc_ BK106 2 rfl; have hcz20_3 : w18.cell? ⟨gb106, 3, none⟩ = some (.int .i64 t104) := bc_ BK106 3 rfl; have hfz20_0 := blk_frozen BK106.out 0; have hfz20_1 := blk_frozen BK106.out 1; have hfz20_2 := blk_frozen BK106.out 2; have hfz20_3 := blk_frozen BK106.out 3) | (go_at_call 22; (with_reducible refine (span_Text.calls k t101 t102 t103 t104 t112 _ (by refine tb_ ?_ hT; repeat' (first | exact pbx HB | exact Below.refl _ _ | assumption | refine below_set ?_ (Aside0.out ?_))) A9.out).mono ?_); rintro e w21 ⟨rfl, hb⟩; replace HO109 := Aside0.mk (Kd.R_below (by (with_reducible repeat (first | apply Kd.R_alloc | apply Kd.R_drewN | apply Kd.R_drew)); exact HO109.out) hb); replace BK106 := bb_ BK106 hb; replace HB := bs_ HB hb; (try clear hb); (try clear hb2); (try clear hk); (try clear hi); have hcz22_0 : w21.cell? ⟨gb106, 0, none⟩ = some (.int .i64 t101) := bc_ BK106 0 rfl; have hcz22_1 : w21.cell? ⟨gb106, 1, none⟩ = some (.int .i64 t102) := bc_ BK106 1 rfl; have hcz22_2 : w21.cell? ⟨gb106, 2, none⟩ = some (.int .i64 t103) := bc_ BK106 2 rfl; have hcz22_3 : w21.cell? ⟨gb106, 3, none⟩ = some (.int .i64 t104) := bc_ BK106 3 rfl; have hfz22_0 := blk_frozen BK106.out 0; have hfz22_1 := blk_frozen BK106.out 1; have hfz22_2 := blk_frozen BK106.out 2; have hfz22_3 := blk_frozen BK106.out 3) | (go_at_call 17; (with_reducible refine (span_Straight.calls t101 t102 t103 t104 t113 t114 t115 t116 _ A11.out).mono ?_); rintro e w23 ⟨rfl, hb⟩; replace HO109 := Aside0.mk (Kd.R_below (by (with_reducible repeat (first | apply Kd.R_alloc | apply Kd.R_drewN | apply Kd.R_drew)); exact HO109.out) hb); replace BK106 := bb_ BK106 hb; replace HB := bs_ HB hb; (try clear hb); (try clear hb2); (try clear hk); (try clear hi)) | (go_at_call 22; (with_reducible refine (span_Text.calls k t113 t114 t115 t116 t117 _ (by refine tb_ ?_ hT; repeat' (first | exact pbx HB | exact Below.refl _ _ | assumption | refine below_set ?_ (Aside0.out ?_))) A12.out).mono ?_); rintro e w24 ⟨rfl, hb⟩; replace HO109 := Aside0.mk (Kd.R_below (by (with_reducible repeat (first | apply Kd.R_alloc | apply Kd.R_drewN | apply Kd.R_drew)); exact HO109.out) hb); replace BK106 := bb_ BK106 hb; replace HB := bs_ HB hb; (try clear hb); (try clear hb2); (try clear hk); (try clear hi); have hcz25_0 : w24.cell? ⟨gb106, 0, none⟩ = some (.int .i64 t101) := bc_ BK106 0 rfl; have hcz25_1 : w24.cell? ⟨gb106, 1, none⟩ = some (.int .i64 t102) := bc_ BK106 1 rfl; have hcz25_2 : w24.cell? ⟨gb106, 2, none⟩ = some (.int .i64 t103) := bc_ BK106 2 rfl; have hcz25_3 : w24.cell? ⟨gb106, 3, none⟩ = some (.int .i64 t104) := bc_ BK106 3 rfl; have hfz25_0 := blk_frozen BK106.out 0; have hfz25_1 := blk_frozen BK106.out 1; have hfz25_2 := blk_frozen BK106.out 2; have hfz25_3 := blk_frozen BK106.out 3) | (go_at_call 10; (with_reducible refine (span_Size.calls t101 t102 t103 t104 t118 _ A14.out).mono ?_); rintro e w26 ⟨rfl, hb⟩; replace HO109 := Aside0.mk (Kd.R_below (by (with_reducible repeat (first | apply Kd.R_alloc | apply Kd.R_drewN | apply Kd.R_drew)); exact HO109.out) hb); replace BK106 := bb_ BK106 hb; replace HB := bs_ HB hb; (try clear hb); (try clear hb2); (try clear hk); (try clear hi)))
         go_ret
         exact ⟨by first | rfl | (simp [errW_none, errW_some] <;> rfl) | (simp [*, errW_none, errW_some] <;> rfl), pbx HB⟩
        ·rw [if_neg c13] at H
         exact absurd H (by simp)
       ·rw [if_neg c10] at H
        exact absurd H (by simp)
      ·rw [if_neg c8] at H
       exact absurd H (by simp)
     ·rw [if_neg c7] at H
      exact absurd H (by simp)
    ·rw [if_neg c6] at H
     exact absurd H (by simp)
   ·rw [if_neg c5] at H
    exact absurd H (by simp)
  ·rw [if_neg c4] at H
   exact absurd H (by simp)
 ·replace c3 := Bool.eq_false_iff.mpr c3; subst c3
  have H1 : (none) = some r := by rw [if_neg (show ¬ (false = true) by decide)] at H; exact H
  clear H; have H := H1; clear H1
  exact absurd H (by simp)

end Go.Proofs.YtcbjihedobhjcaaDoor.X
/- The law SpanCells, walked by hand: the row of cells, its reference, each cell's two neighbours, and the iterator gone through. -/
set_option linter.unusedVariables false
set_option linter.unusedSimpArgs false
namespace Go.Proofs.YtcbjihedobhjcaaDoor.X
open Go.RowKit Go.Shelf Go.Sort Go.Proofs.YtcbjihedobhjcaaDoorW.PrintWords Go.Proofs.YtcbjihedobhjcaaDoorW.PrintLast Go.Proofs.YtcbjihedobhjcaaDoorW.PrintMore
attribute [local go_sem] Oper.semAt_some
section
variable {F : Fence} {n : Nat} {P : Program} {ops : Array Oper} {C : World → Prop}
theorem wpQuiet_skip {Q : Act → Prop} {a : Act} {o : Oper} {rest : List Oper} (hw : Region.wanted o (yielded ops a.tmps) = false) (h : wpQuiet P ops C Q rest (a.put o.dst undef)) : wpQuiet P ops C Q (o :: rest) a := by
  unfold wpQuiet
  rw [if_neg (by simp [hw])]
  exact h
theorem wpQuietIn_skip {Q : Act → Prop} {a : Act} {o : Oper} {rest : List Oper} (ha : o.askedIn F P a C) (hw : Region.wanted o (yielded ops a.tmps) = false) (h : wpQuietIn F n P ops C Q rest (a.put o.dst undef)) : wpQuietIn F n P ops C Q (o :: rest) a := by
  unfold wpQuietIn
  refine ⟨ha, ?_⟩
  rw [if_neg (by simp [hw])]
  exact h
theorem nd_oper {o : Oper} {a : Act} {K : Act → Prop} {K' : Act → World → Prop} {Q' : Exit → Act → World → Prop} {w : World} (hd : ∀ c, o.op ≠ .defer c) (hw : C w) (h : ∀ a w', C w' → K a → K' a w')
    (ha : o.askedIn F P a C) (hh : o.quietIn F n P a C K) : o.wpIn F n P a w K' Q' := by
  obtain ⟨v, h1, h2⟩ := hh
  have h3 : Oper.quietUponIn F n P C w v ((execOp a.eval o).run P w) := h1 w hw
  unfold Oper.wpIn
  refine ⟨ha w hw, ?_⟩
  rw [Oper.semAt_eq _ _ _ hd]
  generalize (execOp a.eval o).run P w = r at h3 ⊢
  match r, h3 with
  | .ok (.value u) w', h3 => obtain ⟨rfl, rfl⟩ := h3; exact h _ _ hw h2
  | .ok .skip w', h3 => obtain ⟨rfl, rfl⟩ := h3; exact h _ _ hw h2
  | .ok (.enter f args) w', h3 =>
    obtain ⟨rfl, hd', hc⟩ := h3
    exact ⟨hd', hc.mono fun e w'' ⟨he, hw''⟩ => by subst he; exact h _ _ hw'' h2⟩
theorem nd_op (hd : ∀ (i : Nat) (o : Oper), ops[i]? = some o → ∀ c, o.op ≠ .defer c) {i : Nat} {a : Act} {K : Act → Prop} {K' : Act → World → Prop} {Q' : Exit → Act → World → Prop} {w : World} (hC : C w)
    (h : ∀ a w', C w' → K a → K' a w') (hh : qOpIn F n P ops C i K a) : wpOpIn F n P ops Q' i K' a w := by
  unfold qOpIn at hh
  unfold wpOpIn
  cases ho : ops[i]? with
  | none => rw [ho] at hh; exact h _ _ hC hh
  | some o =>
    rw [ho] at hh
    obtain ⟨ha, hh⟩ := hh
    by_cases hw : Region.wanted o (yielded ops a.tmps) = true
    · simp only [hw, if_true] at hh ⊢; exact nd_oper (hd i o ho) hC h ha hh
    · simp only [hw] at hh ⊢; exact ⟨ha w hC, h _ _ hC hh⟩
theorem nd_any {md : Region.Mode} {Q : Act → Prop} {Q' : Exit → Act → World → Prop} (hd : ∀ (i : Nat) (o : Oper), ops[i]? = some o → ∀ c, o.op ≠ .defer c) (hQ : ∀ a w, C w → Q a → Q' .normal a w) :
    ∀ (fuel : Nat) (listed : Array Bool) (a : Act) (w : World), C w → wpAnyQIn F n P md ops C Q fuel listed a → wpAnyIn F n P md ops Q' fuel listed a w
  | 0, _, _, _, hw, h => ⟨h.1, hQ _ _ hw h.2⟩
  | fuel + 1, _, _, _, hw, h => ⟨fun h0 => hQ _ _ hw (h.1 h0), fun i hi => nd_op hd hw (fun a' w' hw' => nd_any hd hQ fuel _ a' w' hw') (h.2 i hi)⟩
theorem nd_region {id : Nat} {Q : Exit → Act → World → Prop} {a : Act} {w : World} {l : List Oper} (hm : P.follows .mixedOrders = true) (hB : Region.lexB .any l.toArray = true) (hd : ∀ o ∈ l, ∀ c, o.op ≠ .defer c)
    (h : wpQuietIn F n P l.toArray (fun w' => ∃ n, w' = w.drewN n) (fun a' => ∀ w', (∃ n, w' = w.drewN n) → Q .normal a' w') l a) : (Code.region id l.toArray true).wpIn F n P Q a w := by
  have hB' := hB
  simp only [Region.lexB, Bool.and_eq_true] at hB'
  refine wpIn_region_any hm (nd_any (Q := fun a' => ∀ w', (∃ n, w' = w.drewN n) → Q .normal a' w') (C := fun w' => ∃ n, w' = w.drewN n) (fun i o ho => hd o (List.mem_of_getElem? (by simpa using ho))) (fun _ w' hw' h => h w' hw') _ _ _ _ ⟨1, rfl⟩ ?_)
  have := wpAnyQIn_lex (F := F) (n := n) (C := fun w' => ∃ n, w' = w.drewN n) (md := .any) hB'.1 l 0 (Array.replicate l.toArray.size false) a (by simp) (by simpa using hB'.2) h
  simpa using this
end
end Go.Proofs.YtcbjihedobhjcaaDoor.X
/- The law SpanCells, walked by hand: the walk. -/
set_option linter.unusedVariables false
set_option linter.unusedSimpArgs false
namespace Go.Proofs.YtcbjihedobhjcaaDoor.X
open Go.RowKit Go.Shelf Go.Sort Go.Proofs.YtcbjihedobhjcaaDoorW.PrintWords Go.Proofs.YtcbjihedobhjcaaDoorW.PrintLast Go.Proofs.YtcbjihedobhjcaaDoorW.PrintMore
attribute [local go_sem] Oper.semAt_some
def calmly (Q : Exit → Act → World → Prop) : Exit → Act → World → Prop
  | .panic _, _, _ => False
  | e, a, w => Q e a w
theorem calmly_out {Q : Exit → Act → World → Prop} : ∀ e a w, calmly Q e a w → Q e a w := by
  intro e a w h
  cases e <;> first | exact h | exact False.elim h
theorem eq_nilFunc (f : Fn) (ts b : Array Value) (w : World) : Sem.run Tryd.prog (binOp BinOp.eql 32 (Value.func f ts b) Value.nilFunc) w = Result.ok (Value.bool false) w := by kernel_rfl
theorem spn4 {W : World} {B : Nat} {x0 x1 x2 x3 : Value} {t : TypeId} (h : W.heap[B]? = some (.cells #[x0, x1, x2, x3] t (0, 0))) :
    W.cell? ⟨B, 0, none⟩ = some x0 ∧ W.cell? ⟨B, 1, none⟩ = some x1 ∧ W.cell? ⟨B, 2, none⟩ = some x2 ∧ W.cell? ⟨B, 3, none⟩ = some x3 := by
  refine ⟨?_, ?_, ?_, ?_⟩ <;> (unfold World.cell?; rw [h]; rfl)
set_option maxHeartbeats 8000000 in
set_option maxRecDepth 100000 in
theorem spanCells_walk (k : Nat) (a0 a1 a2 a3 n : Int) (L L2 A : List S23) (w : World) (hT : Aside0 (Tab w)) (hL : span_Cells.f a0 a1 a2 a3 = some L) (hR : oculusref04_Cells.f k a0 a1 a2 a3 = some L2)
    (hS : oculusref03_Same.f k L L2 = some true) (hlen : L.length ≤ 1000)
    (hH : ∀ x : Int, 0 ≤ x → x < L.length → span_Has.f k a0 a1 a2 a3 (rd_T23 L x).f0 (rd_T23 L x).f1 = some true)
    (hLe : ∀ x : Int, 0 < x → x < L.length → oculusref03_Less.f (rd_T23 L (x - 1)).f0 (rd_T23 L (x - 1)).f1 (rd_T23 L x).f0 (rd_T23 L x).f1 = some true)
    (hA : allF a0 a1 a2 a3 = some A) (hn : span_Size.f a0 a1 a2 a3 = some n) (hfin : (A = L ∧ n = (L.length : Int)) ∨ (L = [] ∧ 1000 < n ∧ 1001 ≤ A.length)) (hal : oculuslaw04_alive.f k = some true) :
    Calls Tryd.prog 3 #[.agg #[.int .i64 a0, .int .i64 a1, .int .i64 a2, .int .i64 a3]] w fun e w' => e = .returned (.bool true) ∧ Below w.heap.size w w' := by
  have hu25 := Tryd.underlying25
  have hu23 := Tryd.underlying23
  have hb0 : Below w.heap.size w (w.alloc (.cells #[.int .i64 a0, .int .i64 a1, .int .i64 a2, .int .i64 a3] 25)) := (Below.refl _ w).alloc (Nat.le_refl _) _
  have hT0 := World.alloc_heap_new w (.cells #[.int .i64 a0, .int .i64 a1, .int .i64 a2, .int .i64 a3] 25)
  have hlt0 : w.heap.size < (w.alloc (.cells #[.int .i64 a0, .int .i64 a1, .int .i64 a2, .int .i64 a3] 25)).heap.size := by rw [World.size_alloc]; omega
  obtain ⟨b0, b1, b2, b3⟩ := spn4 hT0
  refine (callsIn_wide (n := 4)).1 ?_
  refine callsIn_of_wp_marks Tryd.func3 rfl trivial ?_ rfl
  simp only [Tryd.ntmps3, List.size_toArray, List.length_cons, List.length_nil, Nat.reduceAdd, Nat.reduceSub, Array.replicate_succ, Array.replicate_zero, List.push_toArray, List.append_toArray, List.nil_append, List.cons_append]
  refine wpIn_wide.2 (wp_mono ?_ calmly_out)
  go_wp2_with (go_at_call 4; refine (span_Cells.calls a0 a1 a2 a3 L _ hL).mono ?_; rintro e w1 ⟨v, rfl, hRv, hb1⟩; obtain ⟨Av, cv, rfl, hcv, hCv⟩ := Kd.R_reads hRv)
  obtain ⟨B3, hB3⟩ : ∃ B3, w1.heap.size = B3 := ⟨_, rfl⟩
  have hsz1 := hb1.size
  have hlt3 : B3 < (w1.alloc (.cells #[.slice Av L.length cv] 26)).heap.size := by rw [World.size_alloc]; omega
  have hbW : Below w.heap.size w (w1.alloc (.cells #[.slice Av L.length cv] 26)) := (hb0.trans (hb1.mono hb0.size)).alloc (hb0.trans (hb1.mono hb0.size)).size _
  have hbA : Below (w.alloc (.cells #[.int .i64 a0, .int .i64 a1, .int .i64 a2, .int .i64 a3] 25)).heap.size (w.alloc (.cells #[.int .i64 a0, .int .i64 a1, .int .i64 a2, .int .i64 a3] 25)) (w1.alloc (.cells #[.slice Av L.length cv] 26)) := hb1.alloc hsz1 _
  have bS := (hbA.block _ hlt0).trans hT0
  have bL := World.alloc_heap_new w1 (.cells #[.slice Av L.length cv] 26)
  have hC2 := Kd.C_below hCv ((Below.refl _ w1).alloc (Nat.le_refl _) (.cells #[.slice Av L.length cv] 26))
  have hlt1 : w.heap.size < (w1.alloc (.cells #[.slice Av L.length cv] 26)).heap.size := Nat.lt_of_lt_of_le hlt0 hbA.size
  rw [hB3] at bL ⊢
  generalize w1.alloc (.cells #[.slice Av L.length cv] 26) = W2 at *
  clear hb0 hT0 hlt0 b0 b1 b2 b3 hbA hb1 hRv hCv hsz1 hB3
  have hSt : ∀ wX, Below W2.heap.size W2 wX → wX.cell? ⟨w.heap.size, 0, none⟩ = some (.int .i64 a0) ∧ wX.cell? ⟨w.heap.size, 1, none⟩ = some (.int .i64 a1) ∧ wX.cell? ⟨w.heap.size, 2, none⟩ = some (.int .i64 a2) ∧ wX.cell? ⟨w.heap.size, 3, none⟩ = some (.int .i64 a3) ∧ wX.cell? ⟨B3, 0, none⟩ = some (.slice Av L.length cv) := by
    intro wX hb
    have h3 := (hb.block _ hlt3).trans bL
    obtain ⟨c0, c1, c2, c3⟩ := spn4 ((hb.block _ hlt1).trans bS)
    exact ⟨c0, c1, c2, c3, by unfold World.cell?; rw [h3]; rfl⟩
  have hBX : Below W2.heap.size W2 W2.drew := below_drew1 (Below.refl _ _)
  refine start_ (n := 10) (S := fun w' => w'.cell? ⟨w.heap.size, 0, none⟩ = some (.int .i64 a0) ∧ w'.cell? ⟨w.heap.size, 1, none⟩ = some (.int .i64 a1) ∧ w'.cell? ⟨w.heap.size, 2, none⟩ = some (.int .i64 a2) ∧ w'.cell? ⟨w.heap.size, 3, none⟩ = some (.int .i64 a3) ∧ w'.cell? ⟨B3, 0, none⟩ = some (.slice Av L.length cv)) (ds := []) #[false, false, false, false, false, false, false, false, false, false] (by kernel_rfl) rfl rfl (hSt _ hBX) (fun hHeld => ?_)
  generalize W2.drew = wx at hBX hHeld ⊢
  refine take_ (i := 0) (N := some 11) (v := ?_) (a' := ?_) #[true, false, false, false, false, false, false, false, false, false] rfl rfl (by kernel_rfl) (fun _ _ _ h => h) (Or.inl ⟨by rfl, ?_⟩) hHeld ?_ ?_
  rotate_left
  · rintro w' ⟨s0, s1, s2, s3, s4⟩
    go_simp
    with_reducible rfl
  rotate_left
  · simp only [Act.put, List.setIfInBounds_toArray, List.set_cons_zero, List.set_cons_succ, i64_w, i32_w]
    rfl
  refine take_ (i := 1) (N := some 12) (v := ?_) (a' := ?_) #[true, true, false, false, false, false, false, false, false, false] rfl rfl (by kernel_rfl) (fun _ _ _ h => h) (Or.inl ⟨by rfl, ?_⟩) hHeld ?_ ?_
  rotate_left
  · rintro w' ⟨s0, s1, s2, s3, s4⟩
    go_simp
    with_reducible rfl
  rotate_left
  · simp only [Act.put, List.setIfInBounds_toArray, List.set_cons_zero, List.set_cons_succ, i64_w, i32_w]
    rfl
  refine one_ (i := 2) (N := some 13) #[true, true, true, false, false, false, false, false, false, false] rfl rfl (by kernel_rfl) (by decide) (fun K hK => ?_)
  refine goes_ Tryd.func6 (by kernel_rfl) rfl #[.agg #[.int .i64 a0, .int .i64 a1, .int .i64 a2, .int .i64 a3]] (by rfl) rfl rfl (by (try simp only [List.map_toArray, List.map_cons, List.map_nil]); first | done | rfl) ?_
  with_reducible refine (oculusref04_Cells.calls k a0 a1 a2 a3 L2 _ hR).mono ?_
  rintro e w6 ⟨v2, rfl, hRv2, hb6⟩
  obtain ⟨A2, c2, rfl, hc2, hC2'⟩ := Kd.R_reads hRv2
  refine ⟨_, rfl, ?_⟩
  have hB6 := below_step hBX hb6
  refine hK.out _ _ (hSt _ hB6) (fun hHeld => ?_)
  clear hK K
  refine norm_ (a' := ?_) ?_ ?_
  rotate_left
  · show Act.put _ (some 13) _ = _
    simp only [Act.put, List.setIfInBounds_toArray, List.set_cons_zero, List.set_cons_succ, i64_w, i32_w]
    rfl
  refine one_ (i := 3) (N := some 14) #[true, true, true, true, false, false, false, false, false, false] rfl rfl (by kernel_rfl) (by decide) (fun K hK => ?_)
  refine goes_ Tryd.func5 (by kernel_rfl) rfl #[.slice Av L.length cv, .slice A2 L2.length c2] (by rfl) rfl rfl (by (try simp only [List.map_toArray, List.map_cons, List.map_nil]); first | done | rfl) ?_
  with_reducible refine (oculusref03_Same.calls k Av cv L A2 c2 L2 true _ (Kd.C_below hC2 hB6) hcv hC2' hc2 hS).mono ?_
  rintro e w7 ⟨rfl, m7, rfl⟩
  refine ⟨_, rfl, ?_⟩
  have hB7 : Below W2.heap.size W2 (w6.drewN m7) := by apply pw_below_drewN; exact hB6
  refine hK.out _ _ (hSt _ hB7) (fun hHeld => ?_)
  clear hK K
  refine norm_ (a' := ?_) ?_ ?_
  rotate_left
  · show Act.put _ (some 14) _ = _
    simp only [Act.put, List.setIfInBounds_toArray, List.set_cons_zero, List.set_cons_succ, i64_w, i32_w]
    rfl
  refine pure_ (i := 4) (N := some 15) (v := ?_) (a' := ?_) #[true, true, true, true, true, false, false, false, false, false] rfl rfl (by kernel_rfl) (fun _ _ _ h => h) (Or.inl ⟨by rfl, ?_⟩) ?_ ?_
  rotate_left
  · intro w'
    go_simp
    with_reducible rfl
  rotate_left
  · simp only [Act.put, List.setIfInBounds_toArray, List.set_cons_zero, List.set_cons_succ, i64_w, i32_w]
    rfl
  refine pure_ (i := 5) (N := some 16) (v := ?_) (a' := ?_) #[true, true, true, true, true, true, false, false, false, false] rfl rfl (by kernel_rfl) (fun _ _ _ h => h) (Or.inl ⟨by rfl, ?_⟩) ?_ ?_
  rotate_left
  · intro w'
    go_simp
    with_reducible rfl
  rotate_left
  · simp only [Act.put, List.setIfInBounds_toArray, List.set_cons_zero, List.set_cons_succ, i64_w, i32_w]
    rfl
  refine take_ (i := 6) (N := some 17) (v := ?_) (a' := ?_) #[true, true, true, true, true, true, true, false, false, false] rfl rfl (by kernel_rfl) (fun _ _ _ h => h) (Or.inl ⟨by rfl, ?_⟩) hHeld ?_ ?_
  rotate_left
  · rintro w' ⟨s0, s1, s2, s3, s4⟩
    go_simp
    with_reducible rfl
  rotate_left
  · simp only [Act.put, List.setIfInBounds_toArray, List.set_cons_zero, List.set_cons_succ, i64_w, i32_w]
    rfl
  refine pure_ (i := 7) (N := some 18) (v := ?_) (a' := ?_) #[true, true, true, true, true, true, true, true, false, false] rfl rfl (by kernel_rfl) (fun _ _ _ h => h) (Or.inl ⟨by rfl, ?_⟩) ?_ ?_
  rotate_left
  · intro w'
    go_simp
    with_reducible rfl
  rotate_left
  · simp only [Act.put, List.setIfInBounds_toArray, List.set_cons_zero, List.set_cons_succ, i64_w, i32_w]
    rfl
  have hl0 : decide ((L.length : Int) > 1000) = false := decide_eq_false (by omega)
  refine pure_ (i := 8) (N := some 19) (v := ?_) (a' := ?_) #[true, true, true, true, true, true, true, true, true, false] rfl rfl (by kernel_rfl) (fun _ _ _ h => h) (Or.inl ⟨by rfl, ?_⟩) ?_ ?_
  rotate_left
  · intro w'
    go_simp
    with_reducible rfl
  rotate_left
  · simp only [Act.put, List.setIfInBounds_toArray, List.set_cons_zero, List.set_cons_succ, i64_w, i32_w]
    rfl
  refine pure_ (i := 9) (N := some 20) (v := ?_) (a' := ?_) #[true, true, true, true, true, true, true, true, true, true] rfl rfl (by kernel_rfl) (fun _ _ _ h => h) (Or.inl ⟨by rfl, ?_⟩) ?_ ?_
  rotate_left
  · intro w'
    go_simp
    with_reducible rfl
  rotate_left
  · simp only [Act.put, List.setIfInBounds_toArray, List.set_cons_zero, List.set_cons_succ, i64_w, i32_w]
    rfl
  refine done_ (by kernel_rfl) ?_
  generalize w6.drewN m7 = w8 at hB7 ⊢
  go_wp2
  go_loopw [23] (fun p wr => ∃ x : Int, p = .int .i64 x ∧ 0 ≤ x ∧ x ≤ (L.length : Int) ∧ Below W2.heap.size W2 wr) (fun p wr => ((L.length : Int) - intOf p).toNat)
  case atStart => exact ⟨0, rfl, by omega, by omega, by first | exact hB7 | (apply pw_below_drewN; exact hB7)⟩
  case round =>
    obtain ⟨x, rfl, hx0, hx1, hBr⟩ := hrel
    obtain ⟨r0, r1, r2, r3, rL⟩ := hSt _ hBr
    by_cases hxL : x < (L.length : Int)
    · have hd : decide (x < (L.length : Int)) = true := decide_eq_true hxL
      have hCr := Kd.C_below hC2 hBr
      obtain ⟨ad, ead, e0, e1⟩ := at_T23 hCr x hx0 hxL
      have hp := eq_true hx0
      have hq := eq_true hxL
      cases ead
      go_wp2
      have hB3' : Below W2.heap.size W2 (wr.alloc (.cells #[.int .i64 (rd_T23 L x).f0, .int .i64 (rd_T23 L x).f1] 23)) := hBr.alloc hBr.size _
      have hN := World.alloc_heap_new wr (.cells #[.int .i64 (rd_T23 L x).f0, .int .i64 (rd_T23 L x).f1] 23)
      have hC3 := Kd.C_below hCr ((Below.refl _ wr).alloc (Nat.le_refl _) (.cells #[.int .i64 (rd_T23 L x).f0, .int .i64 (rd_T23 L x).f1] 23))
      obtain ⟨Bx, hBx⟩ : ∃ Bx, wr.heap.size = Bx := ⟨_, rfl⟩
      rw [hBx] at hN ⊢
      clear hBx
      generalize wr.alloc (.cells #[.int .i64 (rd_T23 L x).f0, .int .i64 (rd_T23 L x).f1] 23) = W3 at *
      clear r0 r1 r2 r3 rL e0 e1
      obtain ⟨r0, r1, r2, r3, rL⟩ := hSt _ hB3'
      have n0 : W3.cell? ⟨Bx, 0, none⟩ = some (.int .i64 (rd_T23 L x).f0) := by unfold World.cell?; rw [hN]; rfl
      have n1 : W3.cell? ⟨Bx, 1, none⟩ = some (.int .i64 (rd_T23 L x).f1) := by unfold World.cell?; rw [hN]; rfl
      have g0 := cell_regrown r0
      have g1 := cell_regrown r1
      have g2 := cell_regrown r2
      have g3 := cell_regrown r3
      have gL := cell_regrown rL
      have gn0 := cell_regrown n0
      have gn1 := cell_regrown n1
      have cH : ∀ d os, Calls Tryd.prog 7 #[.agg #[.int .i64 a0, .int .i64 a1, .int .i64 a2, .int .i64 a3], .agg #[.int .i64 (rd_T23 L x).f0, .int .i64 (rd_T23 L x).f1]] (grow (redrawn W3 d) os) fun e w'' => e = .returned (.bool true) ∧ ∃ p : Regrown, w'' = grow (redrawn W3 p.d) p.os := fun d os => Calls.regrown_of (span_Has.calls k a0 a1 a2 a3 _ _ true _ (hH x hx0 hxL))
      by_cases hx : 0 < x
      · have hd0 : decide (x > 0) = true := decide_eq_true hx
        have hl1 := hLe x hx hxL
        obtain ⟨y, hy⟩ : ∃ y, x - 1 = y := ⟨_, rfl⟩
        have hw1 : IntKind.i64.wrap (x - 1) = y := by rw [i64_w, w64 (by omega) (by omega)]; exact hy
        rw [hy] at hl1
        obtain ⟨ad2, ead2, f0, f1⟩ := at_T23 hC3 y (by omega) (by omega)
        cases ead2
        have gf0 := cell_regrown f0
        have gf1 := cell_regrown f1
        have hp1 : (0 ≤ y) = True := eq_true (by omega)
        have hq1 : (y < (L.length : Int)) = True := eq_true (by omega)
        have cL : ∀ d os, Calls Tryd.prog 8 #[.agg #[.int .i64 (rd_T23 L y).f0, .int .i64 (rd_T23 L y).f1], .agg #[.int .i64 (rd_T23 L x).f0, .int .i64 (rd_T23 L x).f1]] (grow (redrawn W3 d) os) fun e w'' => e = .returned (.bool true) ∧ ∃ p : Regrown, w'' = grow (redrawn W3 p.d) p.os := fun d os => Calls.regrown_of (oculusref03_Less.calls _ _ _ _ true _ hl1)
        clear hy
        refine wp_region_quiet_below (by kernel_rfl) (by kernel_rfl) ?_
        repeat (quiet_step (first | exact cH _ _ | exact cL _ _))
        clear hw1 hp1 hq1 hp hq
        refine wpQuiet_nil ?_
        rintro _ ⟨⟨dq, osq⟩, rfl⟩
        have hB4 : Below W2.heap.size W2 (grow (redrawn W3 dq) osq) := below_step hB3' (below_regrown W3 dq osq)
        generalize grow (redrawn W3 dq) osq = W4 at hB4 ⊢
        go_wp2
        go_roundw
        case rel => exact ⟨x + 1, by first | (congr 1; rw [w64 (by omega) (by omega)]; omega) | go_num, by omega, by omega, hB4⟩
        case measure => simp only [intOf]; first | omega | (rw [w64 (by omega) (by omega)]; omega)
      · obtain rfl : x = 0 := by omega
        have hS7 : ∀ wX, Below W3.heap.size W3 wX → wX.cell? ⟨w.heap.size, 0, none⟩ = some (.int .i64 a0) ∧ wX.cell? ⟨w.heap.size, 1, none⟩ = some (.int .i64 a1) ∧ wX.cell? ⟨w.heap.size, 2, none⟩ = some (.int .i64 a2) ∧ wX.cell? ⟨w.heap.size, 3, none⟩ = some (.int .i64 a3) ∧ wX.cell? ⟨Bx, 0, none⟩ = some (.int .i64 (rd_T23 L 0).f0) ∧ wX.cell? ⟨Bx, 1, none⟩ = some (.int .i64 (rd_T23 L 0).f1) := by
          intro wX hb
          obtain ⟨c0, c1, c2, c3, _⟩ := hSt _ (below_step hB3' hb)
          have hN' := (hb.block _ (Array.getElem?_eq_some_iff.1 hN).1).trans hN
          exact ⟨c0, c1, c2, c3, by unfold World.cell?; rw [hN']; rfl, by unfold World.cell?; rw [hN']; rfl⟩
        have hB30 : Below W3.heap.size W3 W3.drew := below_drew1 (Below.refl _ _)
        refine start_ (n := 18) (S := fun w' => w'.cell? ⟨w.heap.size, 0, none⟩ = some (.int .i64 a0) ∧ w'.cell? ⟨w.heap.size, 1, none⟩ = some (.int .i64 a1) ∧ w'.cell? ⟨w.heap.size, 2, none⟩ = some (.int .i64 a2) ∧ w'.cell? ⟨w.heap.size, 3, none⟩ = some (.int .i64 a3) ∧ w'.cell? ⟨Bx, 0, none⟩ = some (.int .i64 (rd_T23 L 0).f0) ∧ w'.cell? ⟨Bx, 1, none⟩ = some (.int .i64 (rd_T23 L 0).f1)) (ds := []) #[false, false, false, false, false, false, false, false, false, false, false, false, false, false, false, false, false, false] (by kernel_rfl) rfl rfl (hS7 _ hB30) (fun hHeld => ?_)
        generalize W3.drew = wz at hB30 hHeld ⊢
        refine take_ (i := 0) (N := some 28) (v := ?_) (a' := ?_) #[true, false, false, false, false, false, false, false, false, false, false, false, false, false, false, false, false, false] rfl rfl (by kernel_rfl) (fun _ _ _ h => h) (Or.inl ⟨by rfl, ?_⟩) hHeld ?_ ?_
        rotate_left
        · rintro w' ⟨s0, s1, s2, s3, s4, s5⟩
          go_simp
          with_reducible rfl
        rotate_left
        · simp only [Act.put, List.setIfInBounds_toArray, List.set_cons_zero, List.set_cons_succ, i64_w, i32_w]
          rfl
        refine take_ (i := 1) (N := some 29) (v := ?_) (a' := ?_) #[true, true, false, false, false, false, false, false, false, false, false, false, false, false, false, false, false, false] rfl rfl (by kernel_rfl) (fun _ _ _ h => h) (Or.inl ⟨by rfl, ?_⟩) hHeld ?_ ?_
        rotate_left
        · rintro w' ⟨s0, s1, s2, s3, s4, s5⟩
          go_simp
          with_reducible rfl
        rotate_left
        · simp only [Act.put, List.setIfInBounds_toArray, List.set_cons_zero, List.set_cons_succ, i64_w, i32_w]
          rfl
        refine one_ (i := 2) (N := some 30) #[true, true, true, false, false, false, false, false, false, false, false, false, false, false, false, false, false, false] rfl rfl (by kernel_rfl) (by decide) (fun K hK => ?_)
        refine goes_ Tryd.func7 (by kernel_rfl) rfl #[.agg #[.int .i64 a0, .int .i64 a1, .int .i64 a2, .int .i64 a3], .agg #[.int .i64 (rd_T23 L 0).f0, .int .i64 (rd_T23 L 0).f1]] (by rfl) rfl rfl (by (try simp only [List.map_toArray, List.map_cons, List.map_nil]); first | done | rfl) ?_
        with_reducible refine (span_Has.calls k a0 a1 a2 a3 _ _ true _ (hH 0 hx0 hxL)).mono ?_
        rintro e w9 ⟨rfl, hb9⟩
        refine ⟨_, rfl, ?_⟩
        have hB31 := below_step hB30 hb9
        refine hK.out _ _ (hS7 _ hB31) (fun hHeld => ?_)
        clear hK K
        refine norm_ (a' := ?_) ?_ ?_
        rotate_left
        · show Act.put _ (some 30) _ = _
          simp only [Act.put, List.setIfInBounds_toArray, List.set_cons_zero, List.set_cons_succ, i64_w, i32_w]
          rfl
        refine pure_ (i := 3) (N := some 31) (v := ?_) (a' := ?_) #[true, true, true, true, false, false, false, false, false, false, false, false, false, false, false, false, false, false] rfl rfl (by kernel_rfl) (fun _ _ _ h => h) (Or.inl ⟨by rfl, ?_⟩) ?_ ?_
        rotate_left
        · intro w'
          go_simp
          with_reducible rfl
        rotate_left
        · simp only [Act.put, List.setIfInBounds_toArray, List.set_cons_zero, List.set_cons_succ, i64_w, i32_w]
          rfl
        refine pure_ (i := 4) (N := some 32) (v := ?_) (a' := ?_) #[true, true, true, true, true, false, false, false, false, false, false, false, false, false, false, false, false, false] rfl rfl (by kernel_rfl) (fun _ _ _ h => h) (Or.inl ⟨by rfl, ?_⟩) ?_ ?_
        rotate_left
        · intro w'
          go_simp
          with_reducible rfl
        rotate_left
        · simp only [Act.put, List.setIfInBounds_toArray, List.set_cons_zero, List.set_cons_succ, i64_w, i32_w]
          rfl
        refine pure_ (i := 5) (N := some 33) (v := ?_) (a' := ?_) #[true, true, true, true, true, true, false, false, false, false, false, false, false, false, false, false, false, false] rfl rfl (by kernel_rfl) (fun _ _ _ h => h) (Or.inl ⟨by rfl, ?_⟩) ?_ ?_
        rotate_left
        · intro w'
          go_simp
          with_reducible rfl
        rotate_left
        · simp only [Act.put, List.setIfInBounds_toArray, List.set_cons_zero, List.set_cons_succ, i64_w, i32_w]
          rfl
        refine pure_ (i := 6) (N := some 34) (v := ?_) (a' := ?_) #[true, true, true, true, true, true, true, false, false, false, false, false, false, false, false, false, false, false] rfl rfl (by kernel_rfl) (fun _ _ _ h => h) (Or.inl ⟨by rfl, ?_⟩) ?_ ?_
        rotate_left
        · intro w'
          go_simp
          with_reducible rfl
        rotate_left
        · simp only [Act.put, List.setIfInBounds_toArray, List.set_cons_zero, List.set_cons_succ, i64_w, i32_w]
          rfl
        refine pure_ (i := 7) (N := some 35) (v := ?_) (a' := ?_) #[true, true, true, true, true, true, true, true, false, false, false, false, false, false, false, false, false, false] rfl rfl (by kernel_rfl) (fun _ _ _ h => h) (Or.inl ⟨by rfl, ?_⟩) ?_ ?_
        rotate_left
        · intro w'
          go_simp
          with_reducible rfl
        rotate_left
        · simp only [Act.put, List.setIfInBounds_toArray, List.set_cons_zero, List.set_cons_succ, i64_w, i32_w]
          rfl
        refine pure_ (i := 8) (N := some 36) (v := undef) (a' := ?_) #[true, true, true, true, true, true, true, true, true, false, false, false, false, false, false, false, false, false] rfl rfl (by kernel_rfl) (fun _ _ _ h => h) (Or.inr ⟨by rfl, rfl⟩) ?_ ?_
        rotate_left
        · simp only [Act.put, List.setIfInBounds_toArray, List.set_cons_zero, List.set_cons_succ, i64_w, i32_w]
          rfl
        refine pure_ (i := 9) (N := some 37) (v := undef) (a' := ?_) #[true, true, true, true, true, true, true, true, true, true, false, false, false, false, false, false, false, false] rfl rfl (by kernel_rfl) (fun _ _ _ h => h) (Or.inr ⟨by rfl, rfl⟩) ?_ ?_
        rotate_left
        · simp only [Act.put, List.setIfInBounds_toArray, List.set_cons_zero, List.set_cons_succ, i64_w, i32_w]
          rfl
        refine pure_ (i := 10) (N := some 38) (v := undef) (a' := ?_) #[true, true, true, true, true, true, true, true, true, true, true, false, false, false, false, false, false, false] rfl rfl (by kernel_rfl) (fun _ _ _ h => h) (Or.inr ⟨by rfl, rfl⟩) ?_ ?_
        rotate_left
        · simp only [Act.put, List.setIfInBounds_toArray, List.set_cons_zero, List.set_cons_succ, i64_w, i32_w]
          rfl
        refine pure_ (i := 11) (N := some 39) (v := undef) (a' := ?_) #[true, true, true, true, true, true, true, true, true, true, true, true, false, false, false, false, false, false] rfl rfl (by kernel_rfl) (fun _ _ _ h => h) (Or.inr ⟨by rfl, rfl⟩) ?_ ?_
        rotate_left
        · simp only [Act.put, List.setIfInBounds_toArray, List.set_cons_zero, List.set_cons_succ, i64_w, i32_w]
          rfl
        refine pure_ (i := 12) (N := some 40) (v := undef) (a' := ?_) #[true, true, true, true, true, true, true, true, true, true, true, true, true, false, false, false, false, false] rfl rfl (by kernel_rfl) (fun _ _ _ h => h) (Or.inr ⟨by rfl, rfl⟩) ?_ ?_
        rotate_left
        · simp only [Act.put, List.setIfInBounds_toArray, List.set_cons_zero, List.set_cons_succ, i64_w, i32_w]
          rfl
        refine pure_ (i := 13) (N := some 41) (v := undef) (a' := ?_) #[true, true, true, true, true, true, true, true, true, true, true, true, true, true, false, false, false, false] rfl rfl (by kernel_rfl) (fun _ _ _ h => h) (Or.inr ⟨by rfl, rfl⟩) ?_ ?_
        rotate_left
        · simp only [Act.put, List.setIfInBounds_toArray, List.set_cons_zero, List.set_cons_succ, i64_w, i32_w]
          rfl
        refine pure_ (i := 14) (N := some 42) (v := undef) (a' := ?_) #[true, true, true, true, true, true, true, true, true, true, true, true, true, true, true, false, false, false] rfl rfl (by kernel_rfl) (fun _ _ _ h => h) (Or.inr ⟨by rfl, rfl⟩) ?_ ?_
        rotate_left
        · simp only [Act.put, List.setIfInBounds_toArray, List.set_cons_zero, List.set_cons_succ, i64_w, i32_w]
          rfl
        refine pure_ (i := 15) (N := some 43) (v := undef) (a' := ?_) #[true, true, true, true, true, true, true, true, true, true, true, true, true, true, true, true, false, false] rfl rfl (by kernel_rfl) (fun _ _ _ h => h) (Or.inr ⟨by rfl, rfl⟩) ?_ ?_
        rotate_left
        · simp only [Act.put, List.setIfInBounds_toArray, List.set_cons_zero, List.set_cons_succ, i64_w, i32_w]
          rfl
        refine pure_ (i := 16) (N := some 44) (v := ?_) (a' := ?_) #[true, true, true, true, true, true, true, true, true, true, true, true, true, true, true, true, true, false] rfl rfl (by kernel_rfl) (fun _ _ _ h => h) (Or.inl ⟨by rfl, ?_⟩) ?_ ?_
        rotate_left
        · intro w'
          go_simp
          with_reducible rfl
        rotate_left
        · simp only [Act.put, List.setIfInBounds_toArray, List.set_cons_zero, List.set_cons_succ, i64_w, i32_w]
          rfl
        refine pure_ (i := 17) (N := some 45) (v := ?_) (a' := ?_) #[true, true, true, true, true, true, true, true, true, true, true, true, true, true, true, true, true, true] rfl rfl (by kernel_rfl) (fun _ _ _ h => h) (Or.inl ⟨by rfl, ?_⟩) ?_ ?_
        rotate_left
        · intro w'
          go_simp
          with_reducible rfl
        rotate_left
        · simp only [Act.put, List.setIfInBounds_toArray, List.set_cons_zero, List.set_cons_succ, i64_w, i32_w]
          rfl
        refine done_ (by kernel_rfl) ?_
        have hB4 := below_step hB3' hB31
        go_wp2
        go_roundw
        case rel => exact ⟨0 + 1, by first | (congr 1; rw [w64 (by omega) (by omega)]; omega) | go_num, by omega, by omega, hB4⟩
        case measure => simp only [intOf]; first | omega | (rw [w64 (by omega) (by omega)]; omega)
    · have hd : decide (x < (L.length : Int)) = false := decide_eq_false hxL
      have hnf := eq_nilFunc
      go_wp2_with (go_at_call 9; refine ((callsIn_wide (n := 4)).1 (span_All_in _ a0 a1 a2 a3 _)).mono ?_; rintro e w' ⟨rfl, rfl⟩)
      have hsz : W2.heap.size ≤ wr.heap.size := hBr.size
      have hBA : Below W2.heap.size W2 (wr.alloc (.cells #[.int .i64 a0, .int .i64 a1, .int .i64 a2, .int .i64 a3] 25)) := hBr.alloc hBr.size _
      have bA := World.alloc_heap_new wr (.cells #[.int .i64 a0, .int .i64 a1, .int .i64 a2, .int .i64 a3] 25)
      have hsA : wr.heap.size + 1 = (wr.alloc (.cells #[.int .i64 a0, .int .i64 a1, .int .i64 a2, .int .i64 a3] 25)).heap.size := by simp
      rw [hsA]
      have hB6 : wr.heap.size < (wr.alloc (.cells #[.int .i64 a0, .int .i64 a1, .int .i64 a2, .int .i64 a3] 25)).heap.size := by simp
      obtain ⟨B6, hB6e⟩ : ∃ B6, wr.heap.size = B6 := ⟨_, rfl⟩
      rw [hB6e] at bA hB6 ⊢
      generalize wr.alloc (.cells #[.int .i64 a0, .int .i64 a1, .int .i64 a2, .int .i64 a3] 25) = WA at *
      have hCA := Kd.C_below hC2 hBA
      have bA' := (Below.heap_alloc WA (.cells #[.int .i64 0] 3) _ hB6).trans bA
      have bN := Boxed.new WA 3 (.int .i64 0)
      have hsN : (WA.alloc (.cells #[.int .i64 0] 3)).heap.size = WA.heap.size + 1 := by simp
      have hBN : Below WA.heap.size WA (WA.alloc (.cells #[.int .i64 0] 3)) := (Below.refl _ WA).alloc (Nat.le_refl _) _
      generalize WA.alloc (.cells #[.int .i64 0] 3) = WN at *
      clear hnf
      have hAL : ∀ (pre : List S23) (N : Nat), pre.length = N + 1 → pre <+: A → ((N < L.length ∧ ∀ x, pre[N]? = some x → ¬ (x.f0 = (rd_T23 L (N : Int)).f0 ∧ x.f1 = (rd_T23 L (N : Int)).f1)) ∨ (L.length ≤ N ∧ N = 1001)) → L = [] ∧ 1000 < n ∧ N = 1001 := by
        intro pre N hpl hpre hd
        rcases hfin with ⟨rfl, _⟩ | ⟨h1, h2, h3⟩
        · have hle := hpre.length_le
          rcases hd with ⟨h4, h5⟩ | ⟨h4, h5⟩
          · exfalso
            obtain ⟨t, ht⟩ := hpre
            have hg : pre[N]? = some (A[N]'(by omega)) := by
              rw [List.getElem?_eq_getElem (by omega)]
              congr 1
              subst ht
              rw [List.getElem_append_left]
            have hr : rd_T23 A (N : Int) = A[N]'(by omega) := by
              unfold rd_T23
              rw [Int.toNat_natCast, List.getD_eq_getElem?_getD, List.getElem?_eq_getElem (by omega)]
              rfl
            exact h5 _ hg ⟨by rw [hr], by rw [hr]⟩
          · exfalso; omega
        · subst h1
          rcases hd with ⟨h4, _⟩ | ⟨_, h5⟩
          · simp at h4
          · exact ⟨rfl, h2, h5⟩
      have hDL : ∀ xs : List S23, xs = A → xs.length ≤ 1001 → (n = (L.length : Int) ∧ xs.length = L.length) ∨ (L = [] ∧ 1000 < n ∧ xs.length = 1001) := by
        intro xs hxs hle
        subst hxs
        rcases hfin with ⟨rfl, h⟩ | ⟨h1, h2, h3⟩
        · exact .inl ⟨h, rfl⟩
        · exact .inr ⟨h1, h2, by omega⟩
      generalize hfr : Act.mk _ _ = fr
      refine (wpIn_wide (n := 4)).1 ?_
      refine wpIn_rangeFunc_ownH rfl (by omega) (gf := 18) (lb := #[.pointer (some ⟨B6, 0, none⟩)]) (by subst hfr; rfl) trivial (enters_of Tryd.func18 (by kernel_rfl) rfl)
        (span_All_stops _ (by omega) B6 a0 a1 a2 a3 A hA WN (by omega) bA') KeepT.trans (fun W l o o' _ hl ho _ => KeepT.put W l o o' hl ho) (Below.refl _ _) (fun _ => rfl)
        (fun pre W => (Boxed W WA.heap.size 3 (.int .i64 (pre.length : Int)) ∧ pre.length ≤ 1001) ∧ Below WA.heap.size WA W)
        (fun c pre W => (c = Code.exit 2 ∧ ∃ N : Nat, pre.length = N + 1 ∧ Boxed W WA.heap.size 3 (.int .i64 (N : Int)) ∧ ((N < L.length ∧ ∀ x, pre[N]? = some x → ¬ (x.f0 = (rd_T23 L (N : Int)).f0 ∧ x.f1 = (rd_T23 L (N : Int)).f1)) ∨ (L.length ≤ N ∧ N = 1001))) ∧ Below WA.heap.size WA W)
        (OwnFrom.and (Own.from (fun s X Y row hs hg hrow => ⟨boxed_own WA.heap.size 3 (fun pre : List S23 => .int .i64 (pre.length : Int)) s X Y row hs.1 hg hrow, hs.2⟩) _) (ownFrom_below (Nat.le_refl _) (by omega)))
        (fun c => OwnFrom.and (Own.from (fun s X Y row hs hg hrow => by obtain ⟨h1, N, h2, h3, h4⟩ := hs; exact ⟨h1, N, h2, boxed_own WA.heap.size 3 (fun _ : List S23 => .int .i64 (N : Int)) s X Y row h3 hg hrow, h4⟩) _) (ownFrom_below (Nat.le_refl _) (by omega)))
        ⟨⟨bN, by simp⟩, hBN⟩
        (fun x a' W => ∃ Bx, WA.heap.size < Bx ∧ W.heap[Bx]? = some (.cells #[.int .i64 x.f0, .int .i64 x.f1] 23 (0, 0)) ∧ a' = { tmps := (fr.tmps.setIfInBounds 52 (.agg #[.int .i64 x.f0, .int .i64 x.f1])).setIfInBounds 8 (.pointer (some ⟨Bx, 0, none⟩)), defers := [] })
        (fun x a' _ X Y row hs hg hr => by obtain ⟨Bx, h1, h2, h3⟩ := hs; exact ⟨Bx, h1, (hg.block Bx (Array.getElem?_eq_some_iff.1 h2).1 (fun e => by obtain ⟨_, o, ho, hc⟩ := hr Bx e.symm; rw [h2] at ho; cases ho; cases hc)).trans h2, h3⟩)
        ?assign ?body ?done ?stop
      case assign =>
        rintro l pre x W K ⟨⟨hv, h1001⟩, hB⟩ hK
        subst hfr
        gi_wp2
        exact hK _ _ ((KeepsOthers.alloc _ _).from _) (KeepT.alloc _ _) ⟨⟨hv.alloc _, h1001⟩, hB.alloc hB.size _⟩ ⟨W.heap.size, hv.lt, World.alloc_heap_new W _, rfl⟩
      case body =>
        rintro l pre x a' W hl ⟨rl, hrl⟩ ⟨⟨hv, h1001⟩, hB⟩ ⟨Bx, hBx, bX, rfl⟩ hlt
        subst hfr
        have hB2 := below_step hBA hB
        obtain ⟨r0, r1, r2, r3, rL⟩ := hSt _ hB2
        obtain ⟨q, hq⟩ : ∃ q : Int, (pre.length : Int) = q := ⟨_, rfl⟩
        rw [hq] at hv
        have hv' : ∀ nq, (W.drewN nq).heap[WA.heap.size]? = some (.cells #[.int .i64 q] 3 (0, 0)) := fun _ => hv
        have hc := hv.cell
        have hfz := hv.frozen
        have x0 : W.cell? ⟨Bx, 0, none⟩ = some (.int .i64 x.f0) := by unfold World.cell?; rw [bX]; rfl
        have x1 : W.cell? ⟨Bx, 1, none⟩ = some (.int .i64 x.f1) := by unfold World.cell?; rw [bX]; rfl
        clear hAL hDL hH hLe
        simp only [List.setIfInBounds_toArray, List.set_cons_zero, List.set_cons_succ]
        by_cases h1 : q < (L.length : Int)
        · have hd1 : decide (q < (L.length : Int)) = true := decide_eq_true h1
          have hq0 : 0 ≤ q := by omega
          obtain ⟨ad, ead, f0, f1⟩ := at_T23 (Kd.C_below hCA hB) q hq0 h1
          cases ead
          have hp1 := eq_true hq0
          have hp2 := eq_true h1
          by_cases he : x.f0 = (rd_T23 L q).f0 ∧ x.f1 = (rd_T23 L q).f1
          · obtain ⟨e0, e1⟩ := he
            rw [← e0] at f0
            rw [← e1] at f1
            have hz1 : (q == 1001) = false := by simp; omega
            clear e0 e1 hfin
            gi_wp2
            refine nd_region (by kernel_rfl) (by kernel_rfl) (by simp) ?_
            generalize hz : Act.mk _ _ = z
            repeat (first | (refine wpQuietIn_skip (by quiet_asked_in) (by subst hz; rfl) ?_; generalize hy : Act.put _ _ undef = y; subst hz; simp only [Act.put, List.setIfInBounds_toArray, List.set_cons_zero, List.set_cons_succ] at hy; have hz := hy; clear hy) | (refine wpQuietIn_step (by quiet_asked_in) (fun K hK => ?_); subst hz; go_simp; generalize hz : Act.mk _ _ = z; refine hK z ?_; clear hK K))
            refine wpQuietIn_nil ?_
            rintro _ ⟨nq, rfl⟩
            subst hz
            gi_wp2
            have e : ((pre ++ [x]).length : Int) = q + 1 := by simp; omega
            have hbx : Boxed ((W.drewN nq).setCell ⟨WA.heap.size, 0, none⟩ (.int .i64 (q + 1))) WA.heap.size 3 (.int .i64 (q + 1)) := Boxed.set (.int .i64 (q + 1)) (hv' nq)
            exact ⟨(KeepsOthers.trans (A := W) (B := W.drewN nq) ⟨Nat.le_refl _, fun _ _ h _ => h⟩ (KeepsOthers.setCell _ _ _)).from _, KeepT.trans (A := W) (B := W.drewN nq) ⟨Nat.le_refl _, fun _ _ h => h⟩ (keepT_setCell (hv' nq) (by decide) _), ⟨by rw [e]; exact hbx, by omega⟩, below_set (hB.trans ⟨rfl, rfl, rfl, Nat.le_refl _, fun _ _ => rfl⟩) (Nat.le_refl _)⟩
          · clear hfin
            by_cases h0 : x.f0 = (rd_T23 L q).f0
            · have h1' : ¬ (x.f1 = (rd_T23 L q).f1) := fun h => he ⟨h0, h⟩
              have h1b : (x.f1 = (rd_T23 L q).f1) = False := eq_false h1'
              have h0b : (x.f0 = (rd_T23 L q).f0) = True := eq_true h0
              gi_wp2
              refine nd_region (by kernel_rfl) (by kernel_rfl) (by simp) ?_
              generalize hz : Act.mk _ _ = z
              repeat (first | (refine wpQuietIn_skip (by quiet_asked_in) (by subst hz; rfl) ?_; generalize hy : Act.put _ _ undef = y; subst hz; simp only [Act.put, List.setIfInBounds_toArray, List.set_cons_zero, List.set_cons_succ] at hy; have hz := hy; clear hy) | (refine wpQuietIn_step (by quiet_asked_in) (fun K hK => ?_); subst hz; go_simp; generalize hz : Act.mk _ _ = z; refine hK z ?_; clear hK K))
              refine wpQuietIn_nil ?_
              rintro _ ⟨nq, rfl⟩
              subst hz
              gi_wp2
              exact ⟨KeepsOthers.from (W := W) (W' := W.drewN nq) ⟨Nat.le_refl _, fun _ _ h _ => h⟩ _, ⟨rfl, pre.length, by simp, by rw [hq]; exact hv' nq, Or.inl ⟨by omega, fun y hy => by simp at hy; subst hy; rw [hq]; exact he⟩⟩, hB.trans ⟨rfl, rfl, rfl, Nat.le_refl _, fun _ _ => rfl⟩⟩
            · have h0b : (x.f0 = (rd_T23 L q).f0) = False := eq_false h0
              gi_wp2
              refine nd_region (by kernel_rfl) (by kernel_rfl) (by simp) ?_
              generalize hz : Act.mk _ _ = z
              repeat (first | (refine wpQuietIn_skip (by quiet_asked_in) (by subst hz; rfl) ?_; generalize hy : Act.put _ _ undef = y; subst hz; simp only [Act.put, List.setIfInBounds_toArray, List.set_cons_zero, List.set_cons_succ] at hy; have hz := hy; clear hy) | (refine wpQuietIn_step (by quiet_asked_in) (fun K hK => ?_); subst hz; go_simp; generalize hz : Act.mk _ _ = z; refine hK z ?_; clear hK K))
              refine wpQuietIn_nil ?_
              rintro _ ⟨nq, rfl⟩
              subst hz
              gi_wp2
              exact ⟨KeepsOthers.from (W := W) (W' := W.drewN nq) ⟨Nat.le_refl _, fun _ _ h _ => h⟩ _, ⟨rfl, pre.length, by simp, by rw [hq]; exact hv' nq, Or.inl ⟨by omega, fun y hy => by simp at hy; subst hy; rw [hq]; exact he⟩⟩, hB.trans ⟨rfl, rfl, rfl, Nat.le_refl _, fun _ _ => rfl⟩⟩
        · have hd1 : decide (q < (L.length : Int)) = false := decide_eq_false h1
          clear hfin
          by_cases h2 : q = 1001
          · have hz1 : (q == 1001) = true := by simp [h2]
            have hn1 : pre.length = 1001 := by omega
            have hn2 : L.length ≤ pre.length := by omega
            clear h2 h1
            gi_wp2
            refine nd_region (by kernel_rfl) (by kernel_rfl) (by simp) ?_
            generalize hz : Act.mk _ _ = z
            repeat (first | (refine wpQuietIn_skip (by quiet_asked_in) (by subst hz; rfl) ?_; generalize hy : Act.put _ _ undef = y; subst hz; simp only [Act.put, List.setIfInBounds_toArray, List.set_cons_zero, List.set_cons_succ] at hy; have hz := hy; clear hy) | (refine wpQuietIn_step (by quiet_asked_in) (fun K hK => ?_); subst hz; go_simp; generalize hz : Act.mk _ _ = z; refine hK z ?_; clear hK K))
            refine wpQuietIn_nil ?_
            rintro _ ⟨nq, rfl⟩
            subst hz
            gi_wp2
            exact ⟨KeepsOthers.from (W := W) (W' := W.drewN nq) ⟨Nat.le_refl _, fun _ _ h _ => h⟩ _, ⟨rfl, pre.length, by simp, by rw [hq]; exact hv' nq, Or.inr ⟨hn2, hn1⟩⟩, hB.trans ⟨rfl, rfl, rfl, Nat.le_refl _, fun _ _ => rfl⟩⟩
          · have hz1 : (q == 1001) = false := by simp [h2]
            have hn1 : pre.length + 1 ≤ 1001 := by omega
            clear h2 h1
            gi_wp2
            refine nd_region (by kernel_rfl) (by kernel_rfl) (by simp) ?_
            generalize hz : Act.mk _ _ = z
            repeat (first | (refine wpQuietIn_skip (by quiet_asked_in) (by subst hz; rfl) ?_; generalize hy : Act.put _ _ undef = y; subst hz; simp only [Act.put, List.setIfInBounds_toArray, List.set_cons_zero, List.set_cons_succ] at hy; have hz := hy; clear hy) | (refine wpQuietIn_step (by quiet_asked_in) (fun K hK => ?_); subst hz; go_simp; generalize hz : Act.mk _ _ = z; refine hK z ?_; clear hK K))
            refine wpQuietIn_nil ?_
            rintro _ ⟨nq, rfl⟩
            subst hz
            gi_wp2
            have e : ((pre ++ [x]).length : Int) = q + 1 := by simp; omega
            have hbx : Boxed ((W.drewN nq).setCell ⟨WA.heap.size, 0, none⟩ (.int .i64 (q + 1))) WA.heap.size 3 (.int .i64 (q + 1)) := Boxed.set (.int .i64 (q + 1)) (hv' nq)
            exact ⟨(KeepsOthers.trans (A := W) (B := W.drewN nq) ⟨Nat.le_refl _, fun _ _ h _ => h⟩ (KeepsOthers.setCell _ _ _)).from _, KeepT.trans (A := W) (B := W.drewN nq) ⟨Nat.le_refl _, fun _ _ h => h⟩ (keepT_setCell (hv' nq) (by decide) _), ⟨by rw [e]; exact hbx, by simpa using hn1⟩, below_set (hB.trans ⟨rfl, rfl, rfl, Nat.le_refl _, fun _ _ => rfl⟩) (Nat.le_refl _)⟩
      case done =>
        rintro D xs W hD hxs ⟨⟨hv, h1001⟩, hB⟩ hK
        have hF := hDL xs hxs h1001
        obtain ⟨m, hm⟩ : ∃ m, xs.length = m := ⟨_, rfl⟩
        rw [hm] at hv hF
        clear hm hxs h1001 hAL hDL hfin hH hLe
        subst hfr
        have hB2 := below_step hBA hB
        have hBw := below_step hbW hB2
        obtain ⟨r0, r1, r2, r3, rL⟩ := hSt _ hB2
        have hc := hv.cell
        have hsz2 := hBA.size
        go_wp2
        have g0 := cell_regrown r0
        have g1 := cell_regrown r1
        have g2 := cell_regrown r2
        have g3 := cell_regrown r3
        have gL := cell_regrown rL
        have cS : ∀ d os, Calls Tryd.prog 10 #[.agg #[.int .i64 a0, .int .i64 a1, .int .i64 a2, .int .i64 a3]] (grow (redrawn W d) os) fun e w'' => e = .returned (.int .i64 n) ∧ ∃ p : Regrown, w'' = grow (redrawn W p.d) p.os := fun d os => Calls.regrown_of (span_Size.calls a0 a1 a2 a3 n _ hn)
        have cA : ∀ d os, Calls Tryd.prog 11 #[] (grow (redrawn W d) os) fun e w'' => e = .returned (.bool true) ∧ ∃ p : Regrown, w'' = grow (redrawn W p.d) p.os := fun d os => Calls.regrown_of (oculuslaw04_alive.calls k true _ (tb_ (below_step hBw (below_regrown W d os)) hT) hal)
        rcases hF with ⟨hn1, hm1⟩ | ⟨hL0, hn1, hm1⟩
        · rw [hm1] at hc
          have gn := cell_regrown hc
          rw [hn1] at cS
          clear hn1 hm1
          refine wp_region_quiet_below (by kernel_rfl) (by kernel_rfl) ?_
          generalize hz : Act.mk _ _ = z
          repeat (first | (refine wpQuiet_skip (by subst hz; rfl) ?_; generalize hy : Act.put _ _ undef = y; subst hz; simp only [Act.put, List.setIfInBounds_toArray, List.set_cons_zero, List.set_cons_succ] at hy; have hz := hy; clear hy) | (refine wpQuiet_step (fun K hK => ?_); subst hz; go_simp; first | (generalize hz : Act.mk _ _ = z; refine hK z ?_; clear hK K) | (apply Exists.intro; refine ⟨fun _ => ?_, ?_⟩; (first | exact cS _ _ | exact cA _ _); generalize hz : Act.mk _ _ = z; refine hK z ?_; clear hK K)))
          refine wpQuiet_nil ?_
          rintro _ ⟨⟨dq, osq⟩, rfl⟩
          subst hz
          have hKq := ((below_regrown W dq osq).block D (Array.getElem?_eq_some_iff.1 hK).1).trans hK
          have hBq := below_step hBw (below_regrown W dq osq)
          generalize grow (redrawn W dq) osq = Wq at hKq hBq ⊢
          go_wp2
          refine ⟨by simp, .inl ⟨_, _, rfl, run_takeDeferred hKq, ?_⟩⟩
          exact ⟨_, results_tmp rfl _ _ _, rfl, hBq.trans (belowK_b (w := w) (Nat.le_refl _) Wq D _ _ (by omega) hKq rfl rfl)⟩
        · rw [hm1] at hc
          have gn := cell_regrown hc
          have hz0 : ((L.length : Int) == n) = false := by rw [hL0]; simp; omega
          have hz1 : decide (n > 1000) = true := decide_eq_true (by omega)
          clear hL0 hn1 hm1
          refine wp_region_quiet_below (by kernel_rfl) (by kernel_rfl) ?_
          generalize hz : Act.mk _ _ = z
          repeat (first | (refine wpQuiet_skip (by subst hz; rfl) ?_; generalize hy : Act.put _ _ undef = y; subst hz; simp only [Act.put, List.setIfInBounds_toArray, List.set_cons_zero, List.set_cons_succ] at hy; have hz := hy; clear hy) | (refine wpQuiet_step (fun K hK => ?_); subst hz; go_simp; first | (generalize hz : Act.mk _ _ = z; refine hK z ?_; clear hK K) | (apply Exists.intro; refine ⟨fun _ => ?_, ?_⟩; (first | exact cS _ _ | exact cA _ _); generalize hz : Act.mk _ _ = z; refine hK z ?_; clear hK K)))
          refine wpQuiet_nil ?_
          rintro _ ⟨⟨dq, osq⟩, rfl⟩
          subst hz
          have hKq := ((below_regrown W dq osq).block D (Array.getElem?_eq_some_iff.1 hK).1).trans hK
          have hBq := below_step hBw (below_regrown W dq osq)
          generalize grow (redrawn W dq) osq = Wq at hKq hBq ⊢
          go_wp2
          refine ⟨by simp, .inl ⟨_, _, rfl, run_takeDeferred hKq, ?_⟩⟩
          exact ⟨_, results_tmp rfl _ _ _, rfl, hBq.trans (belowK_b (w := w) (Nat.le_refl _) Wq D _ _ (by omega) hKq rfl rfl)⟩
      case stop =>
        rintro D c pre W hD hpre ⟨⟨rfl, N, hpl, hv, hd⟩, hB⟩ hK
        obtain ⟨hL0, hn1, hm1⟩ := hAL pre N hpl hpre hd
        clear hpl hpre hd hAL hDL hfin hH hLe
        subst hfr
        have hB2 := below_step hBA hB
        have hBw := below_step hbW hB2
        obtain ⟨r0, r1, r2, r3, rL⟩ := hSt _ hB2
        have hc := hv.cell
        have hsz2 := hBA.size
        refine wpIn_wide.2 ?_
        go_wp2
        have g0 := cell_regrown r0
        have g1 := cell_regrown r1
        have g2 := cell_regrown r2
        have g3 := cell_regrown r3
        have gL := cell_regrown rL
        have cS : ∀ d os, Calls Tryd.prog 10 #[.agg #[.int .i64 a0, .int .i64 a1, .int .i64 a2, .int .i64 a3]] (grow (redrawn W d) os) fun e w'' => e = .returned (.int .i64 n) ∧ ∃ p : Regrown, w'' = grow (redrawn W p.d) p.os := fun d os => Calls.regrown_of (span_Size.calls a0 a1 a2 a3 n _ hn)
        have cA : ∀ d os, Calls Tryd.prog 11 #[] (grow (redrawn W d) os) fun e w'' => e = .returned (.bool true) ∧ ∃ p : Regrown, w'' = grow (redrawn W p.d) p.os := fun d os => Calls.regrown_of (oculuslaw04_alive.calls k true _ (tb_ (below_step hBw (below_regrown W d os)) hT) hal)
        rw [hm1] at hc
        have gn := cell_regrown hc
        have hz0 : ((L.length : Int) == n) = false := by rw [hL0]; simp; omega
        have hz1 : decide (n > 1000) = true := decide_eq_true (by omega)
        clear hL0 hn1 hm1
        refine wp_region_quiet_below (by kernel_rfl) (by kernel_rfl) ?_
        generalize hz : Act.mk _ _ = z
        repeat (first | (refine wpQuiet_skip (by subst hz; rfl) ?_; generalize hy : Act.put _ _ undef = y; subst hz; simp only [Act.put, List.setIfInBounds_toArray, List.set_cons_zero, List.set_cons_succ] at hy; have hz := hy; clear hy) | (refine wpQuiet_step (fun K hK => ?_); subst hz; go_simp; first | (generalize hz : Act.mk _ _ = z; refine hK z ?_; clear hK K) | (apply Exists.intro; refine ⟨fun _ => ?_, ?_⟩; (first | exact cS _ _ | exact cA _ _); generalize hz : Act.mk _ _ = z; refine hK z ?_; clear hK K)))
        refine wpQuiet_nil ?_
        rintro _ ⟨⟨dq, osq⟩, rfl⟩
        subst hz
        have hKq := ((below_regrown W dq osq).block D (Array.getElem?_eq_some_iff.1 hK).1).trans hK
        have hBq := below_step hBw (below_regrown W dq osq)
        generalize grow (redrawn W dq) osq = Wq at hKq hBq ⊢
        go_wp2
        refine ⟨by simp, .inl ⟨_, _, rfl, run_takeDeferred hKq, ?_⟩⟩
        exact ⟨_, results_tmp rfl _ _ _, rfl, hBq.trans (belowK_b (w := w) (Nat.le_refl _) Wq D _ _ (by omega) hKq rfl rfl)⟩
end Go.Proofs.YtcbjihedobhjcaaDoor.X
