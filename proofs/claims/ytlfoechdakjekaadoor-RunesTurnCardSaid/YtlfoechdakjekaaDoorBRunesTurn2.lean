/- The law RunesTurn: for every input the call returns true, and each argument reads afterwards as it read before: the statement Rows.RunesTurnSaid, whole, with no condition of ours. -/
import Derived.Deep.Slices
import Derived.ChangeArms
import Derived.SizedLaws
import Derived.OpenShut
import Derived.Test.YtlfoechdakjekaaDoorRows
import Derived.WalkKit
import Derived.ProofKit
import Derived.ShutString
import Derived.ChangeOld
import Derived.Below
import Derived.Carry
import Derived.Handed
import Derived.LaidLaws
import Derived.Lib.LaidTab
import Derived.PinnedBridge
import Derived.Lib.LaidU8
import Derived.Test.YtlfoechdakjekaaDoorCards
import Derived.Test.YtlfoechdakjekaaDoorTie
import Derived.SevenTiedAt
import Derived.Test.YtlfoechdakjekaaDoorBRunesTurn1
/- The contract of runes.Reverse: its pieces by utf8.DecodeRuneInString, told from the last one on through strings.Builder. -/
set_option linter.unusedVariables false
set_option linter.unusedSimpArgs false
namespace Go.Proofs.YtlfoechdakjekaaDoor.X
open Go.RowKit Go.Shelf Go.Proofs.YtlfoechdakjekaaDoorW.PrintWords Go.Proofs.YtlfoechdakjekaaDoorW.PrintLast Go.Proofs.YtlfoechdakjekaaDoorW.PrintMore
def runes_Reverse.f (a0 : ByteArray) : Option ByteArray := if a0.size ≤ 1000 then some (tx (revT (by_ a0))) else none
theorem decodeGo_wL (t : List UInt8) (h : t ≠ []) : (Lib.decodeGo (tx t)).2 = wL t := by
  unfold Lib.decodeGo
  rw [if_neg (by rw [size_tx]; exact fun e => h (List.eq_nil_of_length_eq_zero e)), decode_wL, List.drop_zero, by_tx]
set_option maxHeartbeats 8000000 in
set_option maxRecDepth 1000000 in
theorem runes_Reverse.calls (a0 : ByteArray) (r : ByteArray) (w : World) (hT : Aside0 (Tab w)) (h : runes_Reverse.f a0 = some r) :
    Calls Tryd.prog 7 #[.string a0] w fun e w' => e = .returned (.string r) ∧ Below w.heap.size w w' := by
  unfold runes_Reverse.f at h
  have hs : a0.size ≤ 1000 := by
    by_cases hs : a0.size ≤ 1000
    · exact hs
    · rw [if_neg hs] at h; cases h
  rw [if_pos hs] at h
  obtain rfl := Option.some.inj h
  clear h
  have HB0 := Aside0.mk (Below.refl w.heap.size w)
  have HQ0 : Aside0 ((by_ a0).length < a0.size + 1 ∧ ([] : List (List UInt8)).length + (by_ a0).length ≤ a0.size) := ⟨by rw [← size_by]; omega, by rw [← size_by]; simp⟩
  have HP0 : Aside0 (([] : List (List UInt8)) ++ pcs (by_ a0) = pcs (by_ a0)) := ⟨List.nil_append _⟩
  go_enter Tryd.func7, Tryd.ntmps7
  go_wp2
  go_loopg [0, 3] (a0.size + 1) (fun kq v0 v3 w' => ∃ (t : List UInt8) (acc : List (List UInt8)), v0 = .string (tx t) ∧ Aside0 (acc ++ pcs t = pcs (by_ a0)) ∧ Aside0 (t.length < kq ∧ acc.length + t.length ≤ a0.size) ∧ Aside0 (Kd.R Kd.string 9 w' w.heap.size (fun _ => True) v3 (acc.map tx)) ∧ Aside0 (Below w.heap.size w w'))
  case atStart => exact ⟨by_ a0, [], by rw [tx_by], HP0, HQ0, ⟨Kd.R_nil _ _ _ _ _⟩, HB0⟩
  case round =>
    clear HQ0 HP0 HB0
    obtain ⟨t, acc, rfl, HP, HQ, HO, HB⟩ := hrel
    have hq := HQ.out
    cases gk with
    | zero => exact absurd hq.1 (by omega)
    | succ k1 =>
      by_cases ht : t = []
      · have c1 : ((tx t).toList == ([] : List UInt8)) = true := beq_iff_eq.mpr (by rw [toList_by, by_tx, ht])
        have c2 : ((tx t).toList != ([] : List UInt8)) = false := bne_eq_false_iff_eq.mpr (by rw [toList_by, by_tx, ht])
        have hall : acc = pcs (by_ a0) := by have := HP.out; rw [ht, pcs_nil, List.append_nil] at this; exact this
        have hle0 : acc.length ≤ 1000 := by omega
        clear HP HQ hq ht
        obtain ⟨A, cp, rfl, hrd⟩ := Kd.R_reads HO.out
        obtain ⟨inner, hown⟩ := Kd.R_own HO.out
        -- the row's block, if there is one
        have hrow : ∀ i : Nat, i < (acc.map tx).length → ∃ g cur, A = some ⟨g, 0, none⟩ ∧ w.heap.size ≤ g ∧ g < wr.heap.size ∧ wr.heap[g]? = some (.cells cur 9 (0, 0)) ∧ wr.cell? ⟨g, i, none⟩ = some (.string ((acc.map tx).getD i ByteArray.empty)) := by
          intro i hi
          obtain ⟨ad, c, hA, hcl, hcr, hcell⟩ := ReadsRow.get_ hrd.2 ByteArray.empty (i : Int) (by omega) (by omega)
          rcases hown.2 with ⟨_, h0⟩ | ⟨g, cap, cur, hv, hg1, hg2, _⟩
          · omega
          · injection hv with hv1 hv2 hv3
            subst hv1
            injection hA with hA
            subst hA
            refine ⟨g, cur, rfl, hg1, (Array.getElem?_eq_some_iff.1 hg2).1, hg2, ?_⟩
            have hce : c = [.string ((acc.map tx).getD (Int.toNat (i : Int)) ByteArray.empty)] := hcr
            have := hcell 0 (.string ((acc.map tx).getD (Int.toNat (i : Int)) ByteArray.empty)) (by rw [hce]; rfl)
            rw [Int.toNat_natCast] at this
            have e : (⟨g, 0, none⟩ : Addr).add (i * Kd.string.sz + 0) = ⟨g, i, none⟩ := by
              simp [Addr.add, Kd.string, Kd.scalar]
              try exact fun h => h.symm
            rw [e] at this
            exact this
        have hlen : (acc.map tx).length = acc.length := List.length_map ..
        rw [hlen] at hrow
        have hbw1 : Below w.heap.size w (wr.alloc (.cells #[.pointer none, .slice none 0 0] 43)) := HB.out.alloc HB.out.size _
        have hnew : (wr.alloc (.cells #[.pointer none, .slice none 0 0] 43)).heap[wr.heap.size]? = some (.cells #[.pointer none, .slice none 0 0] 43 (0, 0)) := by
          show (wr.heap.push _)[wr.heap.size]? = some _
          simp
        have hI0 : Lib.IsBuilderF 43 5 w.heap.size wr.heap.size (Lib.byteCells []) (wr.alloc (.cells #[.pointer none, .slice none 0 0] 43)) := Or.inl ⟨HB.out.size, .slice none 0 0, hnew, ⟨rfl, Or.inl ⟨rfl, rfl⟩⟩, by simp [Value.ownBlock]⟩
        have hrow1 : ∀ i : Nat, i < acc.length → ∃ g cur, A = some ⟨g, 0, none⟩ ∧ w.heap.size ≤ g ∧ g < wr.heap.size ∧ (wr.alloc (.cells #[.pointer none, .slice none 0 0] 43)).heap[g]? = some (.cells cur 9 (0, 0)) ∧ (wr.alloc (.cells #[.pointer none, .slice none 0 0] 43)).cell? ⟨g, i, none⟩ = some (.string ((acc.map tx).getD i ByteArray.empty)) := by
          intro i hi
          obtain ⟨g, cur, hA, hg1, hg2, hg3, hg4⟩ := hrow i hi
          have hh := Below.heap_alloc wr (.cells #[.pointer none, .slice none 0 0] 43) g hg2
          exact ⟨g, cur, hA, hg1, hg2, hh.trans hg3, by rw [World.cell?_of_block (w := wr) (a := ⟨g, i, none⟩) hh]; exact hg4⟩
        have HLE : Aside0 (acc.length ≤ 1000) := ⟨hle0⟩
        have hfl : acc.reverse.flatten.length ≤ 1000 := by
          have e1 : acc.reverse.flatten.length = acc.flatten.length := by rw [List.length_flatten, List.length_flatten, List.map_reverse, List.sum_reverse]
          rw [e1, hall, pcs_flat, ← size_by]
          exact hs
        have HFL := Aside0.mk hfl
        clear hfl
        have HALL := Aside0.mk hall
        have HROW := Aside0.mk hrow1
        have HB1 := Aside0.mk hbw1
        have HI0 := Aside0.mk hI0
        have HSZ := Aside0.mk HB.out.size
        clear hrow hrow1 hown hrd HO hnew hbw1 hI0 HB hall hle0 hs
        rw [hlen]
        go_wp2
        generalize (wr.alloc (.cells #[.pointer none, .slice none 0 0] 43)) = w1 at HROW HB1 HI0 ⊢
        obtain ⟨b, hb_⟩ : ∃ b, wr.heap.size = b := ⟨_, rfl⟩
        rw [hb_] at HROW HI0 HSZ ⊢
        clear hb_
        go_loopg [26] (acc.length + 1) (fun kq v26 w9 => ∃ (i : Nat) (o : List UInt8), v26 = .int .i64 (i : Int) ∧ Aside0 (i + kq = acc.length + 1 ∧ i ≤ acc.length) ∧ Aside0 (Lib.IsBuilderF 43 5 w.heap.size b (Lib.byteCells o) w9) ∧ Aside0 (Below w.heap.size w w9) ∧ Aside0 (Lib.OthersKept 5 (some b) w1 w9) ∧ Aside0 (o = (acc.reverse.take i).flatten))
        case atStart => exact ⟨0, [], rfl, ⟨by omega, by omega⟩, HI0, HB1, ⟨Lib.OthersKept.refl _ _ _⟩, ⟨rfl⟩⟩
        case round =>
          obtain ⟨i, o, rfl, HQ, HI, HB, HK, HO⟩ := hrel
          have hq := HQ.out
          cases gk with
          | zero => exact absurd hq.1 (by omega)
          | succ k2 =>
            by_cases hi : i < acc.length
            · have hd : decide ((i : Int) < (acc.length : Int)) = true := decide_eq_true (by omega)
              have hj : acc.length - 1 - i < acc.length := by omega
              obtain ⟨g, cur, hA, hg1, hg2, hg3, hcell⟩ := HROW.out (acc.length - 1 - i) hj
              subst hA
              have hgk : wr.heap[g]? = some (.cells cur 9 (0, 0)) := HK.out g _ hg3 (by intro e; injection e with e; omega) (by intro c fz e; injection e with e1 e2 e3; exact absurd e2 (by decide))
              have hcw : wr.cell? ⟨g, acc.length - 1 - i, none⟩ = some (.string ((acc.map tx).getD (acc.length - 1 - i) ByteArray.empty)) := by rw [World.cell?_of_block (w := w1) (w' := wr) (a := ⟨g, acc.length - 1 - i, none⟩) (by show wr.heap[g]? = w1.heap[g]?; rw [hgk, hg3])]; exact hcell
              have hel : (acc.map tx).getD (acc.length - 1 - i) ByteArray.empty = tx (acc[acc.length - 1 - i]) := by
                rw [List.getD_eq_getElem?_getD, List.getElem?_map, List.getElem?_eq_getElem hj]; rfl
              rw [hel] at hcw
              obtain ⟨j, hj_⟩ : ∃ j, acc.length - 1 - i = j := ⟨_, rfl⟩
              have hjz : wrap64 (wrap64 ((acc.length : Int) - 1) - (i : Int)) = (j : Int) := by
                have := hq.2
                have hle : acc.length ≤ 1000 := HLE.out
                rw [w64 (x := (acc.length : Int) - 1) (by omega) (by omega), w64 (by omega) (by omega)]; omega
              have hp : (0 ≤ (j : Int)) = True := eq_true (by omega)
              have hp2 : ((j : Int) < (acc.length : Int)) = True := eq_true (by omega)
              have hel2 : acc[acc.length - 1 - i] = acc.reverse[i]'(by rw [List.length_reverse]; exact hi) := by rw [List.getElem_reverse]
              rw [hel2] at hcw
              obtain ⟨p, hp_⟩ : ∃ p, acc.reverse[i]'(by rw [List.length_reverse]; exact hi) = p := ⟨_, rfl⟩
              rw [hp_, hj_] at hcw
              have hwz : w.heap.size ≤ wr.heap.size := HB.out.size
              have hsum : o.length + p.length ≤ 1000 := by
                have h1 := HO.out
                have h2 : (acc.reverse.take (i + 1)).flatten = o ++ p := by rw [List.take_add_one, List.getElem?_eq_getElem (by rw [List.length_reverse]; exact hi), List.flatten_append, ← h1, hp_]; simp
                have h3 : (acc.reverse.take (i + 1)).flatten.length ≤ acc.reverse.flatten.length := by
                  have h4 : acc.reverse.flatten = (acc.reverse.take (i + 1)).flatten ++ (acc.reverse.drop (i + 1)).flatten := by rw [← List.flatten_append, List.take_append_drop]
                  rw [h4, List.length_append]; omega
                have h5 := HFL.out
                rw [h2, List.length_append] at h3
                omega
              have hsz : (tx p).size = p.length := size_tx p
              clear hel hel2 hcell
              go_wp2_with (go_at_call 19; refine (bld_string_k w.heap.size b _ (tx p) _ (by exact HI.out) (by rw [Lib.byteCells_length, hsz]; omega) (by exact hwz)).mono ?_; rintro e w3 ⟨rfl, h3, hb3, hk3⟩)
              go_roundg k2
              case measure => omega
              case rel =>
                refine ⟨i + 1, o ++ p, by rw [w64s (n := 2000) (by have := HLE.out; omega) (by omega)], ⟨by omega, by omega⟩, ⟨Or.inr ?_⟩, ⟨HB.out.trans hb3⟩, ⟨HK.out.trans hk3⟩, ⟨?_⟩⟩
                · rw [Lib.byteCells_append]; exact h3
                · rw [List.take_add_one, List.getElem?_eq_getElem (by rw [List.length_reverse]; exact hi), List.flatten_append, ← HO.out, hp_]; simp
            · have hd : decide ((i : Int) < (acc.length : Int)) = false := decide_eq_false (by omega)
              have hwz : w.heap.size ≤ wr.heap.size := HB.out.size
              have ho := HO.out
              rw [List.take_of_length_le (by rw [List.length_reverse]; omega)] at ho
              subst ho
              go_wp2_with (go_at_call 20; refine (Tryd.Builder_String_any_k w.heap.size b _ _ (by exact HI.out) (by exact hwz)).mono ?_; rintro e w2 ⟨rfl, _, hb2, _⟩)
              go_ret
              exact ⟨by unfold revT; rw [← HALL.out]; rfl, HB.out.trans hb2⟩
      · have hb := wL_bounds t ht
        have c1 : ((tx t).toList == ([] : List UInt8)) = false := beq_eq_false_iff_ne.mpr (by rw [toList_by, by_tx]; exact ht)
        have c2 : ((tx t).toList != ([] : List UInt8)) = true := bne_iff_ne.mpr (by rw [toList_by, by_tx]; exact ht)
        have hcall : ∀ W : World, Tab W → Calls Tryd.prog 18 #[.string (tx t)] W fun e w' => e = .returned (.tuple #[.int .i32 (Lib.decodeGo (tx t)).1, .int .i64 (wL t : Int)]) ∧ Below W.heap.size W w' := by
          intro W hW
          have := Tryd.utf8_DecodeRuneInString (tx t) W hW.u8
          rw [decodeGo_wL t ht] at this
          exact this
        have HTW : Aside0 (Tab wr) := tb_ HB.out hT
        obtain ⟨n, hn⟩ : ∃ n : Int, (wL t : Int) = n := ⟨_, rfl⟩
        rw [hn] at hcall
        have HC := Aside0.mk hcall
        clear hcall
        have q1 := eq_true (show 0 ≤ n by omega)
        have q2 := eq_true (show n ≤ ((tx t).size : Int) by rw [size_tx]; omega)
        have hlen : (acc.map tx).length ≤ 1000 := by rw [List.length_map]; omega
        have HN := Aside0.mk hn
        have HE := Aside0.mk ht
        have HL := Aside0.mk hlen
        clear hn ht hb hlen hq
        go_wp2_with (first
          | (go_at_call 18; refine (HC.out _ (by exact HTW.out)).mono ?_; rintro e w5 ⟨rfl, hb5⟩; replace HO := Aside0.mk (Kd.R_below HO.out hb5); replace HB := Aside0.mk (below_step HB.out hb5); clear hb5)
          | ((with_reducible refine gate_builtin (b := .append) (xs := #[.tmp 15, .tmp 19]) rfl ?_); at_builtin; refine Kd.R_append Kd.string (w0 := w) w.heap.size rfl (.tmp 15) (.tmp 19) 30 9 (.string ⟨#[]⟩) 16 rfl Tryd.underlying30 info9 rfl (by decide) (by omega) _ (acc.map tx) ((tx t).extract 0 n.toNat) [.string ((tx t).extract 0 n.toNat)] (fun _ => True) (fun _ => False) rfl rfl ?aP (fun _ hk => hk.elim) ?aF ?aO ?aB ?aS ?aL ?_; (case aP => exact rfl); (case aB => exact (pbx HB)); (case aF => exact (fun _ _ => trivial)); (case aO => exact (by (with_reducible repeat (first | apply Kd.R_alloc | apply Kd.R_drewN | apply Kd.R_drew)); exact HO.out)); (case aS => exact (below_size (pbx HB))); (case aL => have := HL.out; omega); intro v103 w9 ho hb hg hat; have n0_ := Aside0.mk (hb); have n1_ := Aside0.mk (ho); clear HB; clear HO; have HB := n0_; have HO := n1_; clear n0_ n1_; clear ho hb hg hat))
        have hb := wL_bounds t HE.out
        have hq := HQ.out
        have hn := HN.out
        go_roundg k1
        case measure => omega
        case rel =>
          refine ⟨t.drop (wL t), acc ++ [t.take (wL t)], ?_, ⟨?_⟩, ⟨?_, ?_⟩, ⟨?_⟩, HB⟩
          · rw [← hn, Int.toNat_natCast, ext_tail, by_tx]
          · rw [List.append_assoc, ← HP.out, pcs_cons t HE.out]; rfl
          · rw [List.length_drop]; omega
          · rw [List.length_drop, List.length_append, List.length_singleton]; omega
          · have h1 := HO.out
            rw [← hn, Int.toNat_natCast, ext_head, by_tx] at h1
            rw [List.map_append]
            exact h1
end Go.Proofs.YtlfoechdakjekaaDoor.X
namespace Go.Proofs.YtlfoechdakjekaaDoor.X
open Go.RowKit Go.Proofs.YtlfoechdakjekaaDoorW.PrintWords Go.Proofs.YtlfoechdakjekaaDoorW.PrintLast Go.Proofs.YtlfoechdakjekaaDoorW.PrintMore
attribute [local go_sem] max2_int min2_int max_two min_two max_three min_three max_four min_four   -- for this text's walks alone
set_option linter.unusedVariables false
set_option linter.unusedSimpArgs false

theorem bne_nil_t {b : Bool} {l : List UInt8} (h : (b != (l != [])) = true) : (b = true ∧ l.isEmpty = true) ∨ (b = false ∧ l.isEmpty = false) := by cases b <;> cases l <;> simp_all
theorem bne_nil_f {b : Bool} {l : List UInt8} (h : (b != (l != [])) = false) : (b = true ∧ l.isEmpty = false) ∨ (b = false ∧ l.isEmpty = true) := by cases b <;> cases l <;> simp_all
/-! ### oculuslaw13_RunesTurn: function 3 -/
mutual
def oculuslaw13_RunesTurn.j0 : Nat → ByteArray → Int → ByteArray → Bool → Bool → Option (Bool)
 | 0, _, _, _, _, _ => none
 | k + 1, x0, x1, x5, x6, x39 => if x39 = true then (none) else ((runes_First.f x0).bind fun bt107 => (if (bt107.2 != (x0.toList != ([] : List UInt8))) = true then (oculuslaw13_RunesTurn.j1 k x0 x1 x5 x6 true) else (if bt107.2 = true then ((oculusref13_First.f k x0).bind fun t109 => (if (wrap64 (bt107.1)) = t109 then (oculuslaw13_RunesTurn.j1 k x0 x1 x5 x6 false) else (oculuslaw13_RunesTurn.j1 k x0 x1 x5 x6 true))) else (oculuslaw13_RunesTurn.j1 k x0 x1 x5 x6 (bt107.1 != 0)))))
def oculuslaw13_RunesTurn.j1 : Nat → ByteArray → Int → ByteArray → Bool → Bool → Option (Bool)
 | 0, _, _, _, _, _ => none
 | k + 1, x0, x1, x5, x6, x66 => if x66 = true then (none) else ((oculusref13_Pieces.f k x0).bind fun t110 => (oculuslaw13_RunesTurn.l0 k x0 x1 x5 x6 true t110 (t110.length : Int) 0))
def oculuslaw13_RunesTurn.l0 : Nat → ByteArray → Int → ByteArray → Bool → Bool → List ByteArray → Int → Int → Option (Bool)
 | 0, _, _, _, _, _, _, _, _ => none
 | k + 1, x0, x1, x5, x6, x9, x68, x69, x70 => if x70 < x69 then (if 0 ≤ x70 then (if x70 < (x68.length : Int) then (if x9 = true then (if ((rdOf ByteArray.empty x68 x70).size : Int) > 1 then (oculuslaw13_RunesTurn.l0 k x0 x1 x5 x6 true x68 x69 (wrap64 (x70 + 1))) else (if 0 < ((rdOf ByteArray.empty x68 x70).size : Int) then (oculuslaw13_RunesTurn.l0 k x0 x1 x5 x6 (decide ((bt (rdOf ByteArray.empty x68 x70) 0) < 128)) x68 x69 (wrap64 (x70 + 1))) else (none))) else (oculuslaw13_RunesTurn.l0 k x0 x1 x5 x6 false x68 x69 (wrap64 (x70 + 1)))) else (none)) else (none)) else (if x6 = true then ((runes_First.f x5).bind fun bt114 => (if bt114.2 = true then (oculuslaw13_RunesTurn.j3 k x0 x9 ((wrap64 (bt114.1)) != x1)) else (oculuslaw13_RunesTurn.j3 k x0 x9 true))) else (if x9 = true then ((runes_Reverse.f x0).bind fun t120 => ((runes_Reverse.f t120).bind fun t121 => (if t121.toList = x0.toList then ((oculuslaw13_alive.f k).bind fun t122 => (some t122)) else (none)))) else ((oculuslaw13_alive.f k).bind fun t123 => (some t123))))
def oculuslaw13_RunesTurn.j3 : Nat → ByteArray → Bool → Bool → Option (Bool)
 | 0, _, _, _ => none
 | k + 1, x0, x9, x99 => if x99 = true then (none) else (if x9 = true then ((runes_Reverse.f x0).bind fun t116 => ((runes_Reverse.f t116).bind fun t117 => (if t117.toList = x0.toList then ((oculuslaw13_alive.f k).bind fun t118 => (some t118)) else (none)))) else ((oculuslaw13_alive.f k).bind fun t119 => (some t119)))
end
def oculuslaw13_RunesTurn.f (k : Nat) (a0 : ByteArray) (a1 : Int) : Option (Bool) := if (a0.size : Int) > 300 then ((oculuslaw13_alive.f k).bind fun t101 => (some t101)) else ((runes_Single.f k a1).bind fun bt102 => ((oculusref13_Single.f k a1).bind fun t104 => (if bt102.1.toList = t104.toList then (if (bt102.2 != (bt102.1.toList != ([] : List UInt8))) = true then (oculuslaw13_RunesTurn.j0 k a0 a1 bt102.1 bt102.2 true) else ((runes_Reverse.f a0).bind fun t105 => ((oculusref13_Reverse.f k a0).bind fun t106 => (oculuslaw13_RunesTurn.j0 k a0 a1 bt102.1 bt102.2 (t105.toList != t106.toList))))) else (oculuslaw13_RunesTurn.j0 k a0 a1 bt102.1 bt102.2 true))))
set_option maxHeartbeats 8000000 in
set_option maxRecDepth 100000 in
theorem oculuslaw13_RunesTurn.calls (k : Nat) (a0 : ByteArray) (a1 : Int) (r : Bool) (w : World) (hT : Aside0 (Tab w)) (h : oculuslaw13_RunesTurn.f k a0 a1 = some r) :
  Calls Tryd.prog 3 #[.string a0, .int .i64 a1] w fun e w' => e = .returned (.bool r) ∧ Below w.heap.size w w' := by
 have HB := Aside0.mk (Below.refl w.heap.size w)
 have H : (if (a0.size : Int) > 300 then ((oculuslaw13_alive.f k).bind fun t101 => (some t101)) else ((runes_Single.f k a1).bind fun bt102 => ((oculusref13_Single.f k a1).bind fun t104 => (if bt102.1.toList = t104.toList then (if (bt102.2 != (bt102.1.toList != ([] : List UInt8))) = true then (oculuslaw13_RunesTurn.j0 k a0 a1 bt102.1 bt102.2 true) else ((runes_Reverse.f a0).bind fun t105 => ((oculusref13_Reverse.f k a0).bind fun t106 => (oculuslaw13_RunesTurn.j0 k a0 a1 bt102.1 bt102.2 (t105.toList != t106.toList))))) else (oculuslaw13_RunesTurn.j0 k a0 a1 bt102.1 bt102.2 true))))) = some r := h
 clear h
 by_cases c3 : (a0.size : Int) > 300
 ·rw [if_pos c3] at H; have c3b0 : decide (300 < (a0.size : Int)) = true := decide_eq_true c3; have c3b1 : decide (300 < a0.size) = true := decide_eq_true (by omega); clear c3; replace H := Option.bind_eq_some_iff.mp H; obtain ⟨t101, A40, H⟩ := H
  replace H : (some t101) = some r := H
  have A4 := Aside0.mk A40; clear A40; obtain rfl := Option.some.inj H
  go_enter Tryd.func3, Tryd.ntmps3
  go_wp2_with (first | ((with_reducible refine gate_callee (f:=4) rfl ?_); refine goesL_ (some 17) rfl rfl Tryd.func4 (by kernel_rfl) rfl #[] rfl (by (try simp only [List.map_toArray, List.map_cons, List.map_nil]); first | done | rfl | (simp only [List.length_drop, List.length_take]; rfl)) ?_; (with_reducible refine (oculuslaw13_alive.calls k  t101 _ A4.out).mono ?_); rintro e w5 ⟨rfl, hb⟩; refine ⟨_, rfl, ?_⟩; replace HB := bs_ HB hb; (try clear hb); (try clear hb2); (try clear hk); (try clear hi)))
  go_ret
  exact ⟨by first | rfl | (simp [errW_none, errW_some] <;> rfl) | (simp [*, errW_none, errW_some] <;> rfl), pbx HB⟩
 ·rw [if_neg c3] at H; have c3b0 : decide (300 < (a0.size : Int)) = false := decide_eq_false c3; have c3b1 : decide (300 < a0.size) = false := decide_eq_false (by omega); clear c3; replace H := Option.bind_eq_some_iff.mp H; obtain ⟨⟨t102, t103⟩, A60, H⟩ := H
  replace H : ((oculusref13_Single.f k a1).bind fun t104 => (if t102.toList = t104.toList then (if (t103 != (t102.toList != ([] : List UInt8))) = true then (oculuslaw13_RunesTurn.j0 k a0 a1 t102 t103 true) else ((runes_Reverse.f a0).bind fun t105 => ((oculusref13_Reverse.f k a0).bind fun t106 => (oculuslaw13_RunesTurn.j0 k a0 a1 t102 t103 (t105.toList != t106.toList))))) else (oculuslaw13_RunesTurn.j0 k a0 a1 t102 t103 true))) = some r := H
  have A6 := Aside0.mk A60; clear A60; have HC7 := Aside0.mk H; clear H
  go_enter Tryd.func3, Tryd.ntmps3
  go_upto_region 4 with (first | ((with_reducible refine gate_callee (f:=5) rfl ?_); refine goesL_ (some 20) rfl rfl Tryd.func5 (by kernel_rfl) rfl #[.int .i64 a1] rfl (by (try simp only [List.map_toArray, List.map_cons, List.map_nil]); first | done | rfl | (simp only [List.length_drop, List.length_take]; rfl)) ?_; (with_reducible refine (runes_Single.calls k a1 t102 t103 _ A6.out).mono ?_); rintro e w' ⟨rfl, ⟨nd, rfl⟩⟩; refine ⟨_, rfl, ?_⟩))
  (try simp only [q_])
  go_cut [39] (fun v39 wc => ∃ (kq : Nat) (x39_6 : Bool), v39 = .bool x39_6 ∧ Aside0 (oculuslaw13_RunesTurn.j0 kq a0 a1 t102 t103 x39_6 = some r) ∧ Aside0 (kq ≤ k) ∧ Aside0 (Below w.heap.size w wc))
  case first =>
   have H := HC7.out; clear HC7; replace H := Option.bind_eq_some_iff.mp H; obtain ⟨t104, A80, H⟩ := H
   replace H : (if t102.toList = t104.toList then (if (t103 != (t102.toList != ([] : List UInt8))) = true then (oculuslaw13_RunesTurn.j0 k a0 a1 t102 t103 true) else ((runes_Reverse.f a0).bind fun t105 => ((oculusref13_Reverse.f k a0).bind fun t106 => (oculuslaw13_RunesTurn.j0 k a0 a1 t102 t103 (t105.toList != t106.toList))))) else (oculuslaw13_RunesTurn.j0 k a0 a1 t102 t103 true)) = some r := H
   have A8 := Aside0.mk A80; clear A80
   by_cases c9 : t102.toList = t104.toList
   ·rw [if_pos c9] at H; have c9b0 : (t102.toList == t104.toList) = true := beq_iff_eq.mpr c9; have c9b1 : (t102.toList != t104.toList) = false := bne_eq_false_iff_eq.mpr c9; clear c9; (first | rw [c9b0] | (simp only [i64_w, i32_w]; rw [c9b0]) | skip)
    by_cases c10 : (t103 != (t102.toList != ([] : List UInt8))) = true
    ·rw [if_pos c10] at H
     have c10q : (t103 != (t102.toList != ([] : List UInt8))) = true := by simpa using c10
     clear c10
     rcases bne_nil_t c10q with ⟨rfl, hE_⟩ | ⟨rfl, hE_⟩
     ·clear c10q
      have H' := Aside0.mk H
      clear H
      go_wp2_with (first | ((with_reducible refine gate_callee (f:=6) rfl ?_); refine goesL_ (some 25) rfl rfl Tryd.func6 (by kernel_rfl) rfl #[.int .i64 a1] rfl (by (try simp only [List.map_toArray, List.map_cons, List.map_nil]); first | done | rfl | (simp only [List.length_drop, List.length_take]; rfl)) ?_; (with_reducible refine (oculusref13_Single.calls k a1 t104 _ A8.out).mono ?_); rintro e w11 ⟨rfl, hb⟩; refine ⟨_, rfl, ?_⟩; replace HB := bs_ HB hb; (try clear hb); (try clear hb2); (try clear hk); (try clear hi)))
      go_meet
      case rel => exact ⟨_, (true), (by first | rfl | (simp; done) | (simp [*]; done)), H', ⟨by first | omega | exact Nat.le_refl _⟩, ⟨pbx HB⟩⟩
     ·clear c10q
      have H' := Aside0.mk H
      clear H
      go_wp2_with (first | ((with_reducible refine gate_callee (f:=6) rfl ?_); refine goesL_ (some 25) rfl rfl Tryd.func6 (by kernel_rfl) rfl #[.int .i64 a1] rfl (by (try simp only [List.map_toArray, List.map_cons, List.map_nil]); first | done | rfl | (simp only [List.length_drop, List.length_take]; rfl)) ?_; (with_reducible refine (oculusref13_Single.calls k a1 t104 _ A8.out).mono ?_); rintro e w11 ⟨rfl, hb⟩; refine ⟨_, rfl, ?_⟩; replace HB := bs_ HB hb; (try clear hb); (try clear hb2); (try clear hk); (try clear hi)))
      go_meet
      case rel => exact ⟨_, (true), (by first | rfl | (simp; done) | (simp [*]; done)), H', ⟨by first | omega | exact Nat.le_refl _⟩, ⟨pbx HB⟩⟩
    ·rw [if_neg c10] at H
     have c10q : (t103 != (t102.toList != ([] : List UInt8))) = false := by simpa using c10
     clear c10
     rcases bne_nil_f c10q with ⟨rfl, hE_⟩ | ⟨rfl, hE_⟩
     ·clear c10q; replace H := Option.bind_eq_some_iff.mp H; obtain ⟨t105, A120, H⟩ := H
      replace H : ((oculusref13_Reverse.f k a0).bind fun t106 => (oculuslaw13_RunesTurn.j0 k a0 a1 t102 true (t105.toList != t106.toList))) = some r := H
      have A12 := Aside0.mk A120; clear A120; replace H := Option.bind_eq_some_iff.mp H; obtain ⟨t106, A130, H⟩ := H
      replace H : (oculuslaw13_RunesTurn.j0 k a0 a1 t102 true (t105.toList != t106.toList)) = some r := H
      have A13 := Aside0.mk A130; clear A130
      have H' := Aside0.mk H
      clear H
      go_wp2_with (first | ((with_reducible refine gate_callee (f:=6) rfl ?_); refine goesL_ (some 25) rfl rfl Tryd.func6 (by kernel_rfl) rfl #[.int .i64 a1] rfl (by (try simp only [List.map_toArray, List.map_cons, List.map_nil]); first | done | rfl | (simp only [List.length_drop, List.length_take]; rfl)) ?_; (with_reducible refine (oculusref13_Single.calls k a1 t104 _ A8.out).mono ?_); rintro e w14 ⟨rfl, hb⟩; refine ⟨_, rfl, ?_⟩; replace HB := bs_ HB hb; (try clear hb); (try clear hb2); (try clear hk); (try clear hi)) | (go_at_call 7; (with_reducible refine (runes_Reverse.calls a0 t105 _ (by refine tb_ ?_ hT; repeat' (first | exact pbx HB | assumption | refine below_set ?_ (Aside0.out ?_))) A12.out).mono ?_); rintro e w15 ⟨rfl, hb⟩; replace HB := bs_ HB hb; (try clear hb); (try clear hb2); (try clear hk); (try clear hi)) | (go_at_call 8; (with_reducible refine (oculusref13_Reverse.calls k a0 t106 _ A13.out).mono ?_); rintro e w16 ⟨rfl, hb⟩; replace HB := bs_ HB hb; (try clear hb); (try clear hb2); (try clear hk); (try clear hi)))
      go_meet
      case rel => exact ⟨_, ((t105.toList != t106.toList)), (by first | rfl | (simp; done) | (simp [*]; done) | (cases t105 <;> simp; done) | (cases t106 <;> simp; done)), H', ⟨by first | omega | exact Nat.le_refl _⟩, ⟨pbx HB⟩⟩
     ·clear c10q; replace H := Option.bind_eq_some_iff.mp H; obtain ⟨t105, A120, H⟩ := H
      replace H : ((oculusref13_Reverse.f k a0).bind fun t106 => (oculuslaw13_RunesTurn.j0 k a0 a1 t102 false (t105.toList != t106.toList))) = some r := H
      have A12 := Aside0.mk A120; clear A120; replace H := Option.bind_eq_some_iff.mp H; obtain ⟨t106, A130, H⟩ := H
      replace H : (oculuslaw13_RunesTurn.j0 k a0 a1 t102 false (t105.toList != t106.toList)) = some r := H
      have A13 := Aside0.mk A130; clear A130
      have H' := Aside0.mk H
      clear H
      go_wp2_with (first | ((with_reducible refine gate_callee (f:=6) rfl ?_); refine goesL_ (some 25) rfl rfl Tryd.func6 (by kernel_rfl) rfl #[.int .i64 a1] rfl (by (try simp only [List.map_toArray, List.map_cons, List.map_nil]); first | done | rfl | (simp only [List.length_drop, List.length_take]; rfl)) ?_; (with_reducible refine (oculusref13_Single.calls k a1 t104 _ A8.out).mono ?_); rintro e w14 ⟨rfl, hb⟩; refine ⟨_, rfl, ?_⟩; replace HB := bs_ HB hb; (try clear hb); (try clear hb2); (try clear hk); (try clear hi)) | (go_at_call 7; (with_reducible refine (runes_Reverse.calls a0 t105 _ (by refine tb_ ?_ hT; repeat' (first | exact pbx HB | assumption | refine below_set ?_ (Aside0.out ?_))) A12.out).mono ?_); rintro e w15 ⟨rfl, hb⟩; replace HB := bs_ HB hb; (try clear hb); (try clear hb2); (try clear hk); (try clear hi)) | (go_at_call 8; (with_reducible refine (oculusref13_Reverse.calls k a0 t106 _ A13.out).mono ?_); rintro e w16 ⟨rfl, hb⟩; replace HB := bs_ HB hb; (try clear hb); (try clear hb2); (try clear hk); (try clear hi)))
      go_meet
      case rel => exact ⟨_, ((t105.toList != t106.toList)), (by first | rfl | (simp; done) | (simp [*]; done) | (cases t105 <;> simp; done) | (cases t106 <;> simp; done)), H', ⟨by first | omega | exact Nat.le_refl _⟩, ⟨pbx HB⟩⟩
   ·rw [if_neg c9] at H; have c9b0 : (t102.toList == t104.toList) = false := beq_eq_false_iff_ne.mpr c9; have c9b1 : (t102.toList != t104.toList) = true := bne_iff_ne.mpr c9; (first | rw [c9b0] | (simp only [i64_w, i32_w]; rw [c9b0]) | skip)
    have H' := Aside0.mk H
    clear H
    go_wp2_with (first | ((with_reducible refine gate_callee (f:=6) rfl ?_); refine goesL_ (some 25) rfl rfl Tryd.func6 (by kernel_rfl) rfl #[.int .i64 a1] rfl (by (try simp only [List.map_toArray, List.map_cons, List.map_nil]); first | done | rfl | (simp only [List.length_drop, List.length_take]; rfl)) ?_; (with_reducible refine (oculusref13_Single.calls k a1 t104 _ A8.out).mono ?_); rintro e w17 ⟨rfl, hb⟩; refine ⟨_, rfl, ?_⟩; replace HB := bs_ HB hb; (try clear hb); (try clear hb2); (try clear hk); (try clear hi)))
    go_meet
    case rel => exact ⟨_, (true), (by first | rfl | (simp; done) | (simp [*]; done)), H', ⟨by first | omega | exact Nat.le_refl _⟩, ⟨pbx HB⟩⟩
  case rest =>
   clear HC7; (try clear c1); (try clear p2); (try clear c3); (try clear c3b0); (try clear c3b1); (try clear c4); (try clear c5); (try clear c6); (try clear c9); (try clear c9b0); (try clear c9b1); (try clear c10); (try clear c10b0); (try clear c10b1); (try clear c10b2); obtain ⟨kq, x39_6, rfl, HA, HJ6, HB⟩ := hcut
   cases kq with
   | zero => exact absurd HA.out (by simp [oculuslaw13_RunesTurn.j0])
   | succ kj6 =>
    have H := HA.out; clear HA
    simp only [oculuslaw13_RunesTurn.j0] at H
    by_cases c18 : x39_6 = true
    ·subst c18
     have H1 : (none) = some r := by rw [if_pos rfl] at H; exact H
     clear H; have H := H1; clear H1
     exact absurd H (by simp)
    ·replace c18 := Bool.eq_false_iff.mpr c18; subst c18
     have H1 : ((runes_First.f a0).bind fun bt107 => (if (bt107.2 != (a0.toList != ([] : List UInt8))) = true then (oculuslaw13_RunesTurn.j1 kj6 a0 a1 t102 t103 true) else (if bt107.2 = true then ((oculusref13_First.f kj6 a0).bind fun t109 => (if (wrap64 (bt107.1)) = t109 then (oculuslaw13_RunesTurn.j1 kj6 a0 a1 t102 t103 false) else (oculuslaw13_RunesTurn.j1 kj6 a0 a1 t102 t103 true))) else (oculuslaw13_RunesTurn.j1 kj6 a0 a1 t102 t103 (bt107.1 != 0))))) = some r := by rw [if_neg (show ¬ (false = true) by decide)] at H; exact H
     clear H; have H := H1; clear H1; replace H := Option.bind_eq_some_iff.mp H; obtain ⟨⟨t107, t108⟩, A190, H⟩ := H
     replace H : (if (t108 != (a0.toList != ([] : List UInt8))) = true then (oculuslaw13_RunesTurn.j1 kj6 a0 a1 t102 t103 true) else (if t108 = true then ((oculusref13_First.f kj6 a0).bind fun t109 => (if (wrap64 (t107)) = t109 then (oculuslaw13_RunesTurn.j1 kj6 a0 a1 t102 t103 false) else (oculuslaw13_RunesTurn.j1 kj6 a0 a1 t102 t103 true))) else (oculuslaw13_RunesTurn.j1 kj6 a0 a1 t102 t103 (t107 != 0)))) = some r := H
     have A19 := Aside0.mk A190; clear A190; have HC20 := Aside0.mk H; clear H
     go_upto_region 7 with (first | ((with_reducible refine gate_callee (f:=9) rfl ?_); refine goesL_ (some 42) rfl rfl Tryd.func9 (by kernel_rfl) rfl #[.string a0] rfl (by (try simp only [List.map_toArray, List.map_cons, List.map_nil]); first | done | rfl | (simp only [List.length_drop, List.length_take]; rfl)) ?_; (with_reducible refine (runes_First.calls a0 t107 t108 _ A19.out).mono ?_); rintro e w21 ⟨rfl, hb⟩; refine ⟨_, rfl, ?_⟩; replace HB := bs_ HB hb; (try clear hb); (try clear hb2); (try clear hk); (try clear hi)))
     (try simp only [q_])
     go_cut [66] (fun v66 wc => ∃ (kq : Nat) (x66_19 : Bool), v66 = .bool x66_19 ∧ Aside0 (oculuslaw13_RunesTurn.j1 kq a0 a1 t102 t103 x66_19 = some r) ∧ Aside0 (kq ≤ kj6) ∧ Aside0 (Below w.heap.size w wc))
     case first =>
      have H := HC20.out; clear HC20
      by_cases c22 : (t108 != (a0.toList != ([] : List UInt8))) = true
      ·rw [if_pos c22] at H
       have c22q : (t108 != (a0.toList != ([] : List UInt8))) = true := by simpa using c22
       clear c22
       rcases bne_nil_t c22q with ⟨rfl, hE_⟩ | ⟨rfl, hE_⟩
       ·clear c22q
        have H' := Aside0.mk H
        clear H
        go_wp2
        go_meet
        case rel => exact ⟨_, (true), (by first | rfl | (simp; done) | (simp [*]; done)), H', ⟨by have := HJ6.out; first | omega | exact Nat.le_refl _⟩, ⟨pbx HB⟩⟩
       ·clear c22q
        have H' := Aside0.mk H
        clear H
        go_wp2
        go_meet
        case rel => exact ⟨_, (true), (by first | rfl | (simp; done) | (simp [*]; done)), H', ⟨by have := HJ6.out; first | omega | exact Nat.le_refl _⟩, ⟨pbx HB⟩⟩
      ·rw [if_neg c22] at H
       have c22q : (t108 != (a0.toList != ([] : List UInt8))) = false := by simpa using c22
       clear c22; have c22q := Aside0.mk c22q
       by_cases c23 : t108 = true
       ·subst c23
        have hE_ : a0.toList.isEmpty = false := by rcases bne_nil_f c22q.out with ⟨h1_, h2_⟩ | ⟨h1_, h2_⟩ <;> first | exact h2_ | cases h1_
        clear c22q
        have H1 : ((oculusref13_First.f kj6 a0).bind fun t109 => (if (wrap64 (t107)) = t109 then (oculuslaw13_RunesTurn.j1 kj6 a0 a1 t102 t103 false) else (oculuslaw13_RunesTurn.j1 kj6 a0 a1 t102 t103 true))) = some r := by rw [if_pos rfl] at H; exact H
        clear H; have H := H1; clear H1; replace H := Option.bind_eq_some_iff.mp H; obtain ⟨t109, A240, H⟩ := H
        replace H : (if (wrap64 (t107)) = t109 then (oculuslaw13_RunesTurn.j1 kj6 a0 a1 t102 t103 false) else (oculuslaw13_RunesTurn.j1 kj6 a0 a1 t102 t103 true)) = some r := H
        have A24 := Aside0.mk A240; clear A240
        by_cases c25 : (wrap64 (t107)) = t109
        ·rw [if_pos c25] at H; have c25b0 : ((wrap64 (t107)) == t109) = true := beq_iff_eq.mpr c25; have c25b1 : ((wrap64 (t107)) != t109) = false := bne_eq_false_iff_eq.mpr c25; clear c25
         have H' := Aside0.mk H
         clear H
         go_wp2_with (first | (go_at_call 10; (with_reducible refine (oculusref13_First.calls kj6 a0 t109 _ A24.out).mono ?_); rintro e w' ⟨rfl, ⟨nd, rfl⟩⟩))
         go_meet
         case rel => exact ⟨_, (false), (by first | rfl | (simp; done) | (simp [*]; done)), H', ⟨by have := HJ6.out; first | omega | exact Nat.le_refl _⟩, ⟨pbx HB⟩⟩
        ·rw [if_neg c25] at H; have c25b0 : ((wrap64 (t107)) == t109) = false := beq_eq_false_iff_ne.mpr c25; have c25b1 : ((wrap64 (t107)) != t109) = true := bne_iff_ne.mpr c25
         have H' := Aside0.mk H
         clear H
         go_wp2_with (first | (go_at_call 10; (with_reducible refine (oculusref13_First.calls kj6 a0 t109 _ A24.out).mono ?_); rintro e w' ⟨rfl, ⟨nd, rfl⟩⟩))
         go_meet
         case rel => exact ⟨_, (true), (by first | rfl | (simp; done) | (simp [*]; done)), H', ⟨by have := HJ6.out; first | omega | exact Nat.le_refl _⟩, ⟨pbx HB⟩⟩
       ·replace c23 := Bool.eq_false_iff.mpr c23; subst c23
        have hE_ : a0.toList.isEmpty = true := by rcases bne_nil_f c22q.out with ⟨h1_, h2_⟩ | ⟨h1_, h2_⟩ <;> first | exact h2_ | cases h1_
        clear c22q
        have H1 : (oculuslaw13_RunesTurn.j1 kj6 a0 a1 t102 t103 (t107 != 0)) = some r := by rw [if_neg (show ¬ (false = true) by decide)] at H; exact H
        clear H; have H := H1; clear H1
        have H' := Aside0.mk H
        clear H
        go_wp2
        go_meet
        case rel => exact ⟨_, ((t107 != 0)), (by first | rfl | (simp; done) | (simp [*]; done) | (cases t107 <;> simp; done)), H', ⟨by have := HJ6.out; first | omega | exact Nat.le_refl _⟩, ⟨pbx HB⟩⟩
     case rest =>
      clear HC20; (try clear c1); (try clear c2); (try clear p2); (try clear c3); (try clear c3b0); (try clear c3b1); (try clear c4); (try clear c5); (try clear c6); (try clear p6); (try clear c9); (try clear c9b0); (try clear c9b1); (try clear c10); (try clear c10b0); (try clear c10b1); (try clear c10b2); (try clear c18); (try clear c22); (try clear c22b0); (try clear c22b1); (try clear c22b2); (try clear c23); (try clear c25); (try clear c25b0); (try clear c25b1); (try clear p2); obtain ⟨kq, x66_19, rfl, HA, HJ19, HB⟩ := hcut
      cases kq with
      | zero => exact absurd HA.out (by simp [oculuslaw13_RunesTurn.j1])
      | succ kj19 =>
       have H := HA.out; clear HA
       simp only [oculuslaw13_RunesTurn.j1] at H
       by_cases c26 : x66_19 = true
       ·subst c26
        have H1 : (none) = some r := by rw [if_pos rfl] at H; exact H
        clear H; have H := H1; clear H1
        exact absurd H (by simp)
       ·replace c26 := Bool.eq_false_iff.mpr c26; subst c26
        have H1 : ((oculusref13_Pieces.f kj19 a0).bind fun t110 => (oculuslaw13_RunesTurn.l0 kj19 a0 a1 t102 t103 true t110 (t110.length : Int) 0)) = some r := by rw [if_neg (show ¬ (false = true) by decide)] at H; exact H
        clear H; have H := H1; clear H1; replace H := Option.bind_eq_some_iff.mp H; obtain ⟨t110, A270, H⟩ := H
        replace H : (oculuslaw13_RunesTurn.l0 kj19 a0 a1 t102 t103 true t110 (t110.length : Int) 0) = some r := H
        have A27 := Aside0.mk A270; clear A270
        have H' := Aside0.mk H
        clear H
        go_wp2_with (first | ((with_reducible refine gate_callee (f:=11) rfl ?_); refine goesL_ (some 68) rfl rfl Tryd.func11 (by kernel_rfl) rfl #[.string a0] rfl (by (try simp only [List.map_toArray, List.map_cons, List.map_nil]); first | done | rfl | (simp only [List.length_drop, List.length_take]; rfl)) ?_; (with_reducible refine (oculusref13_Pieces.calls kj19 a0 t110 _ A27.out).mono ?_); rintro e w28 ⟨v111, rfl, ho0, hb⟩; refine ⟨_, rfl, ?_⟩; have HO112 := Aside0.mk (Kd.R_lower ho0 (below_size (pbx HB))); replace HB := bs_ HB hb; (try clear hb); (try clear hb2); (try clear hk); (try clear hi); (try clear ho0); obtain ⟨Ao29, co29, eo29⟩ := Kd.R_slice HO112.out; subst eo29))
        go_loopg [9, 70] kj19 (fun kq v9 v70 w' => ∃ (x9_3 : Bool) (x70_3 : Int), v9 = .bool x9_3 ∧ v70 = .int .i64 x70_3 ∧ Aside0 (oculuslaw13_RunesTurn.l0 kq a0 a1 t102 t103 x9_3 t110 (t110.length : Int) x70_3 = some r) ∧ Aside0 (kq ≤ kj19) ∧ Aside0 (Kd.R Kd.string 9 w' w.heap.size (fun _ => True) (.slice Ao29 t110.length co29) t110) ∧ Aside0 (Below w.heap.size w w'))
        case atStart => exact ⟨(true), (0), (by first | rfl | (simp; done) | (simp [*]; done)), (by first | rfl | (simp; done) | (simp [*]; done)), H', ⟨Nat.le_refl _⟩, ⟨by (with_reducible repeat (first | apply Kd.R_alloc | apply Kd.R_drewN | apply Kd.R_drew)); exact HO112.out⟩, ⟨pbx HB⟩⟩
        case round =>
         clear H'; (try clear c1); (try clear c2); (try clear p2); (try clear c3); (try clear c3b0); (try clear c3b1); (try clear c4); (try clear c5); (try clear c6); (try clear p6); (try clear c9); (try clear c9b0); (try clear c9b1); (try clear c10); (try clear c10b0); (try clear c10b1); (try clear c10b2); (try clear c11); (try clear c18); (try clear c22); (try clear c22b0); (try clear c22b1); (try clear c22b2); (try clear c23); (try clear c25); (try clear c25b0); (try clear c25b1); (try clear c26); (try clear p2); (try clear p6); obtain ⟨x9_3, x70_3, rfl, rfl, HA, HK3, HO_68, HB⟩ := hrel
         cases gk with
         | zero => exact absurd HA.out (by simp [oculuslaw13_RunesTurn.l0])
         | succ k3 =>
          have H := HA.out; clear HA
          simp only [oculuslaw13_RunesTurn.l0] at H
          by_cases c30 : x70_3 < (t110.length : Int)
          ·rw [if_pos c30] at H; have c30b0 : decide (x70_3 < (t110.length : Int)) = true := decide_eq_true c30; clear c30
           by_cases c31 : 0 ≤ x70_3
           ·rw [if_pos c31] at H; have c31b0 : decide (0 ≤ x70_3) = true := decide_eq_true c31; clear c31
            by_cases c32 : x70_3 < (t110.length : Int)
            ·rw [if_pos c32] at H; have c32b0 : decide (x70_3 < (t110.length : Int)) = true := decide_eq_true c32; clear c32
             by_cases c33 : x9_3 = true
             ·subst c33
              have H1 : (if ((rdOf ByteArray.empty t110 x70_3).size : Int) > 1 then (oculuslaw13_RunesTurn.l0 k3 a0 a1 t102 t103 true t110 (t110.length : Int) (wrap64 (x70_3 + 1))) else (if 0 < ((rdOf ByteArray.empty t110 x70_3).size : Int) then (oculuslaw13_RunesTurn.l0 k3 a0 a1 t102 t103 (decide ((bt (rdOf ByteArray.empty t110 x70_3) 0) < 128)) t110 (t110.length : Int) (wrap64 (x70_3 + 1))) else (none))) = some r := by rw [if_pos rfl] at H; exact H
              clear H; have H := H1; clear H1
              by_cases c34 : ((rdOf ByteArray.empty t110 x70_3).size : Int) > 1
              ·rw [if_pos c34] at H; have c34b0 : decide (1 < ((rdOf ByteArray.empty t110 x70_3).size : Int)) = true := decide_eq_true c34; have c34b1 : decide (1 < (rdOf ByteArray.empty t110 x70_3).size) = true := decide_eq_true (by omega); clear c34
               have H' := Aside0.mk H
               clear H
               have p113 : 0 ≤ (x70_3 : Int) := of_decide_eq_true (by first | (with_reducible assumption) | assumption)
               have q113 : x70_3 < (t110.length : Int) := of_decide_eq_true (by first | (with_reducible assumption) | assumption)
               obtain ⟨ad113, e113, hx113_0⟩ := Kd.at_string (Kd.R_reads' HO_68.out).2.2 x70_3 p113 q113
               cases e113
               replace p113 := eq_true p113; replace q113 := eq_true q113
               go_wp2
               go_roundg k3
               case measure => have := HJ6.out; have := HJ19.out; have := HK3.out; omega
               case rel => exact ⟨(true), (wrap64 (x70_3 + 1)), (by first | rfl | (simp; done) | (simp [*]; done)), (by first | rfl | (simp; done) | (simp [*]; done)), H', ⟨by have := HJ6.out; have := HJ19.out; have := HK3.out; omega⟩, ⟨by (with_reducible repeat (first | apply Kd.R_alloc | apply Kd.R_drewN | apply Kd.R_drew)); exact HO_68.out⟩, ⟨pbx HB⟩⟩
              ·rw [if_neg c34] at H; have c34b0 : decide (1 < ((rdOf ByteArray.empty t110 x70_3).size : Int)) = false := decide_eq_false c34; have c34b1 : decide (1 < (rdOf ByteArray.empty t110 x70_3).size) = false := decide_eq_false (by omega); clear c34
               by_cases c35 : 0 < ((rdOf ByteArray.empty t110 x70_3).size : Int)
               ·rw [if_pos c35] at H; have c35b0 : decide (0 < ((rdOf ByteArray.empty t110 x70_3).size : Int)) = true := decide_eq_true c35; have c35b1 : decide (0 < (rdOf ByteArray.empty t110 x70_3).size) = true := decide_eq_true (by omega); clear c35
                have H' := Aside0.mk H
                clear H
                have p113 : 0 ≤ (x70_3 : Int) := of_decide_eq_true (by first | (with_reducible assumption) | assumption)
                have q113 : x70_3 < (t110.length : Int) := of_decide_eq_true (by first | (with_reducible assumption) | assumption)
                obtain ⟨ad113, e113, hx113_0⟩ := Kd.at_string (Kd.R_reads' HO_68.out).2.2 x70_3 p113 q113
                cases e113
                replace p113 := eq_true p113; replace q113 := eq_true q113
                have p36 : 0 ≤ (0 : Int) := (by omega)
                have q36 : 0 < (rdOf ByteArray.empty t110 x70_3).size := (by have : (0 : Int) < ((rdOf ByteArray.empty t110 x70_3).size : Int) := of_decide_eq_true (by first | (with_reducible assumption) | assumption); omega)
                have hx36 : ∀ h : 0 < (rdOf ByteArray.empty t110 x70_3).size, (((rdOf ByteArray.empty t110 x70_3)[0]'h).toNat : Int) = bt (rdOf ByteArray.empty t110 x70_3) 0 := bt_at (rdOf ByteArray.empty t110 x70_3) 0
                clear p36; have qi36 : (0 < ((rdOf ByteArray.empty t110 x70_3).size : Int)) = True := eq_true (of_decide_eq_true (by first | (with_reducible assumption) | assumption)); replace q36 := eq_true q36
                go_wp2
                go_roundg k3
                case measure => have := HJ6.out; have := HJ19.out; have := HK3.out; omega
                case rel => exact ⟨(decide ((bt (rdOf ByteArray.empty t110 x70_3) 0) < 128)), (wrap64 (x70_3 + 1)), (by first | rfl | (simp; done) | (simp [*]; done) | (cases t110 <;> simp; done)), (by first | rfl | (simp; done) | (simp [*]; done)), H', ⟨by have := HJ6.out; have := HJ19.out; have := HK3.out; omega⟩, ⟨by (with_reducible repeat (first | apply Kd.R_alloc | apply Kd.R_drewN | apply Kd.R_drew)); exact HO_68.out⟩, ⟨pbx HB⟩⟩
               ·rw [if_neg c35] at H
                exact absurd H (by simp)
             ·replace c33 := Bool.eq_false_iff.mpr c33; subst c33
              have H1 : (oculuslaw13_RunesTurn.l0 k3 a0 a1 t102 t103 false t110 (t110.length : Int) (wrap64 (x70_3 + 1))) = some r := by rw [if_neg (show ¬ (false = true) by decide)] at H; exact H
              clear H; have H := H1; clear H1
              have H' := Aside0.mk H
              clear H
              have p113 : 0 ≤ (x70_3 : Int) := of_decide_eq_true (by first | (with_reducible assumption) | assumption)
              have q113 : x70_3 < (t110.length : Int) := of_decide_eq_true (by first | (with_reducible assumption) | assumption)
              obtain ⟨ad113, e113, hx113_0⟩ := Kd.at_string (Kd.R_reads' HO_68.out).2.2 x70_3 p113 q113
              cases e113
              replace p113 := eq_true p113; replace q113 := eq_true q113
              go_wp2
              go_roundg k3
              case measure => have := HJ6.out; have := HJ19.out; have := HK3.out; omega
              case rel => exact ⟨(false), (wrap64 (x70_3 + 1)), (by first | rfl | (simp; done) | (simp [*]; done)), (by first | rfl | (simp; done) | (simp [*]; done)), H', ⟨by have := HJ6.out; have := HJ19.out; have := HK3.out; omega⟩, ⟨by (with_reducible repeat (first | apply Kd.R_alloc | apply Kd.R_drewN | apply Kd.R_drew)); exact HO_68.out⟩, ⟨pbx HB⟩⟩
            ·rw [if_neg c32] at H
             exact absurd H (by simp)
           ·rw [if_neg c31] at H
            exact absurd H (by simp)
          ·rw [if_neg c30] at H; have c30b0 : decide (x70_3 < (t110.length : Int)) = false := decide_eq_false c30; clear c30
           by_cases c37 : t103 = true
           ·subst c37
            have H1 : ((runes_First.f t102).bind fun bt114 => (if bt114.2 = true then (oculuslaw13_RunesTurn.j3 k3 a0 x9_3 ((wrap64 (bt114.1)) != a1)) else (oculuslaw13_RunesTurn.j3 k3 a0 x9_3 true))) = some r := by rw [if_pos rfl] at H; exact H
            clear H; have H := H1; clear H1; replace H := Option.bind_eq_some_iff.mp H; obtain ⟨⟨t114, t115⟩, A380, H⟩ := H
            replace H : (if t115 = true then (oculuslaw13_RunesTurn.j3 k3 a0 x9_3 ((wrap64 (t114)) != a1)) else (oculuslaw13_RunesTurn.j3 k3 a0 x9_3 true)) = some r := H
            have A38 := Aside0.mk A380; clear A380; have HC39 := Aside0.mk H; clear H
            go_upto_region 17 with (first | ((with_reducible refine gate_callee (f:=9) rfl ?_); refine goesL_ (some 89) rfl rfl Tryd.func9 (by kernel_rfl) rfl #[.string t102] rfl (by (try simp only [List.map_toArray, List.map_cons, List.map_nil]); first | done | rfl | (simp only [List.length_drop, List.length_take]; rfl)) ?_; (with_reducible refine (runes_First.calls t102 t114 t115 _ A38.out).mono ?_); rintro e w40 ⟨rfl, hb⟩; refine ⟨_, rfl, ?_⟩; replace HO_68 := Aside0.mk (Kd.R_below (by (with_reducible repeat (first | apply Kd.R_alloc | apply Kd.R_drewN | apply Kd.R_drew)); exact HO_68.out) hb); replace HB := bs_ HB hb; (try clear hb); (try clear hb2); (try clear hk); (try clear hi)))
            (try simp only [q_])
            go_cut [99] (fun v99 wc => ∃ (kq : Nat) (x99_38 : Bool), v99 = .bool x99_38 ∧ Aside0 (oculuslaw13_RunesTurn.j3 kq a0 x9_3 x99_38 = some r) ∧ Aside0 (kq ≤ k3) ∧ Aside0 (Below w.heap.size w wc))
            case first =>
             have H := HC39.out; clear HC39
             by_cases c41 : t115 = true
             ·subst c41
              have H1 : (oculuslaw13_RunesTurn.j3 k3 a0 x9_3 ((wrap64 (t114)) != a1)) = some r := by rw [if_pos rfl] at H; exact H
              clear H; have H := H1; clear H1
              have H' := Aside0.mk H
              clear H
              go_wp2
              go_meet
              case rel => exact ⟨_, (((wrap64 (t114)) != a1)), (by first | rfl | (simp; done) | (simp [*]; done) | (cases t114 <;> simp; done)), H', ⟨by have := HJ6.out; have := HJ19.out; have := HK3.out; first | omega | exact Nat.le_refl _⟩, ⟨pbx HB⟩⟩
             ·replace c41 := Bool.eq_false_iff.mpr c41; subst c41
              have H1 : (oculuslaw13_RunesTurn.j3 k3 a0 x9_3 true) = some r := by rw [if_neg (show ¬ (false = true) by decide)] at H; exact H
              clear H; have H := H1; clear H1
              have H' := Aside0.mk H
              clear H
              go_wp2
              go_meet
              case rel => exact ⟨_, (true), (by first | rfl | (simp; done) | (simp [*]; done)), H', ⟨by have := HJ6.out; have := HJ19.out; have := HK3.out; first | omega | exact Nat.le_refl _⟩, ⟨pbx HB⟩⟩
            case rest =>
             clear HC39; (try clear c1); (try clear p1); (try clear q1); (try clear hx1); (try clear c2); (try clear p2); (try clear c3); (try clear c3b0); (try clear c3b1); (try clear p3); (try clear q3); (try clear hx3); (try clear qi3); (try clear c4); (try clear c5); (try clear c6); (try clear p6); (try clear c9); (try clear c9b0); (try clear c9b1); (try clear c10); (try clear c10b0); (try clear c10b1); (try clear c10b2); (try clear c11); (try clear p11); (try clear q11); (try clear hx11); (try clear c18); (try clear c22); (try clear c22b0); (try clear c22b1); (try clear c22b2); (try clear c23); (try clear c25); (try clear c25b0); (try clear c25b1); (try clear c26); (try clear c30); (try clear c30b0); (try clear c31); (try clear c31b0); (try clear c32); (try clear c32b0); (try clear c33); (try clear c34); (try clear c34b0); (try clear c34b1); (try clear c35); (try clear c35b0); (try clear c35b1)
             (try clear p36); (try clear q36); (try clear hx36); (try clear qi36); (try clear c37); (try clear c41); (try clear hx113_0); (try clear p113); (try clear p2); (try clear p36); (try clear p6); (try clear q113); (try clear q36); obtain ⟨kq, x99_38, rfl, HA, HJ38, HB⟩ := hcut
             cases kq with
             | zero => exact absurd HA.out (by simp [oculuslaw13_RunesTurn.j3])
             | succ kj38 =>
              have H := HA.out; clear HA
              simp only [oculuslaw13_RunesTurn.j3] at H
              by_cases c42 : x99_38 = true
              ·subst c42
               have H1 : (none) = some r := by rw [if_pos rfl] at H; exact H
               clear H; have H := H1; clear H1
               exact absurd H (by simp)
              ·replace c42 := Bool.eq_false_iff.mpr c42; subst c42
               have H1 : (if x9_3 = true then ((runes_Reverse.f a0).bind fun t116 => ((runes_Reverse.f t116).bind fun t117 => (if t117.toList = a0.toList then ((oculuslaw13_alive.f kj38).bind fun t118 => (some t118)) else (none)))) else ((oculuslaw13_alive.f kj38).bind fun t119 => (some t119))) = some r := by rw [if_neg (show ¬ (false = true) by decide)] at H; exact H
               clear H; have H := H1; clear H1
               by_cases c43 : x9_3 = true
               ·subst c43
                have H1 : ((runes_Reverse.f a0).bind fun t116 => ((runes_Reverse.f t116).bind fun t117 => (if t117.toList = a0.toList then ((oculuslaw13_alive.f kj38).bind fun t118 => (some t118)) else (none)))) = some r := by rw [if_pos rfl] at H; exact H
                clear H; have H := H1; clear H1; replace H := Option.bind_eq_some_iff.mp H; obtain ⟨t116, A440, H⟩ := H
                replace H : ((runes_Reverse.f t116).bind fun t117 => (if t117.toList = a0.toList then ((oculuslaw13_alive.f kj38).bind fun t118 => (some t118)) else (none))) = some r := H
                have A44 := Aside0.mk A440; clear A440; replace H := Option.bind_eq_some_iff.mp H; obtain ⟨t117, A450, H⟩ := H
                replace H : (if t117.toList = a0.toList then ((oculuslaw13_alive.f kj38).bind fun t118 => (some t118)) else (none)) = some r := H
                have A45 := Aside0.mk A450; clear A450
                by_cases c46 : t117.toList = a0.toList
                ·rw [if_pos c46] at H; have c46b0 : (t117.toList == a0.toList) = true := beq_iff_eq.mpr c46; have c46b1 : (t117.toList != a0.toList) = false := bne_eq_false_iff_eq.mpr c46; clear c46; replace H := Option.bind_eq_some_iff.mp H; obtain ⟨t118, A470, H⟩ := H
                 replace H : (some t118) = some r := H
                 have A47 := Aside0.mk A470; clear A470; obtain rfl := Option.some.inj H
                 go_wp2_with (first | (go_at_call 7; (with_reducible refine (runes_Reverse.calls a0 t116 _ (by refine tb_ ?_ hT; repeat' (first | exact pbx HB | assumption | refine below_set ?_ (Aside0.out ?_))) A44.out).mono ?_); rintro e w48 ⟨rfl, hb⟩; replace HB := bs_ HB hb; (try clear hb); (try clear hb2); (try clear hk); (try clear hi)) | (go_at_call 7; (with_reducible refine (runes_Reverse.calls t116 t117 _ (by refine tb_ ?_ hT; repeat' (first | exact pbx HB | assumption | refine below_set ?_ (Aside0.out ?_))) A45.out).mono ?_); rintro e w49 ⟨rfl, hb⟩; replace HB := bs_ HB hb; (try clear hb); (try clear hb2); (try clear hk); (try clear hi)) | (go_at_call 4; (with_reducible refine (oculuslaw13_alive.calls kj38  t118 _ A47.out).mono ?_); rintro e w50 ⟨rfl, hb⟩; replace HB := bs_ HB hb; (try clear hb); (try clear hb2); (try clear hk); (try clear hi)))
                 go_ret
                 exact ⟨by first | rfl | (simp [errW_none, errW_some] <;> rfl) | (simp [*, errW_none, errW_some] <;> rfl), pbx HB⟩
                ·rw [if_neg c46] at H
                 exact absurd H (by simp)
               ·replace c43 := Bool.eq_false_iff.mpr c43; subst c43
                have H1 : ((oculuslaw13_alive.f kj38).bind fun t119 => (some t119)) = some r := by rw [if_neg (show ¬ (false = true) by decide)] at H; exact H
                clear H; have H := H1; clear H1; replace H := Option.bind_eq_some_iff.mp H; obtain ⟨t119, A510, H⟩ := H
                replace H : (some t119) = some r := H
                have A51 := Aside0.mk A510; clear A510; obtain rfl := Option.some.inj H
                go_wp2_with (first | (go_at_call 4; (with_reducible refine (oculuslaw13_alive.calls kj38  t119 _ A51.out).mono ?_); rintro e w52 ⟨rfl, hb⟩; replace HB := bs_ HB hb; (try clear hb); (try clear hb2); (try clear hk); (try clear hi)))
                go_ret
                exact ⟨by first | rfl | (simp [errW_none, errW_some] <;> rfl) | (simp [*, errW_none, errW_some] <;> rfl), pbx HB⟩
           ·replace c37 := Bool.eq_false_iff.mpr c37; subst c37
            have H1 : (if x9_3 = true then ((runes_Reverse.f a0).bind fun t120 => ((runes_Reverse.f t120).bind fun t121 => (if t121.toList = a0.toList then ((oculuslaw13_alive.f k3).bind fun t122 => (some t122)) else (none)))) else ((oculuslaw13_alive.f k3).bind fun t123 => (some t123))) = some r := by rw [if_neg (show ¬ (false = true) by decide)] at H; exact H
            clear H; have H := H1; clear H1
            by_cases c53 : x9_3 = true
            ·subst c53
             have H1 : ((runes_Reverse.f a0).bind fun t120 => ((runes_Reverse.f t120).bind fun t121 => (if t121.toList = a0.toList then ((oculuslaw13_alive.f k3).bind fun t122 => (some t122)) else (none)))) = some r := by rw [if_pos rfl] at H; exact H
             clear H; have H := H1; clear H1; replace H := Option.bind_eq_some_iff.mp H; obtain ⟨t120, A540, H⟩ := H
             replace H : ((runes_Reverse.f t120).bind fun t121 => (if t121.toList = a0.toList then ((oculuslaw13_alive.f k3).bind fun t122 => (some t122)) else (none))) = some r := H
             have A54 := Aside0.mk A540; clear A540; replace H := Option.bind_eq_some_iff.mp H; obtain ⟨t121, A550, H⟩ := H
             replace H : (if t121.toList = a0.toList then ((oculuslaw13_alive.f k3).bind fun t122 => (some t122)) else (none)) = some r := H
             have A55 := Aside0.mk A550; clear A550
             by_cases c56 : t121.toList = a0.toList
             ·rw [if_pos c56] at H; have c56b0 : (t121.toList == a0.toList) = true := beq_iff_eq.mpr c56; have c56b1 : (t121.toList != a0.toList) = false := bne_eq_false_iff_eq.mpr c56; clear c56; replace H := Option.bind_eq_some_iff.mp H; obtain ⟨t122, A570, H⟩ := H
              replace H : (some t122) = some r := H
              have A57 := Aside0.mk A570; clear A570; obtain rfl := Option.some.inj H
              go_wp2_with (first | (go_at_call 7; (with_reducible refine (runes_Reverse.calls a0 t120 _ (by refine tb_ ?_ hT; repeat' (first | exact pbx HB | assumption | refine below_set ?_ (Aside0.out ?_))) A54.out).mono ?_); rintro e w58 ⟨rfl, hb⟩; replace HO_68 := Aside0.mk (Kd.R_below (by (with_reducible repeat (first | apply Kd.R_alloc | apply Kd.R_drewN | apply Kd.R_drew)); exact HO_68.out) hb); replace HB := bs_ HB hb; (try clear hb); (try clear hb2); (try clear hk); (try clear hi)) | (go_at_call 7; (with_reducible refine (runes_Reverse.calls t120 t121 _ (by refine tb_ ?_ hT; repeat' (first | exact pbx HB | assumption | refine below_set ?_ (Aside0.out ?_))) A55.out).mono ?_); rintro e w59 ⟨rfl, hb⟩; replace HO_68 := Aside0.mk (Kd.R_below (by (with_reducible repeat (first | apply Kd.R_alloc | apply Kd.R_drewN | apply Kd.R_drew)); exact HO_68.out) hb); replace HB := bs_ HB hb; (try clear hb); (try clear hb2); (try clear hk); (try clear hi)) | (go_at_call 4; (with_reducible refine (oculuslaw13_alive.calls k3  t122 _ A57.out).mono ?_); rintro e w60 ⟨rfl, hb⟩; replace HO_68 := Aside0.mk (Kd.R_below (by (with_reducible repeat (first | apply Kd.R_alloc | apply Kd.R_drewN | apply Kd.R_drew)); exact HO_68.out) hb); replace HB := bs_ HB hb; (try clear hb); (try clear hb2); (try clear hk); (try clear hi)))
              go_ret
              exact ⟨by first | rfl | (simp [errW_none, errW_some] <;> rfl) | (simp [*, errW_none, errW_some] <;> rfl), pbx HB⟩
             ·rw [if_neg c56] at H
              exact absurd H (by simp)
            ·replace c53 := Bool.eq_false_iff.mpr c53; subst c53
             have H1 : ((oculuslaw13_alive.f k3).bind fun t123 => (some t123)) = some r := by rw [if_neg (show ¬ (false = true) by decide)] at H; exact H
             clear H; have H := H1; clear H1; replace H := Option.bind_eq_some_iff.mp H; obtain ⟨t123, A610, H⟩ := H
             replace H : (some t123) = some r := H
             have A61 := Aside0.mk A610; clear A610; obtain rfl := Option.some.inj H
             go_wp2_with (first | (go_at_call 4; (with_reducible refine (oculuslaw13_alive.calls k3  t123 _ A61.out).mono ?_); rintro e w62 ⟨rfl, hb⟩; replace HO_68 := Aside0.mk (Kd.R_below (by (with_reducible repeat (first | apply Kd.R_alloc | apply Kd.R_drewN | apply Kd.R_drew)); exact HO_68.out) hb); replace HB := bs_ HB hb; (try clear hb); (try clear hb2); (try clear hk); (try clear hi)))
             go_ret
             exact ⟨by first | rfl | (simp [errW_none, errW_some] <;> rfl) | (simp [*, errW_none, errW_some] <;> rfl), pbx HB⟩


end Go.Proofs.YtlfoechdakjekaaDoor.X
/- A general opening of a row's arguments: what a value of a type reads as, as a term of a kind 'Kd', with the bounds that the row's reach gives. -/
set_option linter.unusedVariables false
set_option linter.unusedSimpArgs false
namespace Go.Proofs.YtlfoechdakjekaaDoor.Opn
open Go.ChangeShapes Go.WideShapes Go.RowKit Go.Proofs.YtlfoechdakjekaaDoorW.PrintWords

/-- Whatever is read at type t is a cell row of some a of kind d that is good. -/
def Opens {α : Type} (P : Program) (t : TypeId) (d : Kd α) (good : α → Prop) : Prop :=
  ∀ {H : Type} {enc : TypeId × Value → H} {w : World} {base : Nat} {spare : Nat → Bool} {held : Bool} {fuel : Nat} {cs : List Value} {x : DataW H × List MemPlace},
    DataW.trod enc P w base spare held fuel t cs = some x → (∀ m ∈ x.1.weights P t, m ≤ reachBytes) → ∃ a, d.K w a cs ∧ good a

theorem opens_int {P : Program} {t : TypeId} {k : IntKind} (ht : P.underlying t = some (.int k)) : Opens P t (Kd.int k) (fun n => (Lit.int k n).wf = true) := by
  intro H enc w base spare held fuel cs x hx _
  obtain ⟨n, rfl, rfl, hn⟩ := DataW.trod_int ht hx
  exact ⟨n, rfl, hn⟩
theorem opens_string {P : Program} {t : TypeId} (ht : P.underlying t = some .string) : Opens P t Kd.string (fun s => s.size ≤ reachBytes) := by
  intro H enc w base spare held fuel cs x hx hw
  obtain ⟨s, rfl, rfl, _⟩ := DataW.trod_string ht hx
  refine ⟨s, rfl, ?_⟩
  have := hw s.data.toList.length (by simp [DataW.weights])
  simpa using this

end Go.Proofs.YtlfoechdakjekaaDoor.Opn
/- The openings of the arguments of the law RunesTurn, and its pure statement. -/
set_option linter.unusedVariables false
namespace Go.Proofs.YtlfoechdakjekaaDoor.X
open Go.RowKit Go.Proofs.YtlfoechdakjekaaDoorW.PrintWords Go.Proofs.YtlfoechdakjekaaDoorW.PrintLast Go.Proofs.YtlfoechdakjekaaDoorW.PrintMore Go.Proofs.YtlfoechdakjekaaDoor.Opn
/-- What is left: a statement over numbers and lists alone. -/
def oculuslaw13_RunesTurn.PureX : Prop := ∀ (a0 : ByteArray) (a1 : Int), (a0.size ≤ reachBytes) → ((Lit.int .i64 a1).wf = true) → ∃ k, oculuslaw13_RunesTurn.f k a0 a1 = some true
end Go.Proofs.YtlfoechdakjekaaDoor.X
/- What runes answers, on a list of pieces; that its statements live. (The part of Q13 that needs no reference.) -/
set_option linter.unusedVariables false
set_option linter.unusedSimpArgs false
namespace Go.Proofs.YtlfoechdakjekaaDoor.X
open Go.RowKit Go.Proofs.YtlfoechdakjekaaDoorW.PrintWords Go.Proofs.YtlfoechdakjekaaDoorW.PrintLast Go.Proofs.YtlfoechdakjekaaDoorW.PrintMore
theorem left_eq (s : ByteArray) (n : Int) (h : s.size ≤ 4611686018427387904) (hn : n ≤ 9223372036854775807) : runes_Left.f s n = some (tx ((pcs (by_ s)).take n.toNat).flatten) := by
  unfold runes_Left.f
  have hl := at_le (by_ s) n.toNat
  rw [at_eq s n h hn, Option.bind_some, if_pos (by omega), if_pos (by rw [size_by]; omega), Int.toNat_natCast, ext_head, take_at]
theorem right_eq (s : ByteArray) (n : Int) (h : s.size ≤ 4611686018427387904) (hn : n ≤ 9223372036854775807) : runes_Right.f s n = some (tx (if n < 1 then [] else ((pcs (by_ s)).drop (((pcs (by_ s)).length : Int) - n).toNat).flatten)) := by
  unfold runes_Right.f
  by_cases h1 : n < 1
  · rw [if_pos h1, if_pos h1]; rfl
  · have hc := pcs_le (by_ s)
    rw [← size_by] at hc
    rw [if_neg h1, if_neg h1, count_eq s h, Option.bind_some, w64 (by omega) (by omega)]
    have hm : mx (((pcs (by_ s)).length : Int) - n) 0 ≤ 9223372036854775807 := by unfold mx; split <;> omega
    have hl := at_le (by_ s) (mx (((pcs (by_ s)).length : Int) - n) 0).toNat
    have ht : (mx (((pcs (by_ s)).length : Int) - n) 0).toNat = (((pcs (by_ s)).length : Int) - n).toNat := by unfold mx; split <;> omega
    rw [at_eq s _ h hm, Option.bind_some, if_pos (by omega), if_pos (by rw [size_by]; omega), Int.toNat_natCast, ext_tail, drop_at, ht]
theorem mid_eq (s : ByteArray) (fr n : Int) (h : s.size ≤ 4611686018427387904) (hf : fr ≤ 9223372036854775807) (hn : n ≤ 9223372036854775807) : runes_Mid.f s fr n = some (tx (if fr < 0 then [] else (((pcs (by_ s)).drop fr.toNat).take n.toNat).flatten)) := by
  unfold runes_Mid.f
  by_cases h1 : fr < 0
  · rw [if_pos h1, if_pos h1]; rfl
  · have hl := at_le (by_ s) fr.toNat
    rw [if_neg h1, if_neg h1, at_eq s fr h hf, Option.bind_some, if_pos (by omega), if_pos (by rw [size_by]; omega), Int.toNat_natCast, ext_tail, drop_at]
    have hsz : (tx ((pcs (by_ s)).drop fr.toNat).flatten).size ≤ 4611686018427387904 := by
      rw [size_tx, ← drop_at, List.length_drop, ← size_by]; omega
    rw [left_eq _ n hsz hn, by_tx, pcs_drop]
    rfl
/-! Find. -/
def pre (d l : List UInt8) : Bool := l.take d.length == d
def fndL (d : List UInt8) : Nat → List (List UInt8) → Int × Bool
  | _, [] => (0, false)
  | n, x :: xs => if pre d (x ++ xs.flatten) = true then ((n : Int), true) else fndL d (n + 1) xs
theorem hp_pre (s d : ByteArray) : hp s d = pre (by_ d) (by_ s) := by
  unfold hp
  have hd := size_by d
  have hs := size_by s
  have : strings_HasPrefix.f s d = some (pre (by_ d) (by_ s)) := by
    unfold strings_HasPrefix.f stringslite_HasPrefix.f pre
    by_cases h : (s.size : Int) ≥ (d.size : Int)
    · rw [if_pos h, if_pos (by omega), if_pos (by omega), Option.bind_some]
      congr 1
      simp only [Int.toNat_natCast, toList_by, by_head, hd]
    · rw [if_neg h, Option.bind_some]
      congr 1
      symm
      rw [beq_eq_false_iff_ne]
      intro e
      have := congrArg List.length e
      rw [List.length_take] at this
      omega
  rw [this]
  cases pre (by_ d) (by_ s) <;> simp
theorem fnd_fndL (d t : ByteArray) : ∀ (xs : List (List UInt8)) (n p : Nat), (by_ t).drop p = xs.flatten → fnd d t n (sts p xs) = fndL (by_ d) n xs
  | [], _, _, _ => rfl
  | x :: xs, n, p, h => by
    have hh : by_ (t.extract p t.size) = x ++ xs.flatten := by rw [by_tail, h, List.flatten_cons]
    have hr : (by_ t).drop (p + x.length) = xs.flatten := by
      rw [← List.drop_drop, h, List.flatten_cons, List.drop_left' rfl]
    simp only [sts, fnd, fndL]
    rw [hp_pre, hh, fnd_fndL d t xs (n + 1) (p + x.length) hr]
theorem find_eq (d t : ByteArray) (h : t.size ≤ 4611686018427387904) : runes_Find.f d t = some (if by_ d = [] then (0, true) else fndL (by_ d) 0 (pcs (by_ t))) := by
  unfold runes_Find.f
  rw [if_pos h, toList_by]
  by_cases e : by_ d = []
  · rw [if_pos e, if_pos e]
  · rw [if_neg e, if_neg e, runeP_sts, fnd_fndL d t _ 0 0 (by rw [List.drop_zero, pcs_flat])]
/-! alive. -/
theorem single_ev : Ev (fun k => runes_Single.f k 8364) (tx [226, 130, 172], true) := by
  unfold runes_Single.f
  refine ev_neg (by decide) (ev_neg (by decide) ?_)
  have hv : Ev (fun k => utf8_ValidRune.f k (wrap32 8364)) true := by
    unfold utf8_ValidRune.f
    refine ev_pos (by decide +kernel) ?_
    refine Ev.step (fun k => utf8_ValidRune.j0.eq_2 _ _ _) ?_
    exact ev_pos (by decide +kernel) (Ev.now _)
  refine ev_bind hv (ev_pos rfl (ev_some fun _ => ?_))
  have e : by_ (Utf8.encode (wrap32 8364)) = [226, 130, 172] := by decide +kernel
  rw [← e, tx_by]
theorem alive13_ev : Ev (fun k => oculuslaw13_alive.f k) true := by
  unfold oculuslaw13_alive.f
  have hs : (⟨#[97, 195, 169, 255, 122]⟩ : ByteArray).size ≤ 4611686018427387904 := by decide
  have hp : pcs (by_ (⟨#[97, 195, 169, 255, 122]⟩ : ByteArray)) = [[97], [195, 169], [255], [122]] := by
    show pcs [97, 195, 169, 255, 122] = _
    rw [pcs_cons _ (by simp), show wL [97, 195, 169, 255, 122] = 1 by decide +kernel]
    show [97] :: pcs [195, 169, 255, 122] = _
    rw [pcs_cons _ (by simp), show wL [195, 169, 255, 122] = 2 by decide +kernel]
    show [97] :: [195, 169] :: pcs [255, 122] = _
    rw [pcs_cons _ (by simp), show wL [255, 122] = 1 by decide +kernel]
    show [97] :: [195, 169] :: [255] :: pcs [122] = _
    rw [pcs_cons _ (by simp), show wL [122] = 1 by decide +kernel]
    show [97] :: [195, 169] :: [255] :: [122] :: pcs [] = _
    rw [pcs_nil]
  refine ev_bind (a := (2, true)) (ev_some fun _ => ?_) ?_
  · rw [find_eq _ _ hs, hp]
    decide +kernel
  refine ev_bind (a := (8364, true)) (ev_some fun _ => ?_) ?_
  · decide +kernel
  refine ev_bind single_ev ?_
  refine ev_bind (ev_some fun _ => count_eq _ hs) ?_
  refine ev_pos (by rw [hp]; rfl) ?_
  refine ev_bind (ev_some fun _ => left_eq _ _ hs (by decide)) ?_
  refine ev_pos (by rw [toList_by, by_tx, hp]; decide +kernel) ?_
  refine ev_bind (ev_some fun _ => right_eq _ _ hs (by decide)) ?_
  refine ev_pos (by rw [toList_by, by_tx, hp]; decide +kernel) ?_
  refine ev_bind (ev_some fun _ => mid_eq _ _ _ hs (by decide) (by decide)) ?_
  refine ev_pos (by rw [toList_by, by_tx, hp]; decide +kernel) ?_
  refine ev_pos rfl (ev_pos rfl (ev_pos rfl (ev_pos rfl (ev_pos rfl (ev_some fun _ => ?_)))))
  rw [toList_by, by_tx]
  decide +kernel
end Go.Proofs.YtlfoechdakjekaaDoor.X
/- Runes: what the program and the reference answer of single runes, first runes, and texts turned about. -/
set_option linter.unusedVariables false
set_option linter.unusedSimpArgs false
namespace Go.Proofs.YtlfoechdakjekaaDoor.X
open Go.RowKit Go.Proofs.YtlfoechdakjekaaDoorW.PrintWords Go.Proofs.YtlfoechdakjekaaDoorW.PrintLast Go.Proofs.YtlfoechdakjekaaDoorW.PrintMore
theorem rdQ (xs : List (List UInt8)) (i : Nat) (h : i < xs.length) : rdOf ByteArray.empty (xs.map tx) (i : Int) = tx xs[i] := by
  unfold rdOf
  rw [Int.toNat_natCast, List.getD_eq_getElem?_getD, List.getElem?_map, List.getElem?_eq_getElem h]
  rfl
/-! Single runes. -/
def okR (n : Int) : Bool := decide (1 ≤ n ∧ n ≤ 1114111 ∧ (n < 55296 ∨ 57344 ≤ n))
theorem w32 {n : Int} (h0 : 0 ≤ n) (h1 : n ≤ 2147483647) : wrap32 n = n := by unfold wrap32; omega
theorem single_c (n : Int) : Ev (fun k => runes_Single.f k n) (if okR n = true then tx (eL n.toNat) else tx [], okR n) := by
  unfold runes_Single.f
  refine ev_ite (fun g => ?_) (fun g => ?_)
  · rw [okR, decide_eq_false (by omega)]; exact Ev.now _
  · refine ev_ite (fun g2 => ?_) (fun g2 => ?_)
    · rw [okR, decide_eq_false (by omega)]; exact Ev.now _
    · rw [w32 (by omega) (by omega)]
      have hv : Ev (fun k => utf8_ValidRune.f k n) (okR n) := by
        unfold utf8_ValidRune.f
        refine ev_pos (by omega) (Ev.step (fun k => utf8_ValidRune.j0.eq_2 ..) ?_)
        by_cases g3 : n < 55296
        · rw [decide_eq_true g3, okR, decide_eq_true (by omega)]; exact ev_pos rfl (Ev.now _)
        · rw [decide_eq_false g3]
          refine ev_neg (by simp) (ev_ite (fun g4 => ?_) (fun g4 => ?_))
          · rw [okR, decide_eq_true (by omega)]; exact ev_pos (by omega) (Ev.now _)
          · rw [okR, decide_eq_false (by omega)]; exact Ev.now _
      refine ev_bind hv (ev_ite (fun g3 => ?_) (fun g3 => ?_))
      · have h3 := of_decide_eq_true g3
        obtain ⟨m, rfl⟩ : ∃ m : Nat, n = (m : Int) := ⟨n.toNat, by omega⟩
        rw [g3, if_pos rfl, enc_eL m (by omega), Int.toNat_natCast]
        exact Ev.now _
      · rw [if_neg g3, Bool.eq_false_iff.mpr g3]; exact Ev.now _
set_option maxHeartbeats 4000000 in
theorem single_r (n : Int) : Ev (fun k => oculusref13_Single.f k n) (if okR n = true then tx (eL n.toNat) else tx []) := by
  unfold oculusref13_Single.f
  have jt : Ev (fun k => oculusref13_Single.j0 k n true) (tx []) := Ev.step (fun k => oculusref13_Single.j0.eq_2 ..) (ev_pos rfl (Ev.now _))
  have jf : 1 ≤ n → n ≤ 1114111 → Ev (fun k => oculusref13_Single.j0 k n false) (tx (eL n.toNat)) := by
    intro h0 h1
    obtain ⟨m, rfl⟩ : ∃ m : Nat, n = (m : Int) := ⟨n.toNat, by omega⟩
    rw [Int.toNat_natCast]
    refine Ev.step (fun k => oculusref13_Single.j0.eq_2 ..) (ev_neg (by simp) ?_)
    have t1 : Int.tdiv (m : Int) 64 = ((m / 64 : Nat) : Int) := rfl
    have t2 : Int.tmod (m : Int) 64 = ((m % 64 : Nat) : Int) := rfl
    have t3 : Int.tdiv (m : Int) 4096 = ((m / 4096 : Nat) : Int) := rfl
    have t4 : Int.tdiv (m : Int) 262144 = ((m / 262144 : Nat) : Int) := rfl
    have wn : ∀ x : Nat, x ≤ 9223372036854775807 → wrap64 (x : Int) = (x : Int) := fun x hx => w64 (by omega) (by omega)
    have wa : ∀ c x : Nat, c + x ≤ 9223372036854775807 → wrap64 ((c : Int) + (x : Int)) = ((c + x : Nat) : Int) := fun c x hx => by rw [w64 (by omega) (by omega)]; omega
    rw [t1, t2, t3, t4, wn (m / 64) (by omega), wn (m / 4096) (by omega), wn (m / 262144) (by omega)]
    have t5 : Int.tmod ((m / 64 : Nat) : Int) 64 = ((m / 64 % 64 : Nat) : Int) := rfl
    have t6 : Int.tmod ((m / 4096 : Nat) : Int) 64 = ((m / 4096 % 64 : Nat) : Int) := rfl
    rw [t5, t6]
    have md : ∀ x : Nat, x < 256 → (x : Int) % 256 = (x : Int) := fun x hx => by omega
    have b1 : 192 + m / 64 ≤ 9223372036854775807 := by omega
    have b2 : 128 + m % 64 ≤ 9223372036854775807 := by omega
    have b3 : 224 + m / 4096 ≤ 9223372036854775807 := by omega
    have b4 : 128 + m / 64 % 64 ≤ 9223372036854775807 := by omega
    have b5 : 240 + m / 262144 ≤ 9223372036854775807 := by omega
    have b6 : 128 + m / 4096 % 64 ≤ 9223372036854775807 := by omega
    have a1 : wrap64 (192 + ((m / 64 : Nat) : Int)) = ((192 + m / 64 : Nat) : Int) := wa 192 (m / 64) b1
    have a2 : wrap64 (128 + ((m % 64 : Nat) : Int)) = ((128 + m % 64 : Nat) : Int) := wa 128 (m % 64) b2
    have a3 : wrap64 (224 + ((m / 4096 : Nat) : Int)) = ((224 + m / 4096 : Nat) : Int) := wa 224 (m / 4096) b3
    have a4 : wrap64 (128 + ((m / 64 % 64 : Nat) : Int)) = ((128 + m / 64 % 64 : Nat) : Int) := wa 128 (m / 64 % 64) b4
    have a5 : wrap64 (240 + ((m / 262144 : Nat) : Int)) = ((240 + m / 262144 : Nat) : Int) := wa 240 (m / 262144) b5
    have a6 : wrap64 (128 + ((m / 4096 % 64 : Nat) : Int)) = ((128 + m / 4096 % 64 : Nat) : Int) := wa 128 (m / 4096 % 64) b6
    rw [a1, a2, a3, a4, a5, a6]
    clear a1 a2 a3 a4 a5 a6 b1 b2 b3 b4 b5 b6 wa wn
    unfold eL
    refine ev_ite (fun g => ?_) (fun g => ?_)
    · rw [if_pos (show m < 128 by omega), md m (by omega)]; exact Ev.now _
    · rw [if_neg (show ¬ m < 128 by omega)]
      refine ev_ite (fun g2 => ?_) (fun g2 => ?_)
      · rw [if_pos (show m < 2048 by omega), md _ (by omega), md _ (by omega)]; exact Ev.now _
      · rw [if_neg (show ¬ m < 2048 by omega)]
        refine ev_ite (fun g3 => ?_) (fun g3 => ?_)
        · rw [if_pos (show m < 65536 by omega), md _ (by omega), md _ (by omega), md _ (by omega)]; exact Ev.now _
        · rw [if_neg (show ¬ m < 65536 by omega), md _ (by omega), md _ (by omega), md _ (by omega), md _ (by omega)]; exact Ev.now _
  refine ev_ite (fun g => ?_) (fun g => ?_)
  · rw [okR, decide_eq_false (by omega)]; exact jt
  · refine ev_ite (fun g2 => ?_) (fun g2 => ?_)
    · rw [okR, decide_eq_false (by omega)]; exact jt
    · refine ev_ite (fun g3 => ?_) (fun g3 => ?_)
      · by_cases g4 : n ≤ 57343
        · rw [decide_eq_true g4, okR, decide_eq_false (by omega)]; exact jt
        · rw [decide_eq_false g4, okR, decide_eq_true (by omega)]; exact jf (by omega) (by omega)
      · rw [okR, decide_eq_true (by omega)]; exact jf (by omega) (by omega)
theorem eL_ne (n : Nat) : eL n ≠ [] := by
  unfold eL
  repeat' split
  all_goals simp
/-! First runes. -/
theorem dV_1 (l : List UInt8) (h : wL l = 1) (h0 : ¬ gb l 0 < 128) : dV l = 65533 := by
  unfold wL at h
  unfold dV
  generalize gb l 0 = b0 at *
  generalize gb l 1 = b1 at *
  generalize gb l 2 = b2 at *
  generalize gb l 3 = b3 at *
  generalize l.length = n at *
  repeat' split at h
  all_goals (first | omega | (repeat' split) <;> omega)
theorem dV_2 (l : List UInt8) (h : wL l = 2) : dV l = gb l 0 % 32 * 64 + gb l 1 % 64 := by
  unfold wL at h
  unfold dV
  generalize gb l 0 = b0 at *
  generalize gb l 1 = b1 at *
  generalize gb l 2 = b2 at *
  generalize gb l 3 = b3 at *
  generalize l.length = n at *
  repeat' split at h
  all_goals (first | omega | (repeat' split) <;> omega)
theorem dV_3 (l : List UInt8) (h : wL l = 3) : dV l = (gb l 0 % 16 * 64 + gb l 1 % 64) * 64 + gb l 2 % 64 := by
  unfold wL at h
  unfold dV
  generalize gb l 0 = b0 at *
  generalize gb l 1 = b1 at *
  generalize gb l 2 = b2 at *
  generalize gb l 3 = b3 at *
  generalize l.length = n at *
  repeat' split at h
  all_goals (first | omega | (repeat' split) <;> omega)
theorem dV_4 (l : List UInt8) (h : wL l = 4) : dV l = ((gb l 0 % 8 * 64 + gb l 1 % 64) * 64 + gb l 2 % 64) * 64 + gb l 3 % 64 := by
  unfold wL at h
  unfold dV
  generalize gb l 0 = b0 at *
  generalize gb l 1 = b1 at *
  generalize gb l 2 = b2 at *
  generalize gb l 3 = b3 at *
  generalize l.length = n at *
  repeat' split at h
  all_goals (first | omega | (repeat' split) <;> omega)
theorem dV_0 (l : List UInt8) (h : gb l 0 < 128) : dV l = gb l 0 := by unfold dV; rw [if_pos h]
theorem dV_le (l : List UInt8) : dV l ≤ 9000000 := by
  have h0 := gb_lt l 0
  unfold dV
  generalize gb l 0 = b0 at *
  generalize gb l 1 = b1 at *
  generalize gb l 2 = b2 at *
  generalize gb l 3 = b3 at *
  generalize l.length = n at *
  repeat' split
  all_goals omega
theorem first_step (l : List UInt8) (n i : Nat) (hi : i < n) (hn : n ≤ l.length) (hn4 : n ≤ 4) (v : Nat) (hv : v ≤ 100000000) (R : Int) (h : Ev (fun k => oculusref13_First.l0 k (tx l) (n : Int) ((v * 64 + gb l i % 64 : Nat) : Int) ((i + 1 : Nat) : Int)) R) :
    Ev (fun k => oculusref13_First.l0 k (tx l) (n : Int) (v : Int) (i : Int)) R := by
  have hb := gb_lt l i
  refine Ev.step (fun k => oculusref13_First.l0.eq_2 ..) (ev_pos (by omega) (ev_pos (by omega) ?_))
  rw [size_tx, bt_gb l i (by omega)]
  refine ev_pos (by omega) ?_
  have e1 : wrap64 ((gb l i : Nat) : Int) = (gb l i : Int) := w64 (by omega) (by omega)
  have e2 : Int.tmod ((gb l i : Nat) : Int) 64 = ((gb l i % 64 : Nat) : Int) := rfl
  have e3 : wrap64 ((wrap64 ((v : Int) * 64)) + ((gb l i % 64 : Nat) : Int)) = ((v * 64 + gb l i % 64 : Nat) : Int) := by
    rw [w64 (x := (v : Int) * 64) (by omega) (by omega), w64 (by omega) (by omega)]; omega
  rw [e1, e2, e3, w64s (n := 100) (by omega) (by omega)]
  exact h
theorem first_end (l : List UInt8) (n : Nat) (v : Int) : Ev (fun k => oculusref13_First.l0 k (tx l) (n : Int) v (n : Int)) v :=
  Ev.step (fun k => oculusref13_First.l0.eq_2 ..) (ev_neg (by omega) (Ev.now _))
theorem rfirst_ev (l : List UInt8) (hl : l ≠ []) : Ev (fun k => oculusref13_First.f k (tx l)) (dV l : Int) := by
  have hb := wL_bounds l hl
  have g0 := gb_lt l 0
  have hp : 0 < l.length := by omega
  unfold oculusref13_First.f
  refine ev_bind (size13_ev l hl) (ev_pos (by rw [size_tx]; omega) ?_)
  have hbt : bt (tx l) 0 = (gb l 0 : Int) := bt_gb l 0 hp
  rw [hbt, w64 (x := (gb l 0 : Int)) (by omega) (by omega)]
  rcases (by omega : wL l = 1 ∨ wL l = 2 ∨ wL l = 3 ∨ wL l = 4) with e | e | e | e
  · rw [e]
    refine ev_pos rfl ?_
    by_cases g : gb l 0 < 128
    · rw [decide_eq_true (by omega), dV_0 l g]
      exact Ev.step (fun k => oculusref13_First.j0.eq_2 ..) (ev_pos rfl (Ev.now _))
    · rw [decide_eq_false (by omega), dV_1 l e g]
      exact Ev.step (fun k => oculusref13_First.j0.eq_2 ..) (ev_neg (by simp) (ev_pos rfl (Ev.now _)))
  · rw [e, dV_2 l e]
    have t : Int.tmod ((gb l 0 : Nat) : Int) 32 = ((gb l 0 % 32 : Nat) : Int) := rfl
    refine ev_neg (by decide) (Ev.step (fun k => oculusref13_First.j0.eq_2 ..) (ev_neg (by simp) (ev_neg (by decide) (ev_neg (by decide) ?_))))
    rw [t]
    refine Ev.step (fun k => oculusref13_First.j1.eq_2 ..) (ev_neg (by decide) (Ev.step (fun k => oculusref13_First.j2.eq_2 ..) ?_))
    exact first_step l 2 1 (by omega) (by omega) (by omega) _ (by omega) _ (first_end l 2 _)
  · rw [e, dV_3 l e]
    have t : Int.tmod ((gb l 0 : Nat) : Int) 16 = ((gb l 0 % 16 : Nat) : Int) := rfl
    refine ev_neg (by decide) (Ev.step (fun k => oculusref13_First.j0.eq_2 ..) (ev_neg (by simp) (ev_neg (by decide) (ev_pos rfl ?_))))
    rw [t]
    refine Ev.step (fun k => oculusref13_First.j1.eq_2 ..) (ev_neg (by decide) (Ev.step (fun k => oculusref13_First.j2.eq_2 ..) ?_))
    exact first_step l 3 1 (by omega) (by omega) (by omega) _ (by omega) _ (first_step l 3 2 (by omega) (by omega) (by omega) _ (by omega) _ (first_end l 3 _))
  · rw [e, dV_4 l e]
    have t : Int.tmod ((gb l 0 : Nat) : Int) 8 = ((gb l 0 % 8 : Nat) : Int) := rfl
    refine ev_neg (by decide) (Ev.step (fun k => oculusref13_First.j0.eq_2 ..) (ev_neg (by simp) (ev_neg (by decide) (ev_neg (by decide) ?_))))
    refine Ev.step (fun k => oculusref13_First.j1.eq_2 ..) (ev_pos rfl ?_)
    rw [t]
    refine Ev.step (fun k => oculusref13_First.j2.eq_2 ..) ?_
    exact first_step l 4 1 (by omega) (by omega) (by omega) _ (by omega) _ (first_step l 4 2 (by omega) (by omega) (by omega) _ (by omega) _ (first_step l 4 3 (by omega) (by omega) (by omega) _ (by omega) _ (first_end l 4 _)))
/-! The reference's turning. -/
theorem rrev_l0 (xs : List (List UInt8)) (hx : xs.length ≤ 100000) : ∀ (d i : Nat) (a : List UInt8), i + d = xs.length → a.length + (xs.drop i).flatten.length ≤ 1000000 → Ev (fun k => oculusref13_Reverse.l0 k (tx a) (xs.map tx) (i : Int)) (tx ((xs.drop i).reverse.flatten ++ a))
  | 0, i, a, h, hs => by
    refine Ev.step (fun k => oculusref13_Reverse.l0.eq_2 ..) ?_
    rw [List.drop_eq_nil_of_le (by omega)]
    exact ev_neg (by rw [List.length_map]; omega) (Ev.now _)
  | d + 1, i, a, h, hs => by
    have hi : i < xs.length := by omega
    have e := List.drop_eq_getElem_cons hi
    have hlen : (xs.drop i).flatten.length = xs[i].length + (xs.drop (i + 1)).flatten.length := by rw [e, List.flatten_cons, List.length_append]
    refine Ev.step (fun k => oculusref13_Reverse.l0.eq_2 ..) ?_
    rw [rdQ xs i hi, size_tx, size_tx]
    refine ev_pos (by rw [List.length_map]; omega) (ev_pos (by omega) (ev_pos (by omega) ?_))
    rw [tx_append, w64s (n := 1000000) (by omega) (by omega)]
    have := rrev_l0 xs hx d (i + 1) (xs[i] ++ a) (by omega) (by rw [List.length_append]; omega)
    have e2 : (xs.drop i).reverse.flatten ++ a = (xs.drop (i + 1)).reverse.flatten ++ (xs[i] ++ a) := by
      rw [e, List.reverse_cons, List.flatten_append, List.append_assoc]; simp
    rw [e2]
    exact this
theorem rrev_ev (s : ByteArray) (h : s.size ≤ 1000) : Ev (fun k => oculusref13_Reverse.f k s) (tx (revT (by_ s))) := by
  unfold oculusref13_Reverse.f
  refine ev_bind (pieces_ev s h) ?_
  have hl := pcs_le (by_ s)
  have hs : (by_ s).length ≤ 1000 := by rw [← size_by]; exact h
  have := rrev_l0 (pcs (by_ s)) (by omega) (pcs (by_ s)).length 0 [] (by omega) (by rw [List.drop_zero, pcs_flat]; simp; omega)
  rw [List.drop_zero, List.append_nil] at this
  exact this
theorem rev_eq (s : ByteArray) (h : s.size ≤ 1000) : runes_Reverse.f s = some (tx (revT (by_ s))) := by unfold runes_Reverse.f; rw [if_pos h]
theorem first_eq (l : List UInt8) : runes_First.f (tx l) = some (if l = [] then (0, false) else ((dV l : Int), true)) := by
  unfold runes_First.f
  rw [size_tx]
  by_cases h : l = []
  · rw [if_pos h, h]; rfl
  · rw [if_neg h, if_pos (List.length_pos_iff.2 h), decode_dV, List.drop_zero, by_tx]
end Go.Proofs.YtlfoechdakjekaaDoor.X
/- The pure statement of the law RunesTurn: over texts and numbers alone. -/
set_option linter.unusedVariables false
set_option linter.unusedSimpArgs false
namespace Go.Proofs.YtlfoechdakjekaaDoor.Pure
open Go.RowKit Go.Proofs.YtlfoechdakjekaaDoor.X Go.Proofs.YtlfoechdakjekaaDoorW.PrintWords Go.Proofs.YtlfoechdakjekaaDoorW.PrintLast Go.Proofs.YtlfoechdakjekaaDoorW.PrintMore
theorem j3_ev (l : List UInt8) (hl : l.length ≤ 300) (whole : Bool) (hw : whole = true → ∀ p ∈ pcs l, 1 < p.length ∨ gb p 0 < 128) : Ev (fun k => oculuslaw13_RunesTurn.j3 k (tx l) whole false) true := by
  refine Ev.step (fun k => oculuslaw13_RunesTurn.j3.eq_2 ..) (ev_neg (by simp) (ev_ite (fun g => ?_) (fun _ => ev_bind alive13_ev (Ev.now _))))
  have e1 := rev_eq (tx l) (by rw [size_tx]; omega)
  rw [by_tx] at e1
  have e2 := rev_eq (tx (revT l)) (by rw [size_tx, revT_len]; omega)
  rw [by_tx, rev_rev l (hw g)] at e2
  exact ev_bind (ev_some fun _ => e1) (ev_bind (ev_some fun _ => e2) (ev_pos rfl (ev_bind alive13_ev (Ev.now _))))
theorem turn_l0 (l : List UInt8) (hl : l.length ≤ 300) (n : Int) : ∀ (d i : Nat), i + d = (pcs l).length → ∀ whole : Bool, (whole = true → ∀ p ∈ (pcs l).take i, 1 < p.length ∨ gb p 0 < 128) →
    Ev (fun k => oculuslaw13_RunesTurn.l0 k (tx l) n (if okR n = true then tx (eL n.toNat) else tx []) (okR n) whole ((pcs l).map tx) ((pcs l).length : Int) (i : Int)) true
  | 0, i, h, whole, hw => by
    refine Ev.step (fun k => oculuslaw13_RunesTurn.l0.eq_2 ..) (ev_neg (by omega) ?_)
    rw [List.take_of_length_le (by omega)] at hw
    refine ev_ite (fun g => ?_) (fun g => ?_)
    · rw [if_pos g]
      have h3 := of_decide_eq_true g
      obtain ⟨m, rfl⟩ : ∃ m : Nat, n = (m : Int) := ⟨n.toNat, by omega⟩
      rw [Int.toNat_natCast]
      have e := first_eq (eL m)
      rw [if_neg (eL_ne m), dV_eL m (by omega)] at e
      refine ev_bind (ev_some fun _ => e) (ev_pos rfl ?_)
      have e2 : ((wrap64 (m : Int)) != (m : Int)) = false := by rw [w64 (by omega) (by omega)]; exact bne_self_eq_false _
      show Ev (fun k => oculuslaw13_RunesTurn.j3 k (tx l) whole ((wrap64 (m : Int)) != (m : Int))) true
      rw [e2]
      exact j3_ev l hl whole hw
    · refine ev_ite (fun g2 => ?_) (fun _ => ev_bind alive13_ev (Ev.now _))
      have e1 := rev_eq (tx l) (by rw [size_tx]; omega)
      rw [by_tx] at e1
      have e2 := rev_eq (tx (revT l)) (by rw [size_tx, revT_len]; omega)
      rw [by_tx, rev_rev l (hw g2)] at e2
      exact ev_bind (ev_some fun _ => e1) (ev_bind (ev_some fun _ => e2) (ev_pos rfl (ev_bind alive13_ev (Ev.now _))))
  | d + 1, i, h, whole, hw => by
    have hi : i < (pcs l).length := by omega
    have hm := pcs_mem l.length l (Nat.le_refl _) _ (List.getElem_mem hi)
    have hpos := List.length_pos_iff.2 hm.1
    have hle := pcs_le l
    refine Ev.step (fun k => oculuslaw13_RunesTurn.l0.eq_2 ..) (ev_pos (by omega) (ev_pos (by omega) (ev_pos (by rw [List.length_map]; omega) ?_)))
    rw [rdQ _ i hi, size_tx, w64s (n := 100000) (by omega) (by omega)]
    have htake : (pcs l).take (i + 1) = (pcs l).take i ++ [(pcs l)[i]] := by rw [List.take_add_one, List.getElem?_eq_getElem hi]; rfl
    refine ev_ite (fun g => ?_) (fun g => ?_)
    · subst g
      refine ev_ite (fun g2 => ?_) (fun g2 => ?_)
      · refine turn_l0 l hl n d (i + 1) (by omega) true (fun _ p hp => ?_)
        rw [htake, List.mem_append, List.mem_singleton] at hp
        rcases hp with hp | rfl
        · exact hw rfl p hp
        · left; omega
      · refine ev_pos (by omega) ?_
        have hbt : bt (tx (pcs l)[i]) 0 = (gb (pcs l)[i] 0 : Int) := bt_gb _ 0 hpos
        rw [hbt]
        refine turn_l0 l hl n d (i + 1) (by omega) _ (fun hd p hp => ?_)
        have hd := of_decide_eq_true hd
        rw [htake, List.mem_append, List.mem_singleton] at hp
        rcases hp with hp | rfl
        · exact hw rfl p hp
        · right; omega
    · exact turn_l0 l hl n d (i + 1) (by omega) false (fun hd => by cases hd)
theorem RunesTurn : oculuslaw13_RunesTurn.PureX := by
  intro s n _ _
  apply Ev.rounds
  obtain ⟨l, rfl⟩ : ∃ l, s = tx l := ⟨by_ s, (tx_by s).symm⟩
  unfold oculuslaw13_RunesTurn.f
  rw [size_tx]
  refine ev_ite (fun _ => ev_bind alive13_ev (Ev.now _)) (fun hl => ?_)
  refine ev_bind (single_c n) (ev_bind (single_r n) (ev_pos rfl ?_))
  refine ev_neg ?_ ?_
  · show ¬ ((okR n != ((if okR n = true then tx (eL n.toNat) else tx []).toList != ([] : List UInt8))) = true)
    cases okR n with
    | true => rw [if_pos rfl, toList_by, by_tx, bne_iff_ne.2 (eL_ne _)]; decide
    | false => rw [if_neg (by simp), toList_by, by_tx]; decide
  have e1 := rev_eq (tx l) (by rw [size_tx]; omega)
  have e2 := rrev_ev (tx l) (by rw [size_tx]; omega)
  rw [by_tx] at e1 e2
  refine ev_bind (ev_some fun _ => e1) (ev_bind e2 ?_)
  rw [show ((tx (revT l)).toList != (tx (revT l)).toList) = false from bne_self_eq_false _]
  have j1 : Ev (fun k => oculuslaw13_RunesTurn.j1 k (tx l) n (if okR n = true then tx (eL n.toNat) else tx []) (okR n) false) true := by
    refine Ev.step (fun k => oculuslaw13_RunesTurn.j1.eq_2 ..) (ev_neg (by simp) ?_)
    have ep := pieces_ev (tx l) (by rw [size_tx]; omega)
    rw [by_tx] at ep
    refine ev_bind ep ?_
    rw [List.length_map]
    exact turn_l0 l (by omega) n (pcs l).length 0 (by omega) true (fun _ p hp => by simp at hp)
  refine Ev.step (fun k => oculuslaw13_RunesTurn.j0.eq_2 ..) (ev_neg (by simp) (ev_bind (ev_some fun _ => first_eq l) ?_))
  rw [toList_by, by_tx]
  by_cases h : l = []
  · rw [if_pos h]
    refine ev_neg (by rw [h]; decide) (ev_neg (by simp) ?_)
    exact j1
  · rw [if_neg h]
    have hd := dV_le l
    refine ev_neg ?_ (ev_pos rfl (ev_bind (rfirst_ev l h) (ev_pos ?_ j1)))
    · rw [bne_iff_ne.2 h]; simp
    · show wrap64 (dV l : Int) = (dV l : Int)
      exact w64 (by omega) (by omega)
end Go.Proofs.YtlfoechdakjekaaDoor.Pure
/- The row of the law RunesTurn: for every input the call returns true and each argument reads afterwards as before, out of its pure statement and the contract of its function. Conditions: none beyond the given statement. -/
namespace Go.Proofs.YtlfoechdakjekaaDoor.runesTurn
open Go.ChangeShapes Go.WideShapes Go.ChangeAt Go.RowKit
open Go.ChangeMaps (open_string shut_string)
open Go.Proofs.YtlfoechdakjekaaDoor.Opn Go.Proofs.YtlfoechdakjekaaDoor.X
open Go.Proofs.YtlfoechdakjekaaDoorW.PrintWords (Kd Drawn0)
set_option linter.unusedVariables false
set_option maxRecDepth 100000
theorem own : ownKnob Tryd.prog.godebug = none := by kernel_rfl
theorem laidOut : laidOutB Tryd.prog = true := by kernel_rfl
/-- What a listed table of whole numbers holds, out of the row's condition. -/
theorem tab_vars {P : Program} {W : World} {name : String} {k : IntKind} {zs : List Int} {g : Nat} {t e : TypeId} {n : Nat}
    (hg : P.globalNamed name = some g) (hty : (P.globals[g]?).map (·.type) = some t) (ht : P.underlying t = some (.array n e)) (he : P.underlying e = some (.int k)) (hce : P.cellsOf e = 1) (hct : P.cellsOf t = n) :
    ∀ (l : List (String × DataW Unit)) (ps : List MemPlace), DataW.LaidVars P W l ps → (name, Lib.tabData k zs) ∈ l → Lib.TabIs P W name k zs
  | [], _, _, hm => by simp at hm
  | (nm, d) :: rest, ps, h, hm => by
    obtain ⟨g', t', cs, fuel, p, q, hg', ht', hvar, hd, hr, _⟩ := h
    rcases List.mem_cons.1 hm with e0 | hm
    · cases e0
      obtain rfl := Option.some.inj (hg.symm.trans hg')
      obtain rfl := Option.some.inj (hty.symm.trans ht')
      unfold Lib.TabIs
      rw [hvar, ← Lib.cells_of_tab ht he hce hct hd]
    · exact tab_vars hg hty ht he hce hct rest q hr hm
theorem e_first : (Rows.laid_unicode_utf8_first : DataW Unit) = Lib.firstData := Pinned.utf8First_eq
theorem e_acc : (Rows.laid_unicode_utf8_acceptRanges : DataW Unit) = Lib.acceptData := by kernel_rfl
theorem tab_of_laid {W : World} (h : laidMet Tryd.prog Rows.runesTurnRow.laid W) : Tab W := by
  have m_first : (("unicode/utf8.first", (Rows.laid_unicode_utf8_first : DataW Unit)) : String × DataW Unit) ∈ Rows.runesTurnRow.laid := List.mem_cons_of_mem _ (List.mem_cons_self)
  rw [e_first] at m_first
  have m_acc : (("unicode/utf8.acceptRanges", (Rows.laid_unicode_utf8_acceptRanges : DataW Unit)) : String × DataW Unit) ∈ Rows.runesTurnRow.laid := List.mem_cons_self
  rw [e_acc] at m_acc
  exact ⟨utf8Tabs_of_reads Tryd.lays260 ⟨by kernel_rfl, by kernel_rfl, by kernel_rfl, by kernel_rfl, by kernel_rfl, by kernel_rfl, by kernel_rfl⟩ (Lib.laidMet.reads h m_first) (Lib.laidMet.reads h m_acc)⟩
/-- A world that meets the condition: the settled one, the tables laid. -/
noncomputable def laidWorld (os : Os) : World :=
  { World.holding Tryd.prog os ⟨#[], #[], []⟩ with heap := (((World.holding Tryd.prog os ⟨#[], #[], []⟩).heap.modify 1 (fun | .cells _ t fr => .cells #[.int .u8 128, .int .u8 191, .int .u8 160, .int .u8 191, .int .u8 128, .int .u8 159, .int .u8 144, .int .u8 191, .int .u8 128, .int .u8 143, .int .u8 0, .int .u8 0, .int .u8 0, .int .u8 0, .int .u8 0, .int .u8 0, .int .u8 0, .int .u8 0, .int .u8 0, .int .u8 0, .int .u8 0, .int .u8 0, .int .u8 0, .int .u8 0, .int .u8 0, .int .u8 0, .int .u8 0, .int .u8 0, .int .u8 0, .int .u8 0, .int .u8 0, .int .u8 0] t fr | o => o)).modify 0 (fun | .cells _ t fr => .cells #[.int .u8 240, .int .u8 240, .int .u8 240, .int .u8 240, .int .u8 240, .int .u8 240, .int .u8 240, .int .u8 240, .int .u8 240, .int .u8 240, .int .u8 240, .int .u8 240, .int .u8 240, .int .u8 240, .int .u8 240, .int .u8 240, .int .u8 240, .int .u8 240, .int .u8 240, .int .u8 240, .int .u8 240, .int .u8 240, .int .u8 240, .int .u8 240, .int .u8 240, .int .u8 240, .int .u8 240, .int .u8 240, .int .u8 240, .int .u8 240, .int .u8 240, .int .u8 240, .int .u8 240, .int .u8 240, .int .u8 240, .int .u8 240, .int .u8 240, .int .u8 240, .int .u8 240, .int .u8 240, .int .u8 240, .int .u8 240, .int .u8 240, .int .u8 240, .int .u8 240, .int .u8 240, .int .u8 240, .int .u8 240, .int .u8 240, .int .u8 240, .int .u8 240, .int .u8 240, .int .u8 240, .int .u8 240, .int .u8 240, .int .u8 240, .int .u8 240, .int .u8 240, .int .u8 240, .int .u8 240, .int .u8 240, .int .u8 240, .int .u8 240, .int .u8 240, .int .u8 240, .int .u8 240, .int .u8 240, .int .u8 240, .int .u8 240, .int .u8 240, .int .u8 240, .int .u8 240, .int .u8 240, .int .u8 240, .int .u8 240, .int .u8 240, .int .u8 240, .int .u8 240, .int .u8 240, .int .u8 240, .int .u8 240, .int .u8 240, .int .u8 240, .int .u8 240, .int .u8 240, .int .u8 240, .int .u8 240, .int .u8 240, .int .u8 240, .int .u8 240, .int .u8 240, .int .u8 240, .int .u8 240, .int .u8 240, .int .u8 240, .int .u8 240, .int .u8 240, .int .u8 240, .int .u8 240, .int .u8 240, .int .u8 240, .int .u8 240, .int .u8 240, .int .u8 240, .int .u8 240, .int .u8 240, .int .u8 240, .int .u8 240, .int .u8 240, .int .u8 240, .int .u8 240, .int .u8 240, .int .u8 240, .int .u8 240, .int .u8 240, .int .u8 240, .int .u8 240, .int .u8 240, .int .u8 240, .int .u8 240, .int .u8 240, .int .u8 240, .int .u8 240, .int .u8 240, .int .u8 240, .int .u8 240, .int .u8 240, .int .u8 240, .int .u8 241, .int .u8 241, .int .u8 241, .int .u8 241, .int .u8 241, .int .u8 241, .int .u8 241, .int .u8 241, .int .u8 241, .int .u8 241, .int .u8 241, .int .u8 241, .int .u8 241, .int .u8 241, .int .u8 241, .int .u8 241, .int .u8 241, .int .u8 241, .int .u8 241, .int .u8 241, .int .u8 241, .int .u8 241, .int .u8 241, .int .u8 241, .int .u8 241, .int .u8 241, .int .u8 241, .int .u8 241, .int .u8 241, .int .u8 241, .int .u8 241, .int .u8 241, .int .u8 241, .int .u8 241, .int .u8 241, .int .u8 241, .int .u8 241, .int .u8 241, .int .u8 241, .int .u8 241, .int .u8 241, .int .u8 241, .int .u8 241, .int .u8 241, .int .u8 241, .int .u8 241, .int .u8 241, .int .u8 241, .int .u8 241, .int .u8 241, .int .u8 241, .int .u8 241, .int .u8 241, .int .u8 241, .int .u8 241, .int .u8 241, .int .u8 241, .int .u8 241, .int .u8 241, .int .u8 241, .int .u8 241, .int .u8 241, .int .u8 241, .int .u8 241, .int .u8 241, .int .u8 241, .int .u8 2, .int .u8 2, .int .u8 2, .int .u8 2, .int .u8 2, .int .u8 2, .int .u8 2, .int .u8 2, .int .u8 2, .int .u8 2, .int .u8 2, .int .u8 2, .int .u8 2, .int .u8 2, .int .u8 2, .int .u8 2, .int .u8 2, .int .u8 2, .int .u8 2, .int .u8 2, .int .u8 2, .int .u8 2, .int .u8 2, .int .u8 2, .int .u8 2, .int .u8 2, .int .u8 2, .int .u8 2, .int .u8 2, .int .u8 2, .int .u8 19, .int .u8 3, .int .u8 3, .int .u8 3, .int .u8 3, .int .u8 3, .int .u8 3, .int .u8 3, .int .u8 3, .int .u8 3, .int .u8 3, .int .u8 3, .int .u8 3, .int .u8 35, .int .u8 3, .int .u8 3, .int .u8 52, .int .u8 4, .int .u8 4, .int .u8 4, .int .u8 68, .int .u8 241, .int .u8 241, .int .u8 241, .int .u8 241, .int .u8 241, .int .u8 241, .int .u8 241, .int .u8 241, .int .u8 241, .int .u8 241, .int .u8 241] t fr | o => o)) }
theorem laidWorld_met (os : Os) (args : Array Value) : laidMet Tryd.prog Rows.runesTurnRow.laid ((laidWorld os).forCall (fun _ _ => 0) ⟨#[], args, []⟩).memory := laidMet_of_run' 8 (by kernel_rfl) (by kernel_rfl)
set_option maxRecDepth 100000 in
set_option maxHeartbeats 1000000 in
theorem lifted (os : Os) (started : os.Started) (H : Type) (enc : TypeId × Value → H) :
    ReturnsInHanded {} Tryd.checked os 3 .any (fun w args => (Rows.runesTurnSpec.pre enc Tryd.prog Tryd.f3 Rows.runesTurnRow.domain false w args ∧ laidMet Tryd.prog Rows.runesTurnRow.laid w) ∧ sizedMet enc Tryd.prog Tryd.f3 (OpenSpec.ofChange Rows.runesTurnSpec) false w args) (Rows.runesTurnSpec.post enc Tryd.prog Tryd.f3 false true false false) := by
  refine returnsInHanded_of_change_and (C := Tryd.checked) (X := fun w _ => laidMet Tryd.prog Rows.runesTurnRow.laid w) (fun _ _ _ hh h => h.of_heap hh) own started (by kernel_rfl) Tryd.func3
    (ChangeSpec.witness_at (enc := enc) (C := Tryd.checked) (os := os) (X := fun w _ => laidMet Tryd.prog Rows.runesTurnRow.laid w) false (laidWorld os) #[.string ByteArray.empty, .int .i64 0] 8 rfl (by kernel_rfl) (by kernel_rfl) (by kernel_rfl) (by kernel_rfl) (by kernel_rfl) (laidWorld_met os _)) ?_
  intro W base args ds gs before hval0 hW hcnd hsz0 hL _
  have hsz : (DataW.weightsEach Tryd.prog (Tryd.f3.params.toList ++ Rows.runesTurnSpec.plain.varTypes Tryd.prog) (ds ++ gs)).all (· ≤ reachBytes) = true := hsz0
  have hval : ∀ (j : Nat) t v, Tryd.f3.params[j]? = some t → args[j]? = some v → Value.okWide Tryd.prog W .any base t v := hval0
  have hW' := hW
  obtain ⟨p, q, hA0, hV, rfl, hfz, hnd⟩ := hW
  have hA : DataW.TrodAll enc Tryd.prog W 0 (fun _ => true) true Tryd.f3.params.toList args.toList ds p := hA0
  rw [Tryd.params3] at hA hval hsz
  obtain ⟨v0, vs0, d0, ds0, p0, q0, hargs, rfl, rfl, h0, r0⟩ := trodAll_cons hA
  obtain ⟨v1, vs1, d1, ds1, p1, q1, rfl, rfl, rfl, h1, r1⟩ := trodAll_cons r0
  obtain ⟨rfl, rfl, rfl⟩ := trodAll_nil r1
  obtain rfl : args = #[v0, v1] := by cases args; simp_all
  obtain ⟨rfl, rfl⟩ := trodVars_none hV
  have lt0 : ∀ x ∈ p0, x.block < W.heap.size := by obtain ⟨m, hm⟩ := h0; exact DataW.trod_lt m _ _ _ hm
  have hw0 : ∀ m ∈ d0.weights Tryd.prog 9, m ≤ reachBytes := fun m hm => of_decide_eq_true (List.all_eq_true.1 hsz m (DataW.weights_mem_each (j := 0) (t := 9) rfl rfl m hm))
  obtain ⟨a0, K0, g0⟩ : ∃ a, (Kd.string : Kd ByteArray).K W a v0.cells.toList ∧ (a.size ≤ reachBytes) := by
    obtain ⟨fuel, hf⟩ := h0
    exact (opens_string Tryd.underlying9) hf hw0
  obtain rfl : v0 = .string a0 := by
    obtain ⟨x, rfl, _⟩ := open_string Tryd.underlying9 (hval 0 9 v0 rfl rfl) h0
    have := K0
    simpa [Kd.string, Kd.scalar, Value.cells] using this
  have lt1 : ∀ x ∈ p1, x.block < W.heap.size := by obtain ⟨m, hm⟩ := h1; exact DataW.trod_lt m _ _ _ hm
  have hw1 : ∀ m ∈ d1.weights Tryd.prog 3, m ≤ reachBytes := fun m hm => of_decide_eq_true (List.all_eq_true.1 hsz m (DataW.weights_mem_each (j := 1) (t := 3) rfl rfl m hm))
  obtain ⟨a1, K1, g1⟩ : ∃ a, ((Kd.int .i64) : Kd Int).K W a v1.cells.toList ∧ ((Lit.int .i64 a).wf = true) := by
    obtain ⟨fuel, hf⟩ := h1
    exact (opens_int Tryd.underlying3) hf hw1
  obtain rfl : v1 = .int .i64 a1 := by
    obtain ⟨x, rfl, _⟩ := open_int Tryd.underlying3 (hval 1 3 v1 rfl rfl) h1
    have := K1
    simpa [Kd.int, Kd.scalar, Value.cells] using this
  obtain ⟨k, hk⟩ := Pure.RunesTurn a0 a1 g0 g1
  clear hA0 hval0 hsz0 hsz
  refine (oculuslaw13_RunesTurn.calls k a0 a1 true W ⟨tab_of_laid hL⟩ hk).mono fun e W' ⟨he, bel0⟩ => ?_
  have bel : Below W.heap.size W W' := bel0
  subst he
  exact ⟨_, rfl, _, _, _, [], _, [], hW', trodAll_mk1 (shut_bool Tryd.underlying4 _), (trodAll_cons_mk (Below.trod laidOut (by kernel_rfl) (of_decide_eq_true (by kernel_rfl)) h0 bel lt0) (trodAll_cons_mk (Below.trod laidOut (by kernel_rfl) (of_decide_eq_true (by kernel_rfl)) h1 bel lt1) trodAll_mk0)), rfl, bel.frame _, fun h => by cases h⟩
theorem over : Rows.runesTurnRow.holds Tryd.pinned (OpenSpec.ofChange Rows.runesTurnSpec) :=
  OpenClaim.holds_of_wide 3 Tryd.f3 rfl rfl rfl rfl rfl rfl rfl ⟨rfl, rfl, rfl, rfl, rfl⟩ rfl rfl rfl rfl rfl (by kernel_rfl) Tryd.func3 (by kernel_rfl)
    (of_decide_eq_true (by kernel_rfl)) (by unfold Func.isWrapper; first | (rw [if_pos (by decide +kernel)]; kernel_rfl) | (rw [if_neg (by decide +kernel)]; exact ⟨rfl, rfl⟩))
    (fun os started H enc _ => lifted os started H enc)
/-- THE TIED CARD. -/
theorem proved : Rows.RunesTurnCardSaid :=
  Claim7.holds_tied_plain_at .later [] [.data, .pinned] true (true, "e349606182b49f8dde2821659814258e2ab177cd4f5c62b2314028684779d216") false
    over (fun _ h => by cases h) (by kernel_rfl) (fun _ h => by cases h) runesTurn_row_tie rfl ⟨rfl, rfl⟩ (by kernel_rfl) rfl
    (fun f fn hf hfn => by
      obtain rfl : f = 3 := Option.some.inj ((show Tryd.prog.funcNamed "oculus/oculuslaw13.RunesTurn" = some 3 by kernel_rfl).symm.trans hf) |>.symm
      obtain rfl : fn = Tryd.f3 := (Option.some.inj (Tryd.func3.symm.trans hfn)).symm
      refine ⟨by kernel_rfl, fun j t ht => ?_⟩
      rw [Tryd.params3] at ht
      have hall : ∀ t ∈ #[(9 : TypeId), (3 : TypeId)], Tryd.prog.wantsStandIn t = false := by
        intro t ht
        simp only [List.mem_toArray, List.mem_cons, List.not_mem_nil, or_false] at ht
        rcases ht with rfl | rfl
        · exact (show Tryd.prog.wantsStandIn 9 = false by kernel_rfl)
        · exact (show Tryd.prog.wantsStandIn 3 = false by kernel_rfl)
      exact hall t (Array.mem_of_getElem? ht))
    (by kernel_rfl)
end Go.Proofs.YtlfoechdakjekaaDoor.runesTurn
namespace Go.Proofs.YtlfoechdakjekaaDoor
/-- The row, under a short name, for the claim. -/
theorem runesTurn_holds : Rows.RunesTurnCardSaid := runesTurn.proved
#print axioms runesTurn_holds
end Go.Proofs.YtlfoechdakjekaaDoor
