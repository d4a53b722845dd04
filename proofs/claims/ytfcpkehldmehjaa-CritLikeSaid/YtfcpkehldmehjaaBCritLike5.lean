/- The law CritLike: for every input the call returns true, and each argument reads afterwards as it read before: the statement Rows.CritLikeSaid, whole, with no condition of ours. -/
import Derived.Test.YtfcpkehldmehjaaRows
import Derived.WalkKit
import Derived.ProofKit
import Derived.OpenShut
import Derived.ShutString
import Derived.ChangeOld
import Derived.Below
import Derived.SizedLaws
import Derived.Carry
import Derived.Test.YtfcpkehldmehjaaBCritLike4
/- The row of the law CritLike: for every input the call returns true and each argument reads afterwards as before, out of its pure statement and the contract of its function. Conditions: none beyond the given statement. -/
namespace Go.Proofs.Ytfcpkehldmehjaa.critLike
open Go.ChangeShapes Go.WideShapes Go.ChangeAt Go.RowKit
open Go.ChangeMaps (open_string shut_string)
open Go.Proofs.Ytfcpkehldmehjaa.Opn Go.Proofs.Ytfcpkehldmehjaa.X
open Go.Proofs.YtfcpkehldmehjaaW.PrintWords (Kd Drawn0)
set_option linter.unusedVariables false
theorem own : ownKnob Try.prog.godebug = none := by kernel_rfl
theorem laidOut : laidOutB Try.prog = true := by kernel_rfl
set_option maxRecDepth 100000 in
set_option maxHeartbeats 1000000 in
theorem lifted (os : Os) (started : os.Started) (H : Type) (enc : TypeId × Value → H) :
    ReturnsInHanded {} Try.checked os 4 .any (Rows.critLikeSpec.pre6 enc Try.prog Try.f4 Rows.critLikeRow.domain false) (Rows.critLikeSpec.post enc Try.prog Try.f4 false true false false) := by
  refine returnsInHanded_of_change_sized (C := Try.checked) own started (by kernel_rfl) Try.func4
    (ChangeSpec.witness6 (enc := enc) (C := Try.checked) false ⟨#[], #[.string ByteArray.empty, .string ByteArray.empty, .string ByteArray.empty], []⟩ 8 (by kernel_rfl) (by kernel_rfl) (by kernel_rfl) (by kernel_rfl)) ?_
  intro W base args ds gs before hval0 hW hcnd hsz0 _
  have hsz : (DataW.weightsEach Try.prog (Try.f4.params.toList ++ Rows.critLikeSpec.plain.varTypes Try.prog) (ds ++ gs)).all (· ≤ reachBytes) = true := hsz0
  have hval : ∀ (j : Nat) t v, Try.f4.params[j]? = some t → args[j]? = some v → Value.okWide Try.prog W .any base t v := hval0
  have hW' := hW
  obtain ⟨p, q, hA0, hV, rfl, hfz, hnd⟩ := hW
  have hA : DataW.TrodAll enc Try.prog W 0 (fun _ => true) true Try.f4.params.toList args.toList ds p := hA0
  rw [Try.params4] at hA hval hsz
  obtain ⟨v0, vs0, d0, ds0, p0, q0, hargs, rfl, rfl, h0, r0⟩ := trodAll_cons hA
  obtain ⟨v1, vs1, d1, ds1, p1, q1, rfl, rfl, rfl, h1, r1⟩ := trodAll_cons r0
  obtain ⟨v2, vs2, d2, ds2, p2, q2, rfl, rfl, rfl, h2, r2⟩ := trodAll_cons r1
  obtain ⟨rfl, rfl, rfl⟩ := trodAll_nil r2
  obtain rfl : args = #[v0, v1, v2] := by cases args; simp_all
  obtain ⟨rfl, rfl⟩ := trodVars_none hV
  have lt0 : ∀ x ∈ p0, x.block < W.heap.size := by obtain ⟨m, hm⟩ := h0; exact DataW.trod_lt m _ _ _ hm
  have hw0 : ∀ m ∈ d0.weights Try.prog 9, m ≤ reachBytes := fun m hm => of_decide_eq_true (List.all_eq_true.1 hsz m (DataW.weights_mem_each (j := 0) (t := 9) rfl rfl m hm))
  obtain ⟨a0, K0, g0⟩ : ∃ a, (Kd.string : Kd ByteArray).K W a v0.cells.toList ∧ (a.size ≤ reachBytes) := by
    obtain ⟨fuel, hf⟩ := h0
    exact (opens_string Try.underlying9) hf hw0
  obtain rfl : v0 = .string a0 := by
    obtain ⟨x, rfl, _⟩ := open_string Try.underlying9 (hval 0 9 v0 rfl rfl) h0
    have := K0
    simpa [Kd.string, Kd.scalar, Value.cells] using this
  have lt1 : ∀ x ∈ p1, x.block < W.heap.size := by obtain ⟨m, hm⟩ := h1; exact DataW.trod_lt m _ _ _ hm
  have hw1 : ∀ m ∈ d1.weights Try.prog 9, m ≤ reachBytes := fun m hm => of_decide_eq_true (List.all_eq_true.1 hsz m (DataW.weights_mem_each (j := 1) (t := 9) rfl rfl m hm))
  obtain ⟨a1, K1, g1⟩ : ∃ a, (Kd.string : Kd ByteArray).K W a v1.cells.toList ∧ (a.size ≤ reachBytes) := by
    obtain ⟨fuel, hf⟩ := h1
    exact (opens_string Try.underlying9) hf hw1
  obtain rfl : v1 = .string a1 := by
    obtain ⟨x, rfl, _⟩ := open_string Try.underlying9 (hval 1 9 v1 rfl rfl) h1
    have := K1
    simpa [Kd.string, Kd.scalar, Value.cells] using this
  have lt2 : ∀ x ∈ p2, x.block < W.heap.size := by obtain ⟨m, hm⟩ := h2; exact DataW.trod_lt m _ _ _ hm
  have hw2 : ∀ m ∈ d2.weights Try.prog 9, m ≤ reachBytes := fun m hm => of_decide_eq_true (List.all_eq_true.1 hsz m (DataW.weights_mem_each (j := 2) (t := 9) rfl rfl m hm))
  obtain ⟨a2, K2, g2⟩ : ∃ a, (Kd.string : Kd ByteArray).K W a v2.cells.toList ∧ (a.size ≤ reachBytes) := by
    obtain ⟨fuel, hf⟩ := h2
    exact (opens_string Try.underlying9) hf hw2
  obtain rfl : v2 = .string a2 := by
    obtain ⟨x, rfl, _⟩ := open_string Try.underlying9 (hval 2 9 v2 rfl rfl) h2
    have := K2
    simpa [Kd.string, Kd.scalar, Value.cells] using this
  obtain ⟨k, hk⟩ := Pure.CritLike a0 a1 a2 g0 g1 g2
  clear hA0 hval0 hsz0 hsz
  refine (oculuslaw17_CritLike.calls k a0 a1 a2 true W hk).mono fun e W' ⟨he, bel0⟩ => ?_
  have bel : Below W.heap.size W W' := bel0
  subst he
  exact ⟨_, rfl, _, _, _, [], _, [], hW', trodAll_mk1 (shut_bool Try.underlying4 _), (trodAll_cons_mk (Below.trod laidOut (by kernel_rfl) (of_decide_eq_true (by kernel_rfl)) h0 bel lt0) (trodAll_cons_mk (Below.trod laidOut (by kernel_rfl) (of_decide_eq_true (by kernel_rfl)) h1 bel lt1) (trodAll_cons_mk (Below.trod laidOut (by kernel_rfl) (of_decide_eq_true (by kernel_rfl)) h2 bel lt2) trodAll_mk0))), rfl, bel.frame _, fun h => by cases h⟩
theorem over : Rows.critLikeRow.holds Try.pinned (OpenSpec.ofChange Rows.critLikeSpec) :=
  OpenClaim.holds_of_wide 4 Try.f4 rfl rfl rfl rfl rfl rfl rfl ⟨rfl, rfl, rfl, rfl, rfl⟩ rfl rfl rfl rfl rfl (by kernel_rfl) Try.func4 (by kernel_rfl)
    (of_decide_eq_true (by kernel_rfl)) (by unfold Func.isWrapper; first | (rw [if_pos (by decide +kernel)]; kernel_rfl) | (rw [if_neg (by decide +kernel)]; exact ⟨rfl, rfl⟩))
    (fun os started H enc _ => lifted os started H enc)
theorem proved : Rows.CritLikeSaid := over
end Go.Proofs.Ytfcpkehldmehjaa.critLike
namespace Go.Proofs.Ytfcpkehldmehjaa
/-- The row, under a short name, for the claim. -/
theorem critLike_holds : Rows.CritLikeSaid := critLike.proved
#print axioms critLike_holds
end Go.Proofs.Ytfcpkehldmehjaa
