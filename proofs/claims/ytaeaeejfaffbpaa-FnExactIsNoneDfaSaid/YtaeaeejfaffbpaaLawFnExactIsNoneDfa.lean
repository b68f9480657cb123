/- The row of the law FnExactIsNoneDfa, for every input: true, the arguments read as they did; no condition. Written by wip/rowx.py of this session. -/
import Derived.Test.YtaeaeejfaffbpaaRows
import Derived.Test.YtaeaeejfaffbpaaHFnExactIsNoneDfax11
import Derived.Test.YtaeaeejfaffbpaaPureFnExactIsNoneDfa
import Derived.Test.YtaeaeejfaffbpaaOpen
import Derived.WalkKit
import Derived.ProofKit
import Derived.OpenShut
import Derived.ShutString
import Derived.ChangeOld
import Derived.Below
import Derived.SizedLaws
import Derived.Test.YtaeaeejfaffbpaaWSized
namespace Go.Proofs.Ytaeaeejfaffbpaa.fnExactIsNoneDfa
open Go.ChangeShapes Go.WideShapes Go.ChangeAt Go.RowKit
open Go.ChangeMaps (open_string shut_string)
set_option linter.unusedVariables false
theorem own : ownKnob Try.prog.godebug = none := by kernel_rfl
theorem laidOut : laidOutB Try.prog = true := by kernel_rfl
set_option maxRecDepth 100000 in
set_option maxHeartbeats 4000000 in
theorem lifted (os : Os) (started : os.Started) (H : Type) (enc : TypeId × Value → H) :
    ReturnsInHanded {} Try.checked os 8 .any (Rows.fnExactIsNoneDfaSpec.pre6 enc Try.prog Try.f8 Rows.fnExactIsNoneDfaRow.domain false) (Rows.fnExactIsNoneDfaSpec.post enc Try.prog Try.f8 false true false false) := by
  refine returnsInHanded_of_change_sized (C := Try.checked) own started (by kernel_rfl) Try.func8
    (ChangeSpec.witness6 (enc := enc) (C := Try.checked) false ⟨#[], #[.agg #[.slice none 0 0, .slice none 0 0, .slice none 0 0]], []⟩ 8 (by kernel_rfl) (by kernel_rfl) (by kernel_rfl) (by kernel_rfl)) ?_
  intro W base args ds gs before hval0 hW hcnd hsz0 _
  have hsz : (DataW.weightsEach Try.prog (Try.f8.params.toList ++ Rows.fnExactIsNoneDfaSpec.plain.varTypes Try.prog) (ds ++ gs)).all (· ≤ reachBytes) = true := hsz0
  have hval : ∀ (j : Nat) t v, Try.f8.params[j]? = some t → args[j]? = some v → Value.okWide Try.prog W .any base t v := hval0
  have hW' := hW
  obtain ⟨p, q, hA0, hV, rfl, hfz, hnd⟩ := hW
  have hA : DataW.TrodAll enc Try.prog W 0 (fun _ => true) true Try.f8.params.toList args.toList ds p := hA0
  rw [Try.params8] at hA hval hsz
  obtain ⟨v0, vs0, d0, ds0, p0, q0, hargs, rfl, rfl, h0, r0⟩ := trodAll_cons hA
  obtain ⟨rfl, rfl, rfl⟩ := trodAll_nil r0
  obtain rfl : args = #[v0] := by cases args; simp_all
  obtain ⟨rfl, rfl⟩ := trodVars_none hV
  have k0 := h0
  have lt0 : ∀ x ∈ p0, x.block < W.heap.size := by obtain ⟨m, hm⟩ := k0; exact DataW.trod_lt m _ _ _ hm
  obtain ⟨u0_0, u0_1, u0_2, y0_0, y0_1, y0_2, n0, rfl, _, _, t0_0, t0_1, t0_2⟩ := Joins.open_agg3 Try.underlying32 (by kernel_rfl) (by kernel_rfl) (hval 0 32 v0 rfl rfl) h0
  obtain ⟨A0_0, l0_0, c0_0, rfl, hc0_0, hr0_0, hm0_0, hw0_0⟩ := Open.ints Try.underlying22 Try.underlying3 (by kernel_rfl) t0_0
  obtain ⟨A0_1, l0_1, c0_1, rfl, hc0_1, hr0_1, hm0_1, hn0_1, hw0_1⟩ := Open.rows 3 Try.underlying29 Try.underlying22 Try.underlying3 (by kernel_rfl) (by kernel_rfl) t0_1
  obtain ⟨A0_2, l0_2, c0_2, rfl, hc0_2, hr0_2, hm0_2⟩ := Open.bools Try.underlying30 Try.underlying4 (by kernel_rfl) t0_2
  obtain ⟨k, hk⟩ := Pure.FnExactIsNoneDfa l0_0 l0_1 l0_2 hm0_0 hm0_1 hn0_1 hm0_2
  refine (HFnExactIsNoneDfa.laws_FnExactIsNoneDfa.calls k _ _ l0_0 _ _ l0_1 _ _ l0_2 true W hr0_0 hc0_0 hr0_1 hc0_1 hr0_2 hc0_2 hk).mono fun e W' ⟨he, bel⟩ => ?_
  subst he
  exact ⟨_, rfl, _, _, _, [], _, [], hW', trodAll_mk1 (shut_bool Try.underlying4 _), (trodAll_cons_mk (Below.trod laidOut (by kernel_rfl) (of_decide_eq_true (by kernel_rfl)) k0 bel lt0) trodAll_mk0), rfl, bel.frame _, fun h => by cases h⟩
theorem over : Rows.fnExactIsNoneDfaRow.holds Try.pinned (OpenSpec.ofChange Rows.fnExactIsNoneDfaSpec) :=
  OpenClaim.holds_of_wide 8 Try.f8 rfl rfl rfl rfl rfl rfl rfl ⟨rfl, rfl, rfl, rfl, rfl⟩ rfl rfl rfl rfl rfl (by kernel_rfl) Try.func8 (by kernel_rfl)
    (of_decide_eq_true (by kernel_rfl)) (by unfold Func.isWrapper; first | (rw [if_pos (by decide +kernel)]; kernel_rfl) | (rw [if_neg (by decide +kernel)]; exact ⟨rfl, rfl⟩))
    (fun os started H enc _ => lifted os started H enc)
theorem proved : Rows.FnExactIsNoneDfaSaid := over
#print axioms proved
end Go.Proofs.Ytaeaeejfaffbpaa.fnExactIsNoneDfa
namespace Go.Proofs.Ytaeaeejfaffbpaa
/-- The row, under a short name, for the claim. -/
theorem fnExactIsNoneDfa_holds : Rows.FnExactIsNoneDfaSaid := fnExactIsNoneDfa.proved
end Go.Proofs.Ytaeaeejfaffbpaa
