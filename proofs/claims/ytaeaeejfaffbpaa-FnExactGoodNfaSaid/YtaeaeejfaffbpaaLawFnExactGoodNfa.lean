/- The row of the law FnExactGoodNfa, for every input: true, the arguments read as they did; no condition. Written by wip/rowx.py of this session. -/
import Derived.Test.YtaeaeejfaffbpaaRows
import Derived.Test.YtaeaeejfaffbpaaHFnExactGoodNfax9
import Derived.Test.YtaeaeejfaffbpaaPureFnExactGoodNfa
import Derived.Test.YtaeaeejfaffbpaaOpen
import Derived.WalkKit
import Derived.ProofKit
import Derived.OpenShut
import Derived.ShutString
import Derived.ChangeOld
import Derived.Below
import Derived.SizedLaws
import Derived.Test.YtaeaeejfaffbpaaWSized
namespace Go.Proofs.Ytaeaeejfaffbpaa.fnExactGoodNfa
open Go.ChangeShapes Go.WideShapes Go.ChangeAt Go.RowKit
open Go.ChangeMaps (open_string shut_string)
set_option linter.unusedVariables false
theorem own : ownKnob Try.prog.godebug = none := by kernel_rfl
theorem laidOut : laidOutB Try.prog = true := by kernel_rfl
set_option maxRecDepth 100000 in
set_option maxHeartbeats 4000000 in
theorem lifted (os : Os) (started : os.Started) (H : Type) (enc : TypeId × Value → H) :
    ReturnsInHanded {} Try.checked os 6 .any (Rows.fnExactGoodNfaSpec.pre6 enc Try.prog Try.f6 Rows.fnExactGoodNfaRow.domain false) (Rows.fnExactGoodNfaSpec.post enc Try.prog Try.f6 false true false false) := by
  refine returnsInHanded_of_change_sized (C := Try.checked) own started (by kernel_rfl) Try.func6
    (ChangeSpec.witness6 (enc := enc) (C := Try.checked) false ⟨#[], #[.agg #[.bool false, .slice none 0 0, .slice none 0 0, .slice none 0 0, .slice none 0 0]], []⟩ 8 (by kernel_rfl) (by kernel_rfl) (by kernel_rfl) (by kernel_rfl)) ?_
  intro W base args ds gs before hval0 hW hcnd hsz0 _
  have hsz : (DataW.weightsEach Try.prog (Try.f6.params.toList ++ Rows.fnExactGoodNfaSpec.plain.varTypes Try.prog) (ds ++ gs)).all (· ≤ reachBytes) = true := hsz0
  have hval : ∀ (j : Nat) t v, Try.f6.params[j]? = some t → args[j]? = some v → Value.okWide Try.prog W .any base t v := hval0
  have hW' := hW
  obtain ⟨p, q, hA0, hV, rfl, hfz, hnd⟩ := hW
  have hA : DataW.TrodAll enc Try.prog W 0 (fun _ => true) true Try.f6.params.toList args.toList ds p := hA0
  rw [Try.params6] at hA hval hsz
  obtain ⟨v0, vs0, d0, ds0, p0, q0, hargs, rfl, rfl, h0, r0⟩ := trodAll_cons hA
  obtain ⟨rfl, rfl, rfl⟩ := trodAll_nil r0
  obtain rfl : args = #[v0] := by cases args; simp_all
  obtain ⟨rfl, rfl⟩ := trodVars_none hV
  have k0 := h0
  have lt0 : ∀ x ∈ p0, x.block < W.heap.size := by obtain ⟨m, hm⟩ := k0; exact DataW.trod_lt m _ _ _ hm
  obtain ⟨u0_0, u0_1, u0_2, u0_3, u0_4, y0_0, y0_1, y0_2, y0_3, y0_4, n0, rfl, t0_0, t0_1, t0_2, t0_3, t0_4⟩ := Open.agg5 Try.underlying40 (by kernel_rfl) (by kernel_rfl) (hval 0 40 v0 rfl rfl) h0
  obtain ⟨b0_0, rfl⟩ := Open.boolv Try.underlying4 t0_0
  obtain ⟨A0_1, l0_1, c0_1, rfl, hc0_1, hr0_1, hm0_1, hn0_1, hw0_1⟩ := Open.rows 3 Try.underlying29 Try.underlying22 Try.underlying3 (by kernel_rfl) (by kernel_rfl) t0_1
  obtain ⟨A0_2, l0_2, c0_2, rfl, hc0_2, hr0_2, hm0_2, hw0_2⟩ := Open.ints Try.underlying22 Try.underlying3 (by kernel_rfl) t0_2
  obtain ⟨A0_3, l0_3, c0_3, rfl, hc0_3, hr0_3, hm0_3, hw0_3⟩ := Open.ints Try.underlying22 Try.underlying3 (by kernel_rfl) t0_3
  obtain ⟨A0_4, l0_4, c0_4, rfl, hc0_4, hr0_4, hm0_4, hn0_4, hw0_4⟩ := Open.rows 3 Try.underlying29 Try.underlying22 Try.underlying3 (by kernel_rfl) (by kernel_rfl) t0_4
  obtain ⟨k, hk⟩ := Pure.FnExactGoodNfa b0_0 l0_1 l0_2 l0_3 l0_4 hm0_1 hn0_1 hm0_2 hm0_3 hm0_4 hn0_4
  refine (HFnExactGoodNfa.laws_FnExactGoodNfa.calls k b0_0 _ _ l0_1 _ _ l0_2 _ _ l0_3 _ _ l0_4 true W hr0_1 hc0_1 hr0_2 hc0_2 hr0_3 hc0_3 hr0_4 hc0_4 hk).mono fun e W' ⟨he, bel⟩ => ?_
  subst he
  exact ⟨_, rfl, _, _, _, [], _, [], hW', trodAll_mk1 (shut_bool Try.underlying4 _), (trodAll_cons_mk (Below.trod laidOut (by kernel_rfl) (of_decide_eq_true (by kernel_rfl)) k0 bel lt0) trodAll_mk0), rfl, bel.frame _, fun h => by cases h⟩
theorem over : Rows.fnExactGoodNfaRow.holds Try.pinned (OpenSpec.ofChange Rows.fnExactGoodNfaSpec) :=
  OpenClaim.holds_of_wide 6 Try.f6 rfl rfl rfl rfl rfl rfl rfl ⟨rfl, rfl, rfl, rfl, rfl⟩ rfl rfl rfl rfl rfl (by kernel_rfl) Try.func6 (by kernel_rfl)
    (of_decide_eq_true (by kernel_rfl)) (by unfold Func.isWrapper; first | (rw [if_pos (by decide +kernel)]; kernel_rfl) | (rw [if_neg (by decide +kernel)]; exact ⟨rfl, rfl⟩))
    (fun os started H enc _ => lifted os started H enc)
theorem proved : Rows.FnExactGoodNfaSaid := over
#print axioms proved
end Go.Proofs.Ytaeaeejfaffbpaa.fnExactGoodNfa
namespace Go.Proofs.Ytaeaeejfaffbpaa
/-- The row, under a short name, for the claim. -/
theorem fnExactGoodNfa_holds : Rows.FnExactGoodNfaSaid := fnExactGoodNfa.proved
end Go.Proofs.Ytaeaeejfaffbpaa
