/-
  For every input the law FnExactNewDecoder returns true; no condition.
-/
import Derived.Test.YtepeimabodnmiaaPFnExactNewDecoderx1
namespace Go.Proofs.Ytepeimabodnmiaa.Pure
open Go.RowKit Go.Proofs.Ytepeimabodnmiaa.PFnExactNewDecoder Go.Proofs.YtepeimabodnmiaaW.PrintWords Go.Proofs.YtepeimabodnmiaaW.PrintLast
set_option linter.unusedSimpArgs false
set_option linter.unusedVariables false

theorem in_s (a b c : Int) : spec_l1In.f a b c = some (decide (b ≤ a ∧ a ≤ c)) := by
  unfold spec_l1In.f
  by_cases h : a ≥ b
  · rw [if_pos h]; simp [h, show b ≤ a from h]
  · rw [if_neg h]; simp [show ¬ b ≤ a from h]

theorem in_i (a b c : Int) : impl_inRange.f a b c = some (decide (b ≤ a ∧ a ≤ c)) := by
  unfold impl_inRange.f
  by_cases h : b ≤ a
  · rw [if_pos h]; simp [h]
  · rw [if_neg h]; simp [h]

theorem FnExactNewDecoder : laws_FnExactNewDecoder.Pure := by
  intro a _
  unfold laws_FnExactNewDecoder.f spec_NewDecoder.f impl_NewDecoder.f spec_l2Code.f impl_isCode.f laws_eqDecoder.f
  rw [in_s, in_i]
  simp only [Option.bind_some]
  by_cases h : (1 : Int) ≤ a ∧ a ≤ 5
  · simp [h]
  · simp [h]

end Go.Proofs.Ytepeimabodnmiaa.Pure
