/-
  For every input the law FnExactOrderOf returns true; no condition.
-/
import Derived.Test.YtepeimabodnmiaaPFnExactOrderOfx1
namespace Go.Proofs.Ytepeimabodnmiaa.Pure
open Go.RowKit Go.Proofs.Ytepeimabodnmiaa.PFnExactOrderOf Go.Proofs.YtepeimabodnmiaaW.PrintWords Go.Proofs.YtepeimabodnmiaaW.PrintLast
set_option linter.unusedSimpArgs false
set_option linter.unusedVariables false

theorem in_s (a b c : Int) : spec_l1In.f a b c = some (decide (b ≤ a ∧ a ≤ c)) := by
  unfold spec_l1In.f
  by_cases h : a ≥ b
  · rw [if_pos h]; simp [h, show b ≤ a from h]
  · rw [if_neg h]; simp [show ¬ b ≤ a from h]

theorem in_i (a b c : Int) : impl_inRange.f a b c = some (decide (b ≤ a ∧ a ≤ c)) := by
  unfold impl_inRange.f
  by_cases h : b ≤ a
  · rw [if_pos h]; simp [h]
  · rw [if_neg h]; simp [h]

def isR (a : Int) : Bool := decide (0 ≤ a ∧ a ≤ 1114111) && !decide (55296 ≤ a ∧ a ≤ 57343)

theorem gr_s (a : Int) : spec_GoodRune.f a = some (isR a) := by
  unfold spec_GoodRune.f isR
  rw [in_s, in_s]
  simp only [Option.bind_some]
  by_cases h : (0 : Int) ≤ a ∧ a ≤ 1114111 <;> simp [h]

theorem gr_i (a : Int) : impl_GoodRune.f a = some (isR a) := by
  unfold impl_GoodRune.f isR
  rw [in_i, in_i]
  simp only [Option.bind_some]
  by_cases h : (0 : Int) ≤ a ∧ a ≤ 1114111 <;> simp [h]

theorem FnExactOrderOf : laws_FnExactOrderOf.Pure := by
  intro a _
  unfold laws_FnExactOrderOf.f spec_OrderOf.f impl_OrderOf.f spec_l3Order.f impl_orderOf.f spec_l3Mark.f impl_isMark.f
  rw [gr_s, gr_i, in_s, in_i]
  simp only [Option.bind_some]
  by_cases h : isR a = true
  · simp only [h, if_true]
    by_cases h2 : (768 : Int) ≤ a ∧ a ≤ 879
    · simp [h2]
    · simp [h2]
  · simp [h]

end Go.Proofs.Ytepeimabodnmiaa.Pure
