/-
  For every input the law FnExactFoldRune returns true; no condition.
-/
import Derived.Test.YtepeimabodnmiaaPFnExactFoldRunex1
namespace Go.Proofs.Ytepeimabodnmiaa.Pure
open Go.RowKit Go.Proofs.Ytepeimabodnmiaa.PFnExactFoldRune Go.Proofs.YtepeimabodnmiaaW.PrintWords Go.Proofs.YtepeimabodnmiaaW.PrintLast
set_option linter.unusedSimpArgs false
set_option linter.unusedVariables false

theorem in_s (a b c : Int) : spec_l1In.f a b c = some (decide (b ≤ a ∧ a ≤ c)) := by
  unfold spec_l1In.f
  by_cases h : a ≥ b
  · rw [if_pos h]; simp [h, show b ≤ a from h]
  · rw [if_neg h]; simp [show ¬ b ≤ a from h]

theorem in_i (a b c : Int) : impl_inRange.f a b c = some (decide (b ≤ a ∧ a ≤ c)) := by
  unfold impl_inRange.f
  by_cases h : b ≤ a
  · rw [if_pos h]; simp [h]
  · rw [if_neg h]; simp [h]

def isR (a : Int) : Bool := decide (0 ≤ a ∧ a ≤ 1114111) && !decide (55296 ≤ a ∧ a ≤ 57343)

theorem gr_s (a : Int) : spec_GoodRune.f a = some (isR a) := by
  unfold spec_GoodRune.f isR
  rw [in_s, in_s]
  simp only [Option.bind_some]
  by_cases h : (0 : Int) ≤ a ∧ a ≤ 1114111 <;> simp [h]

theorem gr_i (a : Int) : impl_GoodRune.f a = some (isR a) := by
  unfold impl_GoodRune.f isR
  rw [in_i, in_i]
  simp only [Option.bind_some]
  by_cases h : (0 : Int) ≤ a ∧ a ≤ 1114111 <;> simp [h]

theorem FnExactFoldRune : laws_FnExactFoldRune.Pure := by
  intro a _
  unfold laws_FnExactFoldRune.f spec_FoldRune.f impl_FoldRune.f spec_l4Fold.f
  rw [gr_s, gr_i, in_s, in_i]
  simp only [Option.bind_some]
  by_cases h : isR a = true
  · simp only [h, if_true]
    by_cases h2 : (65 : Int) ≤ a ∧ a ≤ 90
    · simp only [h2, decide_true, if_true, Option.bind_some]
      have e : wrap64 (wrap64 (a + 97) - 65) = wrap64 (a + 32) := by unfold wrap64; omega
      simp [e]
    · simp [h2]
  · simp [h]

end Go.Proofs.Ytepeimabodnmiaa.Pure
