/-
  For every input the law FnExactConstants returns true; no condition.
-/
import Derived.Test.YtepeimabodnmiaaPFnExactConstantsx1
namespace Go.Proofs.Ytepeimabodnmiaa.Pure
open Go.RowKit Go.Proofs.Ytepeimabodnmiaa.PFnExactConstants Go.Proofs.YtepeimabodnmiaaW.PrintWords Go.Proofs.YtepeimabodnmiaaW.PrintLast
set_option linter.unusedSimpArgs false
set_option linter.unusedVariables false

theorem FnExactConstants : laws_FnExactConstants.Pure := by
  rfl

end Go.Proofs.Ytepeimabodnmiaa.Pure
