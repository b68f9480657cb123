/- Written by wip/pr.py of this session, for the law FnExactUtf8Of: Lean functions with the answers of the program's, and the proofs of that; where the kit's print has no word, by hand. -/
import Derived.Test.YtepeimabodnmiaaProg
import Derived.Below
import Derived.Deep.Draws
import Derived.Deep.AppendLies
import Derived.Maps.AppendAt
import Derived.OwnWalk
import Derived.Laws.BytesArg
import Derived.Laws.MakeOwn
import Derived.Laws.OwnMore
import Derived.Deep.OwnRows
import Derived.Tactics
import Derived.Lib.ConvBytes
import Derived.Laws.Slices
import Derived.WalkKit
import Derived.KernelRfl
import Derived.RowKit3
import Derived.Deep.LoopGhost
import Derived.Deep.QuietTactic
import Derived.BigQuiet
import Derived.WideLaws
import Derived.Deep.DeepCutAuto
import Derived.Deep.CutBlock
import Derived.Deep.RegionHeld3
import Derived.Laws.Rows
import Derived.Lib.AppendStr
import Derived.ArgAppend
import Derived.Laws.IdiomCopy
import Derived.OrdersHeld
import Derived.Laws.BitsLemmas
import Derived.RowKit
import Derived.Test.YtepeimabodnmiaaWWords
import Derived.Test.YtepeimabodnmiaaWLast
import Derived.Test.YtepeimabodnmiaaWTab
import Derived.Test.YtepeimabodnmiaaWFour
import Derived.Test.YtepeimabodnmiaaWQPut
import Derived.Test.YtepeimabodnmiaaWApart
import Derived.Test.YtepeimabodnmiaaWArr
import Derived.Test.YtepeimabodnmiaaWZeros
import Derived.Test.YtepeimabodnmiaaWFoot
import Derived.Test.YtepeimabodnmiaaWKept
import Derived.Test.YtepeimabodnmiaaWShare
import Derived.Test.YtepeimabodnmiaaWN
import Derived.Test.YtepeimabodnmiaaWFootNe
import Derived.Test.YtepeimabodnmiaaWAt
import Derived.Test.YtepeimabodnmiaaWEqStruct
import Derived.Test.YtepeimabodnmiaaWRepsOne
import Derived.Test.YtepeimabodnmiaaWInv
import Derived.Test.YtepeimabodnmiaaWInvWords
import Derived.Test.YtepeimabodnmiaaWGuard
import Derived.Test.YtepeimabodnmiaaWNEv
import Derived.Test.YtepeimabodnmiaaWMore
namespace Go.Proofs.Ytepeimabodnmiaa.HFnExactUtf8Of
open Go.RowKit Go.Proofs.YtepeimabodnmiaaW.PrintWords Go.Proofs.YtepeimabodnmiaaW.PrintLast Go.Proofs.YtepeimabodnmiaaW.PrintMore
attribute [local go_sem] max2_int min2_int max_two min_two max_three min_three max_four min_four   -- for this text's walks alone
set_option linter.unusedVariables false
set_option linter.unusedSimpArgs false



def errW : Option Int → Value
  | none => .nilIface
  | some c => .iface 0 (.int .i64 c)
theorem errW_none : errW none = .nilIface := rfl
theorem errW_some (c : Int) : errW (some c) = .iface 0 (.int .i64 c) := rfl

theorem info5 : (Try.prog.info? 5).map (fun i => (i.zero, i.size, i.bytes)) = some (some (.int .u8 0), 1, 1) := by kernel_rfl
-- the values' own types

end Go.Proofs.Ytepeimabodnmiaa.HFnExactUtf8Of
