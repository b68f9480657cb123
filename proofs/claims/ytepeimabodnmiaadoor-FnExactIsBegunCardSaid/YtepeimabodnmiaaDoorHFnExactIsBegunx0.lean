/- Written by wip/pr.py of this session, for the law FnExactIsBegun: Lean functions with the answers of the program's, and the proofs of that; where the kit's print has no word, by hand. -/
import Derived.Test.YtepeimabodnmiaaDoorProg
import Derived.Below
import Derived.Deep.Draws
import Derived.Deep.AppendLies
import Derived.Maps.AppendAt
import Derived.OwnWalk
import Derived.Laws.BytesArg
import Derived.Laws.MakeOwn
import Derived.Laws.OwnMore
import Derived.Deep.OwnRows
import Derived.Tactics
import Derived.Lib.ConvBytes
import Derived.Laws.Slices
import Derived.WalkKit
import Derived.KernelRfl
import Derived.RowKit3
import Derived.Deep.LoopGhost
import Derived.Deep.QuietTactic
import Derived.BigQuiet
import Derived.WideLaws
import Derived.Deep.DeepCutAuto
import Derived.Deep.CutBlock
import Derived.Deep.RegionHeld3
import Derived.Laws.Rows
import Derived.Lib.AppendStr
import Derived.ArgAppend
import Derived.Laws.IdiomCopy
import Derived.OrdersHeld
import Derived.Laws.BitsLemmas
import Derived.RowKit
import Derived.Shelf.Unicode.DecodeAny
import Derived.Test.YtepeimabodnmiaaDoorWWords
import Derived.Test.YtepeimabodnmiaaDoorWLast
import Derived.Test.YtepeimabodnmiaaDoorWTab
import Derived.Test.YtepeimabodnmiaaDoorWFour
import Derived.Test.YtepeimabodnmiaaDoorWQPut
import Derived.Test.YtepeimabodnmiaaDoorWApart
import Derived.Test.YtepeimabodnmiaaDoorWArr
import Derived.Test.YtepeimabodnmiaaDoorWZeros
import Derived.Test.YtepeimabodnmiaaDoorWFoot
import Derived.Test.YtepeimabodnmiaaDoorWKept
import Derived.Test.YtepeimabodnmiaaDoorWShare
import Derived.Test.YtepeimabodnmiaaDoorWN
import Derived.Test.YtepeimabodnmiaaDoorWFootNe
import Derived.Test.YtepeimabodnmiaaDoorWAt
import Derived.Test.YtepeimabodnmiaaDoorWEqStruct
import Derived.Test.YtepeimabodnmiaaDoorWRepsOne
import Derived.Test.YtepeimabodnmiaaDoorWInv
import Derived.Test.YtepeimabodnmiaaDoorWInvWords
import Derived.Test.YtepeimabodnmiaaDoorWGuard
import Derived.Test.YtepeimabodnmiaaDoorWNEv
import Derived.Test.YtepeimabodnmiaaDoorWMore
namespace Go.Proofs.YtepeimabodnmiaaDoor.HFnExactIsBegun
open Go.RowKit Go.Proofs.YtepeimabodnmiaaDoorW.PrintWords Go.Proofs.YtepeimabodnmiaaDoorW.PrintLast Go.Proofs.YtepeimabodnmiaaDoorW.PrintMore
attribute [local go_sem] max2_int min2_int max_two min_two max_three min_three max_four min_four   -- for this text's walks alone
set_option linter.unusedVariables false
set_option linter.unusedSimpArgs false



def errW : Option Int → Value
  | none => .nilIface
  | some c => .iface 0 (.int .i64 c)
theorem errW_none : errW none = .nilIface := rfl
theorem errW_some (c : Int) : errW (some c) = .iface 0 (.int .i64 c) := rfl

theorem info5 : (Tryd.prog.info? 5).map (fun i => (i.zero, i.size, i.bytes)) = some (some (.int .u8 0), 1, 1) := by kernel_rfl
-- the values' own types

end Go.Proofs.YtepeimabodnmiaaDoor.HFnExactIsBegun
