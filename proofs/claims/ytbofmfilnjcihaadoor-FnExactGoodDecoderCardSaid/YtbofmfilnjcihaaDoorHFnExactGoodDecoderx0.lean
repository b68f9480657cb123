/- Written by wip/pr.py of this session, for the law FnExactGoodDecoder: Lean functions with the answers of the program's, and the proofs of that; where the kit's print has no word, by hand. -/
import Derived.Test.YtbofmfilnjcihaaDoorProg
import Derived.Below
import Derived.Deep.Draws
import Derived.Deep.AppendLies
import Derived.Maps.AppendAt
import Derived.OwnWalk
import Derived.Laws.BytesArg
import Derived.Laws.MakeOwn
import Derived.Laws.OwnMore
import Derived.Deep.OwnRows
import Derived.Tactics
import Derived.Lib.ConvBytes
import Derived.Laws.Slices
import Derived.WalkKit
import Derived.KernelRfl
import Derived.RowKit3
import Derived.Deep.LoopGhost
import Derived.Deep.QuietTactic
import Derived.BigQuiet
import Derived.WideLaws
import Derived.Deep.DeepCutAuto
import Derived.Deep.CutBlock
import Derived.Deep.RegionHeld3
import Derived.Laws.Rows
import Derived.Lib.AppendStr
import Derived.ArgAppend
import Derived.Laws.IdiomCopy
import Derived.OrdersHeld
import Derived.Laws.BitsLemmas
import Derived.RowKit
import Derived.Shelf.Unicode.DecodeAny
import Derived.Test.YtbofmfilnjcihaaDoorWWords
import Derived.Test.YtbofmfilnjcihaaDoorWLast
import Derived.Test.YtbofmfilnjcihaaDoorWTab
import Derived.Test.YtbofmfilnjcihaaDoorWFour
import Derived.Test.YtbofmfilnjcihaaDoorWQPut
import Derived.Test.YtbofmfilnjcihaaDoorWApart
import Derived.Test.YtbofmfilnjcihaaDoorWArr
import Derived.Test.YtbofmfilnjcihaaDoorWZeros
import Derived.Test.YtbofmfilnjcihaaDoorWFoot
import Derived.Test.YtbofmfilnjcihaaDoorWKept
import Derived.Test.YtbofmfilnjcihaaDoorWShare
import Derived.Test.YtbofmfilnjcihaaDoorWN
import Derived.Test.YtbofmfilnjcihaaDoorWFootNe
import Derived.Test.YtbofmfilnjcihaaDoorWAt
import Derived.Test.YtbofmfilnjcihaaDoorWEqStruct
import Derived.Test.YtbofmfilnjcihaaDoorWRepsOne
import Derived.Test.YtbofmfilnjcihaaDoorWInv
import Derived.Test.YtbofmfilnjcihaaDoorWInvWords
import Derived.Test.YtbofmfilnjcihaaDoorWGuard
import Derived.Test.YtbofmfilnjcihaaDoorWNEv
import Derived.Test.YtbofmfilnjcihaaDoorWMore
namespace Go.Proofs.YtbofmfilnjcihaaDoor.HFnExactGoodDecoder
open Go.RowKit Go.Proofs.YtbofmfilnjcihaaDoorW.PrintWords Go.Proofs.YtbofmfilnjcihaaDoorW.PrintLast Go.Proofs.YtbofmfilnjcihaaDoorW.PrintMore
attribute [local go_sem] max2_int min2_int max_two min_two max_three min_three max_four min_four   -- for this text's walks alone
set_option linter.unusedVariables false
set_option linter.unusedSimpArgs false



def errW : Option Int → Value
  | none => .nilIface
  | some c => .iface 0 (.int .i64 c)
theorem errW_none : errW none = .nilIface := rfl
theorem errW_some (c : Int) : errW (some c) = .iface 0 (.int .i64 c) := rfl

theorem info5 : (Tryd.prog.info? 5).map (fun i => (i.zero, i.size, i.bytes)) = some (some (.int .u8 0), 1, 1) := by kernel_rfl
-- the values' own types

end Go.Proofs.YtbofmfilnjcihaaDoor.HFnExactGoodDecoder
