/- The printed words of this seat, as far as the law FnSets names them: written by wip/prune.py of this session. -/
import Derived.Test.YthincjdobjccfaaVN
namespace Go.Proofs.YthincjdobjccfaaW.PrintWords
open Go.RowKit
namespace Kd
section
variable {P : Program} {ops : Array Oper} {rest : List Oper} {o : Oper} {a : Act} {Q : Exit → Act → World → Prop} {Kc : Act → World → Prop} {α : Type}
end
end Kd
end Go.Proofs.YthincjdobjccfaaW.PrintWords
