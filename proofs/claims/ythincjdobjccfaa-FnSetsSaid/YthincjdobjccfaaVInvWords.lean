/- The printed words of this seat, as far as the law FnSets names them: written by wip/prune.py of this session. -/
import Derived.Test.YthincjdobjccfaaVInv
import Derived.Test.YthincjdobjccfaaVFootNe
namespace Go.Proofs.YthincjdobjccfaaW.PrintWords
open Go.RowKit
end Go.Proofs.YthincjdobjccfaaW.PrintWords
namespace Go.Proofs.YthincjdobjccfaaW.PrintLast
end Go.Proofs.YthincjdobjccfaaW.PrintLast
