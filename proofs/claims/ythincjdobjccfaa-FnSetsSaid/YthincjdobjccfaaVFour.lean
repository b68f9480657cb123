/- The printed words of this seat, as far as the law FnSets names them: written by wip/prune.py of this session. -/
import Derived.Test.YthincjdobjccfaaVTab
namespace Go.Proofs.YthincjdobjccfaaW.PrintLast
end Go.Proofs.YthincjdobjccfaaW.PrintLast
