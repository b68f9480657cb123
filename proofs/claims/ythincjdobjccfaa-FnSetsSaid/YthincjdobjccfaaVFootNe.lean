/- The printed words of this seat, as far as the law FnSets names them: written by wip/prune.py of this session. -/
import Derived.Test.YthincjdobjccfaaVN
namespace Go.Proofs.YthincjdobjccfaaW.PrintWords
open Go.RowKit
namespace Kd
end Kd
end Go.Proofs.YthincjdobjccfaaW.PrintWords
