/- The printed words of this seat, as far as the law FnSets names them: written by wip/prune.py of this session. -/
import Derived.Test.YthincjdobjccfaaVTab
namespace Go.Proofs.YthincjdobjccfaaW.PrintLast
def up (b : Nat → Bool) (i : Nat) : Nat → Bool := fun j => if j = i then true else b j
end Go.Proofs.YthincjdobjccfaaW.PrintLast
