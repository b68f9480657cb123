/- The printed words of this seat, as far as the law FnSets names them: written by wip/prune.py of this session. -/
import Derived.Test.YthincjdobjccfaaVWords
import Derived.Test.YthincjdobjccfaaVLast
namespace Go.Proofs.YthincjdobjccfaaW.PrintWords
open Go.RowKit
namespace Kd
section
variable {α : Type} {enc : α → Value} {h1 : ∀ x, (enc x).oneCell' = true} {e base g o n cap : Nat} {ok : Nat → Prop} {W : World} {xs : List α}
end
end Kd
end Go.Proofs.YthincjdobjccfaaW.PrintWords
