/- The printed words of this seat, as far as the law FnExactDerivRe names them: written by wip/prune.py of this session. -/
import Derived.Test.YtlmpeaelpchokaaVWords
import Derived.Test.YtlmpeaelpchokaaVLast
namespace Go.Proofs.YtlmpeaelpchokaaW.PrintWords
open Go.RowKit
namespace Kd
section
variable {α : Type} {enc : α → Value} {h1 : ∀ x, (enc x).oneCell' = true} {e base g o n cap : Nat} {ok : Nat → Prop} {W : World} {xs : List α}
end
end Kd
end Go.Proofs.YtlmpeaelpchokaaW.PrintWords
