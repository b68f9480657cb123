/- The printed words of this seat, as far as the law FnExactReText names them: written by wip/prune.py of this session. -/
import Derived.Test.YtlmpeaelpchokaaVApart
import Derived.Test.YtlmpeaelpchokaaVArr
namespace Go.Proofs.YtlmpeaelpchokaaW.PrintWords
open Go.RowKit
namespace Kd
section
variable {α : Type} {d : Kd α} {e : Nat} {w : World} {base : Nat} {ok : Nat → Prop} {v : Value} {xs : List α}
end
end Kd
end Go.Proofs.YtlmpeaelpchokaaW.PrintWords
