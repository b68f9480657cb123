/- The printed words of this seat, as far as the law FnExactReText names them: written by wip/prune.py of this session. -/
import Derived.Test.YtlmpeaelpchokaaVWords
namespace Go.Proofs.YtlmpeaelpchokaaW.PrintWords
open Go.RowKit
namespace Kd
section
variable {α : Type} {n : Nat} {enc : α → Value} {h1 : ∀ x, (enc x).oneCell' = true} {hs : 0 < (scalar enc h1).sz} {w : World} {base : Nat} {ok : Nat → Prop} {xs : List α} {cs : List Value}
end
end Kd
end Go.Proofs.YtlmpeaelpchokaaW.PrintWords
