/- The printed words of this seat, as far as the law FnExactDerivRe names them: written by wip/prune.py of this session. -/
import Derived.SizedLaws
import Derived.ChangeSlices
namespace Go.Proofs.YtlmpeaelpchokaaW.PrintWords
open Go.ChangeShapes Go.WideShapes
end Go.Proofs.YtlmpeaelpchokaaW.PrintWords
