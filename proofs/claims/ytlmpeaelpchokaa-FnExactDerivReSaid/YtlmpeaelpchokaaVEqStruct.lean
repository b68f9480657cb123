/- The printed words of this seat, as far as the law FnExactDerivRe names them: written by wip/prune.py of this session. -/
import Derived.Test.YtlmpeaelpchokaaVWords
import Derived.Laws.StructEq
namespace Go.Proofs.YtlmpeaelpchokaaW.PrintWords
open Go.RowKit
end Go.Proofs.YtlmpeaelpchokaaW.PrintWords
