/- The printed words of this seat, as far as the law FnExactDerivRe names them: written by wip/prune.py of this session. -/
import Derived.Test.YtlmpeaelpchokaaVInv
import Derived.Test.YtlmpeaelpchokaaVFootNe
namespace Go.Proofs.YtlmpeaelpchokaaW.PrintWords
open Go.RowKit
end Go.Proofs.YtlmpeaelpchokaaW.PrintWords
namespace Go.Proofs.YtlmpeaelpchokaaW.PrintLast
end Go.Proofs.YtlmpeaelpchokaaW.PrintLast
