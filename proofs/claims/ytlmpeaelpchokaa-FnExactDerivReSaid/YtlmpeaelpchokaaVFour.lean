/- The printed words of this seat, as far as the law FnExactDerivRe names them: written by wip/prune.py of this session. -/
import Derived.Test.YtlmpeaelpchokaaVTab
namespace Go.Proofs.YtlmpeaelpchokaaW.PrintLast
end Go.Proofs.YtlmpeaelpchokaaW.PrintLast
