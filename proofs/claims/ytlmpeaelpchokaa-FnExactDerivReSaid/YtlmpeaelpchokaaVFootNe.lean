/- The printed words of this seat, as far as the law FnExactDerivRe names them: written by wip/prune.py of this session. -/
import Derived.Test.YtlmpeaelpchokaaVN
namespace Go.Proofs.YtlmpeaelpchokaaW.PrintWords
open Go.RowKit
namespace Kd
end Kd
end Go.Proofs.YtlmpeaelpchokaaW.PrintWords
