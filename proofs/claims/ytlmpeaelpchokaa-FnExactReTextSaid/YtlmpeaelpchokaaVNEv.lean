/- The printed words of this seat, as far as the law FnExactReText names them: written by wip/prune.py of this session. -/
import Derived.Test.YtlmpeaelpchokaaVN
namespace Go.Proofs.YtlmpeaelpchokaaW.PrintWords
open Go.RowKit
namespace Kd
section
variable {P : Program} {ops : Array Oper} {rest : List Oper} {o : Oper} {a : Act} {Q : Exit → Act → World → Prop} {Kc : Act → World → Prop} {α : Type}
end
end Kd
end Go.Proofs.YtlmpeaelpchokaaW.PrintWords
