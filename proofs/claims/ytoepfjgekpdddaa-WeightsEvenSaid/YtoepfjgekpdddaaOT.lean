/- What each operation gives at the types of this program. Written by a program of ours. -/
import Derived.Test.YtoepfjgekpdddaaOa
import Derived.Test.YtoepfjgekpdddaaNT
import Derived.Test.YtoepfjgekpdddaaEnKit
namespace Go.Proofs.Ytoepfjgekpdddaa
open Go Go.En
set_option linter.unusedVariables false
set_option maxRecDepth 4000
theorem bneq_bool {ox oy : Operand} (c d : Bool) (w : World) : (sBin .neq 4 ox oy (.bool c) (.bool d)).run pg w = .ok (.value (.bool (!(c == d)))) w := r_bneq c d Try.underlying4
-- RUN bneq_bool
-- RULES 
end Go.Proofs.Ytoepfjgekpdddaa
