/- What each operation gives at the types of this program. Written by a program of ours. -/
import Derived.Test.YtoepfjgekpdddaaQa
import Derived.Test.YtoepfjgekpdddaaPT
import Derived.Test.YtoepfjgekpdddaaEnKit
namespace Go.Proofs.Ytoepfjgekpdddaa
open Go Go.En
set_option linter.unusedVariables false
set_option maxRecDepth 4000

-- RUN 
-- RULES 
end Go.Proofs.Ytoepfjgekpdddaa
