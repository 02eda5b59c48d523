/- What each operation gives at the types of this program. Written by a program of ours. -/
import Derived.Test.YtoepfjgekpdddaaMa
import Derived.Test.YtoepfjgekpdddaaAT
import Derived.Test.YtoepfjgekpdddaaEnKit
namespace Go.Proofs.Ytoepfjgekpdddaa
open Go Go.En
set_option linter.unusedVariables false
set_option maxRecDepth 4000
theorem ln_sl_lightermanref08_C {ty : TypeId} (x : Option Addr) (n c : Nat) (w : World) : (sBi .len #[32] ty [.slice x n c]).run pg w = .ok (.value (.int .i64 n)) w := r_lenS Try.underlying32 x n c
theorem fa_lightermanref08_C_Bits (b o : Nat) (w : World) : (sFAddr 37 (.pointer (some ⟨b, o, none⟩)) 0).run pg w = .ok (.value (.pointer (some ⟨b, o, none⟩))) w := r_faddr (i := 0) Try.underlying37 rfl inf3 (by decide) _
theorem fa_lightermanref08_C_Code (b o : Nat) (w : World) : (sFAddr 37 (.pointer (some ⟨b, o, none⟩)) 1).run pg w = .ok (.value (.pointer (some ⟨b, o + 1, none⟩))) w := r_faddr (i := 1) Try.underlying37 rfl inf3 (by decide) _
-- RUN ln_sl_lightermanref08_C fa_lightermanref08_C_Bits fa_lightermanref08_C_Code
-- RULES 
end Go.Proofs.Ytoepfjgekpdddaa
