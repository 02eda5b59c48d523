/- What each operation gives at the types of this program. Written by a program of ours. -/
import Derived.Test.YtoepfjgekpdddaaRa
import Derived.Test.YtoepfjgekpdddaaQT
import Derived.Test.YtoepfjgekpdddaaEnKit
namespace Go.Proofs.Ytoepfjgekpdddaa
open Go Go.En
set_option linter.unusedVariables false
set_option maxRecDepth 4000
theorem cv_uint16_uint32 {k : IntKind} (a : Int) (w : World) : (sCvt 52 45 (.int k a)).run pg w = .ok (.value (.int .u32 (IntKind.u32.wrap a))) w := r_cint Try.underlying52 Try.underlying45
theorem ap_sl_uint32_sl_uint32 {base n m : Nat} {ty : TypeId} {w : World} {v x : Value} {l news : List Value} (h : OSl w base 1 v n l) (hx : Cl w 1 x m news) (hone : ∀ y ∈ news, one y = true) (hb : base ≤ w.heap.size) (hbytes : (n + m) * 4 ≤ 140737488355328) {K : Value → World → Prop} (hk : ∀ v' w', OSl w' base 1 v' (n + m) (l ++ news) → Ext w w' (fun y => base ≤ y) → K v' w') : Stp pg (sBi .append #[43, 43] ty [v, x]) w K := stp_append (i := Try.t45) Try.underlying43 Try.underlying43 inf45 rfl rfl rfl h hx hone hb (by omega) hbytes (by decide) hk
-- RUN cv_uint16_uint32
-- RULES ap_sl_uint32_sl_uint32
end Go.Proofs.Ytoepfjgekpdddaa
