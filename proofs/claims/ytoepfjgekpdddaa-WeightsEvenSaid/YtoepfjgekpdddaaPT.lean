/- What each operation gives at the types of this program. Written by a program of ours. -/
import Derived.Test.YtoepfjgekpdddaaPa
import Derived.Test.YtoepfjgekpdddaaOT
import Derived.Test.YtoepfjgekpdddaaEnKit
namespace Go.Proofs.Ytoepfjgekpdddaa
open Go Go.En
set_option linter.unusedVariables false
set_option maxRecDepth 4000
theorem ldb_weights_Code {b off : Nat} {l : List Value} {w : World} (hl : l.length = 2) (h : ∀ j, j < l.length → w.cell? ⟨b, off + j, none⟩ = l[j]?) : (sLoad 36 (.pointer (some ⟨b, off, none⟩))).run pg w = .ok (.value (.agg l.toArray)) w := r_loadB Try.underlying36 rfl inf36 hl.symm h
theorem lda_weights_Code {b off : Nat} {cs : List Value} {w : World} (ho : Own w b cs) (h : off + 2 ≤ cs.length) : (sLoad 36 (.pointer (some ⟨b, off, none⟩))).run pg w = .ok (.value (.agg ((cs.drop off).take 2).toArray)) w := r_loadA Try.underlying36 rfl inf36 ho h
theorem al_weights_Code {w : World} {K : Value → World → Prop} (hk : ∀ w', Own w' w.heap.size [(.int .i64 0), (.int .i64 0)] → Ext w w' nob → w'.heap.size = w.heap.size + 1 → K (.pointer (some ⟨w.heap.size, 0, none⟩)) w') : Stp pg (sAlloc 36) w K := stp_alloc (i := Try.t36) inf36 rfl hk
-- RUN 
-- RULES ldb_weights_Code lda_weights_Code al_weights_Code
end Go.Proofs.Ytoepfjgekpdddaa
