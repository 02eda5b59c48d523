/- What each operation gives at the types of this program. Written by a program of ours. -/
import Derived.Test.YtoepfjgekpdddaaAa
import Derived.Test.YtoepfjgekpdddaaT
import Derived.Test.YtoepfjgekpdddaaEnKit
namespace Go.Proofs.Ytoepfjgekpdddaa
open Go Go.En
set_option linter.unusedVariables false
set_option maxRecDepth 4000
theorem bs_sl_uint32 {n : Nat} {ps : List (Nat × Value)} {cells : Array Value} {w : World} (h1 : ¬ n * 1 > 2 ^ 24) (h0 : ¬ n * 1 = 0) (hf : Go.Instr.fill (fun j => some (j * 1, 1)) ((Array.range (n * 1)).map ((Try.t45.zero.get!).cells[· % (Try.t45.zero.get!).cells.size]!)) ps = some cells) {K : Value → World → Prop} (hk : ∀ w', Own w' w.heap.size cells.toList → Ext w w' nob → w'.heap.size = w.heap.size + 1 → K (.slice (some ⟨w.heap.size, 0, none⟩) n n) w') : Stp pg (sBuildSlice 43 n ps) w K := stp_bslice (i := Try.t45) Try.underlying43 inf45 rfl h1 h0 hf hk
theorem ln_sl_weights_Code {ty : TypeId} (x : Option Addr) (n c : Nat) (w : World) : (sBi .len #[29] ty [.slice x n c]).run pg w = .ok (.value (.int .i64 n)) w := r_lenS Try.underlying29 x n c
theorem fa_weights_Code_Bits (b o : Nat) (w : World) : (sFAddr 36 (.pointer (some ⟨b, o, none⟩)) 0).run pg w = .ok (.value (.pointer (some ⟨b, o, none⟩))) w := r_faddr (i := 0) Try.underlying36 rfl inf3 (by decide) _
theorem fa_weights_Code_Code (b o : Nat) (w : World) : (sFAddr 36 (.pointer (some ⟨b, o, none⟩)) 1).run pg w = .ok (.value (.pointer (some ⟨b, o + 1, none⟩))) w := r_faddr (i := 1) Try.underlying36 rfl inf3 (by decide) _
-- RUN ln_sl_weights_Code fa_weights_Code_Bits fa_weights_Code_Code
-- RULES bs_sl_uint32
end Go.Proofs.Ytoepfjgekpdddaa
