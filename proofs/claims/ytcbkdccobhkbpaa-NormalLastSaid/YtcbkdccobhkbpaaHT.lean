/- What each operation gives at the types of this program. Written by a program of ours. -/
import Derived.Test.YtcbkdccobhkbpaaHa
import Derived.Test.YtcbkdccobhkbpaaGT
import Derived.Test.YtcbkdccobhkbpaaEnKit
namespace Go.Proofs.Ytcbkdccobhkbpaa
open Go Go.En
set_option linter.unusedVariables false
set_option maxRecDepth 4000
theorem ln_sl_uint16 {ty : TypeId} (x : Option Addr) (n c : Nat) (w : World) : (sBi .len #[71] ty [.slice x n c]).run pg w = .ok (.value (.int .i64 n)) w := r_lenS Try.underlying71 x n c
theorem inf44 : (pg).info? 44 = some Try.t44 := by kernel_rfl
theorem ia_sl_uint16 {k : IntKind} {a : Int} (b o n c : Nat) (w : World) (h0 : 0 ≤ a) (h1 : a < n) : (sIAddr 71 (.slice (some ⟨b, o, none⟩) n c) (.int k a)).run pg w = .ok (.value (.pointer (some ⟨b, o + a.toNat, none⟩))) w := r_iaddrS1 rfl Try.underlying71 inf44 b o n c h0 h1
theorem ld_uint16 (x : Addr) (w : World) : (sLoad 44 (.pointer (some x))).run pg w = ldC (w.cell? x) w (far pg 44 x w) := r_ld Try.underlying44 rfl x w
theorem bd_bits_Writer_  (w : World) : (sBuild 111 []).run pg w = .ok (.value (.agg #[(.slice none 0 0), (.int .i64 0)])) w := by kernel_rfl
theorem peql_p_bits_Writer {ox oy : Operand} (x : Option Addr) (w : World) : (sBin .eql 72 ox oy (.pointer x) (.pointer none)).run pg w = .ok (.value (.bool x.isNone)) w := r_peql Try.underlying72 x
theorem fa_bits_Writer_n (b o : Nat) (w : World) : (sFAddr 111 (.pointer (some ⟨b, o, none⟩)) 1).run pg w = .ok (.value (.pointer (some ⟨b, o + 1, none⟩))) w := r_faddr (i := 1) Try.underlying111 rfl inf3 (by decide) _
theorem fa_bits_Writer_b (b o : Nat) (w : World) : (sFAddr 111 (.pointer (some ⟨b, o, none⟩)) 0).run pg w = .ok (.value (.pointer (some ⟨b, o, none⟩))) w := r_faddr (i := 0) Try.underlying111 rfl inf52 (by decide) _
theorem st_sl_uint8 {b off : Nat} {cs : List Value} {w : World} {v : Value} {K : Value → World → Prop} (ho : Own w b cs) (hv : one v = true) (h : off < cs.length) (hk : ∀ w', Own w' b (cs.set off v) → Ext w w' (fun x => x = b) → w'.heap.size = w.heap.size → K undef w') : Stp pg (sStore 52 (.pointer (some ⟨b, off, none⟩)) v) w K := stp_store1 inf52 rfl ho hv h hk
theorem bd_bits_Writer_0_1 (a0 : Option Addr) (l0 c0 : Nat) (n1 : Int) (w : World) : (sBuild 111 [(0, (.slice a0 l0 c0)), (1, (.int .i64 n1))]).run pg w = .ok (.value (.agg #[(.slice a0 l0 c0), (.int .i64 n1)])) w := by kernel_rfl
-- RUN ln_sl_uint16 ia_sl_uint16 ld_uint16 bd_bits_Writer_ peql_p_bits_Writer fa_bits_Writer_n fa_bits_Writer_b bd_bits_Writer_0_1
-- RULES st_sl_uint8
end Go.Proofs.Ytcbkdccobhkbpaa
