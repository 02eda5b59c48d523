/- The names of the functions. Written by a program of ours off the loaded code. -/
import Derived.Test.YtcbkdccobhkbpaaRows
import Derived.Test.YtcbkdccobhkbpaaEnGen
namespace Go.Proofs.Ytcbkdccobhkbpaa
open Go Go.En
noncomputable abbrev pg : Program := Try.prog
theorem TryM.mixed : pg.follows .mixedOrders = true := Try.checked.mixed
abbrev F_law07_FseParts : FuncId := 4
abbrev F_law07_FseBefore : FuncId := 5
abbrev F_law07_awake : FuncId := 13
abbrev F_fse_Build : FuncId := 14
abbrev F_fse_Before : FuncId := 18
abbrev F_fse_First : FuncId := 19
abbrev F_fse_One : FuncId := 20
abbrev F_normal_Check : FuncId := 38
abbrev F_ref06_Check : FuncId := 40
abbrev F_ref06_May : FuncId := 41
abbrev F_ref06_Power : FuncId := 42
abbrev F_fse_spread : FuncId := 44
abbrev F_math_bits_Len : FuncId := 45
abbrev F_normal_parts : FuncId := 54
abbrev F_normal_may : FuncId := 60
abbrev F_math_bits_Len32 : FuncId := 62
abbrev F_math_bits_Len64 : FuncId := 63
end Go.Proofs.Ytcbkdccobhkbpaa
