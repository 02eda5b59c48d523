/- The names of the functions. Written by a program of ours off the loaded code. -/
import Derived.Test.YtcbkdccobhkbpaaRows
import Derived.Test.YtcbkdccobhkbpaaEnGen
namespace Go.Proofs.Ytcbkdccobhkbpaa
open Go Go.En
noncomputable abbrev pg : Program := Try.prog
theorem TryM.mixed : pg.follows .mixedOrders = true := Try.checked.mixed
abbrev F_law07_FseBuilds : FuncId := 3
abbrev F_law07_FseParts : FuncId := 4
abbrev F_law07_FseBefore : FuncId := 5
abbrev F_law07_FseReads : FuncId := 6
abbrev F_law07_FseBack : FuncId := 7
abbrev F_law06_NormalReads : FuncId := 8
abbrev F_law06_NormalWrites : FuncId := 9
abbrev F_law06_NormalOf : FuncId := 10
abbrev F_law06_NormalCut : FuncId := 11
abbrev F_law06_NormalLast : FuncId := 12
abbrev F_law07_awake : FuncId := 13
abbrev F_fse_Build : FuncId := 14
abbrev F_ref07_Build : FuncId := 15
abbrev F_law07_modelOf : FuncId := 16
abbrev F_law07_sameTable : FuncId := 17
abbrev F_fse_Before : FuncId := 18
abbrev F_fse_First : FuncId := 19
abbrev F_fse_One : FuncId := 20
abbrev F_ref07_One : FuncId := 21
abbrev F_bits_NewBackward : FuncId := 22
abbrev F_ref05_New : FuncId := 23
abbrev F_fse_Start : FuncId := 24
abbrev F_ref07_Start : FuncId := 25
abbrev F_bits_Backward_Left : FuncId := 26
abbrev F_ref05_Left : FuncId := 27
abbrev F_fse_Next : FuncId := 28
abbrev F_ref07_Next : FuncId := 29
abbrev F_bits_NewWriter : FuncId := 30
abbrev F_bits_Writer_Write : FuncId := 31
abbrev F_bits_Writer_Closed : FuncId := 32
abbrev F_law06_awake : FuncId := 33
abbrev F_normal_Read : FuncId := 34
abbrev F_ref06_Read : FuncId := 35
abbrev F_ref06_Same : FuncId := 36
abbrev F_law06_modelOf : FuncId := 37
abbrev F_normal_Check : FuncId := 38
abbrev F_normal_Write : FuncId := 39
abbrev F_ref06_Check : FuncId := 40
abbrev F_ref06_May : FuncId := 41
abbrev F_ref06_Power : FuncId := 42
abbrev F_normal_Of : FuncId := 43
abbrev F_fse_spread : FuncId := 44
abbrev F_math_bits_Len : FuncId := 45
abbrev F_slices_Clone_inst : FuncId := 46
abbrev F_math_bits_Len8 : FuncId := 47
abbrev F_ref05_Bits : FuncId := 48
abbrev F_bits_Backward_Read : FuncId := 49
abbrev F_ref05_Last : FuncId := 50
abbrev F_bits_NewForward : FuncId := 51
abbrev F_bits_Forward_Read : FuncId := 52
abbrev F_normal_value : FuncId := 53
abbrev F_normal_parts : FuncId := 54
abbrev F_normal_noughts : FuncId := 55
abbrev F_bits_Forward_Used : FuncId := 56
abbrev F_ref05_Read : FuncId := 57
abbrev F_ref06_next : FuncId := 58
abbrev F_ref05_Used : FuncId := 59
abbrev F_normal_may : FuncId := 60
abbrev F_bits_Writer_Out : FuncId := 61
abbrev F_math_bits_Len32 : FuncId := 62
abbrev F_math_bits_Len64 : FuncId := 63
abbrev F_bits_take : FuncId := 64
abbrev F_ref05_Number : FuncId := 65
abbrev F_ref06_width : FuncId := 66
end Go.Proofs.Ytcbkdccobhkbpaa
