/-
  DERIVED. GIVEN WITH THE SEED: THE PROGRAM's TIES (one call each: nine closed facts by the kernel) AND EACH ROW's TIE, after the 31st guide's Derived/Test/Toyas{Tie, Card}.lean. No idea stands in it: it is a product of the set-up. Laid BY PROGRAM, IN A SANDBOX (cutbox-door.mjs). By AI agents, Wed Nov 11 2026. No macro, syntax, notation, axiom, sorry.
-/
import Derived.Test.YthohephggmkeeaaDoorRows
import Derived.LaidByTextLater
import Derived.SevenTiedAt
import Derived.LaidSub
import Derived.LaidOnce
namespace Go.Proofs.YthohephggmkeeaaDoor
open Go
set_option maxRecDepth 100000
theorem seatTie1 : Tryd.prog.laidByTextLater [("lighterman/codes.literals", Rows.laid_lighterman_codes_literals), ("lighterman/codes.matches", Rows.laid_lighterman_codes_matches), ("lighterman/tables.literals", Rows.laid_lighterman_tables_literals), ("lighterman/tables.offsets", Rows.laid_lighterman_tables_offsets), ("lighterman/tables.matches", Rows.laid_lighterman_tables_matches)] [.data, .data, .data, .data, .data] true :=
  Program.laidByTextLater_by_one 34 8 54 (by kernel_rfl) (by kernel_rfl) (by kernel_rfl) (by kernel_rfl) (by kernel_rfl) (by kernel_rfl) (fun _ _ => by kernel_rfl)
theorem noOwnUnsafe : Tryd.pinned.checked.prog.headLifts.contains "ownunsafe" = false := by kernel_rfl
theorem tie : Tryd.prog.laidByTextLater [("lighterman/codes.literals", Rows.laid_lighterman_codes_literals), ("lighterman/codes.matches", Rows.laid_lighterman_codes_matches), ("lighterman/tables.literals", Rows.laid_lighterman_tables_literals), ("lighterman/tables.offsets", Rows.laid_lighterman_tables_offsets), ("lighterman/tables.matches", Rows.laid_lighterman_tables_matches)] [.data, .data, .data, .data, .data] true :=
  Program.laidByTextLater.sub seatTie1 ["lighterman/codes.literals", "lighterman/codes.matches", "lighterman/tables.literals", "lighterman/tables.offsets", "lighterman/tables.matches"] (by kernel_rfl) (by kernel_rfl)
theorem decodePlain_row_tie : Rows.decodePlainRow.laidByTextAt .later Tryd.pinned [.data, .data, .data, .data, .data] true :=
  OpenClaim.laidByTextAt_later rfl rfl tie noOwnUnsafe
theorem decodeRows_row_tie : Rows.decodeRowsRow.laidByTextAt .later Tryd.pinned [.data, .data, .data, .data, .data] true :=
  OpenClaim.laidByTextAt_later rfl rfl tie noOwnUnsafe
theorem decodeSame_row_tie : Rows.decodeSameRow.laidByTextAt .later Tryd.pinned [.data, .data, .data, .data, .data] true :=
  OpenClaim.laidByTextAt_later rfl rfl tie noOwnUnsafe
theorem decodeSkips_row_tie : Rows.decodeSkipsRow.laidByTextAt .later Tryd.pinned [.data, .data, .data, .data, .data] true :=
  OpenClaim.laidByTextAt_later rfl rfl tie noOwnUnsafe
theorem decodePlainUpto_row_tie : Rows.decodePlainUptoRow.laidByTextAt .later Tryd.pinned [.data, .data, .data, .data, .data] true :=
  OpenClaim.laidByTextAt_later rfl rfl tie noOwnUnsafe
theorem decodeRowsUpto_row_tie : Rows.decodeRowsUptoRow.laidByTextAt .later Tryd.pinned [.data, .data, .data, .data, .data] true :=
  OpenClaim.laidByTextAt_later rfl rfl tie noOwnUnsafe
theorem decodeSameUpto_row_tie : Rows.decodeSameUptoRow.laidByTextAt .later Tryd.pinned [.data, .data, .data, .data, .data] true :=
  OpenClaim.laidByTextAt_later rfl rfl tie noOwnUnsafe
theorem decodeSkipsUpto_row_tie : Rows.decodeSkipsUptoRow.laidByTextAt .later Tryd.pinned [.data, .data, .data, .data, .data] true :=
  OpenClaim.laidByTextAt_later rfl rfl tie noOwnUnsafe
end Go.Proofs.YthohephggmkeeaaDoor
