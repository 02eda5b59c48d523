/-
  DERIVED. GIVEN WITH THE SEED: THE PROGRAM's TIES (one call each: nine closed facts by the kernel) AND EACH ROW's TIE, after the 31st guide's Derived/Test/Toyas{Tie, Card}.lean. No idea stands in it: it is a product of the set-up. Laid BY PROGRAM, IN A SANDBOX (cutbox-door.mjs). By AI agents, Wed Nov 11 2026. No macro, syntax, notation, axiom, sorry.
-/
import Derived.Test.YthohephggmkeeaaGreatDoorRows
import Derived.LaidByTextLater
import Derived.SevenTiedAt
import Derived.LaidSub
import Derived.LaidOnce
namespace Go.Proofs.YthohephggmkeeaaGreatDoor
open Go
set_option maxRecDepth 100000
theorem seatTie1 : Tryz.prog.laidByTextLater [("lighterman/codes.literals", Rows.laid_lighterman_codes_literals), ("lighterman/codes.matches", Rows.laid_lighterman_codes_matches), ("lighterman/tables.literals", Rows.laid_lighterman_tables_literals), ("lighterman/tables.offsets", Rows.laid_lighterman_tables_offsets), ("lighterman/tables.matches", Rows.laid_lighterman_tables_matches)] [.data, .data, .data, .data, .data] true :=
  Program.laidByTextLater_by_one 34 8 54 (by kernel_rfl) (by kernel_rfl) (by kernel_rfl) (by kernel_rfl) (by kernel_rfl) (by kernel_rfl) (fun _ _ => by kernel_rfl)
theorem noOwnUnsafe : Tryz.pinned.checked.prog.headLifts.contains "ownunsafe" = false := by kernel_rfl
theorem tie : Tryz.prog.laidByTextLater [("lighterman/codes.literals", Rows.laid_lighterman_codes_literals), ("lighterman/codes.matches", Rows.laid_lighterman_codes_matches), ("lighterman/tables.literals", Rows.laid_lighterman_tables_literals), ("lighterman/tables.offsets", Rows.laid_lighterman_tables_offsets), ("lighterman/tables.matches", Rows.laid_lighterman_tables_matches)] [.data, .data, .data, .data, .data] true :=
  Program.laidByTextLater.sub seatTie1 ["lighterman/codes.literals", "lighterman/codes.matches", "lighterman/tables.literals", "lighterman/tables.offsets", "lighterman/tables.matches"] (by kernel_rfl) (by kernel_rfl)
theorem decodeBytes_row_tie : Rows.decodeBytesRow.laidByTextAt .later Tryz.pinned [.data, .data, .data, .data, .data] true :=
  OpenClaim.laidByTextAt_later rfl rfl tie noOwnUnsafe
theorem decodeBytesUpto_row_tie : Rows.decodeBytesUptoRow.laidByTextAt .later Tryz.pinned [.data, .data, .data, .data, .data] true :=
  OpenClaim.laidByTextAt_later rfl rfl tie noOwnUnsafe
end Go.Proofs.YthohephggmkeeaaGreatDoor
