/-
  DERIVED. GIVEN WITH THE SEED: THE CARDS: each row of YthohephggmkeeaaGreatDoorRows.lean that lists a variable, with what it lists TIED to the program's text (the seventh form; the later family's looks); each row that meets fmt, with fmt's text TOLD by the authors' own Lean function (tested against real Go, not proved from fmt's source: count such statements apart). THE CARD IS WHAT COUNTS. Prove the row's statement (the work); the ties are given (YthohephggmkeeaaGreatDoorTie.lean); close each card by the builder's one call (the guide's Derived/Test/ToyasCard.lean, 'card_holds'). Laid BY PROGRAM, IN A SANDBOX (cutbox-door.mjs). By AI agents, Wed Nov 11 2026. No macro, syntax, notation, axiom, sorry.
-/
import Derived.Test.YthohephggmkeeaaGreatDoorRows
import GoSem.ClaimSeven
namespace Go.Proofs.YthohephggmkeeaaGreatDoor
namespace Rows

/-- THE TIED CARD OF 'lightermanlaw16.DecodeBytes'. -/
def decodeBytesCard : Claim7 := { stood := { row := decodeBytesRow, standIns := [], harness := (true, "2a52edd59c782bc6271885177a7b4a85568ba364bba801320cf3e5663e29c225"), looks := false }, kinds := [], alts := [], laidByText := true, laidKinds := [.data, .data, .data, .data, .data], laidTests := true, laidLooks := .later }
def DecodeBytesCardSaid : Prop := Claim7.holds Tryz.pinned (.plain (OpenSpec.ofChange decodeBytesSpec)) decodeBytesCard

/-- THE SECOND FORM's CARD OF 'lightermanlaw16.DecodeBytes'. -/
def decodeBytesUptoCard : Claim7 := { stood := { row := decodeBytesUptoRow, standIns := [], harness := (true, "2a52edd59c782bc6271885177a7b4a85568ba364bba801320cf3e5663e29c225"), looks := false }, kinds := [], alts := [], laidByText := true, laidKinds := [.data, .data, .data, .data, .data], laidTests := true, laidLooks := .later }
def DecodeBytesUptoCardSaid : Prop := Claim7.holds Tryz.pinned (.plain (OpenSpec.upto decodeBytesSpec)) decodeBytesUptoCard
end Rows
end Go.Proofs.YthohephggmkeeaaGreatDoor
