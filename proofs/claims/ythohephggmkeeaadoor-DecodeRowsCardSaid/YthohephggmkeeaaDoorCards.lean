/-
  DERIVED. GIVEN WITH THE SEED: THE CARDS: each row of YthohephggmkeeaaDoorRows.lean that lists a variable, with what it lists TIED to the program's text (the seventh form; the later family's looks); each row that meets fmt, with fmt's text TOLD by the authors' own Lean function (tested against real Go, not proved from fmt's source: count such statements apart). THE CARD IS WHAT COUNTS. Prove the row's statement (the work); the ties are given (YthohephggmkeeaaDoorTie.lean); close each card by the builder's one call (the guide's Derived/Test/ToyasCard.lean, 'card_holds'). Laid BY PROGRAM, IN A SANDBOX (cutbox-door.mjs). By AI agents, Wed Nov 11 2026. No macro, syntax, notation, axiom, sorry.
-/
import Derived.Test.YthohephggmkeeaaDoorRows
import GoSem.ClaimSeven
namespace Go.Proofs.YthohephggmkeeaaDoor
namespace Rows

/-- THE TIED CARD OF 'lightermanlaw16.DecodePlain'. -/
def decodePlainCard : Claim7 := { stood := { row := decodePlainRow, standIns := [], harness := (true, "b798d334023d9784003b8f2c044a2593fa75e52ec8f5cd4a68e41d60254a8425"), looks := false }, kinds := [], alts := [], laidByText := true, laidKinds := [.data, .data, .data, .data, .data], laidTests := true, laidLooks := .later }
def DecodePlainCardSaid : Prop := Claim7.holds Tryd.pinned (.plain (OpenSpec.ofChange decodePlainSpec)) decodePlainCard

/-- THE TIED CARD OF 'lightermanlaw16.DecodeRows'. -/
def decodeRowsCard : Claim7 := { stood := { row := decodeRowsRow, standIns := [], harness := (true, "b798d334023d9784003b8f2c044a2593fa75e52ec8f5cd4a68e41d60254a8425"), looks := false }, kinds := [], alts := [], laidByText := true, laidKinds := [.data, .data, .data, .data, .data], laidTests := true, laidLooks := .later }
def DecodeRowsCardSaid : Prop := Claim7.holds Tryd.pinned (.plain (OpenSpec.ofChange decodeRowsSpec)) decodeRowsCard

/-- THE TIED CARD OF 'lightermanlaw16.DecodeSame'. -/
def decodeSameCard : Claim7 := { stood := { row := decodeSameRow, standIns := [], harness := (true, "b798d334023d9784003b8f2c044a2593fa75e52ec8f5cd4a68e41d60254a8425"), looks := false }, kinds := [], alts := [], laidByText := true, laidKinds := [.data, .data, .data, .data, .data], laidTests := true, laidLooks := .later }
def DecodeSameCardSaid : Prop := Claim7.holds Tryd.pinned (.plain (OpenSpec.ofChange decodeSameSpec)) decodeSameCard

/-- THE TIED CARD OF 'lightermanlaw16.DecodeSkips'. -/
def decodeSkipsCard : Claim7 := { stood := { row := decodeSkipsRow, standIns := [], harness := (true, "b798d334023d9784003b8f2c044a2593fa75e52ec8f5cd4a68e41d60254a8425"), looks := false }, kinds := [], alts := [], laidByText := true, laidKinds := [.data, .data, .data, .data, .data], laidTests := true, laidLooks := .later }
def DecodeSkipsCardSaid : Prop := Claim7.holds Tryd.pinned (.plain (OpenSpec.ofChange decodeSkipsSpec)) decodeSkipsCard

/-- THE SECOND FORM's CARD OF 'lightermanlaw16.DecodePlain'. -/
def decodePlainUptoCard : Claim7 := { stood := { row := decodePlainUptoRow, standIns := [], harness := (true, "b798d334023d9784003b8f2c044a2593fa75e52ec8f5cd4a68e41d60254a8425"), looks := false }, kinds := [], alts := [], laidByText := true, laidKinds := [.data, .data, .data, .data, .data], laidTests := true, laidLooks := .later }
def DecodePlainUptoCardSaid : Prop := Claim7.holds Tryd.pinned (.plain (OpenSpec.upto decodePlainSpec)) decodePlainUptoCard

/-- THE SECOND FORM's CARD OF 'lightermanlaw16.DecodeRows'. -/
def decodeRowsUptoCard : Claim7 := { stood := { row := decodeRowsUptoRow, standIns := [], harness := (true, "b798d334023d9784003b8f2c044a2593fa75e52ec8f5cd4a68e41d60254a8425"), looks := false }, kinds := [], alts := [], laidByText := true, laidKinds := [.data, .data, .data, .data, .data], laidTests := true, laidLooks := .later }
def DecodeRowsUptoCardSaid : Prop := Claim7.holds Tryd.pinned (.plain (OpenSpec.upto decodeRowsSpec)) decodeRowsUptoCard

/-- THE SECOND FORM's CARD OF 'lightermanlaw16.DecodeSame'. -/
def decodeSameUptoCard : Claim7 := { stood := { row := decodeSameUptoRow, standIns := [], harness := (true, "b798d334023d9784003b8f2c044a2593fa75e52ec8f5cd4a68e41d60254a8425"), looks := false }, kinds := [], alts := [], laidByText := true, laidKinds := [.data, .data, .data, .data, .data], laidTests := true, laidLooks := .later }
def DecodeSameUptoCardSaid : Prop := Claim7.holds Tryd.pinned (.plain (OpenSpec.upto decodeSameSpec)) decodeSameUptoCard

/-- THE SECOND FORM's CARD OF 'lightermanlaw16.DecodeSkips'. -/
def decodeSkipsUptoCard : Claim7 := { stood := { row := decodeSkipsUptoRow, standIns := [], harness := (true, "b798d334023d9784003b8f2c044a2593fa75e52ec8f5cd4a68e41d60254a8425"), looks := false }, kinds := [], alts := [], laidByText := true, laidKinds := [.data, .data, .data, .data, .data], laidTests := true, laidLooks := .later }
def DecodeSkipsUptoCardSaid : Prop := Claim7.holds Tryd.pinned (.plain (OpenSpec.upto decodeSkipsSpec)) decodeSkipsUptoCard
end Rows
end Go.Proofs.YthohephggmkeeaaDoor
