/-
  DERIVED. GIVEN WITH THE SEED: THE CARDS: each row of YtoecppploooloaaGreatDoorRows.lean that lists a variable, with what it lists TIED to the program's text (the seventh form; the later family's looks); each row that meets fmt, with fmt's text TOLD by the authors' own Lean function (tested against real Go, not proved from fmt's source: count such statements apart). THE CARD IS WHAT COUNTS. Prove the row's statement (the work); the ties are given (YtoecppploooloaaGreatDoorTie.lean); close each card by the builder's one call (the guide's Derived/Test/ToyasCard.lean, 'card_holds'). Laid BY PROGRAM, IN A SANDBOX (cutbox-door.mjs). By AI agents, Wed Nov 11 2026. No macro, syntax, notation, axiom, sorry.
-/
import Derived.Test.YtoecppploooloaaGreatDoorRows
import GoSem.ClaimSeven
namespace Go.Proofs.YtoecppploooloaaGreatDoor
namespace Rows

/-- THE TIED CARD OF 'lightermanlaw18.EncodeBound'. -/
def encodeBoundCard : Claim7 := { stood := { row := encodeBoundRow, standIns := [], harness := (true, "27d2559f103a993e362e7f8348ee816e7505ca670619b9193c686f81adef8731"), looks := false }, kinds := [], alts := [], laidByText := true, laidKinds := [.data, .data, .data, .data, .data], laidTests := true, laidLooks := .later }
def EncodeBoundCardSaid : Prop := Claim7.holds Tryz.pinned (.plain (OpenSpec.ofChange encodeBoundSpec)) encodeBoundCard

/-- THE TIED CARD OF 'lightermanlaw18.EncodeSame'. -/
def encodeSameCard : Claim7 := { stood := { row := encodeSameRow, standIns := [], harness := (true, "27d2559f103a993e362e7f8348ee816e7505ca670619b9193c686f81adef8731"), looks := false }, kinds := [], alts := [], laidByText := true, laidKinds := [.data, .data, .data, .data, .data], laidTests := true, laidLooks := .later }
def EncodeSameCardSaid : Prop := Claim7.holds Tryz.pinned (.plain (OpenSpec.ofChange encodeSameSpec)) encodeSameCard

/-- THE TIED CARD OF 'lightermanlaw19.ChunkSpans'. -/
def chunkSpansCard : Claim7 := { stood := { row := chunkSpansRow, standIns := [], harness := (true, "27d2559f103a993e362e7f8348ee816e7505ca670619b9193c686f81adef8731"), looks := false }, kinds := [], alts := [], laidByText := true, laidKinds := [.data, .data, .data, .data, .data], laidTests := true, laidLooks := .later }
def ChunkSpansCardSaid : Prop := Claim7.holds Tryz.pinned (.plain (OpenSpec.ofChange chunkSpansSpec)) chunkSpansCard

/-- THE TIED CARD OF 'lightermanlaw19.ChunkWhole'. -/
def chunkWholeCard : Claim7 := { stood := { row := chunkWholeRow, standIns := [], harness := (true, "27d2559f103a993e362e7f8348ee816e7505ca670619b9193c686f81adef8731"), looks := false }, kinds := [], alts := [], laidByText := true, laidKinds := [.data, .data, .data, .data, .data], laidTests := true, laidLooks := .later }
def ChunkWholeCardSaid : Prop := Claim7.holds Tryz.pinned (.plain (OpenSpec.ofChange chunkWholeSpec)) chunkWholeCard

/-- THE TIED CARD OF 'lightermanlaw19.ChunkSame'. -/
def chunkSameCard : Claim7 := { stood := { row := chunkSameRow, standIns := [], harness := (true, "27d2559f103a993e362e7f8348ee816e7505ca670619b9193c686f81adef8731"), looks := false }, kinds := [], alts := [], laidByText := true, laidKinds := [.data, .data, .data, .data, .data], laidTests := true, laidLooks := .later }
def ChunkSameCardSaid : Prop := Claim7.holds Tryz.pinned (.plain (OpenSpec.ofChange chunkSameSpec)) chunkSameCard

/-- THE SECOND FORM's CARD OF 'lightermanlaw18.EncodeBound'. -/
def encodeBoundUptoCard : Claim7 := { stood := { row := encodeBoundUptoRow, standIns := [], harness := (true, "27d2559f103a993e362e7f8348ee816e7505ca670619b9193c686f81adef8731"), looks := false }, kinds := [], alts := [], laidByText := true, laidKinds := [.data, .data, .data, .data, .data], laidTests := true, laidLooks := .later }
def EncodeBoundUptoCardSaid : Prop := Claim7.holds Tryz.pinned (.plain (OpenSpec.upto encodeBoundSpec)) encodeBoundUptoCard

/-- THE SECOND FORM's CARD OF 'lightermanlaw18.EncodeSame'. -/
def encodeSameUptoCard : Claim7 := { stood := { row := encodeSameUptoRow, standIns := [], harness := (true, "27d2559f103a993e362e7f8348ee816e7505ca670619b9193c686f81adef8731"), looks := false }, kinds := [], alts := [], laidByText := true, laidKinds := [.data, .data, .data, .data, .data], laidTests := true, laidLooks := .later }
def EncodeSameUptoCardSaid : Prop := Claim7.holds Tryz.pinned (.plain (OpenSpec.upto encodeSameSpec)) encodeSameUptoCard

/-- THE SECOND FORM's CARD OF 'lightermanlaw19.ChunkSpans'. -/
def chunkSpansUptoCard : Claim7 := { stood := { row := chunkSpansUptoRow, standIns := [], harness := (true, "27d2559f103a993e362e7f8348ee816e7505ca670619b9193c686f81adef8731"), looks := false }, kinds := [], alts := [], laidByText := true, laidKinds := [.data, .data, .data, .data, .data], laidTests := true, laidLooks := .later }
def ChunkSpansUptoCardSaid : Prop := Claim7.holds Tryz.pinned (.plain (OpenSpec.upto chunkSpansSpec)) chunkSpansUptoCard

/-- THE SECOND FORM's CARD OF 'lightermanlaw19.ChunkWhole'. -/
def chunkWholeUptoCard : Claim7 := { stood := { row := chunkWholeUptoRow, standIns := [], harness := (true, "27d2559f103a993e362e7f8348ee816e7505ca670619b9193c686f81adef8731"), looks := false }, kinds := [], alts := [], laidByText := true, laidKinds := [.data, .data, .data, .data, .data], laidTests := true, laidLooks := .later }
def ChunkWholeUptoCardSaid : Prop := Claim7.holds Tryz.pinned (.plain (OpenSpec.upto chunkWholeSpec)) chunkWholeUptoCard

/-- THE SECOND FORM's CARD OF 'lightermanlaw19.ChunkSame'. -/
def chunkSameUptoCard : Claim7 := { stood := { row := chunkSameUptoRow, standIns := [], harness := (true, "27d2559f103a993e362e7f8348ee816e7505ca670619b9193c686f81adef8731"), looks := false }, kinds := [], alts := [], laidByText := true, laidKinds := [.data, .data, .data, .data, .data], laidTests := true, laidLooks := .later }
def ChunkSameUptoCardSaid : Prop := Claim7.holds Tryz.pinned (.plain (OpenSpec.upto chunkSameSpec)) chunkSameUptoCard
end Rows
end Go.Proofs.YtoecppploooloaaGreatDoor
