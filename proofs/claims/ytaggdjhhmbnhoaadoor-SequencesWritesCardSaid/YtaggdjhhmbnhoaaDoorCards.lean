/-
  DERIVED. GIVEN WITH THE SEED: THE CARDS: each row of YtaggdjhhmbnhoaaDoorRows.lean that lists a variable, with what it lists TIED to the program's text (the seventh form; the later family's looks); each row that meets fmt, with fmt's text TOLD by the authors' own Lean function (tested against real Go, not proved from fmt's source: count such statements apart). THE CARD IS WHAT COUNTS. Prove the row's statement (the work); the ties are given (YtaggdjhhmbnhoaaDoorTie.lean); close each card by the builder's one call (the guide's Derived/Test/ToyasCard.lean, 'card_holds'). Laid BY PROGRAM, IN A SANDBOX (cutbox-door.mjs). By AI agents, Wed Nov 11 2026. No macro, syntax, notation, axiom, sorry.
-/
import Derived.Test.YtaggdjhhmbnhoaaDoorRows
import GoSem.ClaimSeven
namespace Go.Proofs.YtaggdjhhmbnhoaaDoor
namespace Rows

/-- THE TIED CARD OF 'lightermanlaw13.SequencesMany'. -/
def sequencesManyCard : Claim7 := { stood := { row := sequencesManyRow, standIns := [], harness := (true, "8d8ce6ed8c520295257bf753cdd8499d111c7859a5fc1edd0785b9892fec265f"), looks := false }, kinds := [], alts := [], laidByText := true, laidKinds := [.data, .data, .data, .data, .data], laidTests := true, laidLooks := .later }
def SequencesManyCardSaid : Prop := Claim7.holds Tryd.pinned (.plain (OpenSpec.ofChange sequencesManySpec)) sequencesManyCard

/-- THE TIED CARD OF 'lightermanlaw13.SequencesWrites'. -/
def sequencesWritesCard : Claim7 := { stood := { row := sequencesWritesRow, standIns := [], harness := (true, "8d8ce6ed8c520295257bf753cdd8499d111c7859a5fc1edd0785b9892fec265f"), looks := false }, kinds := [], alts := [], laidByText := true, laidKinds := [.data, .data, .data, .data, .data], laidTests := true, laidLooks := .later }
def SequencesWritesCardSaid : Prop := Claim7.holds Tryd.pinned (.plain (OpenSpec.ofChange sequencesWritesSpec)) sequencesWritesCard

/-- THE TIED CARD OF 'lightermanlaw13.SequencesSame'. -/
def sequencesSameCard : Claim7 := { stood := { row := sequencesSameRow, standIns := [], harness := (true, "8d8ce6ed8c520295257bf753cdd8499d111c7859a5fc1edd0785b9892fec265f"), looks := false }, kinds := [], alts := [], laidByText := true, laidKinds := [.data, .data, .data, .data, .data], laidTests := true, laidLooks := .later }
def SequencesSameCardSaid : Prop := Claim7.holds Tryd.pinned (.plain (OpenSpec.ofChange sequencesSameSpec)) sequencesSameCard

/-- THE TIED CARD OF 'lightermanlaw13.SequencesCut'. -/
def sequencesCutCard : Claim7 := { stood := { row := sequencesCutRow, standIns := [], harness := (true, "8d8ce6ed8c520295257bf753cdd8499d111c7859a5fc1edd0785b9892fec265f"), looks := false }, kinds := [], alts := [], laidByText := true, laidKinds := [.data, .data, .data, .data, .data], laidTests := true, laidLooks := .later }
def SequencesCutCardSaid : Prop := Claim7.holds Tryd.pinned (.plain (OpenSpec.ofChange sequencesCutSpec)) sequencesCutCard

/-- THE SECOND FORM's CARD OF 'lightermanlaw13.SequencesMany'. -/
def sequencesManyUptoCard : Claim7 := { stood := { row := sequencesManyUptoRow, standIns := [], harness := (true, "8d8ce6ed8c520295257bf753cdd8499d111c7859a5fc1edd0785b9892fec265f"), looks := false }, kinds := [], alts := [], laidByText := true, laidKinds := [.data, .data, .data, .data, .data], laidTests := true, laidLooks := .later }
def SequencesManyUptoCardSaid : Prop := Claim7.holds Tryd.pinned (.plain (OpenSpec.upto sequencesManySpec)) sequencesManyUptoCard

/-- THE SECOND FORM's CARD OF 'lightermanlaw13.SequencesWrites'. -/
def sequencesWritesUptoCard : Claim7 := { stood := { row := sequencesWritesUptoRow, standIns := [], harness := (true, "8d8ce6ed8c520295257bf753cdd8499d111c7859a5fc1edd0785b9892fec265f"), looks := false }, kinds := [], alts := [], laidByText := true, laidKinds := [.data, .data, .data, .data, .data], laidTests := true, laidLooks := .later }
def SequencesWritesUptoCardSaid : Prop := Claim7.holds Tryd.pinned (.plain (OpenSpec.upto sequencesWritesSpec)) sequencesWritesUptoCard

/-- THE SECOND FORM's CARD OF 'lightermanlaw13.SequencesSame'. -/
def sequencesSameUptoCard : Claim7 := { stood := { row := sequencesSameUptoRow, standIns := [], harness := (true, "8d8ce6ed8c520295257bf753cdd8499d111c7859a5fc1edd0785b9892fec265f"), looks := false }, kinds := [], alts := [], laidByText := true, laidKinds := [.data, .data, .data, .data, .data], laidTests := true, laidLooks := .later }
def SequencesSameUptoCardSaid : Prop := Claim7.holds Tryd.pinned (.plain (OpenSpec.upto sequencesSameSpec)) sequencesSameUptoCard

/-- THE SECOND FORM's CARD OF 'lightermanlaw13.SequencesCut'. -/
def sequencesCutUptoCard : Claim7 := { stood := { row := sequencesCutUptoRow, standIns := [], harness := (true, "8d8ce6ed8c520295257bf753cdd8499d111c7859a5fc1edd0785b9892fec265f"), looks := false }, kinds := [], alts := [], laidByText := true, laidKinds := [.data, .data, .data, .data, .data], laidTests := true, laidLooks := .later }
def SequencesCutUptoCardSaid : Prop := Claim7.holds Tryd.pinned (.plain (OpenSpec.upto sequencesCutSpec)) sequencesCutUptoCard
end Rows
end Go.Proofs.YtaggdjhhmbnhoaaDoor
