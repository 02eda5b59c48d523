/-
  DERIVED. GIVEN WITH THE SEED: THE CARDS: each row of YtoepfjgekpdddaaDoorRows.lean that lists a variable, with what it lists TIED to the program's text (the seventh form; the later family's looks); each row that meets fmt, with fmt's text TOLD by the authors' own Lean function (tested against real Go, not proved from fmt's source: count such statements apart). THE CARD IS WHAT COUNTS. Prove the row's statement (the work); the ties are given (YtoepfjgekpdddaaDoorTie.lean); close each card by the builder's one call (the guide's Derived/Test/ToyasCard.lean, 'card_holds'). Laid BY PROGRAM, IN A SANDBOX (cutbox-door.mjs). By AI agents, Wed Nov 11 2026. No macro, syntax, notation, axiom, sorry.
-/
import Derived.Test.YtoepfjgekpdddaaDoorRows
import GoSem.ClaimSeven
namespace Go.Proofs.YtoepfjgekpdddaaDoor
namespace Rows

/-- THE TIED CARD OF 'lightermanlaw12.TablesGiven'. -/
def tablesGivenCard : Claim7 := { stood := { row := tablesGivenRow, standIns := [], harness := (true, "96d8ba6ba82fbb4d3803415199bea44bcb3e0756655c156da613c58816a34907"), looks := false }, kinds := [], alts := [], laidByText := true, laidKinds := [.data, .data, .data, .data, .data], laidTests := true, laidLooks := .later }
def TablesGivenCardSaid : Prop := Claim7.holds Tryd.pinned (.plain (OpenSpec.ofChange tablesGivenSpec)) tablesGivenCard

/-- THE TIED CARD OF 'lightermanlaw12.TablesRow'. -/
def tablesRowCard : Claim7 := { stood := { row := tablesRowRow, standIns := [], harness := (true, "96d8ba6ba82fbb4d3803415199bea44bcb3e0756655c156da613c58816a34907"), looks := false }, kinds := [], alts := [], laidByText := true, laidKinds := [.data, .data, .data, .data, .data], laidTests := true, laidLooks := .later }
def TablesRowCardSaid : Prop := Claim7.holds Tryd.pinned (.plain (OpenSpec.ofChange tablesRowSpec)) tablesRowCard

/-- THE TIED CARD OF 'lightermanlaw12.TablesWrites'. -/
def tablesWritesCard : Claim7 := { stood := { row := tablesWritesRow, standIns := [], harness := (true, "96d8ba6ba82fbb4d3803415199bea44bcb3e0756655c156da613c58816a34907"), looks := false }, kinds := [], alts := [], laidByText := true, laidKinds := [.data, .data, .data, .data, .data], laidTests := true, laidLooks := .later }
def TablesWritesCardSaid : Prop := Claim7.holds Tryd.pinned (.plain (OpenSpec.ofChange tablesWritesSpec)) tablesWritesCard

/-- THE SECOND FORM's CARD OF 'lightermanlaw12.TablesGiven'. -/
def tablesGivenUptoCard : Claim7 := { stood := { row := tablesGivenUptoRow, standIns := [], harness := (true, "96d8ba6ba82fbb4d3803415199bea44bcb3e0756655c156da613c58816a34907"), looks := false }, kinds := [], alts := [], laidByText := true, laidKinds := [.data, .data, .data, .data, .data], laidTests := true, laidLooks := .later }
def TablesGivenUptoCardSaid : Prop := Claim7.holds Tryd.pinned (.plain (OpenSpec.upto tablesGivenSpec)) tablesGivenUptoCard

/-- THE SECOND FORM's CARD OF 'lightermanlaw12.TablesRow'. -/
def tablesRowUptoCard : Claim7 := { stood := { row := tablesRowUptoRow, standIns := [], harness := (true, "96d8ba6ba82fbb4d3803415199bea44bcb3e0756655c156da613c58816a34907"), looks := false }, kinds := [], alts := [], laidByText := true, laidKinds := [.data, .data, .data, .data, .data], laidTests := true, laidLooks := .later }
def TablesRowUptoCardSaid : Prop := Claim7.holds Tryd.pinned (.plain (OpenSpec.upto tablesRowSpec)) tablesRowUptoCard

/-- THE SECOND FORM's CARD OF 'lightermanlaw12.TablesWrites'. -/
def tablesWritesUptoCard : Claim7 := { stood := { row := tablesWritesUptoRow, standIns := [], harness := (true, "96d8ba6ba82fbb4d3803415199bea44bcb3e0756655c156da613c58816a34907"), looks := false }, kinds := [], alts := [], laidByText := true, laidKinds := [.data, .data, .data, .data, .data], laidTests := true, laidLooks := .later }
def TablesWritesUptoCardSaid : Prop := Claim7.holds Tryd.pinned (.plain (OpenSpec.upto tablesWritesSpec)) tablesWritesUptoCard
end Rows
end Go.Proofs.YtoepfjgekpdddaaDoor
