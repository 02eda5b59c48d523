/-
  NARROWER THAN 'FOR EVERY INPUT', by the rows' own cells (each row's printed sentence says how): DecodePlain: laid · DecodeRows: laid · DecodeSame: laid · DecodeSkips: laid.
  DERIVED. THE GIVEN ROWS OF THIS SEAT. 4 by the template 'for every input the law returns true; each argument reads behind the call as it read before'; 0 by the template 'total and deterministic' (their statements: YthohephggmkeeaaDoorTotals.lean).
  GIVEN WITH THE SEED: the statements are not yours to turn. If you find one false, say at which input.
  Laid BY PROGRAM, IN A SANDBOX (cutbox-rows.mjs): the forced cells as the released guide's own fill.sh prints them over the translation 5ef24d68c6b7759e… (all of the seat's roots in one cut). By AI agents, Wed Nov 11 2026. No macro, syntax, notation, axiom, sorry.
-/
import Derived.Test.YthohephggmkeeaaDoorChecked
import GoSem.Claim
import GoSem.ClaimJoined
import GoSem.ClaimMapViews
import Derived.JoinedTies
import Derived.KernelRfl
namespace Go.Proofs.YthohephggmkeeaaDoor
/- THE CELL 'sum', in the pinned program and in every row, IS THE sha256 OF THE DUMP (.gsa) THAT YthohephggmkeeaaDoorProg.lean LOADS. Nothing in Lean hashes anything: it is a label: what it is worth is what the hold of that sum in a sandbox is worth. -/
noncomputable def Tryd.pinned : Pinned := { name := "ythohephggmkeeaadoor", sum := "5ef24d68c6b7759e1fb6e0aa3d67aeb3b1300a0d735fed27c75caf5eeec636e1", checked := Tryd.checked }
namespace Rows
def none {H : Type} : Left H := { results := [], args := [] }

/- WHAT THE LISTED PACKAGE-LEVEL VARIABLES READ AS WHEN THE CALL BEGINS. Each datum BY PROGRAM (the guide's laid-datum.mjs) off the statement by which the dump's own 'gosem.cut.vars' lays the variable. In a bare row this is a premise. The card (YthohephggmkeeaaDoorCards.lean) ties it to the program's text. -/
def laid_lighterman_codes_literals {H : Type} : DataW H := .agg [.lit (.int .i64 1), .lit (.int .i64 1), .lit (.int .i64 1), .lit (.int .i64 1), .lit (.int .i64 2), .lit (.int .i64 2), .lit (.int .i64 3), .lit (.int .i64 3), .lit (.int .i64 4), .lit (.int .i64 6), .lit (.int .i64 7), .lit (.int .i64 8), .lit (.int .i64 9), .lit (.int .i64 10), .lit (.int .i64 11), .lit (.int .i64 12), .lit (.int .i64 13), .lit (.int .i64 14), .lit (.int .i64 15), .lit (.int .i64 16)]
def laid_lighterman_codes_matches {H : Type} : DataW H := .agg [.lit (.int .i64 1), .lit (.int .i64 1), .lit (.int .i64 1), .lit (.int .i64 1), .lit (.int .i64 2), .lit (.int .i64 2), .lit (.int .i64 3), .lit (.int .i64 3), .lit (.int .i64 4), .lit (.int .i64 4), .lit (.int .i64 5), .lit (.int .i64 7), .lit (.int .i64 8), .lit (.int .i64 9), .lit (.int .i64 10), .lit (.int .i64 11), .lit (.int .i64 12), .lit (.int .i64 13), .lit (.int .i64 14), .lit (.int .i64 15), .lit (.int .i64 16)]
def laid_lighterman_tables_literals {H : Type} : DataW H := .agg [.lit (.int .i64 4), .lit (.int .i64 3), .lit (.int .i64 2), .lit (.int .i64 2), .lit (.int .i64 2), .lit (.int .i64 2), .lit (.int .i64 2), .lit (.int .i64 2), .lit (.int .i64 2), .lit (.int .i64 2), .lit (.int .i64 2), .lit (.int .i64 2), .lit (.int .i64 2), .lit (.int .i64 1), .lit (.int .i64 1), .lit (.int .i64 1), .lit (.int .i64 2), .lit (.int .i64 2), .lit (.int .i64 2), .lit (.int .i64 2), .lit (.int .i64 2), .lit (.int .i64 2), .lit (.int .i64 2), .lit (.int .i64 2), .lit (.int .i64 2), .lit (.int .i64 3), .lit (.int .i64 2), .lit (.int .i64 1), .lit (.int .i64 1), .lit (.int .i64 1), .lit (.int .i64 1), .lit (.int .i64 1), .lit (.int .i64 (-1)), .lit (.int .i64 (-1)), .lit (.int .i64 (-1)), .lit (.int .i64 (-1))]
def laid_lighterman_tables_offsets {H : Type} : DataW H := .agg [.lit (.int .i64 1), .lit (.int .i64 1), .lit (.int .i64 1), .lit (.int .i64 1), .lit (.int .i64 1), .lit (.int .i64 1), .lit (.int .i64 2), .lit (.int .i64 2), .lit (.int .i64 2), .lit (.int .i64 1), .lit (.int .i64 1), .lit (.int .i64 1), .lit (.int .i64 1), .lit (.int .i64 1), .lit (.int .i64 1), .lit (.int .i64 1), .lit (.int .i64 1), .lit (.int .i64 1), .lit (.int .i64 1), .lit (.int .i64 1), .lit (.int .i64 1), .lit (.int .i64 1), .lit (.int .i64 1), .lit (.int .i64 1), .lit (.int .i64 (-1)), .lit (.int .i64 (-1)), .lit (.int .i64 (-1)), .lit (.int .i64 (-1)), .lit (.int .i64 (-1))]
def laid_lighterman_tables_matches {H : Type} : DataW H := .agg [.lit (.int .i64 1), .lit (.int .i64 4), .lit (.int .i64 3), .lit (.int .i64 2), .lit (.int .i64 2), .lit (.int .i64 2), .lit (.int .i64 2), .lit (.int .i64 2), .lit (.int .i64 2), .lit (.int .i64 1), .lit (.int .i64 1), .lit (.int .i64 1), .lit (.int .i64 1), .lit (.int .i64 1), .lit (.int .i64 1), .lit (.int .i64 1), .lit (.int .i64 1), .lit (.int .i64 1), .lit (.int .i64 1), .lit (.int .i64 1), .lit (.int .i64 1), .lit (.int .i64 1), .lit (.int .i64 1), .lit (.int .i64 1), .lit (.int .i64 1), .lit (.int .i64 1), .lit (.int .i64 1), .lit (.int .i64 1), .lit (.int .i64 1), .lit (.int .i64 1), .lit (.int .i64 1), .lit (.int .i64 1), .lit (.int .i64 1), .lit (.int .i64 1), .lit (.int .i64 1), .lit (.int .i64 1), .lit (.int .i64 1), .lit (.int .i64 1), .lit (.int .i64 1), .lit (.int .i64 1), .lit (.int .i64 1), .lit (.int .i64 1), .lit (.int .i64 1), .lit (.int .i64 1), .lit (.int .i64 1), .lit (.int .i64 1), .lit (.int .i64 (-1)), .lit (.int .i64 (-1)), .lit (.int .i64 (-1)), .lit (.int .i64 (-1)), .lit (.int .i64 (-1)), .lit (.int .i64 (-1)), .lit (.int .i64 (-1))]

/-- 'lightermanlaw16.DecodePlain': WHATEVER THE INPUT: true; the input reads as it did. -/
def decodePlainSpec : ChangeSpec := { name := "decodePlain", fn := fun _ => fun
  | [d1, d2, d3, d4, d5] => { results := [.lit (.bool true)], args := [d1, d2, d3, d4, d5] }
  | _ => none }
def decodePlainRow : OpenClaim := { program := "ythohephggmkeeaadoor", sum := "5ef24d68c6b7759e1fb6e0aa3d67aeb3b1300a0d735fed27c75caf5eeec636e1", func := "lighterman/lightermanlaw16.DecodePlain", spec := "decodePlain", unfollowed := true, recurses := true, named := ["lighterman/codes.literals", "lighterman/codes.matches", "lighterman/tables.literals", "lighterman/tables.offsets", "lighterman/tables.matches"], apart := false, laid := [("lighterman/codes.literals", laid_lighterman_codes_literals), ("lighterman/codes.matches", laid_lighterman_codes_matches), ("lighterman/tables.literals", laid_lighterman_tables_literals), ("lighterman/tables.offsets", laid_lighterman_tables_offsets), ("lighterman/tables.matches", laid_lighterman_tables_matches)] }
def DecodePlainSaid : Prop := decodePlainRow.holds Tryd.pinned (OpenSpec.ofChange decodePlainSpec)

/-- ITS FALSE NEIGHBOUR: 'it returns false'. Refute it at one input. -/
def decodePlainWrong : ChangeSpec := { name := "decodePlain", fn := fun _ => fun
  | [d1, d2, d3, d4, d5] => { results := [.lit (.bool false)], args := [d1, d2, d3, d4, d5] }
  | _ => none }
def DecodePlainWrongFalsely : Prop := decodePlainRow.holds Tryd.pinned (OpenSpec.ofChange decodePlainWrong)

/-- 'lightermanlaw16.DecodeRows': WHATEVER THE INPUT: true; the input reads as it did. -/
def decodeRowsSpec : ChangeSpec := { name := "decodeRows", fn := fun _ => fun
  | [d1, d2, d3] => { results := [.lit (.bool true)], args := [d1, d2, d3] }
  | _ => none }
def decodeRowsRow : OpenClaim := { program := "ythohephggmkeeaadoor", sum := "5ef24d68c6b7759e1fb6e0aa3d67aeb3b1300a0d735fed27c75caf5eeec636e1", func := "lighterman/lightermanlaw16.DecodeRows", spec := "decodeRows", unfollowed := true, recurses := true, named := ["lighterman/codes.literals", "lighterman/codes.matches", "lighterman/tables.literals", "lighterman/tables.offsets", "lighterman/tables.matches"], apart := false, laid := [("lighterman/codes.literals", laid_lighterman_codes_literals), ("lighterman/codes.matches", laid_lighterman_codes_matches), ("lighterman/tables.literals", laid_lighterman_tables_literals), ("lighterman/tables.offsets", laid_lighterman_tables_offsets), ("lighterman/tables.matches", laid_lighterman_tables_matches)] }
def DecodeRowsSaid : Prop := decodeRowsRow.holds Tryd.pinned (OpenSpec.ofChange decodeRowsSpec)

/-- ITS FALSE NEIGHBOUR: 'it returns false'. Refute it at one input. -/
def decodeRowsWrong : ChangeSpec := { name := "decodeRows", fn := fun _ => fun
  | [d1, d2, d3] => { results := [.lit (.bool false)], args := [d1, d2, d3] }
  | _ => none }
def DecodeRowsWrongFalsely : Prop := decodeRowsRow.holds Tryd.pinned (OpenSpec.ofChange decodeRowsWrong)

/-- 'lightermanlaw16.DecodeSame': WHATEVER THE INPUT: true; the input reads as it did. -/
def decodeSameSpec : ChangeSpec := { name := "decodeSame", fn := fun _ => fun
  | [d1, d2, d3] => { results := [.lit (.bool true)], args := [d1, d2, d3] }
  | _ => none }
def decodeSameRow : OpenClaim := { program := "ythohephggmkeeaadoor", sum := "5ef24d68c6b7759e1fb6e0aa3d67aeb3b1300a0d735fed27c75caf5eeec636e1", func := "lighterman/lightermanlaw16.DecodeSame", spec := "decodeSame", unfollowed := true, recurses := true, named := ["lighterman/codes.literals", "lighterman/codes.matches", "lighterman/tables.literals", "lighterman/tables.offsets", "lighterman/tables.matches"], apart := false, laid := [("lighterman/codes.literals", laid_lighterman_codes_literals), ("lighterman/codes.matches", laid_lighterman_codes_matches), ("lighterman/tables.literals", laid_lighterman_tables_literals), ("lighterman/tables.offsets", laid_lighterman_tables_offsets), ("lighterman/tables.matches", laid_lighterman_tables_matches)] }
def DecodeSameSaid : Prop := decodeSameRow.holds Tryd.pinned (OpenSpec.ofChange decodeSameSpec)

/-- ITS FALSE NEIGHBOUR: 'it returns false'. Refute it at one input. -/
def decodeSameWrong : ChangeSpec := { name := "decodeSame", fn := fun _ => fun
  | [d1, d2, d3] => { results := [.lit (.bool false)], args := [d1, d2, d3] }
  | _ => none }
def DecodeSameWrongFalsely : Prop := decodeSameRow.holds Tryd.pinned (OpenSpec.ofChange decodeSameWrong)

/-- 'lightermanlaw16.DecodeSkips': WHATEVER THE INPUT: true; the input reads as it did. -/
def decodeSkipsSpec : ChangeSpec := { name := "decodeSkips", fn := fun _ => fun
  | [d1, d2, d3] => { results := [.lit (.bool true)], args := [d1, d2, d3] }
  | _ => none }
def decodeSkipsRow : OpenClaim := { program := "ythohephggmkeeaadoor", sum := "5ef24d68c6b7759e1fb6e0aa3d67aeb3b1300a0d735fed27c75caf5eeec636e1", func := "lighterman/lightermanlaw16.DecodeSkips", spec := "decodeSkips", unfollowed := true, recurses := true, named := ["lighterman/codes.literals", "lighterman/codes.matches", "lighterman/tables.literals", "lighterman/tables.offsets", "lighterman/tables.matches"], apart := false, laid := [("lighterman/codes.literals", laid_lighterman_codes_literals), ("lighterman/codes.matches", laid_lighterman_codes_matches), ("lighterman/tables.literals", laid_lighterman_tables_literals), ("lighterman/tables.offsets", laid_lighterman_tables_offsets), ("lighterman/tables.matches", laid_lighterman_tables_matches)] }
def DecodeSkipsSaid : Prop := decodeSkipsRow.holds Tryd.pinned (OpenSpec.ofChange decodeSkipsSpec)

/-- ITS FALSE NEIGHBOUR: 'it returns false'. Refute it at one input. -/
def decodeSkipsWrong : ChangeSpec := { name := "decodeSkips", fn := fun _ => fun
  | [d1, d2, d3] => { results := [.lit (.bool false)], args := [d1, d2, d3] }
  | _ => none }
def DecodeSkipsWrongFalsely : Prop := decodeSkipsRow.holds Tryd.pinned (OpenSpec.ofChange decodeSkipsWrong)

/- THE SECOND FORM. 'bulk': how many values and letters a reading holds, each counted each time it is reached (what is shared counts as often as it is met; a slice's spare places count too). A statement '..UptoSaid' is the law's where the arguments, and the package variables that the reading takes, are together of bulk at most 1048576: NARROWER than '..Said'. Prove '..Said' where nothing that the law and all that it calls make is longer than what came in: it says more and counts as full. Else prove '..UptoSaid'. A law counts once. -/
mutual
def uptoBulk {H : Type} : DataW H → Nat
  | .lit (.string bytes) => bytes.length + 1
  | .lit _ => 1
  | .nil => 1
  | .ptr d => uptoBulk d + 1
  | .slice elems spare => uptoBulkAll elems + uptoBulkAll spare + 1
  | .agg parts => uptoBulkAll parts + 1
  | .iface _ d => uptoBulk d + 1
  | .map entries => uptoBulkEntries entries + 1
  | .held _ => 1
def uptoBulkAll {H : Type} : List (DataW H) → Nat
  | [] => 0
  | d :: r => uptoBulk d + uptoBulkAll r
def uptoBulkEntries {H : Type} : List (Lit × DataW H) → Nat
  | [] => 0
  | x :: r => uptoBulkEntry x + uptoBulkEntries r
def uptoBulkEntry {H : Type} : Lit × DataW H → Nat
  | (.string bytes, d) => bytes.length + uptoBulk d + 1
  | (_, d) => uptoBulk d + 1
 end
def uptoSmall : (H : Type) → List (DataW H) → Bool := fun _ ds => decide (uptoBulkAll ds ≤ 1048576)
def OpenSpec.upto (s : _root_.Go.ChangeSpec) : _root_.Go.OpenSpec := { _root_.Go.OpenSpec.ofChange s with cond := some uptoSmall }

/-- 'lightermanlaw16.DecodePlain', WHERE WHAT IT READS IS OF BULK AT MOST 1048576: true; the input reads as it did. -/
def decodePlainUptoRow : OpenClaim := { program := "ythohephggmkeeaadoor", sum := "5ef24d68c6b7759e1fb6e0aa3d67aeb3b1300a0d735fed27c75caf5eeec636e1", func := "lighterman/lightermanlaw16.DecodePlain", spec := "decodePlain", unfollowed := true, recurses := true, named := ["lighterman/codes.literals", "lighterman/codes.matches", "lighterman/tables.literals", "lighterman/tables.offsets", "lighterman/tables.matches"], apart := false, laid := [("lighterman/codes.literals", laid_lighterman_codes_literals), ("lighterman/codes.matches", laid_lighterman_codes_matches), ("lighterman/tables.literals", laid_lighterman_tables_literals), ("lighterman/tables.offsets", laid_lighterman_tables_offsets), ("lighterman/tables.matches", laid_lighterman_tables_matches)], narrowed := true }
def DecodePlainUptoSaid : Prop := decodePlainUptoRow.holds Tryd.pinned (OpenSpec.upto decodePlainSpec)

/-- 'lightermanlaw16.DecodeRows', WHERE WHAT IT READS IS OF BULK AT MOST 1048576: true; the input reads as it did. -/
def decodeRowsUptoRow : OpenClaim := { program := "ythohephggmkeeaadoor", sum := "5ef24d68c6b7759e1fb6e0aa3d67aeb3b1300a0d735fed27c75caf5eeec636e1", func := "lighterman/lightermanlaw16.DecodeRows", spec := "decodeRows", unfollowed := true, recurses := true, named := ["lighterman/codes.literals", "lighterman/codes.matches", "lighterman/tables.literals", "lighterman/tables.offsets", "lighterman/tables.matches"], apart := false, laid := [("lighterman/codes.literals", laid_lighterman_codes_literals), ("lighterman/codes.matches", laid_lighterman_codes_matches), ("lighterman/tables.literals", laid_lighterman_tables_literals), ("lighterman/tables.offsets", laid_lighterman_tables_offsets), ("lighterman/tables.matches", laid_lighterman_tables_matches)], narrowed := true }
def DecodeRowsUptoSaid : Prop := decodeRowsUptoRow.holds Tryd.pinned (OpenSpec.upto decodeRowsSpec)

/-- 'lightermanlaw16.DecodeSame', WHERE WHAT IT READS IS OF BULK AT MOST 1048576: true; the input reads as it did. -/
def decodeSameUptoRow : OpenClaim := { program := "ythohephggmkeeaadoor", sum := "5ef24d68c6b7759e1fb6e0aa3d67aeb3b1300a0d735fed27c75caf5eeec636e1", func := "lighterman/lightermanlaw16.DecodeSame", spec := "decodeSame", unfollowed := true, recurses := true, named := ["lighterman/codes.literals", "lighterman/codes.matches", "lighterman/tables.literals", "lighterman/tables.offsets", "lighterman/tables.matches"], apart := false, laid := [("lighterman/codes.literals", laid_lighterman_codes_literals), ("lighterman/codes.matches", laid_lighterman_codes_matches), ("lighterman/tables.literals", laid_lighterman_tables_literals), ("lighterman/tables.offsets", laid_lighterman_tables_offsets), ("lighterman/tables.matches", laid_lighterman_tables_matches)], narrowed := true }
def DecodeSameUptoSaid : Prop := decodeSameUptoRow.holds Tryd.pinned (OpenSpec.upto decodeSameSpec)

/-- 'lightermanlaw16.DecodeSkips', WHERE WHAT IT READS IS OF BULK AT MOST 1048576: true; the input reads as it did. -/
def decodeSkipsUptoRow : OpenClaim := { program := "ythohephggmkeeaadoor", sum := "5ef24d68c6b7759e1fb6e0aa3d67aeb3b1300a0d735fed27c75caf5eeec636e1", func := "lighterman/lightermanlaw16.DecodeSkips", spec := "decodeSkips", unfollowed := true, recurses := true, named := ["lighterman/codes.literals", "lighterman/codes.matches", "lighterman/tables.literals", "lighterman/tables.offsets", "lighterman/tables.matches"], apart := false, laid := [("lighterman/codes.literals", laid_lighterman_codes_literals), ("lighterman/codes.matches", laid_lighterman_codes_matches), ("lighterman/tables.literals", laid_lighterman_tables_literals), ("lighterman/tables.offsets", laid_lighterman_tables_offsets), ("lighterman/tables.matches", laid_lighterman_tables_matches)], narrowed := true }
def DecodeSkipsUptoSaid : Prop := decodeSkipsUptoRow.holds Tryd.pinned (OpenSpec.upto decodeSkipsSpec)

end Rows
end Go.Proofs.YthohephggmkeeaaDoor
