/-
  NARROWER THAN 'FOR EVERY INPUT', by the rows' own cells (each row's printed sentence says how): SequencesMany: laid · SequencesWrites: laid · SequencesSame: laid · SequencesCut: laid.
  DERIVED. THE GIVEN ROWS OF THIS SEAT. 4 by the template 'for every input the law returns true; each argument reads behind the call as it read before'; 0 by the template 'total and deterministic' (their statements: YtaggdjhhmbnhoaaDoorTotals.lean).
  GIVEN WITH THE SEED: the statements are not yours to turn. If you find one false, say at which input.
  Laid BY PROGRAM, IN A SANDBOX (cutbox-rows.mjs): the forced cells as the released guide's own fill.sh prints them over the translation 20a25aed7f74fccd… (all of the seat's roots in one cut). By AI agents, Wed Nov 11 2026. No macro, syntax, notation, axiom, sorry.
-/
import Derived.Test.YtaggdjhhmbnhoaaDoorChecked
import GoSem.Claim
import GoSem.ClaimJoined
import GoSem.ClaimMapViews
import Derived.JoinedTies
import Derived.KernelRfl
namespace Go.Proofs.YtaggdjhhmbnhoaaDoor
/- THE CELL 'sum', in the pinned program and in every row, IS THE sha256 OF THE DUMP (.gsa) THAT YtaggdjhhmbnhoaaDoorProg.lean LOADS. Nothing in Lean hashes anything: it is a label: what it is worth is what the hold of that sum in a sandbox is worth. -/
noncomputable def Tryd.pinned : Pinned := { name := "ytaggdjhhmbnhoaadoor", sum := "20a25aed7f74fccd7fa6dc9a478ff2bcd038ef1ff1422392e2afe7c0948a6e38", checked := Tryd.checked }
namespace Rows
def none {H : Type} : Left H := { results := [], args := [] }

/- WHAT THE LISTED PACKAGE-LEVEL VARIABLES READ AS WHEN THE CALL BEGINS. Each datum BY PROGRAM (the guide's laid-datum.mjs) off the statement by which the dump's own 'gosem.cut.vars' lays the variable. In a bare row this is a premise. The card (YtaggdjhhmbnhoaaDoorCards.lean) ties it to the program's text. -/
def laid_lighterman_codes_literals {H : Type} : DataW H := .agg [.lit (.int .i64 1), .lit (.int .i64 1), .lit (.int .i64 1), .lit (.int .i64 1), .lit (.int .i64 2), .lit (.int .i64 2), .lit (.int .i64 3), .lit (.int .i64 3), .lit (.int .i64 4), .lit (.int .i64 6), .lit (.int .i64 7), .lit (.int .i64 8), .lit (.int .i64 9), .lit (.int .i64 10), .lit (.int .i64 11), .lit (.int .i64 12), .lit (.int .i64 13), .lit (.int .i64 14), .lit (.int .i64 15), .lit (.int .i64 16)]
def laid_lighterman_codes_matches {H : Type} : DataW H := .agg [.lit (.int .i64 1), .lit (.int .i64 1), .lit (.int .i64 1), .lit (.int .i64 1), .lit (.int .i64 2), .lit (.int .i64 2), .lit (.int .i64 3), .lit (.int .i64 3), .lit (.int .i64 4), .lit (.int .i64 4), .lit (.int .i64 5), .lit (.int .i64 7), .lit (.int .i64 8), .lit (.int .i64 9), .lit (.int .i64 10), .lit (.int .i64 11), .lit (.int .i64 12), .lit (.int .i64 13), .lit (.int .i64 14), .lit (.int .i64 15), .lit (.int .i64 16)]
def laid_lighterman_tables_literals {H : Type} : DataW H := .agg [.lit (.int .i64 4), .lit (.int .i64 3), .lit (.int .i64 2), .lit (.int .i64 2), .lit (.int .i64 2), .lit (.int .i64 2), .lit (.int .i64 2), .lit (.int .i64 2), .lit (.int .i64 2), .lit (.int .i64 2), .lit (.int .i64 2), .lit (.int .i64 2), .lit (.int .i64 2), .lit (.int .i64 1), .lit (.int .i64 1), .lit (.int .i64 1), .lit (.int .i64 2), .lit (.int .i64 2), .lit (.int .i64 2), .lit (.int .i64 2), .lit (.int .i64 2), .lit (.int .i64 2), .lit (.int .i64 2), .lit (.int .i64 2), .lit (.int .i64 2), .lit (.int .i64 3), .lit (.int .i64 2), .lit (.int .i64 1), .lit (.int .i64 1), .lit (.int .i64 1), .lit (.int .i64 1), .lit (.int .i64 1), .lit (.int .i64 (-1)), .lit (.int .i64 (-1)), .lit (.int .i64 (-1)), .lit (.int .i64 (-1))]
def laid_lighterman_tables_offsets {H : Type} : DataW H := .agg [.lit (.int .i64 1), .lit (.int .i64 1), .lit (.int .i64 1), .lit (.int .i64 1), .lit (.int .i64 1), .lit (.int .i64 1), .lit (.int .i64 2), .lit (.int .i64 2), .lit (.int .i64 2), .lit (.int .i64 1), .lit (.int .i64 1), .lit (.int .i64 1), .lit (.int .i64 1), .lit (.int .i64 1), .lit (.int .i64 1), .lit (.int .i64 1), .lit (.int .i64 1), .lit (.int .i64 1), .lit (.int .i64 1), .lit (.int .i64 1), .lit (.int .i64 1), .lit (.int .i64 1), .lit (.int .i64 1), .lit (.int .i64 1), .lit (.int .i64 (-1)), .lit (.int .i64 (-1)), .lit (.int .i64 (-1)), .lit (.int .i64 (-1)), .lit (.int .i64 (-1))]
def laid_lighterman_tables_matches {H : Type} : DataW H := .agg [.lit (.int .i64 1), .lit (.int .i64 4), .lit (.int .i64 3), .lit (.int .i64 2), .lit (.int .i64 2), .lit (.int .i64 2), .lit (.int .i64 2), .lit (.int .i64 2), .lit (.int .i64 2), .lit (.int .i64 1), .lit (.int .i64 1), .lit (.int .i64 1), .lit (.int .i64 1), .lit (.int .i64 1), .lit (.int .i64 1), .lit (.int .i64 1), .lit (.int .i64 1), .lit (.int .i64 1), .lit (.int .i64 1), .lit (.int .i64 1), .lit (.int .i64 1), .lit (.int .i64 1), .lit (.int .i64 1), .lit (.int .i64 1), .lit (.int .i64 1), .lit (.int .i64 1), .lit (.int .i64 1), .lit (.int .i64 1), .lit (.int .i64 1), .lit (.int .i64 1), .lit (.int .i64 1), .lit (.int .i64 1), .lit (.int .i64 1), .lit (.int .i64 1), .lit (.int .i64 1), .lit (.int .i64 1), .lit (.int .i64 1), .lit (.int .i64 1), .lit (.int .i64 1), .lit (.int .i64 1), .lit (.int .i64 1), .lit (.int .i64 1), .lit (.int .i64 1), .lit (.int .i64 1), .lit (.int .i64 1), .lit (.int .i64 1), .lit (.int .i64 (-1)), .lit (.int .i64 (-1)), .lit (.int .i64 (-1)), .lit (.int .i64 (-1)), .lit (.int .i64 (-1)), .lit (.int .i64 (-1)), .lit (.int .i64 (-1))]

/-- 'lightermanlaw13.SequencesMany': WHATEVER THE INPUT: true; the input reads as it did. -/
def sequencesManySpec : ChangeSpec := { name := "sequencesMany", fn := fun _ => fun
  | [d1, d2] => { results := [.lit (.bool true)], args := [d1, d2] }
  | _ => none }
def sequencesManyRow : OpenClaim := { program := "ytaggdjhhmbnhoaadoor", sum := "20a25aed7f74fccd7fa6dc9a478ff2bcd038ef1ff1422392e2afe7c0948a6e38", func := "lighterman/lightermanlaw13.SequencesMany", spec := "sequencesMany", named := ["lighterman/codes.literals", "lighterman/codes.matches", "lighterman/tables.literals", "lighterman/tables.offsets", "lighterman/tables.matches"], apart := false, laid := [("lighterman/codes.literals", laid_lighterman_codes_literals), ("lighterman/codes.matches", laid_lighterman_codes_matches), ("lighterman/tables.literals", laid_lighterman_tables_literals), ("lighterman/tables.offsets", laid_lighterman_tables_offsets), ("lighterman/tables.matches", laid_lighterman_tables_matches)] }
def SequencesManySaid : Prop := sequencesManyRow.holds Tryd.pinned (OpenSpec.ofChange sequencesManySpec)

/-- ITS FALSE NEIGHBOUR: 'it returns false'. Refute it at one input. -/
def sequencesManyWrong : ChangeSpec := { name := "sequencesMany", fn := fun _ => fun
  | [d1, d2] => { results := [.lit (.bool false)], args := [d1, d2] }
  | _ => none }
def SequencesManyWrongFalsely : Prop := sequencesManyRow.holds Tryd.pinned (OpenSpec.ofChange sequencesManyWrong)

/-- 'lightermanlaw13.SequencesWrites': WHATEVER THE INPUT: true; the input reads as it did. -/
def sequencesWritesSpec : ChangeSpec := { name := "sequencesWrites", fn := fun _ => fun
  | [d1, d2, d3] => { results := [.lit (.bool true)], args := [d1, d2, d3] }
  | _ => none }
def sequencesWritesRow : OpenClaim := { program := "ytaggdjhhmbnhoaadoor", sum := "20a25aed7f74fccd7fa6dc9a478ff2bcd038ef1ff1422392e2afe7c0948a6e38", func := "lighterman/lightermanlaw13.SequencesWrites", spec := "sequencesWrites", named := ["lighterman/codes.literals", "lighterman/codes.matches", "lighterman/tables.literals", "lighterman/tables.offsets", "lighterman/tables.matches"], apart := false, laid := [("lighterman/codes.literals", laid_lighterman_codes_literals), ("lighterman/codes.matches", laid_lighterman_codes_matches), ("lighterman/tables.literals", laid_lighterman_tables_literals), ("lighterman/tables.offsets", laid_lighterman_tables_offsets), ("lighterman/tables.matches", laid_lighterman_tables_matches)] }
def SequencesWritesSaid : Prop := sequencesWritesRow.holds Tryd.pinned (OpenSpec.ofChange sequencesWritesSpec)

/-- ITS FALSE NEIGHBOUR: 'it returns false'. Refute it at one input. -/
def sequencesWritesWrong : ChangeSpec := { name := "sequencesWrites", fn := fun _ => fun
  | [d1, d2, d3] => { results := [.lit (.bool false)], args := [d1, d2, d3] }
  | _ => none }
def SequencesWritesWrongFalsely : Prop := sequencesWritesRow.holds Tryd.pinned (OpenSpec.ofChange sequencesWritesWrong)

/-- 'lightermanlaw13.SequencesSame': WHATEVER THE INPUT: true; the input reads as it did. -/
def sequencesSameSpec : ChangeSpec := { name := "sequencesSame", fn := fun _ => fun
  | [d1, d2] => { results := [.lit (.bool true)], args := [d1, d2] }
  | _ => none }
def sequencesSameRow : OpenClaim := { program := "ytaggdjhhmbnhoaadoor", sum := "20a25aed7f74fccd7fa6dc9a478ff2bcd038ef1ff1422392e2afe7c0948a6e38", func := "lighterman/lightermanlaw13.SequencesSame", spec := "sequencesSame", named := ["lighterman/codes.literals", "lighterman/codes.matches", "lighterman/tables.literals", "lighterman/tables.offsets", "lighterman/tables.matches"], apart := false, laid := [("lighterman/codes.literals", laid_lighterman_codes_literals), ("lighterman/codes.matches", laid_lighterman_codes_matches), ("lighterman/tables.literals", laid_lighterman_tables_literals), ("lighterman/tables.offsets", laid_lighterman_tables_offsets), ("lighterman/tables.matches", laid_lighterman_tables_matches)] }
def SequencesSameSaid : Prop := sequencesSameRow.holds Tryd.pinned (OpenSpec.ofChange sequencesSameSpec)

/-- ITS FALSE NEIGHBOUR: 'it returns false'. Refute it at one input. -/
def sequencesSameWrong : ChangeSpec := { name := "sequencesSame", fn := fun _ => fun
  | [d1, d2] => { results := [.lit (.bool false)], args := [d1, d2] }
  | _ => none }
def SequencesSameWrongFalsely : Prop := sequencesSameRow.holds Tryd.pinned (OpenSpec.ofChange sequencesSameWrong)

/-- 'lightermanlaw13.SequencesCut': WHATEVER THE INPUT: true; the input reads as it did. -/
def sequencesCutSpec : ChangeSpec := { name := "sequencesCut", fn := fun _ => fun
  | [d1, d2, d3] => { results := [.lit (.bool true)], args := [d1, d2, d3] }
  | _ => none }
def sequencesCutRow : OpenClaim := { program := "ytaggdjhhmbnhoaadoor", sum := "20a25aed7f74fccd7fa6dc9a478ff2bcd038ef1ff1422392e2afe7c0948a6e38", func := "lighterman/lightermanlaw13.SequencesCut", spec := "sequencesCut", named := ["lighterman/codes.literals", "lighterman/codes.matches", "lighterman/tables.literals", "lighterman/tables.offsets", "lighterman/tables.matches"], apart := false, laid := [("lighterman/codes.literals", laid_lighterman_codes_literals), ("lighterman/codes.matches", laid_lighterman_codes_matches), ("lighterman/tables.literals", laid_lighterman_tables_literals), ("lighterman/tables.offsets", laid_lighterman_tables_offsets), ("lighterman/tables.matches", laid_lighterman_tables_matches)] }
def SequencesCutSaid : Prop := sequencesCutRow.holds Tryd.pinned (OpenSpec.ofChange sequencesCutSpec)

/-- ITS FALSE NEIGHBOUR: 'it returns false'. Refute it at one input. -/
def sequencesCutWrong : ChangeSpec := { name := "sequencesCut", fn := fun _ => fun
  | [d1, d2, d3] => { results := [.lit (.bool false)], args := [d1, d2, d3] }
  | _ => none }
def SequencesCutWrongFalsely : Prop := sequencesCutRow.holds Tryd.pinned (OpenSpec.ofChange sequencesCutWrong)

/- THE SECOND FORM. 'bulk': how many values and letters a reading holds, each counted each time it is reached (what is shared counts as often as it is met; a slice's spare places count too). A statement '..UptoSaid' is the law's where the arguments, and the package variables that the reading takes, are together of bulk at most 1048576: NARROWER than '..Said'. Prove '..Said' where nothing that the law and all that it calls make is longer than what came in: it says more and counts as full. Else prove '..UptoSaid'. A law counts once. -/
mutual
def uptoBulk {H : Type} : DataW H → Nat
  | .lit (.string bytes) => bytes.length + 1
  | .lit _ => 1
  | .nil => 1
  | .ptr d => uptoBulk d + 1
  | .slice elems spare => uptoBulkAll elems + uptoBulkAll spare + 1
  | .agg parts => uptoBulkAll parts + 1
  | .iface _ d => uptoBulk d + 1
  | .map entries => uptoBulkEntries entries + 1
  | .held _ => 1
def uptoBulkAll {H : Type} : List (DataW H) → Nat
  | [] => 0
  | d :: r => uptoBulk d + uptoBulkAll r
def uptoBulkEntries {H : Type} : List (Lit × DataW H) → Nat
  | [] => 0
  | x :: r => uptoBulkEntry x + uptoBulkEntries r
def uptoBulkEntry {H : Type} : Lit × DataW H → Nat
  | (.string bytes, d) => bytes.length + uptoBulk d + 1
  | (_, d) => uptoBulk d + 1
 end
def uptoSmall : (H : Type) → List (DataW H) → Bool := fun _ ds => decide (uptoBulkAll ds ≤ 1048576)
def OpenSpec.upto (s : _root_.Go.ChangeSpec) : _root_.Go.OpenSpec := { _root_.Go.OpenSpec.ofChange s with cond := some uptoSmall }

/-- 'lightermanlaw13.SequencesMany', WHERE WHAT IT READS IS OF BULK AT MOST 1048576: true; the input reads as it did. -/
def sequencesManyUptoRow : OpenClaim := { program := "ytaggdjhhmbnhoaadoor", sum := "20a25aed7f74fccd7fa6dc9a478ff2bcd038ef1ff1422392e2afe7c0948a6e38", func := "lighterman/lightermanlaw13.SequencesMany", spec := "sequencesMany", named := ["lighterman/codes.literals", "lighterman/codes.matches", "lighterman/tables.literals", "lighterman/tables.offsets", "lighterman/tables.matches"], apart := false, laid := [("lighterman/codes.literals", laid_lighterman_codes_literals), ("lighterman/codes.matches", laid_lighterman_codes_matches), ("lighterman/tables.literals", laid_lighterman_tables_literals), ("lighterman/tables.offsets", laid_lighterman_tables_offsets), ("lighterman/tables.matches", laid_lighterman_tables_matches)], narrowed := true }
def SequencesManyUptoSaid : Prop := sequencesManyUptoRow.holds Tryd.pinned (OpenSpec.upto sequencesManySpec)

/-- 'lightermanlaw13.SequencesWrites', WHERE WHAT IT READS IS OF BULK AT MOST 1048576: true; the input reads as it did. -/
def sequencesWritesUptoRow : OpenClaim := { program := "ytaggdjhhmbnhoaadoor", sum := "20a25aed7f74fccd7fa6dc9a478ff2bcd038ef1ff1422392e2afe7c0948a6e38", func := "lighterman/lightermanlaw13.SequencesWrites", spec := "sequencesWrites", named := ["lighterman/codes.literals", "lighterman/codes.matches", "lighterman/tables.literals", "lighterman/tables.offsets", "lighterman/tables.matches"], apart := false, laid := [("lighterman/codes.literals", laid_lighterman_codes_literals), ("lighterman/codes.matches", laid_lighterman_codes_matches), ("lighterman/tables.literals", laid_lighterman_tables_literals), ("lighterman/tables.offsets", laid_lighterman_tables_offsets), ("lighterman/tables.matches", laid_lighterman_tables_matches)], narrowed := true }
def SequencesWritesUptoSaid : Prop := sequencesWritesUptoRow.holds Tryd.pinned (OpenSpec.upto sequencesWritesSpec)

/-- 'lightermanlaw13.SequencesSame', WHERE WHAT IT READS IS OF BULK AT MOST 1048576: true; the input reads as it did. -/
def sequencesSameUptoRow : OpenClaim := { program := "ytaggdjhhmbnhoaadoor", sum := "20a25aed7f74fccd7fa6dc9a478ff2bcd038ef1ff1422392e2afe7c0948a6e38", func := "lighterman/lightermanlaw13.SequencesSame", spec := "sequencesSame", named := ["lighterman/codes.literals", "lighterman/codes.matches", "lighterman/tables.literals", "lighterman/tables.offsets", "lighterman/tables.matches"], apart := false, laid := [("lighterman/codes.literals", laid_lighterman_codes_literals), ("lighterman/codes.matches", laid_lighterman_codes_matches), ("lighterman/tables.literals", laid_lighterman_tables_literals), ("lighterman/tables.offsets", laid_lighterman_tables_offsets), ("lighterman/tables.matches", laid_lighterman_tables_matches)], narrowed := true }
def SequencesSameUptoSaid : Prop := sequencesSameUptoRow.holds Tryd.pinned (OpenSpec.upto sequencesSameSpec)

/-- 'lightermanlaw13.SequencesCut', WHERE WHAT IT READS IS OF BULK AT MOST 1048576: true; the input reads as it did. -/
def sequencesCutUptoRow : OpenClaim := { program := "ytaggdjhhmbnhoaadoor", sum := "20a25aed7f74fccd7fa6dc9a478ff2bcd038ef1ff1422392e2afe7c0948a6e38", func := "lighterman/lightermanlaw13.SequencesCut", spec := "sequencesCut", named := ["lighterman/codes.literals", "lighterman/codes.matches", "lighterman/tables.literals", "lighterman/tables.offsets", "lighterman/tables.matches"], apart := false, laid := [("lighterman/codes.literals", laid_lighterman_codes_literals), ("lighterman/codes.matches", laid_lighterman_codes_matches), ("lighterman/tables.literals", laid_lighterman_tables_literals), ("lighterman/tables.offsets", laid_lighterman_tables_offsets), ("lighterman/tables.matches", laid_lighterman_tables_matches)], narrowed := true }
def SequencesCutUptoSaid : Prop := sequencesCutUptoRow.holds Tryd.pinned (OpenSpec.upto sequencesCutSpec)

end Rows
end Go.Proofs.YtaggdjhhmbnhoaaDoor
