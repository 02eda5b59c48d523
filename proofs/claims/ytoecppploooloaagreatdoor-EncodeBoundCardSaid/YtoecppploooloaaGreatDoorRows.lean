/-
  NARROWER THAN 'FOR EVERY INPUT', by the rows' own cells (each row's printed sentence says how): EncodeBound: laid · EncodeSame: laid · ChunkSpans: laid · ChunkWhole: laid · ChunkSame: laid.
  DERIVED. THE GIVEN ROWS OF THIS SEAT. 5 by the template 'for every input the law returns true; each argument reads behind the call as it read before'; 0 by the template 'total and deterministic' (their statements: YtoecppploooloaaGreatDoorTotals.lean).
  GIVEN WITH THE SEED: the statements are not yours to turn. If you find one false, say at which input.
  Laid BY PROGRAM, IN A SANDBOX (cutbox-rows.mjs): the forced cells as the released guide's own fill.sh prints them over the translation 3137b41493659a96… (all of the seat's roots in one cut). By AI agents, Wed Nov 11 2026. No macro, syntax, notation, axiom, sorry.
-/
import Derived.Test.YtoecppploooloaaGreatDoorChecked
import GoSem.Claim
import GoSem.ClaimJoined
import GoSem.ClaimMapViews
import Derived.JoinedTies
import Derived.KernelRfl
namespace Go.Proofs.YtoecppploooloaaGreatDoor
/- THE CELL 'sum', in the pinned program and in every row, IS THE sha256 OF THE DUMP (.gsa) THAT YtoecppploooloaaGreatDoorProg.lean LOADS. Nothing in Lean hashes anything: it is a label: what it is worth is what the hold of that sum in a sandbox is worth. -/
noncomputable def Tryz.pinned : Pinned := { name := "ytoecppploooloaagreatdoor", sum := "3137b41493659a96571de01de6981274f4b1c4aa7197696976ddd331e6017567", checked := Tryz.checked }
namespace Rows
def none {H : Type} : Left H := { results := [], args := [] }

/- WHAT THE LISTED PACKAGE-LEVEL VARIABLES READ AS WHEN THE CALL BEGINS. Each datum BY PROGRAM (the guide's laid-datum.mjs) off the statement by which the dump's own 'gosem.cut.vars' lays the variable. In a bare row this is a premise. The card (YtoecppploooloaaGreatDoorCards.lean) ties it to the program's text. -/
def laid_lighterman_codes_literals {H : Type} : DataW H := .agg [.lit (.int .i64 1), .lit (.int .i64 1), .lit (.int .i64 1), .lit (.int .i64 1), .lit (.int .i64 2), .lit (.int .i64 2), .lit (.int .i64 3), .lit (.int .i64 3), .lit (.int .i64 4), .lit (.int .i64 6), .lit (.int .i64 7), .lit (.int .i64 8), .lit (.int .i64 9), .lit (.int .i64 10), .lit (.int .i64 11), .lit (.int .i64 12), .lit (.int .i64 13), .lit (.int .i64 14), .lit (.int .i64 15), .lit (.int .i64 16)]
def laid_lighterman_codes_matches {H : Type} : DataW H := .agg [.lit (.int .i64 1), .lit (.int .i64 1), .lit (.int .i64 1), .lit (.int .i64 1), .lit (.int .i64 2), .lit (.int .i64 2), .lit (.int .i64 3), .lit (.int .i64 3), .lit (.int .i64 4), .lit (.int .i64 4), .lit (.int .i64 5), .lit (.int .i64 7), .lit (.int .i64 8), .lit (.int .i64 9), .lit (.int .i64 10), .lit (.int .i64 11), .lit (.int .i64 12), .lit (.int .i64 13), .lit (.int .i64 14), .lit (.int .i64 15), .lit (.int .i64 16)]
def laid_lighterman_tables_literals {H : Type} : DataW H := .agg [.lit (.int .i64 4), .lit (.int .i64 3), .lit (.int .i64 2), .lit (.int .i64 2), .lit (.int .i64 2), .lit (.int .i64 2), .lit (.int .i64 2), .lit (.int .i64 2), .lit (.int .i64 2), .lit (.int .i64 2), .lit (.int .i64 2), .lit (.int .i64 2), .lit (.int .i64 2), .lit (.int .i64 1), .lit (.int .i64 1), .lit (.int .i64 1), .lit (.int .i64 2), .lit (.int .i64 2), .lit (.int .i64 2), .lit (.int .i64 2), .lit (.int .i64 2), .lit (.int .i64 2), .lit (.int .i64 2), .lit (.int .i64 2), .lit (.int .i64 2), .lit (.int .i64 3), .lit (.int .i64 2), .lit (.int .i64 1), .lit (.int .i64 1), .lit (.int .i64 1), .lit (.int .i64 1), .lit (.int .i64 1), .lit (.int .i64 (-1)), .lit (.int .i64 (-1)), .lit (.int .i64 (-1)), .lit (.int .i64 (-1))]
def laid_lighterman_tables_offsets {H : Type} : DataW H := .agg [.lit (.int .i64 1), .lit (.int .i64 1), .lit (.int .i64 1), .lit (.int .i64 1), .lit (.int .i64 1), .lit (.int .i64 1), .lit (.int .i64 2), .lit (.int .i64 2), .lit (.int .i64 2), .lit (.int .i64 1), .lit (.int .i64 1), .lit (.int .i64 1), .lit (.int .i64 1), .lit (.int .i64 1), .lit (.int .i64 1), .lit (.int .i64 1), .lit (.int .i64 1), .lit (.int .i64 1), .lit (.int .i64 1), .lit (.int .i64 1), .lit (.int .i64 1), .lit (.int .i64 1), .lit (.int .i64 1), .lit (.int .i64 1), .lit (.int .i64 (-1)), .lit (.int .i64 (-1)), .lit (.int .i64 (-1)), .lit (.int .i64 (-1)), .lit (.int .i64 (-1))]
def laid_lighterman_tables_matches {H : Type} : DataW H := .agg [.lit (.int .i64 1), .lit (.int .i64 4), .lit (.int .i64 3), .lit (.int .i64 2), .lit (.int .i64 2), .lit (.int .i64 2), .lit (.int .i64 2), .lit (.int .i64 2), .lit (.int .i64 2), .lit (.int .i64 1), .lit (.int .i64 1), .lit (.int .i64 1), .lit (.int .i64 1), .lit (.int .i64 1), .lit (.int .i64 1), .lit (.int .i64 1), .lit (.int .i64 1), .lit (.int .i64 1), .lit (.int .i64 1), .lit (.int .i64 1), .lit (.int .i64 1), .lit (.int .i64 1), .lit (.int .i64 1), .lit (.int .i64 1), .lit (.int .i64 1), .lit (.int .i64 1), .lit (.int .i64 1), .lit (.int .i64 1), .lit (.int .i64 1), .lit (.int .i64 1), .lit (.int .i64 1), .lit (.int .i64 1), .lit (.int .i64 1), .lit (.int .i64 1), .lit (.int .i64 1), .lit (.int .i64 1), .lit (.int .i64 1), .lit (.int .i64 1), .lit (.int .i64 1), .lit (.int .i64 1), .lit (.int .i64 1), .lit (.int .i64 1), .lit (.int .i64 1), .lit (.int .i64 1), .lit (.int .i64 1), .lit (.int .i64 1), .lit (.int .i64 (-1)), .lit (.int .i64 (-1)), .lit (.int .i64 (-1)), .lit (.int .i64 (-1)), .lit (.int .i64 (-1)), .lit (.int .i64 (-1)), .lit (.int .i64 (-1))]

/-- 'lightermanlaw18.EncodeBound': WHATEVER THE INPUT: true; the input reads as it did. -/
def encodeBoundSpec : ChangeSpec := { name := "encodeBound", fn := fun _ => fun
  | [d1, d2, d3] => { results := [.lit (.bool true)], args := [d1, d2, d3] }
  | _ => none }
def encodeBoundRow : OpenClaim := { program := "ytoecppploooloaagreatdoor", sum := "3137b41493659a96571de01de6981274f4b1c4aa7197696976ddd331e6017567", func := "lighterman/lightermanlaw18.EncodeBound", spec := "encodeBound", unfollowed := true, recurses := true, named := ["lighterman/codes.literals", "lighterman/codes.matches", "lighterman/tables.literals", "lighterman/tables.offsets", "lighterman/tables.matches"], plainKeys := false, apart := false, laid := [("lighterman/codes.literals", laid_lighterman_codes_literals), ("lighterman/codes.matches", laid_lighterman_codes_matches), ("lighterman/tables.literals", laid_lighterman_tables_literals), ("lighterman/tables.offsets", laid_lighterman_tables_offsets), ("lighterman/tables.matches", laid_lighterman_tables_matches)] }
def EncodeBoundSaid : Prop := encodeBoundRow.holds Tryz.pinned (OpenSpec.ofChange encodeBoundSpec)

/-- ITS FALSE NEIGHBOUR: 'it returns false'. Refute it at one input. -/
def encodeBoundWrong : ChangeSpec := { name := "encodeBound", fn := fun _ => fun
  | [d1, d2, d3] => { results := [.lit (.bool false)], args := [d1, d2, d3] }
  | _ => none }
def EncodeBoundWrongFalsely : Prop := encodeBoundRow.holds Tryz.pinned (OpenSpec.ofChange encodeBoundWrong)

/-- 'lightermanlaw18.EncodeSame': WHATEVER THE INPUT: true; the input reads as it did. -/
def encodeSameSpec : ChangeSpec := { name := "encodeSame", fn := fun _ => fun
  | [d1, d2, d3] => { results := [.lit (.bool true)], args := [d1, d2, d3] }
  | _ => none }
def encodeSameRow : OpenClaim := { program := "ytoecppploooloaagreatdoor", sum := "3137b41493659a96571de01de6981274f4b1c4aa7197696976ddd331e6017567", func := "lighterman/lightermanlaw18.EncodeSame", spec := "encodeSame", unfollowed := true, recurses := true, named := ["lighterman/codes.literals", "lighterman/codes.matches", "lighterman/tables.literals", "lighterman/tables.offsets", "lighterman/tables.matches"], plainKeys := false, apart := false, laid := [("lighterman/codes.literals", laid_lighterman_codes_literals), ("lighterman/codes.matches", laid_lighterman_codes_matches), ("lighterman/tables.literals", laid_lighterman_tables_literals), ("lighterman/tables.offsets", laid_lighterman_tables_offsets), ("lighterman/tables.matches", laid_lighterman_tables_matches)] }
def EncodeSameSaid : Prop := encodeSameRow.holds Tryz.pinned (OpenSpec.ofChange encodeSameSpec)

/-- ITS FALSE NEIGHBOUR: 'it returns false'. Refute it at one input. -/
def encodeSameWrong : ChangeSpec := { name := "encodeSame", fn := fun _ => fun
  | [d1, d2, d3] => { results := [.lit (.bool false)], args := [d1, d2, d3] }
  | _ => none }
def EncodeSameWrongFalsely : Prop := encodeSameRow.holds Tryz.pinned (OpenSpec.ofChange encodeSameWrong)

/-- 'lightermanlaw19.ChunkSpans': WHATEVER THE INPUT: true; the input reads as it did. -/
def chunkSpansSpec : ChangeSpec := { name := "chunkSpans", fn := fun _ => fun
  | [d1, d2, d3] => { results := [.lit (.bool true)], args := [d1, d2, d3] }
  | _ => none }
def chunkSpansRow : OpenClaim := { program := "ytoecppploooloaagreatdoor", sum := "3137b41493659a96571de01de6981274f4b1c4aa7197696976ddd331e6017567", func := "lighterman/lightermanlaw19.ChunkSpans", spec := "chunkSpans", unfollowed := true, recurses := true, named := ["lighterman/codes.literals", "lighterman/codes.matches", "lighterman/tables.literals", "lighterman/tables.offsets", "lighterman/tables.matches"], plainKeys := false, apart := false, laid := [("lighterman/codes.literals", laid_lighterman_codes_literals), ("lighterman/codes.matches", laid_lighterman_codes_matches), ("lighterman/tables.literals", laid_lighterman_tables_literals), ("lighterman/tables.offsets", laid_lighterman_tables_offsets), ("lighterman/tables.matches", laid_lighterman_tables_matches)] }
def ChunkSpansSaid : Prop := chunkSpansRow.holds Tryz.pinned (OpenSpec.ofChange chunkSpansSpec)

/-- ITS FALSE NEIGHBOUR: 'it returns false'. Refute it at one input. -/
def chunkSpansWrong : ChangeSpec := { name := "chunkSpans", fn := fun _ => fun
  | [d1, d2, d3] => { results := [.lit (.bool false)], args := [d1, d2, d3] }
  | _ => none }
def ChunkSpansWrongFalsely : Prop := chunkSpansRow.holds Tryz.pinned (OpenSpec.ofChange chunkSpansWrong)

/-- 'lightermanlaw19.ChunkWhole': WHATEVER THE INPUT: true; the input reads as it did. -/
def chunkWholeSpec : ChangeSpec := { name := "chunkWhole", fn := fun _ => fun
  | [d1, d2] => { results := [.lit (.bool true)], args := [d1, d2] }
  | _ => none }
def chunkWholeRow : OpenClaim := { program := "ytoecppploooloaagreatdoor", sum := "3137b41493659a96571de01de6981274f4b1c4aa7197696976ddd331e6017567", func := "lighterman/lightermanlaw19.ChunkWhole", spec := "chunkWhole", unfollowed := true, recurses := true, named := ["lighterman/codes.literals", "lighterman/codes.matches", "lighterman/tables.literals", "lighterman/tables.offsets", "lighterman/tables.matches"], plainKeys := false, apart := false, laid := [("lighterman/codes.literals", laid_lighterman_codes_literals), ("lighterman/codes.matches", laid_lighterman_codes_matches), ("lighterman/tables.literals", laid_lighterman_tables_literals), ("lighterman/tables.offsets", laid_lighterman_tables_offsets), ("lighterman/tables.matches", laid_lighterman_tables_matches)] }
def ChunkWholeSaid : Prop := chunkWholeRow.holds Tryz.pinned (OpenSpec.ofChange chunkWholeSpec)

/-- ITS FALSE NEIGHBOUR: 'it returns false'. Refute it at one input. -/
def chunkWholeWrong : ChangeSpec := { name := "chunkWhole", fn := fun _ => fun
  | [d1, d2] => { results := [.lit (.bool false)], args := [d1, d2] }
  | _ => none }
def ChunkWholeWrongFalsely : Prop := chunkWholeRow.holds Tryz.pinned (OpenSpec.ofChange chunkWholeWrong)

/-- 'lightermanlaw19.ChunkSame': WHATEVER THE INPUT: true; the input reads as it did. -/
def chunkSameSpec : ChangeSpec := { name := "chunkSame", fn := fun _ => fun
  | [d1, d2, d3] => { results := [.lit (.bool true)], args := [d1, d2, d3] }
  | _ => none }
def chunkSameRow : OpenClaim := { program := "ytoecppploooloaagreatdoor", sum := "3137b41493659a96571de01de6981274f4b1c4aa7197696976ddd331e6017567", func := "lighterman/lightermanlaw19.ChunkSame", spec := "chunkSame", unfollowed := true, recurses := true, named := ["lighterman/codes.literals", "lighterman/codes.matches", "lighterman/tables.literals", "lighterman/tables.offsets", "lighterman/tables.matches"], plainKeys := false, apart := false, laid := [("lighterman/codes.literals", laid_lighterman_codes_literals), ("lighterman/codes.matches", laid_lighterman_codes_matches), ("lighterman/tables.literals", laid_lighterman_tables_literals), ("lighterman/tables.offsets", laid_lighterman_tables_offsets), ("lighterman/tables.matches", laid_lighterman_tables_matches)] }
def ChunkSameSaid : Prop := chunkSameRow.holds Tryz.pinned (OpenSpec.ofChange chunkSameSpec)

/-- ITS FALSE NEIGHBOUR: 'it returns false'. Refute it at one input. -/
def chunkSameWrong : ChangeSpec := { name := "chunkSame", fn := fun _ => fun
  | [d1, d2, d3] => { results := [.lit (.bool false)], args := [d1, d2, d3] }
  | _ => none }
def ChunkSameWrongFalsely : Prop := chunkSameRow.holds Tryz.pinned (OpenSpec.ofChange chunkSameWrong)

/- THE SECOND FORM. 'bulk': how many values and letters a reading holds, each counted each time it is reached (what is shared counts as often as it is met; a slice's spare places count too). A statement '..UptoSaid' is the law's where the arguments, and the package variables that the reading takes, are together of bulk at most 1048576: NARROWER than '..Said'. Prove '..Said' where nothing that the law and all that it calls make is longer than what came in: it says more and counts as full. Else prove '..UptoSaid'. A law counts once. -/
mutual
def uptoBulk {H : Type} : DataW H → Nat
  | .lit (.string bytes) => bytes.length + 1
  | .lit _ => 1
  | .nil => 1
  | .ptr d => uptoBulk d + 1
  | .slice elems spare => uptoBulkAll elems + uptoBulkAll spare + 1
  | .agg parts => uptoBulkAll parts + 1
  | .iface _ d => uptoBulk d + 1
  | .map entries => uptoBulkEntries entries + 1
  | .held _ => 1
def uptoBulkAll {H : Type} : List (DataW H) → Nat
  | [] => 0
  | d :: r => uptoBulk d + uptoBulkAll r
def uptoBulkEntries {H : Type} : List (Lit × DataW H) → Nat
  | [] => 0
  | x :: r => uptoBulkEntry x + uptoBulkEntries r
def uptoBulkEntry {H : Type} : Lit × DataW H → Nat
  | (.string bytes, d) => bytes.length + uptoBulk d + 1
  | (_, d) => uptoBulk d + 1
 end
def uptoSmall : (H : Type) → List (DataW H) → Bool := fun _ ds => decide (uptoBulkAll ds ≤ 1048576)
def OpenSpec.upto (s : _root_.Go.ChangeSpec) : _root_.Go.OpenSpec := { _root_.Go.OpenSpec.ofChange s with cond := some uptoSmall }

/-- 'lightermanlaw18.EncodeBound', WHERE WHAT IT READS IS OF BULK AT MOST 1048576: true; the input reads as it did. -/
def encodeBoundUptoRow : OpenClaim := { program := "ytoecppploooloaagreatdoor", sum := "3137b41493659a96571de01de6981274f4b1c4aa7197696976ddd331e6017567", func := "lighterman/lightermanlaw18.EncodeBound", spec := "encodeBound", unfollowed := true, recurses := true, named := ["lighterman/codes.literals", "lighterman/codes.matches", "lighterman/tables.literals", "lighterman/tables.offsets", "lighterman/tables.matches"], plainKeys := false, apart := false, laid := [("lighterman/codes.literals", laid_lighterman_codes_literals), ("lighterman/codes.matches", laid_lighterman_codes_matches), ("lighterman/tables.literals", laid_lighterman_tables_literals), ("lighterman/tables.offsets", laid_lighterman_tables_offsets), ("lighterman/tables.matches", laid_lighterman_tables_matches)], narrowed := true }
def EncodeBoundUptoSaid : Prop := encodeBoundUptoRow.holds Tryz.pinned (OpenSpec.upto encodeBoundSpec)

/-- 'lightermanlaw18.EncodeSame', WHERE WHAT IT READS IS OF BULK AT MOST 1048576: true; the input reads as it did. -/
def encodeSameUptoRow : OpenClaim := { program := "ytoecppploooloaagreatdoor", sum := "3137b41493659a96571de01de6981274f4b1c4aa7197696976ddd331e6017567", func := "lighterman/lightermanlaw18.EncodeSame", spec := "encodeSame", unfollowed := true, recurses := true, named := ["lighterman/codes.literals", "lighterman/codes.matches", "lighterman/tables.literals", "lighterman/tables.offsets", "lighterman/tables.matches"], plainKeys := false, apart := false, laid := [("lighterman/codes.literals", laid_lighterman_codes_literals), ("lighterman/codes.matches", laid_lighterman_codes_matches), ("lighterman/tables.literals", laid_lighterman_tables_literals), ("lighterman/tables.offsets", laid_lighterman_tables_offsets), ("lighterman/tables.matches", laid_lighterman_tables_matches)], narrowed := true }
def EncodeSameUptoSaid : Prop := encodeSameUptoRow.holds Tryz.pinned (OpenSpec.upto encodeSameSpec)

/-- 'lightermanlaw19.ChunkSpans', WHERE WHAT IT READS IS OF BULK AT MOST 1048576: true; the input reads as it did. -/
def chunkSpansUptoRow : OpenClaim := { program := "ytoecppploooloaagreatdoor", sum := "3137b41493659a96571de01de6981274f4b1c4aa7197696976ddd331e6017567", func := "lighterman/lightermanlaw19.ChunkSpans", spec := "chunkSpans", unfollowed := true, recurses := true, named := ["lighterman/codes.literals", "lighterman/codes.matches", "lighterman/tables.literals", "lighterman/tables.offsets", "lighterman/tables.matches"], plainKeys := false, apart := false, laid := [("lighterman/codes.literals", laid_lighterman_codes_literals), ("lighterman/codes.matches", laid_lighterman_codes_matches), ("lighterman/tables.literals", laid_lighterman_tables_literals), ("lighterman/tables.offsets", laid_lighterman_tables_offsets), ("lighterman/tables.matches", laid_lighterman_tables_matches)], narrowed := true }
def ChunkSpansUptoSaid : Prop := chunkSpansUptoRow.holds Tryz.pinned (OpenSpec.upto chunkSpansSpec)

/-- 'lightermanlaw19.ChunkWhole', WHERE WHAT IT READS IS OF BULK AT MOST 1048576: true; the input reads as it did. -/
def chunkWholeUptoRow : OpenClaim := { program := "ytoecppploooloaagreatdoor", sum := "3137b41493659a96571de01de6981274f4b1c4aa7197696976ddd331e6017567", func := "lighterman/lightermanlaw19.ChunkWhole", spec := "chunkWhole", unfollowed := true, recurses := true, named := ["lighterman/codes.literals", "lighterman/codes.matches", "lighterman/tables.literals", "lighterman/tables.offsets", "lighterman/tables.matches"], plainKeys := false, apart := false, laid := [("lighterman/codes.literals", laid_lighterman_codes_literals), ("lighterman/codes.matches", laid_lighterman_codes_matches), ("lighterman/tables.literals", laid_lighterman_tables_literals), ("lighterman/tables.offsets", laid_lighterman_tables_offsets), ("lighterman/tables.matches", laid_lighterman_tables_matches)], narrowed := true }
def ChunkWholeUptoSaid : Prop := chunkWholeUptoRow.holds Tryz.pinned (OpenSpec.upto chunkWholeSpec)

/-- 'lightermanlaw19.ChunkSame', WHERE WHAT IT READS IS OF BULK AT MOST 1048576: true; the input reads as it did. -/
def chunkSameUptoRow : OpenClaim := { program := "ytoecppploooloaagreatdoor", sum := "3137b41493659a96571de01de6981274f4b1c4aa7197696976ddd331e6017567", func := "lighterman/lightermanlaw19.ChunkSame", spec := "chunkSame", unfollowed := true, recurses := true, named := ["lighterman/codes.literals", "lighterman/codes.matches", "lighterman/tables.literals", "lighterman/tables.offsets", "lighterman/tables.matches"], plainKeys := false, apart := false, laid := [("lighterman/codes.literals", laid_lighterman_codes_literals), ("lighterman/codes.matches", laid_lighterman_codes_matches), ("lighterman/tables.literals", laid_lighterman_tables_literals), ("lighterman/tables.offsets", laid_lighterman_tables_offsets), ("lighterman/tables.matches", laid_lighterman_tables_matches)], narrowed := true }
def ChunkSameUptoSaid : Prop := chunkSameUptoRow.holds Tryz.pinned (OpenSpec.upto chunkSameSpec)

end Rows
end Go.Proofs.YtoecppploooloaaGreatDoor
