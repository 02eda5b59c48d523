/-
  No cell of these rows narrows 'for every input' (looked for: loops, veiled, ifaces, maps, wideKeys, modest, calm, conditions, laid).
  DERIVED. THE GIVEN ROWS OF THIS SEAT. 4 by the template 'for every input the law returns true; each argument reads behind the call as it read before'; 0 by the template 'total and deterministic' (their statements: YtblljiohpcbieaaTotals.lean).
  GIVEN WITH THE SEED: the statements are not yours to turn. If you find one false, say at which input.
  Laid BY PROGRAM, IN A SANDBOX (cutbox-rows.mjs): the forced cells as the released guide's own fill.sh prints them over the translation e801e53fe7987898… (all of the seat's roots in one cut). By AI agents, Wed Nov 11 2026. No macro, syntax, notation, axiom, sorry.
-/
import Derived.Test.YtblljiohpcbieaaChecked
import GoSem.Claim
import GoSem.ClaimJoined
import GoSem.ClaimMapViews
import Derived.JoinedTies
import Derived.KernelRfl
namespace Go.Proofs.Ytblljiohpcbieaa
/- THE CELL 'sum', in the pinned program and in every row, IS THE sha256 OF THE DUMP (.gsa) THAT YtblljiohpcbieaaProg.lean LOADS. Nothing in Lean hashes anything: it is a label: what it is worth is what the hold of that sum in a sandbox is worth. -/
noncomputable def Try.pinned : Pinned := { name := "ytblljiohpcbieaa", sum := "e801e53fe7987898982a5a25393540f899e774df4f1b11298453d315fa31f85f", checked := Try.checked }
namespace Rows
def none {H : Type} : Left H := { results := [], args := [] }

/-- 'lightermanlaw03.XxhSums': WHATEVER THE INPUT: true; the input reads as it did. -/
def xxhSumsSpec : ChangeSpec := { name := "xxhSums", fn := fun _ => fun
  | [d] => { results := [.lit (.bool true)], args := [d] }
  | _ => none }
def xxhSumsRow : OpenClaim := { program := "ytblljiohpcbieaa", sum := "e801e53fe7987898982a5a25393540f899e774df4f1b11298453d315fa31f85f", func := "lighterman/lightermanlaw03.XxhSums", spec := "xxhSums", recurses := true, apart := false }
def XxhSumsSaid : Prop := xxhSumsRow.holds Try.pinned (OpenSpec.ofChange xxhSumsSpec)

/-- ITS FALSE NEIGHBOUR: 'it returns false'. Refute it at one input. -/
def xxhSumsWrong : ChangeSpec := { name := "xxhSums", fn := fun _ => fun
  | [d] => { results := [.lit (.bool false)], args := [d] }
  | _ => none }
def XxhSumsWrongFalsely : Prop := xxhSumsRow.holds Try.pinned (OpenSpec.ofChange xxhSumsWrong)

/-- 'lightermanlaw03.XxhLengths': WHATEVER THE INPUT: true; the input reads as it did. -/
def xxhLengthsSpec : ChangeSpec := { name := "xxhLengths", fn := fun _ => fun
  | [d1, d2] => { results := [.lit (.bool true)], args := [d1, d2] }
  | _ => none }
def xxhLengthsRow : OpenClaim := { program := "ytblljiohpcbieaa", sum := "e801e53fe7987898982a5a25393540f899e774df4f1b11298453d315fa31f85f", func := "lighterman/lightermanlaw03.XxhLengths", spec := "xxhLengths", recurses := true, apart := false }
def XxhLengthsSaid : Prop := xxhLengthsRow.holds Try.pinned (OpenSpec.ofChange xxhLengthsSpec)

/-- ITS FALSE NEIGHBOUR: 'it returns false'. Refute it at one input. -/
def xxhLengthsWrong : ChangeSpec := { name := "xxhLengths", fn := fun _ => fun
  | [d1, d2] => { results := [.lit (.bool false)], args := [d1, d2] }
  | _ => none }
def XxhLengthsWrongFalsely : Prop := xxhLengthsRow.holds Try.pinned (OpenSpec.ofChange xxhLengthsWrong)

/-- 'lightermanlaw03.XxhPieces': WHATEVER THE INPUT: true; the input reads as it did. -/
def xxhPiecesSpec : ChangeSpec := { name := "xxhPieces", fn := fun _ => fun
  | [d1, d2] => { results := [.lit (.bool true)], args := [d1, d2] }
  | _ => none }
def xxhPiecesRow : OpenClaim := { program := "ytblljiohpcbieaa", sum := "e801e53fe7987898982a5a25393540f899e774df4f1b11298453d315fa31f85f", func := "lighterman/lightermanlaw03.XxhPieces", spec := "xxhPieces", recurses := true, apart := false }
def XxhPiecesSaid : Prop := xxhPiecesRow.holds Try.pinned (OpenSpec.ofChange xxhPiecesSpec)

/-- ITS FALSE NEIGHBOUR: 'it returns false'. Refute it at one input. -/
def xxhPiecesWrong : ChangeSpec := { name := "xxhPieces", fn := fun _ => fun
  | [d1, d2] => { results := [.lit (.bool false)], args := [d1, d2] }
  | _ => none }
def XxhPiecesWrongFalsely : Prop := xxhPiecesRow.holds Try.pinned (OpenSpec.ofChange xxhPiecesWrong)

/-- 'lightermanlaw03.XxhStripes': WHATEVER THE INPUT: true; the input reads as it did. -/
def xxhStripesSpec : ChangeSpec := { name := "xxhStripes", fn := fun _ => fun
  | [d1, d2, d3] => { results := [.lit (.bool true)], args := [d1, d2, d3] }
  | _ => none }
def xxhStripesRow : OpenClaim := { program := "ytblljiohpcbieaa", sum := "e801e53fe7987898982a5a25393540f899e774df4f1b11298453d315fa31f85f", func := "lighterman/lightermanlaw03.XxhStripes", spec := "xxhStripes", recurses := true, apart := false }
def XxhStripesSaid : Prop := xxhStripesRow.holds Try.pinned (OpenSpec.ofChange xxhStripesSpec)

/-- ITS FALSE NEIGHBOUR: 'it returns false'. Refute it at one input. -/
def xxhStripesWrong : ChangeSpec := { name := "xxhStripes", fn := fun _ => fun
  | [d1, d2, d3] => { results := [.lit (.bool false)], args := [d1, d2, d3] }
  | _ => none }
def XxhStripesWrongFalsely : Prop := xxhStripesRow.holds Try.pinned (OpenSpec.ofChange xxhStripesWrong)

/- THE SECOND FORM. 'bulk': how many values and letters a reading holds, each counted each time it is reached (what is shared counts as often as it is met; a slice's spare places count too). A statement '..UptoSaid' is the law's where the arguments, and the package variables that the reading takes, are together of bulk at most 1048576: NARROWER than '..Said'. Prove '..Said' where nothing that the law and all that it calls make is longer than what came in: it says more and counts as full. Else prove '..UptoSaid'. A law counts once. -/
mutual
def uptoBulk {H : Type} : DataW H → Nat
  | .lit (.string bytes) => bytes.length + 1
  | .lit _ => 1
  | .nil => 1
  | .ptr d => uptoBulk d + 1
  | .slice elems spare => uptoBulkAll elems + uptoBulkAll spare + 1
  | .agg parts => uptoBulkAll parts + 1
  | .iface _ d => uptoBulk d + 1
  | .map entries => uptoBulkEntries entries + 1
  | .held _ => 1
def uptoBulkAll {H : Type} : List (DataW H) → Nat
  | [] => 0
  | d :: r => uptoBulk d + uptoBulkAll r
def uptoBulkEntries {H : Type} : List (Lit × DataW H) → Nat
  | [] => 0
  | x :: r => uptoBulkEntry x + uptoBulkEntries r
def uptoBulkEntry {H : Type} : Lit × DataW H → Nat
  | (.string bytes, d) => bytes.length + uptoBulk d + 1
  | (_, d) => uptoBulk d + 1
 end
def uptoSmall : (H : Type) → List (DataW H) → Bool := fun _ ds => decide (uptoBulkAll ds ≤ 1048576)
def OpenSpec.upto (s : _root_.Go.ChangeSpec) : _root_.Go.OpenSpec := { _root_.Go.OpenSpec.ofChange s with cond := some uptoSmall }

/-- 'lightermanlaw03.XxhSums', WHERE WHAT IT READS IS OF BULK AT MOST 1048576: true; the input reads as it did. -/
def xxhSumsUptoRow : OpenClaim := { program := "ytblljiohpcbieaa", sum := "e801e53fe7987898982a5a25393540f899e774df4f1b11298453d315fa31f85f", func := "lighterman/lightermanlaw03.XxhSums", spec := "xxhSums", recurses := true, apart := false, narrowed := true }
def XxhSumsUptoSaid : Prop := xxhSumsUptoRow.holds Try.pinned (OpenSpec.upto xxhSumsSpec)

/-- 'lightermanlaw03.XxhLengths', WHERE WHAT IT READS IS OF BULK AT MOST 1048576: true; the input reads as it did. -/
def xxhLengthsUptoRow : OpenClaim := { program := "ytblljiohpcbieaa", sum := "e801e53fe7987898982a5a25393540f899e774df4f1b11298453d315fa31f85f", func := "lighterman/lightermanlaw03.XxhLengths", spec := "xxhLengths", recurses := true, apart := false, narrowed := true }
def XxhLengthsUptoSaid : Prop := xxhLengthsUptoRow.holds Try.pinned (OpenSpec.upto xxhLengthsSpec)

/-- 'lightermanlaw03.XxhPieces', WHERE WHAT IT READS IS OF BULK AT MOST 1048576: true; the input reads as it did. -/
def xxhPiecesUptoRow : OpenClaim := { program := "ytblljiohpcbieaa", sum := "e801e53fe7987898982a5a25393540f899e774df4f1b11298453d315fa31f85f", func := "lighterman/lightermanlaw03.XxhPieces", spec := "xxhPieces", recurses := true, apart := false, narrowed := true }
def XxhPiecesUptoSaid : Prop := xxhPiecesUptoRow.holds Try.pinned (OpenSpec.upto xxhPiecesSpec)

/-- 'lightermanlaw03.XxhStripes', WHERE WHAT IT READS IS OF BULK AT MOST 1048576: true; the input reads as it did. -/
def xxhStripesUptoRow : OpenClaim := { program := "ytblljiohpcbieaa", sum := "e801e53fe7987898982a5a25393540f899e774df4f1b11298453d315fa31f85f", func := "lighterman/lightermanlaw03.XxhStripes", spec := "xxhStripes", recurses := true, apart := false, narrowed := true }
def XxhStripesUptoSaid : Prop := xxhStripesUptoRow.holds Try.pinned (OpenSpec.upto xxhStripesSpec)

end Rows
end Go.Proofs.Ytblljiohpcbieaa
