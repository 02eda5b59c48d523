/-
  No cell of these rows narrows 'for every input' (looked for: loops, veiled, ifaces, maps, wideKeys, modest, calm, conditions, laid).
  DERIVED. THE GIVEN ROWS OF THIS SEAT. 3 by the template 'for every input the law returns true; each argument reads behind the call as it read before'; 0 by the template 'total and deterministic' (their statements: YtgpimhlgaokobaaGreatTotals.lean).
  GIVEN WITH THE SEED: the statements are not yours to turn. If you find one false, say at which input.
  Laid BY PROGRAM, IN A SANDBOX (cutbox-rows.mjs): the forced cells as the released guide's own fill.sh prints them over the translation a6b65c6d52dd4f49… (all of the seat's roots in one cut). By AI agents, Wed Nov 11 2026. No macro, syntax, notation, axiom, sorry.
-/
import Derived.Test.YtgpimhlgaokobaaGreatChecked
import GoSem.Claim
import GoSem.ClaimJoined
import GoSem.ClaimMapViews
import Derived.JoinedTies
import Derived.KernelRfl
namespace Go.Proofs.YtgpimhlgaokobaaGreat
/- THE CELL 'sum', in the pinned program and in every row, IS THE sha256 OF THE DUMP (.gsa) THAT YtgpimhlgaokobaaGreatProg.lean LOADS. Nothing in Lean hashes anything: it is a label: what it is worth is what the hold of that sum in a sandbox is worth. -/
noncomputable def Tryz.pinned : Pinned := { name := "ytgpimhlgaokobaagreat", sum := "a6b65c6d52dd4f49bb88c7f79ed69ed329fd604c0d3e473016e68298d1da7d46", checked := Tryz.checked }
namespace Rows
def none {H : Type} : Left H := { results := [], args := [] }

/-- 'lightermanlaw10.LiteralsReads': WHATEVER THE INPUT: true; the input reads as it did. -/
def literalsReadsSpec : ChangeSpec := { name := "literalsReads", fn := fun _ => fun
  | [d1, d2] => { results := [.lit (.bool true)], args := [d1, d2] }
  | _ => none }
def literalsReadsRow : OpenClaim := { program := "ytgpimhlgaokobaagreat", sum := "a6b65c6d52dd4f49bb88c7f79ed69ed329fd604c0d3e473016e68298d1da7d46", func := "lighterman/lightermanlaw10.LiteralsReads", spec := "literalsReads", unfollowed := true, recurses := true, apart := false }
def LiteralsReadsSaid : Prop := literalsReadsRow.holds Tryz.pinned (OpenSpec.ofChange literalsReadsSpec)

/-- ITS FALSE NEIGHBOUR: 'it returns false'. Refute it at one input. -/
def literalsReadsWrong : ChangeSpec := { name := "literalsReads", fn := fun _ => fun
  | [d1, d2] => { results := [.lit (.bool false)], args := [d1, d2] }
  | _ => none }
def LiteralsReadsWrongFalsely : Prop := literalsReadsRow.holds Tryz.pinned (OpenSpec.ofChange literalsReadsWrong)

/-- 'lightermanlaw10.LiteralsPlain': WHATEVER THE INPUT: true; the input reads as it did. -/
def literalsPlainSpec : ChangeSpec := { name := "literalsPlain", fn := fun _ => fun
  | [d1, d2, d3, d4] => { results := [.lit (.bool true)], args := [d1, d2, d3, d4] }
  | _ => none }
def literalsPlainRow : OpenClaim := { program := "ytgpimhlgaokobaagreat", sum := "a6b65c6d52dd4f49bb88c7f79ed69ed329fd604c0d3e473016e68298d1da7d46", func := "lighterman/lightermanlaw10.LiteralsPlain", spec := "literalsPlain", unfollowed := true, recurses := true, apart := false }
def LiteralsPlainSaid : Prop := literalsPlainRow.holds Tryz.pinned (OpenSpec.ofChange literalsPlainSpec)

/-- ITS FALSE NEIGHBOUR: 'it returns false'. Refute it at one input. -/
def literalsPlainWrong : ChangeSpec := { name := "literalsPlain", fn := fun _ => fun
  | [d1, d2, d3, d4] => { results := [.lit (.bool false)], args := [d1, d2, d3, d4] }
  | _ => none }
def LiteralsPlainWrongFalsely : Prop := literalsPlainRow.holds Tryz.pinned (OpenSpec.ofChange literalsPlainWrong)

/-- 'lightermanlaw10.LiteralsPacked': WHATEVER THE INPUT: true; the input reads as it did. -/
def literalsPackedSpec : ChangeSpec := { name := "literalsPacked", fn := fun _ => fun
  | [d1, d2, d3] => { results := [.lit (.bool true)], args := [d1, d2, d3] }
  | _ => none }
def literalsPackedRow : OpenClaim := { program := "ytgpimhlgaokobaagreat", sum := "a6b65c6d52dd4f49bb88c7f79ed69ed329fd604c0d3e473016e68298d1da7d46", func := "lighterman/lightermanlaw10.LiteralsPacked", spec := "literalsPacked", unfollowed := true, recurses := true, apart := false }
def LiteralsPackedSaid : Prop := literalsPackedRow.holds Tryz.pinned (OpenSpec.ofChange literalsPackedSpec)

/-- ITS FALSE NEIGHBOUR: 'it returns false'. Refute it at one input. -/
def literalsPackedWrong : ChangeSpec := { name := "literalsPacked", fn := fun _ => fun
  | [d1, d2, d3] => { results := [.lit (.bool false)], args := [d1, d2, d3] }
  | _ => none }
def LiteralsPackedWrongFalsely : Prop := literalsPackedRow.holds Tryz.pinned (OpenSpec.ofChange literalsPackedWrong)

/- THE SECOND FORM. 'bulk': how many values and letters a reading holds, each counted each time it is reached (what is shared counts as often as it is met; a slice's spare places count too). A statement '..UptoSaid' is the law's where the arguments, and the package variables that the reading takes, are together of bulk at most 1048576: NARROWER than '..Said'. Prove '..Said' where nothing that the law and all that it calls make is longer than what came in: it says more and counts as full. Else prove '..UptoSaid'. A law counts once. -/
mutual
def uptoBulk {H : Type} : DataW H → Nat
  | .lit (.string bytes) => bytes.length + 1
  | .lit _ => 1
  | .nil => 1
  | .ptr d => uptoBulk d + 1
  | .slice elems spare => uptoBulkAll elems + uptoBulkAll spare + 1
  | .agg parts => uptoBulkAll parts + 1
  | .iface _ d => uptoBulk d + 1
  | .map entries => uptoBulkEntries entries + 1
  | .held _ => 1
def uptoBulkAll {H : Type} : List (DataW H) → Nat
  | [] => 0
  | d :: r => uptoBulk d + uptoBulkAll r
def uptoBulkEntries {H : Type} : List (Lit × DataW H) → Nat
  | [] => 0
  | x :: r => uptoBulkEntry x + uptoBulkEntries r
def uptoBulkEntry {H : Type} : Lit × DataW H → Nat
  | (.string bytes, d) => bytes.length + uptoBulk d + 1
  | (_, d) => uptoBulk d + 1
 end
def uptoSmall : (H : Type) → List (DataW H) → Bool := fun _ ds => decide (uptoBulkAll ds ≤ 1048576)
def OpenSpec.upto (s : _root_.Go.ChangeSpec) : _root_.Go.OpenSpec := { _root_.Go.OpenSpec.ofChange s with cond := some uptoSmall }

/-- 'lightermanlaw10.LiteralsReads', WHERE WHAT IT READS IS OF BULK AT MOST 1048576: true; the input reads as it did. -/
def literalsReadsUptoRow : OpenClaim := { program := "ytgpimhlgaokobaagreat", sum := "a6b65c6d52dd4f49bb88c7f79ed69ed329fd604c0d3e473016e68298d1da7d46", func := "lighterman/lightermanlaw10.LiteralsReads", spec := "literalsReads", unfollowed := true, recurses := true, apart := false, narrowed := true }
def LiteralsReadsUptoSaid : Prop := literalsReadsUptoRow.holds Tryz.pinned (OpenSpec.upto literalsReadsSpec)

/-- 'lightermanlaw10.LiteralsPlain', WHERE WHAT IT READS IS OF BULK AT MOST 1048576: true; the input reads as it did. -/
def literalsPlainUptoRow : OpenClaim := { program := "ytgpimhlgaokobaagreat", sum := "a6b65c6d52dd4f49bb88c7f79ed69ed329fd604c0d3e473016e68298d1da7d46", func := "lighterman/lightermanlaw10.LiteralsPlain", spec := "literalsPlain", unfollowed := true, recurses := true, apart := false, narrowed := true }
def LiteralsPlainUptoSaid : Prop := literalsPlainUptoRow.holds Tryz.pinned (OpenSpec.upto literalsPlainSpec)

/-- 'lightermanlaw10.LiteralsPacked', WHERE WHAT IT READS IS OF BULK AT MOST 1048576: true; the input reads as it did. -/
def literalsPackedUptoRow : OpenClaim := { program := "ytgpimhlgaokobaagreat", sum := "a6b65c6d52dd4f49bb88c7f79ed69ed329fd604c0d3e473016e68298d1da7d46", func := "lighterman/lightermanlaw10.LiteralsPacked", spec := "literalsPacked", unfollowed := true, recurses := true, apart := false, narrowed := true }
def LiteralsPackedUptoSaid : Prop := literalsPackedUptoRow.holds Tryz.pinned (OpenSpec.upto literalsPackedSpec)

end Rows
end Go.Proofs.YtgpimhlgaokobaaGreat
