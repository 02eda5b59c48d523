/-
  No cell of these rows narrows 'for every input' (looked for: loops, veiled, ifaces, maps, wideKeys, modest, calm, conditions, laid).
  DERIVED. THE GIVEN ROWS OF THIS SEAT. 7 by the template 'for every input the law returns true; each argument reads behind the call as it read before'; 0 by the template 'total and deterministic' (their statements: YtoepfjgekpdddaaTotals.lean).
  GIVEN WITH THE SEED: the statements are not yours to turn. If you find one false, say at which input.
  Laid BY PROGRAM, IN A SANDBOX (cutbox-rows.mjs): the forced cells as the released guide's own fill.sh prints them over the translation 6cd2bc9ba9e5ddb8… (all of the seat's roots in one cut). By AI agents, Wed Nov 11 2026. No macro, syntax, notation, axiom, sorry.
-/
import Derived.Test.YtoepfjgekpdddaaChecked
import GoSem.Claim
import GoSem.ClaimJoined
import GoSem.ClaimMapViews
import Derived.JoinedTies
import Derived.KernelRfl
namespace Go.Proofs.Ytoepfjgekpdddaa
/- THE CELL 'sum', in the pinned program and in every row, IS THE sha256 OF THE DUMP (.gsa) THAT YtoepfjgekpdddaaProg.lean LOADS. Nothing in Lean hashes anything: it is a label: what it is worth is what the hold of that sum in a sandbox is worth. -/
noncomputable def Try.pinned : Pinned := { name := "ytoepfjgekpdddaa", sum := "6cd2bc9ba9e5ddb819b7756c1ce30df6507358497f7547ec225239d7e3a1813a", checked := Try.checked }
namespace Rows
def none {H : Type} : Left H := { results := [], args := [] }

/-- 'lightermanlaw08.WeightsWhole': WHATEVER THE INPUT: true; the input reads as it did. -/
def weightsWholeSpec : ChangeSpec := { name := "weightsWhole", fn := fun _ => fun
  | [d] => { results := [.lit (.bool true)], args := [d] }
  | _ => none }
def weightsWholeRow : OpenClaim := { program := "ytoepfjgekpdddaa", sum := "6cd2bc9ba9e5ddb819b7756c1ce30df6507358497f7547ec225239d7e3a1813a", func := "lighterman/lightermanlaw08.WeightsWhole", spec := "weightsWhole", apart := false }
def WeightsWholeSaid : Prop := weightsWholeRow.holds Try.pinned (OpenSpec.ofChange weightsWholeSpec)

/-- ITS FALSE NEIGHBOUR: 'it returns false'. Refute it at one input. -/
def weightsWholeWrong : ChangeSpec := { name := "weightsWhole", fn := fun _ => fun
  | [d] => { results := [.lit (.bool false)], args := [d] }
  | _ => none }
def WeightsWholeWrongFalsely : Prop := weightsWholeRow.holds Try.pinned (OpenSpec.ofChange weightsWholeWrong)

/-- 'lightermanlaw08.WeightsReads': WHATEVER THE INPUT: true; the input reads as it did. -/
def weightsReadsSpec : ChangeSpec := { name := "weightsReads", fn := fun _ => fun
  | [d] => { results := [.lit (.bool true)], args := [d] }
  | _ => none }
def weightsReadsRow : OpenClaim := { program := "ytoepfjgekpdddaa", sum := "6cd2bc9ba9e5ddb819b7756c1ce30df6507358497f7547ec225239d7e3a1813a", func := "lighterman/lightermanlaw08.WeightsReads", spec := "weightsReads", apart := false }
def WeightsReadsSaid : Prop := weightsReadsRow.holds Try.pinned (OpenSpec.ofChange weightsReadsSpec)

/-- ITS FALSE NEIGHBOUR: 'it returns false'. Refute it at one input. -/
def weightsReadsWrong : ChangeSpec := { name := "weightsReads", fn := fun _ => fun
  | [d] => { results := [.lit (.bool false)], args := [d] }
  | _ => none }
def WeightsReadsWrongFalsely : Prop := weightsReadsRow.holds Try.pinned (OpenSpec.ofChange weightsReadsWrong)

/-- 'lightermanlaw08.WeightsWrites': WHATEVER THE INPUT: true; the input reads as it did. -/
def weightsWritesSpec : ChangeSpec := { name := "weightsWrites", fn := fun _ => fun
  | [d] => { results := [.lit (.bool true)], args := [d] }
  | _ => none }
def weightsWritesRow : OpenClaim := { program := "ytoepfjgekpdddaa", sum := "6cd2bc9ba9e5ddb819b7756c1ce30df6507358497f7547ec225239d7e3a1813a", func := "lighterman/lightermanlaw08.WeightsWrites", spec := "weightsWrites", apart := false }
def WeightsWritesSaid : Prop := weightsWritesRow.holds Try.pinned (OpenSpec.ofChange weightsWritesSpec)

/-- ITS FALSE NEIGHBOUR: 'it returns false'. Refute it at one input. -/
def weightsWritesWrong : ChangeSpec := { name := "weightsWrites", fn := fun _ => fun
  | [d] => { results := [.lit (.bool false)], args := [d] }
  | _ => none }
def WeightsWritesWrongFalsely : Prop := weightsWritesRow.holds Try.pinned (OpenSpec.ofChange weightsWritesWrong)

/-- 'lightermanlaw08.WeightsOf': WHATEVER THE INPUT: true; the input reads as it did. -/
def weightsOfSpec : ChangeSpec := { name := "weightsOf", fn := fun _ => fun
  | [d] => { results := [.lit (.bool true)], args := [d] }
  | _ => none }
def weightsOfRow : OpenClaim := { program := "ytoepfjgekpdddaa", sum := "6cd2bc9ba9e5ddb819b7756c1ce30df6507358497f7547ec225239d7e3a1813a", func := "lighterman/lightermanlaw08.WeightsOf", spec := "weightsOf", apart := false }
def WeightsOfSaid : Prop := weightsOfRow.holds Try.pinned (OpenSpec.ofChange weightsOfSpec)

/-- ITS FALSE NEIGHBOUR: 'it returns false'. Refute it at one input. -/
def weightsOfWrong : ChangeSpec := { name := "weightsOf", fn := fun _ => fun
  | [d] => { results := [.lit (.bool false)], args := [d] }
  | _ => none }
def WeightsOfWrongFalsely : Prop := weightsOfRow.holds Try.pinned (OpenSpec.ofChange weightsOfWrong)

/-- 'lightermanlaw08.WeightsFree': WHATEVER THE INPUT: true; the input reads as it did. -/
def weightsFreeSpec : ChangeSpec := { name := "weightsFree", fn := fun _ => fun
  | [d1, d2, d3] => { results := [.lit (.bool true)], args := [d1, d2, d3] }
  | _ => none }
def weightsFreeRow : OpenClaim := { program := "ytoepfjgekpdddaa", sum := "6cd2bc9ba9e5ddb819b7756c1ce30df6507358497f7547ec225239d7e3a1813a", func := "lighterman/lightermanlaw08.WeightsFree", spec := "weightsFree", apart := false }
def WeightsFreeSaid : Prop := weightsFreeRow.holds Try.pinned (OpenSpec.ofChange weightsFreeSpec)

/-- ITS FALSE NEIGHBOUR: 'it returns false'. Refute it at one input. -/
def weightsFreeWrong : ChangeSpec := { name := "weightsFree", fn := fun _ => fun
  | [d1, d2, d3] => { results := [.lit (.bool false)], args := [d1, d2, d3] }
  | _ => none }
def WeightsFreeWrongFalsely : Prop := weightsFreeRow.holds Try.pinned (OpenSpec.ofChange weightsFreeWrong)

/-- 'lightermanlaw08.WeightsLast': WHATEVER THE INPUT: true; the input reads as it did. -/
def weightsLastSpec : ChangeSpec := { name := "weightsLast", fn := fun _ => fun
  | [d1, d2] => { results := [.lit (.bool true)], args := [d1, d2] }
  | _ => none }
def weightsLastRow : OpenClaim := { program := "ytoepfjgekpdddaa", sum := "6cd2bc9ba9e5ddb819b7756c1ce30df6507358497f7547ec225239d7e3a1813a", func := "lighterman/lightermanlaw08.WeightsLast", spec := "weightsLast", apart := false }
def WeightsLastSaid : Prop := weightsLastRow.holds Try.pinned (OpenSpec.ofChange weightsLastSpec)

/-- ITS FALSE NEIGHBOUR: 'it returns false'. Refute it at one input. -/
def weightsLastWrong : ChangeSpec := { name := "weightsLast", fn := fun _ => fun
  | [d1, d2] => { results := [.lit (.bool false)], args := [d1, d2] }
  | _ => none }
def WeightsLastWrongFalsely : Prop := weightsLastRow.holds Try.pinned (OpenSpec.ofChange weightsLastWrong)

/-- 'lightermanlaw08.WeightsEven': WHATEVER THE INPUT: true; the input reads as it did. -/
def weightsEvenSpec : ChangeSpec := { name := "weightsEven", fn := fun _ => fun
  | [d1, d2, d3] => { results := [.lit (.bool true)], args := [d1, d2, d3] }
  | _ => none }
def weightsEvenRow : OpenClaim := { program := "ytoepfjgekpdddaa", sum := "6cd2bc9ba9e5ddb819b7756c1ce30df6507358497f7547ec225239d7e3a1813a", func := "lighterman/lightermanlaw08.WeightsEven", spec := "weightsEven", apart := false }
def WeightsEvenSaid : Prop := weightsEvenRow.holds Try.pinned (OpenSpec.ofChange weightsEvenSpec)

/-- ITS FALSE NEIGHBOUR: 'it returns false'. Refute it at one input. -/
def weightsEvenWrong : ChangeSpec := { name := "weightsEven", fn := fun _ => fun
  | [d1, d2, d3] => { results := [.lit (.bool false)], args := [d1, d2, d3] }
  | _ => none }
def WeightsEvenWrongFalsely : Prop := weightsEvenRow.holds Try.pinned (OpenSpec.ofChange weightsEvenWrong)

/- THE SECOND FORM. 'bulk': how many values and letters a reading holds, each counted each time it is reached (what is shared counts as often as it is met; a slice's spare places count too). A statement '..UptoSaid' is the law's where the arguments, and the package variables that the reading takes, are together of bulk at most 1048576: NARROWER than '..Said'. Prove '..Said' where nothing that the law and all that it calls make is longer than what came in: it says more and counts as full. Else prove '..UptoSaid'. A law counts once. -/
mutual
def uptoBulk {H : Type} : DataW H → Nat
  | .lit (.string bytes) => bytes.length + 1
  | .lit _ => 1
  | .nil => 1
  | .ptr d => uptoBulk d + 1
  | .slice elems spare => uptoBulkAll elems + uptoBulkAll spare + 1
  | .agg parts => uptoBulkAll parts + 1
  | .iface _ d => uptoBulk d + 1
  | .map entries => uptoBulkEntries entries + 1
  | .held _ => 1
def uptoBulkAll {H : Type} : List (DataW H) → Nat
  | [] => 0
  | d :: r => uptoBulk d + uptoBulkAll r
def uptoBulkEntries {H : Type} : List (Lit × DataW H) → Nat
  | [] => 0
  | x :: r => uptoBulkEntry x + uptoBulkEntries r
def uptoBulkEntry {H : Type} : Lit × DataW H → Nat
  | (.string bytes, d) => bytes.length + uptoBulk d + 1
  | (_, d) => uptoBulk d + 1
 end
def uptoSmall : (H : Type) → List (DataW H) → Bool := fun _ ds => decide (uptoBulkAll ds ≤ 1048576)
def OpenSpec.upto (s : _root_.Go.ChangeSpec) : _root_.Go.OpenSpec := { _root_.Go.OpenSpec.ofChange s with cond := some uptoSmall }

/-- 'lightermanlaw08.WeightsWhole', WHERE WHAT IT READS IS OF BULK AT MOST 1048576: true; the input reads as it did. -/
def weightsWholeUptoRow : OpenClaim := { program := "ytoepfjgekpdddaa", sum := "6cd2bc9ba9e5ddb819b7756c1ce30df6507358497f7547ec225239d7e3a1813a", func := "lighterman/lightermanlaw08.WeightsWhole", spec := "weightsWhole", apart := false, narrowed := true }
def WeightsWholeUptoSaid : Prop := weightsWholeUptoRow.holds Try.pinned (OpenSpec.upto weightsWholeSpec)

/-- 'lightermanlaw08.WeightsReads', WHERE WHAT IT READS IS OF BULK AT MOST 1048576: true; the input reads as it did. -/
def weightsReadsUptoRow : OpenClaim := { program := "ytoepfjgekpdddaa", sum := "6cd2bc9ba9e5ddb819b7756c1ce30df6507358497f7547ec225239d7e3a1813a", func := "lighterman/lightermanlaw08.WeightsReads", spec := "weightsReads", apart := false, narrowed := true }
def WeightsReadsUptoSaid : Prop := weightsReadsUptoRow.holds Try.pinned (OpenSpec.upto weightsReadsSpec)

/-- 'lightermanlaw08.WeightsWrites', WHERE WHAT IT READS IS OF BULK AT MOST 1048576: true; the input reads as it did. -/
def weightsWritesUptoRow : OpenClaim := { program := "ytoepfjgekpdddaa", sum := "6cd2bc9ba9e5ddb819b7756c1ce30df6507358497f7547ec225239d7e3a1813a", func := "lighterman/lightermanlaw08.WeightsWrites", spec := "weightsWrites", apart := false, narrowed := true }
def WeightsWritesUptoSaid : Prop := weightsWritesUptoRow.holds Try.pinned (OpenSpec.upto weightsWritesSpec)

/-- 'lightermanlaw08.WeightsOf', WHERE WHAT IT READS IS OF BULK AT MOST 1048576: true; the input reads as it did. -/
def weightsOfUptoRow : OpenClaim := { program := "ytoepfjgekpdddaa", sum := "6cd2bc9ba9e5ddb819b7756c1ce30df6507358497f7547ec225239d7e3a1813a", func := "lighterman/lightermanlaw08.WeightsOf", spec := "weightsOf", apart := false, narrowed := true }
def WeightsOfUptoSaid : Prop := weightsOfUptoRow.holds Try.pinned (OpenSpec.upto weightsOfSpec)

/-- 'lightermanlaw08.WeightsFree', WHERE WHAT IT READS IS OF BULK AT MOST 1048576: true; the input reads as it did. -/
def weightsFreeUptoRow : OpenClaim := { program := "ytoepfjgekpdddaa", sum := "6cd2bc9ba9e5ddb819b7756c1ce30df6507358497f7547ec225239d7e3a1813a", func := "lighterman/lightermanlaw08.WeightsFree", spec := "weightsFree", apart := false, narrowed := true }
def WeightsFreeUptoSaid : Prop := weightsFreeUptoRow.holds Try.pinned (OpenSpec.upto weightsFreeSpec)

/-- 'lightermanlaw08.WeightsLast', WHERE WHAT IT READS IS OF BULK AT MOST 1048576: true; the input reads as it did. -/
def weightsLastUptoRow : OpenClaim := { program := "ytoepfjgekpdddaa", sum := "6cd2bc9ba9e5ddb819b7756c1ce30df6507358497f7547ec225239d7e3a1813a", func := "lighterman/lightermanlaw08.WeightsLast", spec := "weightsLast", apart := false, narrowed := true }
def WeightsLastUptoSaid : Prop := weightsLastUptoRow.holds Try.pinned (OpenSpec.upto weightsLastSpec)

/-- 'lightermanlaw08.WeightsEven', WHERE WHAT IT READS IS OF BULK AT MOST 1048576: true; the input reads as it did. -/
def weightsEvenUptoRow : OpenClaim := { program := "ytoepfjgekpdddaa", sum := "6cd2bc9ba9e5ddb819b7756c1ce30df6507358497f7547ec225239d7e3a1813a", func := "lighterman/lightermanlaw08.WeightsEven", spec := "weightsEven", apart := false, narrowed := true }
def WeightsEvenUptoSaid : Prop := weightsEvenUptoRow.holds Try.pinned (OpenSpec.upto weightsEvenSpec)

end Rows
end Go.Proofs.Ytoepfjgekpdddaa
