/-
  No cell of these rows narrows 'for every input' (looked for: loops, veiled, ifaces, maps, wideKeys, modest, calm, conditions, laid).
  DERIVED. THE GIVEN ROWS OF THIS SEAT. 10 by the template 'for every input the law returns true; each argument reads behind the call as it read before'; 0 by the template 'total and deterministic' (their statements: YtcbkdccobhkbpaaTotals.lean).
  GIVEN WITH THE SEED: the statements are not yours to turn. If you find one false, say at which input.
  Laid BY PROGRAM, IN A SANDBOX (cutbox-rows.mjs): the forced cells as the released guide's own fill.sh prints them over the translation 96e27225195e19fd… (all of the seat's roots in one cut). By AI agents, Wed Nov 11 2026. No macro, syntax, notation, axiom, sorry.
-/
import Derived.Test.YtcbkdccobhkbpaaChecked
import GoSem.Claim
import GoSem.ClaimJoined
import GoSem.ClaimMapViews
import Derived.JoinedTies
import Derived.KernelRfl
namespace Go.Proofs.Ytcbkdccobhkbpaa
/- THE CELL 'sum', in the pinned program and in every row, IS THE sha256 OF THE DUMP (.gsa) THAT YtcbkdccobhkbpaaProg.lean LOADS. Nothing in Lean hashes anything: it is a label: what it is worth is what the hold of that sum in a sandbox is worth. -/
noncomputable def Try.pinned : Pinned := { name := "ytcbkdccobhkbpaa", sum := "96e27225195e19fd824678e591b931bfa5da1d7e5923844635e0cb3e2824c470", checked := Try.checked }
namespace Rows
def none {H : Type} : Left H := { results := [], args := [] }

/-- 'lightermanlaw07.FseBuilds': WHATEVER THE INPUT: true; the input reads as it did. -/
def fseBuildsSpec : ChangeSpec := { name := "fseBuilds", fn := fun _ => fun
  | [d] => { results := [.lit (.bool true)], args := [d] }
  | _ => none }
def fseBuildsRow : OpenClaim := { program := "ytcbkdccobhkbpaa", sum := "96e27225195e19fd824678e591b931bfa5da1d7e5923844635e0cb3e2824c470", func := "lighterman/lightermanlaw07.FseBuilds", spec := "fseBuilds", apart := false }
def FseBuildsSaid : Prop := fseBuildsRow.holds Try.pinned (OpenSpec.ofChange fseBuildsSpec)

/-- ITS FALSE NEIGHBOUR: 'it returns false'. Refute it at one input. -/
def fseBuildsWrong : ChangeSpec := { name := "fseBuilds", fn := fun _ => fun
  | [d] => { results := [.lit (.bool false)], args := [d] }
  | _ => none }
def FseBuildsWrongFalsely : Prop := fseBuildsRow.holds Try.pinned (OpenSpec.ofChange fseBuildsWrong)

/-- 'lightermanlaw07.FseParts': WHATEVER THE INPUT: true; the input reads as it did. -/
def fsePartsSpec : ChangeSpec := { name := "fseParts", fn := fun _ => fun
  | [d] => { results := [.lit (.bool true)], args := [d] }
  | _ => none }
def fsePartsRow : OpenClaim := { program := "ytcbkdccobhkbpaa", sum := "96e27225195e19fd824678e591b931bfa5da1d7e5923844635e0cb3e2824c470", func := "lighterman/lightermanlaw07.FseParts", spec := "fseParts", apart := false }
def FsePartsSaid : Prop := fsePartsRow.holds Try.pinned (OpenSpec.ofChange fsePartsSpec)

/-- ITS FALSE NEIGHBOUR: 'it returns false'. Refute it at one input. -/
def fsePartsWrong : ChangeSpec := { name := "fseParts", fn := fun _ => fun
  | [d] => { results := [.lit (.bool false)], args := [d] }
  | _ => none }
def FsePartsWrongFalsely : Prop := fsePartsRow.holds Try.pinned (OpenSpec.ofChange fsePartsWrong)

/-- 'lightermanlaw07.FseBefore': WHATEVER THE INPUT: true; the input reads as it did. -/
def fseBeforeSpec : ChangeSpec := { name := "fseBefore", fn := fun _ => fun
  | [d1, d2, d3] => { results := [.lit (.bool true)], args := [d1, d2, d3] }
  | _ => none }
def fseBeforeRow : OpenClaim := { program := "ytcbkdccobhkbpaa", sum := "96e27225195e19fd824678e591b931bfa5da1d7e5923844635e0cb3e2824c470", func := "lighterman/lightermanlaw07.FseBefore", spec := "fseBefore", apart := false }
def FseBeforeSaid : Prop := fseBeforeRow.holds Try.pinned (OpenSpec.ofChange fseBeforeSpec)

/-- ITS FALSE NEIGHBOUR: 'it returns false'. Refute it at one input. -/
def fseBeforeWrong : ChangeSpec := { name := "fseBefore", fn := fun _ => fun
  | [d1, d2, d3] => { results := [.lit (.bool false)], args := [d1, d2, d3] }
  | _ => none }
def FseBeforeWrongFalsely : Prop := fseBeforeRow.holds Try.pinned (OpenSpec.ofChange fseBeforeWrong)

/-- 'lightermanlaw07.FseReads': WHATEVER THE INPUT: true; the input reads as it did. -/
def fseReadsSpec : ChangeSpec := { name := "fseReads", fn := fun _ => fun
  | [d1, d2, d3, d4] => { results := [.lit (.bool true)], args := [d1, d2, d3, d4] }
  | _ => none }
def fseReadsRow : OpenClaim := { program := "ytcbkdccobhkbpaa", sum := "96e27225195e19fd824678e591b931bfa5da1d7e5923844635e0cb3e2824c470", func := "lighterman/lightermanlaw07.FseReads", spec := "fseReads", apart := false }
def FseReadsSaid : Prop := fseReadsRow.holds Try.pinned (OpenSpec.ofChange fseReadsSpec)

/-- ITS FALSE NEIGHBOUR: 'it returns false'. Refute it at one input. -/
def fseReadsWrong : ChangeSpec := { name := "fseReads", fn := fun _ => fun
  | [d1, d2, d3, d4] => { results := [.lit (.bool false)], args := [d1, d2, d3, d4] }
  | _ => none }
def FseReadsWrongFalsely : Prop := fseReadsRow.holds Try.pinned (OpenSpec.ofChange fseReadsWrong)

/-- 'lightermanlaw07.FseBack': WHATEVER THE INPUT: true; the input reads as it did. -/
def fseBackSpec : ChangeSpec := { name := "fseBack", fn := fun _ => fun
  | [d1, d2] => { results := [.lit (.bool true)], args := [d1, d2] }
  | _ => none }
def fseBackRow : OpenClaim := { program := "ytcbkdccobhkbpaa", sum := "96e27225195e19fd824678e591b931bfa5da1d7e5923844635e0cb3e2824c470", func := "lighterman/lightermanlaw07.FseBack", spec := "fseBack", apart := false }
def FseBackSaid : Prop := fseBackRow.holds Try.pinned (OpenSpec.ofChange fseBackSpec)

/-- ITS FALSE NEIGHBOUR: 'it returns false'. Refute it at one input. -/
def fseBackWrong : ChangeSpec := { name := "fseBack", fn := fun _ => fun
  | [d1, d2] => { results := [.lit (.bool false)], args := [d1, d2] }
  | _ => none }
def FseBackWrongFalsely : Prop := fseBackRow.holds Try.pinned (OpenSpec.ofChange fseBackWrong)

/-- 'lightermanlaw06.NormalReads': WHATEVER THE INPUT: true; the input reads as it did. -/
def normalReadsSpec : ChangeSpec := { name := "normalReads", fn := fun _ => fun
  | [d1, d2, d3] => { results := [.lit (.bool true)], args := [d1, d2, d3] }
  | _ => none }
def normalReadsRow : OpenClaim := { program := "ytcbkdccobhkbpaa", sum := "96e27225195e19fd824678e591b931bfa5da1d7e5923844635e0cb3e2824c470", func := "lighterman/lightermanlaw06.NormalReads", spec := "normalReads", apart := false }
def NormalReadsSaid : Prop := normalReadsRow.holds Try.pinned (OpenSpec.ofChange normalReadsSpec)

/-- ITS FALSE NEIGHBOUR: 'it returns false'. Refute it at one input. -/
def normalReadsWrong : ChangeSpec := { name := "normalReads", fn := fun _ => fun
  | [d1, d2, d3] => { results := [.lit (.bool false)], args := [d1, d2, d3] }
  | _ => none }
def NormalReadsWrongFalsely : Prop := normalReadsRow.holds Try.pinned (OpenSpec.ofChange normalReadsWrong)

/-- 'lightermanlaw06.NormalWrites': WHATEVER THE INPUT: true; the input reads as it did. -/
def normalWritesSpec : ChangeSpec := { name := "normalWrites", fn := fun _ => fun
  | [d1, d2] => { results := [.lit (.bool true)], args := [d1, d2] }
  | _ => none }
def normalWritesRow : OpenClaim := { program := "ytcbkdccobhkbpaa", sum := "96e27225195e19fd824678e591b931bfa5da1d7e5923844635e0cb3e2824c470", func := "lighterman/lightermanlaw06.NormalWrites", spec := "normalWrites", apart := false }
def NormalWritesSaid : Prop := normalWritesRow.holds Try.pinned (OpenSpec.ofChange normalWritesSpec)

/-- ITS FALSE NEIGHBOUR: 'it returns false'. Refute it at one input. -/
def normalWritesWrong : ChangeSpec := { name := "normalWrites", fn := fun _ => fun
  | [d1, d2] => { results := [.lit (.bool false)], args := [d1, d2] }
  | _ => none }
def NormalWritesWrongFalsely : Prop := normalWritesRow.holds Try.pinned (OpenSpec.ofChange normalWritesWrong)

/-- 'lightermanlaw06.NormalOf': WHATEVER THE INPUT: true; the input reads as it did. -/
def normalOfSpec : ChangeSpec := { name := "normalOf", fn := fun _ => fun
  | [d1, d2] => { results := [.lit (.bool true)], args := [d1, d2] }
  | _ => none }
def normalOfRow : OpenClaim := { program := "ytcbkdccobhkbpaa", sum := "96e27225195e19fd824678e591b931bfa5da1d7e5923844635e0cb3e2824c470", func := "lighterman/lightermanlaw06.NormalOf", spec := "normalOf", apart := false }
def NormalOfSaid : Prop := normalOfRow.holds Try.pinned (OpenSpec.ofChange normalOfSpec)

/-- ITS FALSE NEIGHBOUR: 'it returns false'. Refute it at one input. -/
def normalOfWrong : ChangeSpec := { name := "normalOf", fn := fun _ => fun
  | [d1, d2] => { results := [.lit (.bool false)], args := [d1, d2] }
  | _ => none }
def NormalOfWrongFalsely : Prop := normalOfRow.holds Try.pinned (OpenSpec.ofChange normalOfWrong)

/-- 'lightermanlaw06.NormalCut': WHATEVER THE INPUT: true; the input reads as it did. -/
def normalCutSpec : ChangeSpec := { name := "normalCut", fn := fun _ => fun
  | [d1, d2, d3, d4] => { results := [.lit (.bool true)], args := [d1, d2, d3, d4] }
  | _ => none }
def normalCutRow : OpenClaim := { program := "ytcbkdccobhkbpaa", sum := "96e27225195e19fd824678e591b931bfa5da1d7e5923844635e0cb3e2824c470", func := "lighterman/lightermanlaw06.NormalCut", spec := "normalCut", apart := false }
def NormalCutSaid : Prop := normalCutRow.holds Try.pinned (OpenSpec.ofChange normalCutSpec)

/-- ITS FALSE NEIGHBOUR: 'it returns false'. Refute it at one input. -/
def normalCutWrong : ChangeSpec := { name := "normalCut", fn := fun _ => fun
  | [d1, d2, d3, d4] => { results := [.lit (.bool false)], args := [d1, d2, d3, d4] }
  | _ => none }
def NormalCutWrongFalsely : Prop := normalCutRow.holds Try.pinned (OpenSpec.ofChange normalCutWrong)

/-- 'lightermanlaw06.NormalLast': WHATEVER THE INPUT: true; the input reads as it did. -/
def normalLastSpec : ChangeSpec := { name := "normalLast", fn := fun _ => fun
  | [d1, d2, d3] => { results := [.lit (.bool true)], args := [d1, d2, d3] }
  | _ => none }
def normalLastRow : OpenClaim := { program := "ytcbkdccobhkbpaa", sum := "96e27225195e19fd824678e591b931bfa5da1d7e5923844635e0cb3e2824c470", func := "lighterman/lightermanlaw06.NormalLast", spec := "normalLast", apart := false }
def NormalLastSaid : Prop := normalLastRow.holds Try.pinned (OpenSpec.ofChange normalLastSpec)

/-- ITS FALSE NEIGHBOUR: 'it returns false'. Refute it at one input. -/
def normalLastWrong : ChangeSpec := { name := "normalLast", fn := fun _ => fun
  | [d1, d2, d3] => { results := [.lit (.bool false)], args := [d1, d2, d3] }
  | _ => none }
def NormalLastWrongFalsely : Prop := normalLastRow.holds Try.pinned (OpenSpec.ofChange normalLastWrong)

/- THE SECOND FORM. 'bulk': how many values and letters a reading holds, each counted each time it is reached (what is shared counts as often as it is met; a slice's spare places count too). A statement '..UptoSaid' is the law's where the arguments, and the package variables that the reading takes, are together of bulk at most 1048576: NARROWER than '..Said'. Prove '..Said' where nothing that the law and all that it calls make is longer than what came in: it says more and counts as full. Else prove '..UptoSaid'. A law counts once. -/
mutual
def uptoBulk {H : Type} : DataW H → Nat
  | .lit (.string bytes) => bytes.length + 1
  | .lit _ => 1
  | .nil => 1
  | .ptr d => uptoBulk d + 1
  | .slice elems spare => uptoBulkAll elems + uptoBulkAll spare + 1
  | .agg parts => uptoBulkAll parts + 1
  | .iface _ d => uptoBulk d + 1
  | .map entries => uptoBulkEntries entries + 1
  | .held _ => 1
def uptoBulkAll {H : Type} : List (DataW H) → Nat
  | [] => 0
  | d :: r => uptoBulk d + uptoBulkAll r
def uptoBulkEntries {H : Type} : List (Lit × DataW H) → Nat
  | [] => 0
  | x :: r => uptoBulkEntry x + uptoBulkEntries r
def uptoBulkEntry {H : Type} : Lit × DataW H → Nat
  | (.string bytes, d) => bytes.length + uptoBulk d + 1
  | (_, d) => uptoBulk d + 1
 end
def uptoSmall : (H : Type) → List (DataW H) → Bool := fun _ ds => decide (uptoBulkAll ds ≤ 1048576)
def OpenSpec.upto (s : _root_.Go.ChangeSpec) : _root_.Go.OpenSpec := { _root_.Go.OpenSpec.ofChange s with cond := some uptoSmall }

/-- 'lightermanlaw07.FseBuilds', WHERE WHAT IT READS IS OF BULK AT MOST 1048576: true; the input reads as it did. -/
def fseBuildsUptoRow : OpenClaim := { program := "ytcbkdccobhkbpaa", sum := "96e27225195e19fd824678e591b931bfa5da1d7e5923844635e0cb3e2824c470", func := "lighterman/lightermanlaw07.FseBuilds", spec := "fseBuilds", apart := false, narrowed := true }
def FseBuildsUptoSaid : Prop := fseBuildsUptoRow.holds Try.pinned (OpenSpec.upto fseBuildsSpec)

/-- 'lightermanlaw07.FseParts', WHERE WHAT IT READS IS OF BULK AT MOST 1048576: true; the input reads as it did. -/
def fsePartsUptoRow : OpenClaim := { program := "ytcbkdccobhkbpaa", sum := "96e27225195e19fd824678e591b931bfa5da1d7e5923844635e0cb3e2824c470", func := "lighterman/lightermanlaw07.FseParts", spec := "fseParts", apart := false, narrowed := true }
def FsePartsUptoSaid : Prop := fsePartsUptoRow.holds Try.pinned (OpenSpec.upto fsePartsSpec)

/-- 'lightermanlaw07.FseBefore', WHERE WHAT IT READS IS OF BULK AT MOST 1048576: true; the input reads as it did. -/
def fseBeforeUptoRow : OpenClaim := { program := "ytcbkdccobhkbpaa", sum := "96e27225195e19fd824678e591b931bfa5da1d7e5923844635e0cb3e2824c470", func := "lighterman/lightermanlaw07.FseBefore", spec := "fseBefore", apart := false, narrowed := true }
def FseBeforeUptoSaid : Prop := fseBeforeUptoRow.holds Try.pinned (OpenSpec.upto fseBeforeSpec)

/-- 'lightermanlaw07.FseReads', WHERE WHAT IT READS IS OF BULK AT MOST 1048576: true; the input reads as it did. -/
def fseReadsUptoRow : OpenClaim := { program := "ytcbkdccobhkbpaa", sum := "96e27225195e19fd824678e591b931bfa5da1d7e5923844635e0cb3e2824c470", func := "lighterman/lightermanlaw07.FseReads", spec := "fseReads", apart := false, narrowed := true }
def FseReadsUptoSaid : Prop := fseReadsUptoRow.holds Try.pinned (OpenSpec.upto fseReadsSpec)

/-- 'lightermanlaw07.FseBack', WHERE WHAT IT READS IS OF BULK AT MOST 1048576: true; the input reads as it did. -/
def fseBackUptoRow : OpenClaim := { program := "ytcbkdccobhkbpaa", sum := "96e27225195e19fd824678e591b931bfa5da1d7e5923844635e0cb3e2824c470", func := "lighterman/lightermanlaw07.FseBack", spec := "fseBack", apart := false, narrowed := true }
def FseBackUptoSaid : Prop := fseBackUptoRow.holds Try.pinned (OpenSpec.upto fseBackSpec)

/-- 'lightermanlaw06.NormalReads', WHERE WHAT IT READS IS OF BULK AT MOST 1048576: true; the input reads as it did. -/
def normalReadsUptoRow : OpenClaim := { program := "ytcbkdccobhkbpaa", sum := "96e27225195e19fd824678e591b931bfa5da1d7e5923844635e0cb3e2824c470", func := "lighterman/lightermanlaw06.NormalReads", spec := "normalReads", apart := false, narrowed := true }
def NormalReadsUptoSaid : Prop := normalReadsUptoRow.holds Try.pinned (OpenSpec.upto normalReadsSpec)

/-- 'lightermanlaw06.NormalWrites', WHERE WHAT IT READS IS OF BULK AT MOST 1048576: true; the input reads as it did. -/
def normalWritesUptoRow : OpenClaim := { program := "ytcbkdccobhkbpaa", sum := "96e27225195e19fd824678e591b931bfa5da1d7e5923844635e0cb3e2824c470", func := "lighterman/lightermanlaw06.NormalWrites", spec := "normalWrites", apart := false, narrowed := true }
def NormalWritesUptoSaid : Prop := normalWritesUptoRow.holds Try.pinned (OpenSpec.upto normalWritesSpec)

/-- 'lightermanlaw06.NormalOf', WHERE WHAT IT READS IS OF BULK AT MOST 1048576: true; the input reads as it did. -/
def normalOfUptoRow : OpenClaim := { program := "ytcbkdccobhkbpaa", sum := "96e27225195e19fd824678e591b931bfa5da1d7e5923844635e0cb3e2824c470", func := "lighterman/lightermanlaw06.NormalOf", spec := "normalOf", apart := false, narrowed := true }
def NormalOfUptoSaid : Prop := normalOfUptoRow.holds Try.pinned (OpenSpec.upto normalOfSpec)

/-- 'lightermanlaw06.NormalCut', WHERE WHAT IT READS IS OF BULK AT MOST 1048576: true; the input reads as it did. -/
def normalCutUptoRow : OpenClaim := { program := "ytcbkdccobhkbpaa", sum := "96e27225195e19fd824678e591b931bfa5da1d7e5923844635e0cb3e2824c470", func := "lighterman/lightermanlaw06.NormalCut", spec := "normalCut", apart := false, narrowed := true }
def NormalCutUptoSaid : Prop := normalCutUptoRow.holds Try.pinned (OpenSpec.upto normalCutSpec)

/-- 'lightermanlaw06.NormalLast', WHERE WHAT IT READS IS OF BULK AT MOST 1048576: true; the input reads as it did. -/
def normalLastUptoRow : OpenClaim := { program := "ytcbkdccobhkbpaa", sum := "96e27225195e19fd824678e591b931bfa5da1d7e5923844635e0cb3e2824c470", func := "lighterman/lightermanlaw06.NormalLast", spec := "normalLast", apart := false, narrowed := true }
def NormalLastUptoSaid : Prop := normalLastUptoRow.holds Try.pinned (OpenSpec.upto normalLastSpec)

end Rows
end Go.Proofs.Ytcbkdccobhkbpaa
