/-
  No cell of these rows narrows 'for every input' (looked for: loops, veiled, ifaces, maps, wideKeys, modest, calm, conditions, laid).
  DERIVED. THE GIVEN ROWS OF THIS SEAT. 4 by the template 'for every input the law returns true; each argument reads behind the call as it read before'; 0 by the template 'total and deterministic' (their statements: YtoobkaojepgnjaaTotals.lean).
  GIVEN WITH THE SEED: the statements are not yours to turn. If you find one false, say at which input.
  Laid BY PROGRAM, IN A SANDBOX (cutbox-rows.mjs): the forced cells as the released guide's own fill.sh prints them over the translation 56ad64a28b6b8fe0… (all of the seat's roots in one cut). By AI agents, Wed Nov 11 2026. No macro, syntax, notation, axiom, sorry.
-/
import Derived.Test.YtoobkaojepgnjaaChecked
import GoSem.Claim
import GoSem.ClaimJoined
import GoSem.ClaimMapViews
import Derived.JoinedTies
import Derived.KernelRfl
namespace Go.Proofs.Ytoobkaojepgnjaa
/- THE CELL 'sum', in the pinned program and in every row, IS THE sha256 OF THE DUMP (.gsa) THAT YtoobkaojepgnjaaProg.lean LOADS. Nothing in Lean hashes anything: it is a label: what it is worth is what the hold of that sum in a sandbox is worth. -/
noncomputable def Try.pinned : Pinned := { name := "ytoobkaojepgnjaa", sum := "56ad64a28b6b8fe04df253542d25f061fabdff6c99b6520623b2f4e18466e449", checked := Try.checked }
namespace Rows
def none {H : Type} : Left H := { results := [], args := [] }

/-- 'lightermanlaw17.MatchPlans': WHATEVER THE INPUT: true; the input reads as it did. -/
def matchPlansSpec : ChangeSpec := { name := "matchPlans", fn := fun _ => fun
  | [d1, d2, d3, d4] => { results := [.lit (.bool true)], args := [d1, d2, d3, d4] }
  | _ => none }
def matchPlansRow : OpenClaim := { program := "ytoobkaojepgnjaa", sum := "56ad64a28b6b8fe04df253542d25f061fabdff6c99b6520623b2f4e18466e449", func := "lighterman/lightermanlaw17.MatchPlans", spec := "matchPlans", plainKeys := false, apart := false }
def MatchPlansSaid : Prop := matchPlansRow.holds Try.pinned (OpenSpec.ofChange matchPlansSpec)

/-- ITS FALSE NEIGHBOUR: 'it returns false'. Refute it at one input. -/
def matchPlansWrong : ChangeSpec := { name := "matchPlans", fn := fun _ => fun
  | [d1, d2, d3, d4] => { results := [.lit (.bool false)], args := [d1, d2, d3, d4] }
  | _ => none }
def MatchPlansWrongFalsely : Prop := matchPlansRow.holds Try.pinned (OpenSpec.ofChange matchPlansWrong)

/-- 'lightermanlaw17.MatchSame': WHATEVER THE INPUT: true; the input reads as it did. -/
def matchSameSpec : ChangeSpec := { name := "matchSame", fn := fun _ => fun
  | [d1, d2, d3] => { results := [.lit (.bool true)], args := [d1, d2, d3] }
  | _ => none }
def matchSameRow : OpenClaim := { program := "ytoobkaojepgnjaa", sum := "56ad64a28b6b8fe04df253542d25f061fabdff6c99b6520623b2f4e18466e449", func := "lighterman/lightermanlaw17.MatchSame", spec := "matchSame", plainKeys := false, apart := false }
def MatchSameSaid : Prop := matchSameRow.holds Try.pinned (OpenSpec.ofChange matchSameSpec)

/-- ITS FALSE NEIGHBOUR: 'it returns false'. Refute it at one input. -/
def matchSameWrong : ChangeSpec := { name := "matchSame", fn := fun _ => fun
  | [d1, d2, d3] => { results := [.lit (.bool false)], args := [d1, d2, d3] }
  | _ => none }
def MatchSameWrongFalsely : Prop := matchSameRow.holds Try.pinned (OpenSpec.ofChange matchSameWrong)

/-- 'lightermanlaw17.MatchTwice': WHATEVER THE INPUT: true; the input reads as it did. -/
def matchTwiceSpec : ChangeSpec := { name := "matchTwice", fn := fun _ => fun
  | [d1, d2] => { results := [.lit (.bool true)], args := [d1, d2] }
  | _ => none }
def matchTwiceRow : OpenClaim := { program := "ytoobkaojepgnjaa", sum := "56ad64a28b6b8fe04df253542d25f061fabdff6c99b6520623b2f4e18466e449", func := "lighterman/lightermanlaw17.MatchTwice", spec := "matchTwice", plainKeys := false, apart := false }
def MatchTwiceSaid : Prop := matchTwiceRow.holds Try.pinned (OpenSpec.ofChange matchTwiceSpec)

/-- ITS FALSE NEIGHBOUR: 'it returns false'. Refute it at one input. -/
def matchTwiceWrong : ChangeSpec := { name := "matchTwice", fn := fun _ => fun
  | [d1, d2] => { results := [.lit (.bool false)], args := [d1, d2] }
  | _ => none }
def MatchTwiceWrongFalsely : Prop := matchTwiceRow.holds Try.pinned (OpenSpec.ofChange matchTwiceWrong)

/-- 'lightermanlaw17.MatchLevels': WHATEVER THE INPUT: true; the input reads as it did. -/
def matchLevelsSpec : ChangeSpec := { name := "matchLevels", fn := fun _ => fun
  | [d1, d2, d3] => { results := [.lit (.bool true)], args := [d1, d2, d3] }
  | _ => none }
def matchLevelsRow : OpenClaim := { program := "ytoobkaojepgnjaa", sum := "56ad64a28b6b8fe04df253542d25f061fabdff6c99b6520623b2f4e18466e449", func := "lighterman/lightermanlaw17.MatchLevels", spec := "matchLevels", plainKeys := false, apart := false }
def MatchLevelsSaid : Prop := matchLevelsRow.holds Try.pinned (OpenSpec.ofChange matchLevelsSpec)

/-- ITS FALSE NEIGHBOUR: 'it returns false'. Refute it at one input. -/
def matchLevelsWrong : ChangeSpec := { name := "matchLevels", fn := fun _ => fun
  | [d1, d2, d3] => { results := [.lit (.bool false)], args := [d1, d2, d3] }
  | _ => none }
def MatchLevelsWrongFalsely : Prop := matchLevelsRow.holds Try.pinned (OpenSpec.ofChange matchLevelsWrong)

/- THE SECOND FORM. 'bulk': how many values and letters a reading holds, each counted each time it is reached (what is shared counts as often as it is met; a slice's spare places count too). A statement '..UptoSaid' is the law's where the arguments, and the package variables that the reading takes, are together of bulk at most 1048576: NARROWER than '..Said'. Prove '..Said' where nothing that the law and all that it calls make is longer than what came in: it says more and counts as full. Else prove '..UptoSaid'. A law counts once. -/
mutual
def uptoBulk {H : Type} : DataW H → Nat
  | .lit (.string bytes) => bytes.length + 1
  | .lit _ => 1
  | .nil => 1
  | .ptr d => uptoBulk d + 1
  | .slice elems spare => uptoBulkAll elems + uptoBulkAll spare + 1
  | .agg parts => uptoBulkAll parts + 1
  | .iface _ d => uptoBulk d + 1
  | .map entries => uptoBulkEntries entries + 1
  | .held _ => 1
def uptoBulkAll {H : Type} : List (DataW H) → Nat
  | [] => 0
  | d :: r => uptoBulk d + uptoBulkAll r
def uptoBulkEntries {H : Type} : List (Lit × DataW H) → Nat
  | [] => 0
  | x :: r => uptoBulkEntry x + uptoBulkEntries r
def uptoBulkEntry {H : Type} : Lit × DataW H → Nat
  | (.string bytes, d) => bytes.length + uptoBulk d + 1
  | (_, d) => uptoBulk d + 1
 end
def uptoSmall : (H : Type) → List (DataW H) → Bool := fun _ ds => decide (uptoBulkAll ds ≤ 1048576)
def OpenSpec.upto (s : _root_.Go.ChangeSpec) : _root_.Go.OpenSpec := { _root_.Go.OpenSpec.ofChange s with cond := some uptoSmall }

/-- 'lightermanlaw17.MatchPlans', WHERE WHAT IT READS IS OF BULK AT MOST 1048576: true; the input reads as it did. -/
def matchPlansUptoRow : OpenClaim := { program := "ytoobkaojepgnjaa", sum := "56ad64a28b6b8fe04df253542d25f061fabdff6c99b6520623b2f4e18466e449", func := "lighterman/lightermanlaw17.MatchPlans", spec := "matchPlans", plainKeys := false, apart := false, narrowed := true }
def MatchPlansUptoSaid : Prop := matchPlansUptoRow.holds Try.pinned (OpenSpec.upto matchPlansSpec)

/-- 'lightermanlaw17.MatchSame', WHERE WHAT IT READS IS OF BULK AT MOST 1048576: true; the input reads as it did. -/
def matchSameUptoRow : OpenClaim := { program := "ytoobkaojepgnjaa", sum := "56ad64a28b6b8fe04df253542d25f061fabdff6c99b6520623b2f4e18466e449", func := "lighterman/lightermanlaw17.MatchSame", spec := "matchSame", plainKeys := false, apart := false, narrowed := true }
def MatchSameUptoSaid : Prop := matchSameUptoRow.holds Try.pinned (OpenSpec.upto matchSameSpec)

/-- 'lightermanlaw17.MatchTwice', WHERE WHAT IT READS IS OF BULK AT MOST 1048576: true; the input reads as it did. -/
def matchTwiceUptoRow : OpenClaim := { program := "ytoobkaojepgnjaa", sum := "56ad64a28b6b8fe04df253542d25f061fabdff6c99b6520623b2f4e18466e449", func := "lighterman/lightermanlaw17.MatchTwice", spec := "matchTwice", plainKeys := false, apart := false, narrowed := true }
def MatchTwiceUptoSaid : Prop := matchTwiceUptoRow.holds Try.pinned (OpenSpec.upto matchTwiceSpec)

/-- 'lightermanlaw17.MatchLevels', WHERE WHAT IT READS IS OF BULK AT MOST 1048576: true; the input reads as it did. -/
def matchLevelsUptoRow : OpenClaim := { program := "ytoobkaojepgnjaa", sum := "56ad64a28b6b8fe04df253542d25f061fabdff6c99b6520623b2f4e18466e449", func := "lighterman/lightermanlaw17.MatchLevels", spec := "matchLevels", plainKeys := false, apart := false, narrowed := true }
def MatchLevelsUptoSaid : Prop := matchLevelsUptoRow.holds Try.pinned (OpenSpec.upto matchLevelsSpec)

end Rows
end Go.Proofs.Ytoobkaojepgnjaa
