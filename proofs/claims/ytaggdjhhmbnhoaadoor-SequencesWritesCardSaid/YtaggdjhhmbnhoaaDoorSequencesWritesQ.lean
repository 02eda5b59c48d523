/- The row of SequencesWrites. It holds for every input. -/
import Derived.Test.YtaggdjhhmbnhoaaDoorSvF
import Derived.Test.YtaggdjhhmbnhoaaDoorCards
import Derived.Test.YtaggdjhhmbnhoaaDoorTie
import Derived.ProofKit
import Derived.LaidMore
import Derived.OpenShut
import Derived.Stop.Joined
import Derived.Stop.LaidErr
import Derived.Lib.LaidTab
import Derived.SevenTiedAt
namespace Go.Proofs.YtaggdjhhmbnhoaaDoor.sequencesWrites
open Go Go.En Go.ChangeShapes Go.WideShapes Go.ChangeAt Go.RowKit Go.WideMaps Go.WideElems
set_option linter.unusedVariables false
theorem own : ownKnob Tryd.prog.godebug = none := by kernel_rfl
def laidT : List (String × DataW Unit) := [("lighterman/codes.literals", Lib.tabData .i64 [1, 1, 1, 1, 2, 2, 3, 3, 4, 6, 7, 8, 9, 10, 11, 12, 13, 14, 15, 16]), ("lighterman/codes.matches", Lib.tabData .i64 [1, 1, 1, 1, 2, 2, 3, 3, 4, 4, 5, 7, 8, 9, 10, 11, 12, 13, 14, 15, 16]), ("lighterman/tables.literals", Lib.tabData .i64 [4, 3, 2, 2, 2, 2, 2, 2, 2, 2, 2, 2, 2, 1, 1, 1, 2, 2, 2, 2, 2, 2, 2, 2, 2, 3, 2, 1, 1, 1, 1, 1, -1, -1, -1, -1]), ("lighterman/tables.offsets", Lib.tabData .i64 [1, 1, 1, 1, 1, 1, 2, 2, 2, 1, 1, 1, 1, 1, 1, 1, 1, 1, 1, 1, 1, 1, 1, 1, -1, -1, -1, -1, -1]), ("lighterman/tables.matches", Lib.tabData .i64 [1, 4, 3, 2, 2, 2, 2, 2, 2, 1, 1, 1, 1, 1, 1, 1, 1, 1, 1, 1, 1, 1, 1, 1, 1, 1, 1, 1, 1, 1, 1, 1, 1, 1, 1, 1, 1, 1, 1, 1, 1, 1, 1, 1, 1, 1, -1, -1, -1, -1, -1, -1, -1])]
theorem laidT_eq : laidT = Rows.sequencesWritesRow.laid := rfl
theorem gn0 : Tryd.prog.globalNamed "lighterman/codes.literals" = some 3 := by kernel_rfl
theorem gt0 : (Tryd.prog.globals[3]?).map (·.type) = some 190 := by kernel_rfl
theorem gc0 : Tryd.prog.cellsOf 190 = 20 := by kernel_rfl
theorem gn1 : Tryd.prog.globalNamed "lighterman/codes.matches" = some 4 := by kernel_rfl
theorem gt1 : (Tryd.prog.globals[4]?).map (·.type) = some 191 := by kernel_rfl
theorem gc1 : Tryd.prog.cellsOf 191 = 21 := by kernel_rfl
theorem gn2 : Tryd.prog.globalNamed "lighterman/tables.literals" = some 0 := by kernel_rfl
theorem gt2 : (Tryd.prog.globals[0]?).map (·.type) = some 174 := by kernel_rfl
theorem gc2 : Tryd.prog.cellsOf 174 = 36 := by kernel_rfl
theorem gn3 : Tryd.prog.globalNamed "lighterman/tables.offsets" = some 1 := by kernel_rfl
theorem gt3 : (Tryd.prog.globals[1]?).map (·.type) = some 175 := by kernel_rfl
theorem gc3 : Tryd.prog.cellsOf 175 = 29 := by kernel_rfl
theorem gn4 : Tryd.prog.globalNamed "lighterman/tables.matches" = some 2 := by kernel_rfl
theorem gt4 : (Tryd.prog.globals[2]?).map (·.type) = some 176 := by kernel_rfl
theorem gc4 : Tryd.prog.cellsOf 176 = 53 := by kernel_rfl
theorem ge : Tryd.prog.cellsOf 3 = 1 := by kernel_rfl
set_option maxRecDepth 100000 in
theorem door_met (os : Os) (args : Array Value) : laidMetH Tryd.prog laidT ((World.doorLaid Tryd.prog 34 os).forCall (fun _ _ => 0) ⟨#[], args, []⟩).memory :=
 laidMetH_of_parts3 (fuel := 8) (laidMet_of_run' 8 (by kernel_rfl) (by kernel_rfl)) (by kernel_rfl) (by kernel_rfl)
theorem of_laid {W : World} (h : laidMetH Tryd.prog laidT W) : vW W := by
 rw [MakeChecks.laidMetH_plain _ _ _ (by kernel_rfl)] at h
 refine ⟨fun i hi => ?_, fun i hi => ?_, fun i hi => ?_, fun i hi => ?_, fun i hi => ?_⟩
 .have hh := Lib.tabIs_of_head gn0 gt0 Tryd.underlying190 Tryd.underlying3 ge gc0 h
  have hc : W.cell? ⟨3, i, none⟩ = some (.int .i64 (zCL.getD i 0)) := hh.cell gn0 i hi
  rw [TX zCL i hi] at hc
  exact hc
 .have hh := Lib.tabIs_of_head gn1 gt1 Tryd.underlying191 Tryd.underlying3 ge gc1 h.tail
  have hc : W.cell? ⟨4, i, none⟩ = some (.int .i64 (zCM.getD i 0)) := hh.cell gn1 i hi
  rw [TX zCM i hi] at hc
  exact hc
 .have hh := Lib.tabIs_of_head gn2 gt2 Tryd.underlying174 Tryd.underlying3 ge gc2 h.tail.tail
  have hc : W.cell? ⟨0, i, none⟩ = some (.int .i64 (zTL.getD i 0)) := hh.cell gn2 i hi
  rw [TX zTL i hi] at hc
  exact hc
 .have hh := Lib.tabIs_of_head gn3 gt3 Tryd.underlying175 Tryd.underlying3 ge gc3 h.tail.tail.tail
  have hc : W.cell? ⟨1, i, none⟩ = some (.int .i64 (zTO.getD i 0)) := hh.cell gn3 i hi
  rw [TX zTO i hi] at hc
  exact hc
 .have hh := Lib.tabIs_of_head gn4 gt4 Tryd.underlying176 Tryd.underlying3 ge gc4 h.tail.tail.tail.tail
  have hc : W.cell? ⟨2, i, none⟩ = some (.int .i64 (zTM.getD i 0)) := hh.cell gn4 i hi
  rw [TX zTM i hi] at hc
  exact hc
set_option maxRecDepth 100000 in
theorem lifted (os : Os) (started : os.Started) (H : Type) (enc : TypeId × Value → H) :
 ReturnsInHanded {} Tryd.checked os 4 .any (fun w args => (Rows.sequencesWritesSpec.pre enc Tryd.prog Tryd.f4 [] false w args ∧ laidMetH Tryd.prog laidT w) ∧ sizedMet enc Tryd.prog Tryd.f4 (OpenSpec.ofChange Rows.sequencesWritesSpec) false w args) (Rows.sequencesWritesSpec.post enc Tryd.prog Tryd.f4 false true false false) := by
 refine returnsInHanded_of_change_and (C := Tryd.checked) (X := fun w _ => laidMetH Tryd.prog laidT w) (fun _ _ _ hh h => h.of_heap hh) own started (by kernel_rfl) Tryd.func4
  (ChangeSpec.witness_shaped (enc := enc) (C := Tryd.checked) (os := os) (X := fun w _ => laidMetH Tryd.prog laidT w) false (World.doorLaid Tryd.prog 34 os) #[.slice none 0 0, .bool false, .agg #[.int .u8 0, .int .u8 0, .int .u8 0]] 8 rfl (World.shaped_of_RefB (by kernel_rfl) (by kernel_rfl)) (by kernel_rfl) (by kernel_rfl) (by kernel_rfl) (door_met os _)) ?_
 intro W base args ds gs before hval0 hW _ _ hL _
 have hval : ∀ (j : Nat) t v, Tryd.f4.params[j]? = some t → args[j]? = some v → Value.okWide Tryd.prog W .any base t v := hval0
 have hW' := hW
 obtain ⟨p, q, hA0, hV, rfl, hfz, hnd⟩ := hW
 have hA : DataW.TrodAll enc Tryd.prog W 0 (fun _ => true) true Tryd.f4.params.toList args.toList ds p := hA0
 rw [Tryd.params4] at hA hval
 obtain ⟨v0, vq0, d0, ds0, p0, q0, hargs, rfl, rfl, h0, r0⟩ := trodAll_cons hA
 obtain ⟨v1, vq1, d1, ds1, p1, q1, rfl, rfl, rfl, h1, r1⟩ := trodAll_cons r0
 obtain ⟨v2, vq2, d2, ds2, p2, q2, rfl, rfl, rfl, h2, r2⟩ := trodAll_cons r1
 obtain ⟨rfl, rfl, rfl⟩ := trodAll_nil r2
 obtain rfl : args = #[v0, v1, v2] := by cases args; simp_all
 obtain ⟨rfl, rfl⟩ := trodVars_none hV
 obtain ⟨z0, s0, l0, w0⟩ := aDj Tryd.underlying24 Tryd.underlying47 Tryd.underlying43 Tryd.underlying43 Tryd.underlying43 rfl rfl rfl (by kernel_rfl) (by kernel_rfl) (by kernel_rfl) (by kernel_rfl) (hval 0 24 v0 rfl rfl) h0
 obtain ⟨c1, rfl, rfl, rfl⟩ := open_bool Tryd.underlying4 (hval 1 4 v1 rfl rfl) h1
 obtain ⟨z2, rfl, w2⟩ := aEV Tryd.underlying41 Tryd.underlying5 (by kernel_rfl) (by kernel_rfl) (hval 2 41 v2 rfl rfl) h2
 have hG := of_laid hL
 clear hA0 hval0
 refine (atE (YH hG s0 w0 w2 l0)).mono ?_
 rintro e W' ⟨v, rfl, rfl, hx⟩
 exact ⟨_, rfl, aFe (tb := 4) (by kernel_rfl) (by kernel_rfl) (by kernel_rfl) Tryd.underlying4 hW' rfl rfl rfl rfl hx⟩
theorem over : Rows.sequencesWritesRow.holds Tryd.pinned (OpenSpec.ofChange Rows.sequencesWritesSpec) :=
 OpenClaim.holds_of_wide 4 Tryd.f4 rfl rfl rfl rfl rfl rfl rfl ⟨rfl, rfl, rfl, rfl, rfl⟩ rfl rfl rfl rfl rfl (by kernel_rfl) Tryd.func4 (by kernel_rfl)
  (of_decide_eq_true (by kernel_rfl)) (by unfold Func.isWrapper; first | (rw [if_pos (by decide +kernel)]; kernel_rfl) | (rw [if_neg (by decide +kernel)]; exact ⟨rfl, rfl⟩))
  (fun os started H enc _ => lifted os started H enc)
theorem proved : Rows.SequencesWritesCardSaid :=
 Claim7.holds_tied_plain_at .later [] [.data, .data, .data, .data, .data] true (true, "8d8ce6ed8c520295257bf753cdd8499d111c7859a5fc1edd0785b9892fec265f") false
  over (fun _ h => by cases h) (by kernel_rfl) (fun _ h => by cases h) sequencesWrites_row_tie rfl ⟨rfl, rfl⟩ (by kernel_rfl) rfl
  (fun f fn hf hfn => by
   obtain rfl : f = 4 := Option.some.inj ((show Tryd.prog.funcNamed "lighterman/lightermanlaw13.SequencesWrites" = some 4 by kernel_rfl).symm.trans hf) |>.symm
   obtain rfl : fn = Tryd.f4 := (Option.some.inj (Tryd.func4.symm.trans hfn)).symm
   exact ⟨by kernel_rfl, fun j t ht => by
    rw [Tryd.params4] at ht
    have hm : t ∈ [24, 4, 41] := by simpa using Array.mem_of_getElem? ht
    have hall : ([24, 4, 41].all fun u => !Tryd.prog.wantsStandIn u) = true := by kernel_rfl
    exact (show Tryd.prog.wantsStandIn t = false by simpa using List.all_eq_true.1 hall t hm)⟩)
  (by kernel_rfl)
end Go.Proofs.YtaggdjhhmbnhoaaDoor.sequencesWrites
