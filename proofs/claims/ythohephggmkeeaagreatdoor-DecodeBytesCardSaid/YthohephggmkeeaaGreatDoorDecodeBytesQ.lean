/- The row of DecodeBytes. It holds for every input. -/
import Derived.Test.YthohephggmkeeaaGreatDoorZpF
import Derived.Test.YthohephggmkeeaaGreatDoorCards
import Derived.Test.YthohephggmkeeaaGreatDoorTie
import Derived.ProofKit
import Derived.LaidMore
import Derived.OpenShut
import Derived.Stop.Joined
import Derived.Stop.LaidErr
import Derived.Lib.LaidTab
import Derived.SevenTiedAt
namespace Go.Proofs.YthohephggmkeeaaGreatDoor.decodeBytes
open Go Go.En Go.ChangeShapes Go.WideShapes Go.ChangeAt Go.RowKit Go.WideMaps Go.WideElems
set_option linter.unusedVariables false
theorem own : ownKnob Tryz.prog.godebug = none := by kernel_rfl
def laidT : List (String × DataW Unit) := [("lighterman/codes.literals", Lib.tabData .i64 [1, 1, 1, 1, 2, 2, 3, 3, 4, 6, 7, 8, 9, 10, 11, 12, 13, 14, 15, 16]), ("lighterman/codes.matches", Lib.tabData .i64 [1, 1, 1, 1, 2, 2, 3, 3, 4, 4, 5, 7, 8, 9, 10, 11, 12, 13, 14, 15, 16]), ("lighterman/tables.literals", Lib.tabData .i64 [4, 3, 2, 2, 2, 2, 2, 2, 2, 2, 2, 2, 2, 1, 1, 1, 2, 2, 2, 2, 2, 2, 2, 2, 2, 3, 2, 1, 1, 1, 1, 1, -1, -1, -1, -1]), ("lighterman/tables.offsets", Lib.tabData .i64 [1, 1, 1, 1, 1, 1, 2, 2, 2, 1, 1, 1, 1, 1, 1, 1, 1, 1, 1, 1, 1, 1, 1, 1, -1, -1, -1, -1, -1]), ("lighterman/tables.matches", Lib.tabData .i64 [1, 4, 3, 2, 2, 2, 2, 2, 2, 1, 1, 1, 1, 1, 1, 1, 1, 1, 1, 1, 1, 1, 1, 1, 1, 1, 1, 1, 1, 1, 1, 1, 1, 1, 1, 1, 1, 1, 1, 1, 1, 1, 1, 1, 1, 1, -1, -1, -1, -1, -1, -1, -1])]
theorem laidT_eq : laidT = Rows.decodeBytesRow.laid := rfl
theorem gn0 : Tryz.prog.globalNamed "lighterman/codes.literals" = some 0 := by kernel_rfl
theorem gt0 : (Tryz.prog.globals[0]?).map (·.type) = some 275 := by kernel_rfl
theorem gc0 : Tryz.prog.cellsOf 275 = 20 := by kernel_rfl
theorem gn1 : Tryz.prog.globalNamed "lighterman/codes.matches" = some 1 := by kernel_rfl
theorem gt1 : (Tryz.prog.globals[1]?).map (·.type) = some 276 := by kernel_rfl
theorem gc1 : Tryz.prog.cellsOf 276 = 21 := by kernel_rfl
theorem gn2 : Tryz.prog.globalNamed "lighterman/tables.literals" = some 2 := by kernel_rfl
theorem gt2 : (Tryz.prog.globals[2]?).map (·.type) = some 281 := by kernel_rfl
theorem gc2 : Tryz.prog.cellsOf 281 = 36 := by kernel_rfl
theorem gn3 : Tryz.prog.globalNamed "lighterman/tables.offsets" = some 3 := by kernel_rfl
theorem gt3 : (Tryz.prog.globals[3]?).map (·.type) = some 282 := by kernel_rfl
theorem gc3 : Tryz.prog.cellsOf 282 = 29 := by kernel_rfl
theorem gn4 : Tryz.prog.globalNamed "lighterman/tables.matches" = some 4 := by kernel_rfl
theorem gt4 : (Tryz.prog.globals[4]?).map (·.type) = some 283 := by kernel_rfl
theorem gc4 : Tryz.prog.cellsOf 283 = 53 := by kernel_rfl
theorem ge : Tryz.prog.cellsOf 3 = 1 := by kernel_rfl
set_option maxRecDepth 100000 in
theorem door_met (os : Os) (args : Array Value) : laidMetH Tryz.prog laidT ((World.doorLaid Tryz.prog 34 os).forCall (fun _ _ => 0) ⟨#[], args, []⟩).memory :=
 laidMetH_of_parts3 (fuel := 8) (laidMet_of_run' 8 (by kernel_rfl) (by kernel_rfl)) (by kernel_rfl) (by kernel_rfl)
theorem of_laid {W : World} (h : laidMetH Tryz.prog laidT W) : tY W := by
 rw [MakeChecks.laidMetH_plain _ _ _ (by kernel_rfl)] at h
 refine ⟨fun i hi => ?_, fun i hi => ?_, fun i hi => ?_, fun i hi => ?_, fun i hi => ?_⟩
 .have hh := Lib.tabIs_of_head gn0 gt0 Tryz.underlying275 Tryz.underlying3 ge gc0 h
  have hc : W.cell? ⟨0, i, none⟩ = some (.int .i64 (zCL.getD i 0)) := hh.cell gn0 i hi
  rw [Z3 zCL i hi] at hc
  exact hc
 .have hh := Lib.tabIs_of_head gn1 gt1 Tryz.underlying276 Tryz.underlying3 ge gc1 h.tail
  have hc : W.cell? ⟨1, i, none⟩ = some (.int .i64 (zCM.getD i 0)) := hh.cell gn1 i hi
  rw [Z3 zCM i hi] at hc
  exact hc
 .have hh := Lib.tabIs_of_head gn2 gt2 Tryz.underlying281 Tryz.underlying3 ge gc2 h.tail.tail
  have hc : W.cell? ⟨2, i, none⟩ = some (.int .i64 (zTL.getD i 0)) := hh.cell gn2 i hi
  rw [Z3 zTL i hi] at hc
  exact hc
 .have hh := Lib.tabIs_of_head gn3 gt3 Tryz.underlying282 Tryz.underlying3 ge gc3 h.tail.tail.tail
  have hc : W.cell? ⟨3, i, none⟩ = some (.int .i64 (zTO.getD i 0)) := hh.cell gn3 i hi
  rw [Z3 zTO i hi] at hc
  exact hc
 .have hh := Lib.tabIs_of_head gn4 gt4 Tryz.underlying283 Tryz.underlying3 ge gc4 h.tail.tail.tail.tail
  have hc : W.cell? ⟨4, i, none⟩ = some (.int .i64 (zTM.getD i 0)) := hh.cell gn4 i hi
  rw [Z3 zTM i hi] at hc
  exact hc
set_option maxRecDepth 100000 in
theorem lifted (os : Os) (started : os.Started) (H : Type) (enc : TypeId × Value → H) :
 ReturnsInHanded {} Tryz.checked os 3 .any (fun w args => (Rows.decodeBytesSpec.pre enc Tryz.prog Tryz.f3 [] false w args ∧ laidMetH Tryz.prog laidT w) ∧ sizedMet enc Tryz.prog Tryz.f3 (OpenSpec.ofChange Rows.decodeBytesSpec) false w args) (Rows.decodeBytesSpec.post enc Tryz.prog Tryz.f3 false true false false) := by
 refine returnsInHanded_of_change_and (C := Tryz.checked) (X := fun w _ => laidMetH Tryz.prog laidT w) (fun _ _ _ hh h => h.of_heap hh) own started (by kernel_rfl) Tryz.func3
  (ChangeSpec.witness_shaped (enc := enc) (C := Tryz.checked) (os := os) (X := fun w _ => laidMetH Tryz.prog laidT w) false (World.doorLaid Tryz.prog 34 os) #[.slice none 0 0, .int .i64 0, .int .i64 0] 8 rfl (World.shaped_of_RefB (by kernel_rfl) (by kernel_rfl)) (by kernel_rfl) (by kernel_rfl) (by kernel_rfl) (door_met os _)) ?_
 intro W base args ds gs before hval0 hW _ _ hL _
 have hval : ∀ (j : Nat) t v, Tryz.f3.params[j]? = some t → args[j]? = some v → Value.okWide Tryz.prog W .any base t v := hval0
 have hW' := hW
 obtain ⟨p, q, hA0, hV, rfl, hfz, hnd⟩ := hW
 have hA : DataW.TrodAll enc Tryz.prog W 0 (fun _ => true) true Tryz.f3.params.toList args.toList ds p := hA0
 rw [Tryz.params3] at hA hval
 obtain ⟨v0, vq0, d0, ds0, p0, q0, hargs, rfl, rfl, h0, r0⟩ := trodAll_cons hA
 obtain ⟨v1, vq1, d1, ds1, p1, q1, rfl, rfl, rfl, h1, r1⟩ := trodAll_cons r0
 obtain ⟨v2, vq2, d2, ds2, p2, q2, rfl, rfl, rfl, h2, r2⟩ := trodAll_cons r1
 obtain ⟨rfl, rfl, rfl⟩ := trodAll_nil r2
 obtain rfl : args = #[v0, v1, v2] := by cases args; simp_all
 obtain ⟨rfl, rfl⟩ := trodVars_none hV
 obtain ⟨z0, s0, l0, w0⟩ := aTA Tryz.underlying22 Tryz.underlying5 (by kernel_rfl) (hval 0 22 v0 rfl rfl) h0
 obtain ⟨b0, e0, n0⟩ := aSi z0 w0
 rw [e0] at s0
 have l0 : b0.length ≤ 9223372036854775807 := by omega
 obtain ⟨a1, rfl, rfl, rfl, w1⟩ := open_int Tryz.underlying3 (hval 1 3 v1 rfl rfl) h1
 have h1 : -9223372036854775808 ≤ a1 ∧ a1 ≤ 9223372036854775807 := by simpa [Lit.wf, IntKind.min, IntKind.max, IntKind.signed, IntKind.bits] using w1
 obtain ⟨a2, rfl, rfl, rfl, w2⟩ := open_int Tryz.underlying3 (hval 2 3 v2 rfl rfl) h2
 have h2 : -9223372036854775808 ≤ a2 ∧ a2 ≤ 9223372036854775807 := by simpa [Lit.wf, IntKind.min, IntKind.max, IntKind.signed, IntKind.bits] using w2
 have hG := of_laid hL
 clear hA0 hval0
 refine (aFi (aFk hG s0 l0)).mono ?_
 rintro e W' ⟨v, rfl, rfl, hx⟩
 exact ⟨_, rfl, aQ7 (tb := 4) (by kernel_rfl) (by kernel_rfl) (by kernel_rfl) Tryz.underlying4 hW' rfl rfl rfl rfl hx⟩
theorem over : Rows.decodeBytesRow.holds Tryz.pinned (OpenSpec.ofChange Rows.decodeBytesSpec) :=
 OpenClaim.holds_of_wide 3 Tryz.f3 rfl rfl rfl rfl rfl rfl rfl ⟨rfl, rfl, rfl, rfl, rfl⟩ rfl rfl rfl rfl rfl (by kernel_rfl) Tryz.func3 (by kernel_rfl)
  (of_decide_eq_true (by kernel_rfl)) (by unfold Func.isWrapper; first | (rw [if_pos (by decide +kernel)]; kernel_rfl) | (rw [if_neg (by decide +kernel)]; exact ⟨rfl, rfl⟩))
  (fun os started H enc _ => lifted os started H enc)
theorem proved : Rows.DecodeBytesCardSaid :=
 Claim7.holds_tied_plain_at .later [] [.data, .data, .data, .data, .data] true (true, "2a52edd59c782bc6271885177a7b4a85568ba364bba801320cf3e5663e29c225") false
  over (fun _ h => by cases h) (by kernel_rfl) (fun _ h => by cases h) decodeBytes_row_tie rfl ⟨rfl, rfl⟩ (by kernel_rfl) rfl
  (fun f fn hf hfn => by
   obtain rfl : f = 3 := Option.some.inj ((show Tryz.prog.funcNamed "lighterman/lightermanlaw16.DecodeBytes" = some 3 by kernel_rfl).symm.trans hf) |>.symm
   obtain rfl : fn = Tryz.f3 := (Option.some.inj (Tryz.func3.symm.trans hfn)).symm
   exact ⟨by kernel_rfl, fun j t ht => by
    rw [Tryz.params3] at ht
    have hm : t ∈ [22, 3, 3] := by simpa using Array.mem_of_getElem? ht
    have hall : ([22, 3, 3].all fun u => !Tryz.prog.wantsStandIn u) = true := by kernel_rfl
    exact (show Tryz.prog.wantsStandIn t = false by simpa using List.all_eq_true.1 hall t hm)⟩)
  (by kernel_rfl)
end Go.Proofs.YthohephggmkeeaaGreatDoor.decodeBytes
