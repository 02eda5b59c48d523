/- The row of StorePlays. It holds for every input. -/
import Derived.Test.YteelnmpbnaohpaaGreatDoorZpE
import Derived.Test.YteelnmpbnaohpaaGreatDoorCards
import Derived.Test.YteelnmpbnaohpaaGreatDoorTie
import Derived.ProofKit
import Derived.LaidMore
import Derived.OpenShut
import Derived.Stop.Joined
import Derived.Stop.LaidErr
import Derived.Lib.LaidTab
import Derived.SevenTiedAt
namespace Go.Proofs.YteelnmpbnaohpaaGreatDoor.storePlays
open Go Go.En Go.ChangeShapes Go.WideShapes Go.ChangeAt Go.RowKit Go.WideMaps Go.WideElems
set_option linter.unusedVariables false
theorem own : ownKnob Tryz.prog.godebug = none := by kernel_rfl
def laidT : List (String × DataW Unit) := [("lighterman/crc.halves", Lib.tabData .u32 [0, 274646895, 549293790, 820201905, 1098587580, 1361435347, 1640403810, 1905808397, 2197175160, 2460548119, 2722870694, 2987750089, 3280807620, 3553878443, 3811616794, 4084100981]), ("lighterman/sha.rounds", Lib.tabData .u32 [1116352408, 1899447441, 3049323471, 3921009573, 961987163, 1508970993, 2453635748, 2870763221, 3624381080, 310598401, 607225278, 1426881987, 1925078388, 2162078206, 2614888103, 3248222580, 3835390401, 4022224774, 264347078, 604807628, 770255983, 1249150122, 1555081692, 1996064986, 2554220882, 2821834349, 2952996808, 3210313671, 3336571891, 3584528711, 113926993, 338241895, 666307205, 773529912, 1294757372, 1396182291, 1695183700, 1986661051, 2177026350, 2456956037, 2730485921, 2820302411, 3259730800, 3345764771, 3516065817, 3600352804, 4094571909, 275423344, 430227734, 506948616, 659060556, 883997877, 958139571, 1322822218, 1537002063, 1747873779, 1955562222, 2024104815, 2227730452, 2361852424, 2428436474, 2756734187, 3204031479, 3329325298])]
theorem laidT_eq : laidT = Rows.storePlaysRow.laid := rfl
theorem gn0 : Tryz.prog.globalNamed "lighterman/crc.halves" = some 1 := by kernel_rfl
theorem gt0 : (Tryz.prog.globals[1]?).map (·.type) = some 223 := by kernel_rfl
theorem gc0 : Tryz.prog.cellsOf 223 = 16 := by kernel_rfl
theorem gn1 : Tryz.prog.globalNamed "lighterman/sha.rounds" = some 0 := by kernel_rfl
theorem gt1 : (Tryz.prog.globals[0]?).map (·.type) = some 204 := by kernel_rfl
theorem gc1 : Tryz.prog.cellsOf 204 = 64 := by kernel_rfl
theorem ge : Tryz.prog.cellsOf 27 = 1 := by kernel_rfl
def zz0 : List Int := [0, 274646895, 549293790, 820201905, 1098587580, 1361435347, 1640403810, 1905808397, 2197175160, 2460548119, 2722870694, 2987750089, 3280807620, 3553878443, 3811616794, 4084100981]
theorem nz0 : ∀ i, i < 16 → zz0.getD i 0 = ((Pu.hN.getD i 0 : Nat) : Int) := by decide
def zz1 : List Int := [1116352408, 1899447441, 3049323471, 3921009573, 961987163, 1508970993, 2453635748, 2870763221, 3624381080, 310598401, 607225278, 1426881987, 1925078388, 2162078206, 2614888103, 3248222580, 3835390401, 4022224774, 264347078, 604807628, 770255983, 1249150122, 1555081692, 1996064986, 2554220882, 2821834349, 2952996808, 3210313671, 3336571891, 3584528711, 113926993, 338241895, 666307205, 773529912, 1294757372, 1396182291, 1695183700, 1986661051, 2177026350, 2456956037, 2730485921, 2820302411, 3259730800, 3345764771, 3516065817, 3600352804, 4094571909, 275423344, 430227734, 506948616, 659060556, 883997877, 958139571, 1322822218, 1537002063, 1747873779, 1955562222, 2024104815, 2227730452, 2361852424, 2428436474, 2756734187, 3204031479, 3329325298]
theorem nz1 : ∀ i, i < 64 → zz1.getD i 0 = ((Pu.kN.getD i 0 : Nat) : Int) := by decide
set_option maxRecDepth 100000 in
theorem door_met (os : Os) (args : Array Value) : laidMetH Tryz.prog laidT ((World.doorLaid Tryz.prog 19 os).forCall (fun _ _ => 0) ⟨#[], args, []⟩).memory :=
 laidMetH_of_parts3 (fuel := 8) (laidMet_of_run' 8 (by kernel_rfl) (by kernel_rfl)) (by kernel_rfl) (by kernel_rfl)
theorem of_laid {W : World} (h : laidMetH Tryz.prog laidT W) : nQ W := by
 rw [MakeChecks.laidMetH_plain _ _ _ (by kernel_rfl)] at h
 have q0 : ∀ i, i < 16 → W.cell? ⟨1, i, none⟩ = some (.int .u32 (Pu.hN.getD i 0 : Nat)) := fun i hi => by
  have hh := Lib.tabIs_of_head gn0 gt0 Tryz.underlying223 Tryz.underlying27 ge gc0 h
  have hc : W.cell? ⟨1, i, none⟩ = some (.int .u32 (zz0.getD i 0)) := hh.cell gn0 i hi
  rw [hc, nz0 i hi]
 have q1 : ∀ i, i < 64 → W.cell? ⟨0, i, none⟩ = some (.int .u32 (Pu.kN.getD i 0 : Nat)) := fun i hi => by
  have hh := Lib.tabIs_of_head gn1 gt1 Tryz.underlying204 Tryz.underlying27 ge gc1 h.tail
  have hc : W.cell? ⟨0, i, none⟩ = some (.int .u32 (zz1.getD i 0)) := hh.cell gn1 i hi
  rw [hc, nz1 i hi]
 exact { cr := q0, sh := q1 }
set_option maxRecDepth 100000 in
theorem lifted (os : Os) (started : os.Started) (H : Type) (enc : TypeId × Value → H) :
 ReturnsInHanded {} Tryz.checked os 3 .any (fun w args => (Rows.storePlaysSpec.pre enc Tryz.prog Tryz.f3 [] false w args ∧ laidMetH Tryz.prog laidT w) ∧ sizedMet enc Tryz.prog Tryz.f3 (OpenSpec.ofChange Rows.storePlaysSpec) false w args) (Rows.storePlaysSpec.post enc Tryz.prog Tryz.f3 false true false false) := by
 refine returnsInHanded_of_change_and (C := Tryz.checked) (X := fun w _ => laidMetH Tryz.prog laidT w) (fun _ _ _ hh h => h.of_heap hh) own started (by kernel_rfl) Tryz.func3
  (ChangeSpec.witness_shaped (enc := enc) (C := Tryz.checked) (os := os) (X := fun w _ => laidMetH Tryz.prog laidT w) false (World.doorLaid Tryz.prog 19 os) #[.slice none 0 0, .int .u8 0, .int .u16 0, .slice none 0 0] 8 rfl (World.shaped_of_RefB (by kernel_rfl) (by kernel_rfl)) (by kernel_rfl) (by kernel_rfl) (by kernel_rfl) (door_met os _)) ?_
 intro W base args ds gs before hval0 hW _ _ hL _
 have hval : ∀ (j : Nat) t v, Tryz.f3.params[j]? = some t → args[j]? = some v → Value.okWide Tryz.prog W .any base t v := hval0
 have hW' := hW
 obtain ⟨p, q, hA0, hV, rfl, hfz, hnd⟩ := hW
 have hA : DataW.TrodAll enc Tryz.prog W 0 (fun _ => true) true Tryz.f3.params.toList args.toList ds p := hA0
 rw [Tryz.params3] at hA hval
 obtain ⟨v0, vq0, d0, ds0, p0, q0, hargs, rfl, rfl, h0, r0⟩ := trodAll_cons hA
 obtain ⟨v1, vq1, d1, ds1, p1, q1, rfl, rfl, rfl, h1, r1⟩ := trodAll_cons r0
 obtain ⟨v2, vq2, d2, ds2, p2, q2, rfl, rfl, rfl, h2, r2⟩ := trodAll_cons r1
 obtain ⟨v3, vq3, d3, ds3, p3, q3, rfl, rfl, rfl, h3, r3⟩ := trodAll_cons r2
 obtain ⟨rfl, rfl, rfl⟩ := trodAll_nil r3
 obtain rfl : args = #[v0, v1, v2, v3] := by cases args; simp_all
 obtain ⟨rfl, rfl⟩ := trodVars_none hV
 obtain ⟨z0, s0, l0, w0⟩ := aFD Tryz.underlying22 Tryz.underlying5 (by kernel_rfl) (hval 0 22 v0 rfl rfl) h0
 obtain ⟨b0, e0, n0⟩ := awP z0 w0
 rw [e0] at s0
 have l0 : b0.length ≤ 9223372036854775807 := by omega
 obtain ⟨a1, rfl, rfl, rfl, w1⟩ := open_int Tryz.underlying5 (hval 1 5 v1 rfl rfl) h1
 have g1 : 0 ≤ a1 ∧ a1 ≤ 255 := by simpa [Lit.wf, IntKind.min, IntKind.max, IntKind.signed, IntKind.bits] using w1
 obtain ⟨n1, rfl⟩ : ∃ n : Nat, a1 = n := ⟨a1.toNat, by omega⟩
 have h1 : n1 < 256 := by omega
 obtain ⟨a2, rfl, rfl, rfl, w2⟩ := open_int Tryz.underlying23 (hval 2 23 v2 rfl rfl) h2
 have g2 : 0 ≤ a2 ∧ a2 ≤ 65535 := by simpa [Lit.wf, IntKind.min, IntKind.max, IntKind.signed, IntKind.bits] using w2
 obtain ⟨n2, rfl⟩ : ∃ n : Nat, a2 = n := ⟨a2.toNat, by omega⟩
 have h2 : n2 < 65536 := by omega
 obtain ⟨z3, s3, l3, w3⟩ := aBN Tryz.underlying24 Tryz.underlying54 Tryz.underlying3 Tryz.underlying3 Tryz.underlying22 Tryz.underlying5 Tryz.underlying4 Tryz.underlying45 Tryz.underlying4 Tryz.underlying3 Tryz.underlying5 Tryz.underlying3 (by kernel_rfl) (by kernel_rfl) (hval 3 24 v3 rfl rfl) h3
 obtain ⟨acs3, t3, u3, o3⟩ := aAf z3 w3
 rw [← u3, ← t3] at s3
 rw [← t3] at l3
 have hG := of_laid hL
 clear hA0 hval0
 refine (alM (arH hG s0 l0 h1 h2 s3 o3 l3)).mono ?_
 rintro e W' ⟨v, rfl, rfl, hx⟩
 exact ⟨_, rfl, aDs (tb := 4) (by kernel_rfl) (by kernel_rfl) (by kernel_rfl) Tryz.underlying4 hW' rfl rfl rfl rfl hx⟩
theorem over : Rows.storePlaysRow.holds Tryz.pinned (OpenSpec.ofChange Rows.storePlaysSpec) :=
 OpenClaim.holds_of_wide 3 Tryz.f3 rfl rfl rfl rfl rfl rfl rfl ⟨rfl, rfl, rfl, rfl, rfl⟩ rfl rfl rfl rfl rfl (by kernel_rfl) Tryz.func3 (by kernel_rfl)
  (of_decide_eq_true (by kernel_rfl)) (by unfold Func.isWrapper; first | (rw [if_pos (by decide +kernel)]; kernel_rfl) | (rw [if_neg (by decide +kernel)]; exact ⟨rfl, rfl⟩))
  (fun os started H enc _ => lifted os started H enc)
theorem proved : Rows.StorePlaysCardSaid :=
 Claim7.holds_tied_plain_at .later [] [.data, .data] true (true, "4267e6aff924d841dfeb10fcb90959af41f88e6dfdc8088572916c139c2b80f5") true
  over (fun _ h => by cases h) (by kernel_rfl) (fun _ h => by cases h) storePlays_row_tie rfl ⟨rfl, rfl⟩ (by kernel_rfl) rfl
  (fun f fn hf hfn => by
   obtain rfl : f = 3 := Option.some.inj ((show Tryz.prog.funcNamed "lighterman/lightermanlaw23.StorePlays" = some 3 by kernel_rfl).symm.trans hf) |>.symm
   obtain rfl : fn = Tryz.f3 := (Option.some.inj (Tryz.func3.symm.trans hfn)).symm
   exact ⟨by kernel_rfl, fun j t ht => by
    rw [Tryz.params3] at ht
    have hm : t ∈ [22, 5, 23, 24] := by simpa using Array.mem_of_getElem? ht
    have hall : ([22, 5, 23, 24].all fun u => !Tryz.prog.wantsStandIn u) = true := by kernel_rfl
    exact (show Tryz.prog.wantsStandIn t = false by simpa using List.all_eq_true.1 hall t hm)⟩)
  (by kernel_rfl)
end Go.Proofs.YteelnmpbnaohpaaGreatDoor.storePlays
