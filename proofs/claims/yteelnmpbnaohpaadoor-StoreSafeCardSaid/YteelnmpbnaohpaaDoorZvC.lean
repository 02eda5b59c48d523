/- Parts of the proof of StoreSafe: merged and given short names by a program of ours. -/
import Derived.WalkKit
import Derived.ProofKit
import Derived.OpenShut
import Derived.Deep.Grids
import Derived.Laws.StructEq
import Derived.Shelf.SlMaps.Clone
import Derived.Test.YteelnmpbnaohpaaDoorZvB
set_option linter.unusedVariables false
set_option linter.unusedSimpArgs false
open Array renaming getD_eq_getD_getElem? → acW, getElem?_eq_getElem → adD, getElem?_setIfInBounds_self_of_lt → adF, getElem?_setIfInBounds_ne → adG, getElem?_eq_none → adR
open Bool renaming false_eq_true → acK, not_false → acO, not_true → acP, and_eq_true → acV, or_eq_true → aeH, or_false → afO, or_eq_false_iff → afW, false_or → agN, and_eq_false_iff → agS
open Int renaming toNat_natCast → acM
open List renaming getElem?_cons_zero → acI, getElem?_cons_succ → acJ, length_map → acR, getElem?_eq_getElem → acS, length_append → acT, getD_eq_getElem?_getD → acU, take_of_length_le → acX, map_cons → acZ, set_cons_zero → adA, length_drop → adB, mem_cons_of_mem → adC, length_take → adE, length_replicate → adI, nil_append → adJ, length_eq_zero_iff → adK, take_append_of_le_length → adL, append_assoc → adM, set_cons_succ → adN, length_cons → adP, getElem?_map → adQ, drop_append_of_le_length → adS, getElem?_append_left → adU, mem_append → adV, mem_cons → adX, getElem?_eq_none → adZ, toList_toArray → aeC, mem_map → aeE, getElem?_append_right → aeF, map_append → aeI, append_nil → aeJ, map_congr_left → aeL, length_nil → aeN, mem_cons_self → aeO, eraseIdx_cons_succ → aeQ, take_succ_eq_append_getElem → aeS, getElem?_toArray → aeT, set_append_right → aeU, getElem?_take_of_lt → aeW, getElem_mem → aeX, drop_zero → aeZ, drop_of_length_le → afB, mem_append_left → afF, nodup_cons → afG, size_toArray → afI, map_drop → afM, getElem?_drop → afQ, ext_getElem? → afS, mem_append_right → afU, drop_drop → afV, cons_append → afY, map_take → agB, sum_cons → agC, map_replicate → agH, take_add_one → agI, flatMap_cons → agJ, getElem_map → agP, take_append_drop → agR, mem_of_mem_take → agU, map_set → agY
open Nat renaming zero_add → acQ, le_refl → acY, min_eq_left → adW, lt_or_ge → aeG, add_sub_cancel_left → aeR, mod_eq_of_lt → aeY, mul_le_mul_left → afJ, lt_of_lt_of_le → afK, add_assoc → afN, mod_lt → afX, mul_add → agE, sub_self → agV, pow_le_pow_right → agZ
open Option renaming isNone_some → acL, isNone_none → acN, map_some → aeA
open Option.some renaming injEq → adT
open UInt8 renaming toNat_ofNat' → afR
namespace Go.Proofs.YteelnmpbnaohpaaDoor
open Go Go.En Go.Pu
set_option maxRecDepth 4000
abbrev u32 (x : Nat) : ahB := .int .u32 (x : Int)
theorem EW {l : List Nat} {i : Nat} (h : i < l.length) : (l.map u32)[i]? = some (u32 (l.getD i 0)) := by
 rw [adQ, acS h, acU, acS h] <;> rfl
theorem LP (l : List Nat) : ∀ y ∈ l.map u32, one y = true := fun y hy => by
 obtain ⟨z, -, rfl⟩ := aeE.1 hy; rfl
theorem Yt (n : Nat) : (List.replicate n 0).map u32 = List.replicate n (.int .u32 0) := by rw [agH] <;> rfl
theorem VB {s : List Nat} {b : List UInt8} {w : ahA} (hg : qK w) (hs : s.length = 8) (h32 : Dg s) (hb : b.length = 64) :
 gT pg vT #[.agg (s.map u32).toArray, .agg (b.map pG).toArray] w (fun r w' => r = .agg ((La s b).map u32).toArray /\ gV w w' jN) := by
 refine KE ?_
 obtain ⟨hg0, hg1⟩ := hg.lt
 unfold Jd zM xZ
 refine oM fun w1 o1 x1 s1 => ?_
 refine oM fun w2 o2 x2 s2 => ?_
 refine MK fun w3 o3 x3 s3 => ?_
 refine O5 fun w4 o4 x4 s4 => ?_
 generalize hn : w.heap.size = n at *
 rw [s1] at o2
 rw [show w2.heap.size = n + 2 from by omega] at o3 ⊢
 rw [show w3.heap.size = n + 3 from by omega] at o4 ⊢
 rw [s1]
 have o1 : jI w4 n (s.map u32) := ((jI.ext (cs := s.map u32) o1 x2 (fun h => h)).ext x3 (fun h => h)).ext x4 (fun h => h)
 have o2 : jI w4 (n + 1) (b.map pG) := (jI.ext (cs := b.map pG) o2 x3 (fun h => h)).ext x4 (fun h => h)
 have o3 : jI w4 (n + 2) (List.replicate 8 (.int .u32 0)) := jI.ext (cs := List.replicate 8 (.int .u32 0)) o3 x4 (fun h => h)
 have o4 : jI w4 (n + 3) ((TX b 0).map u32) := by
  rw [TX, Yt]; exact o4
 have x04 : gV w w4 jN := ((x1.seq x2).seq x3).seq x4
 have z4 : w4.heap.size = n + 4 := by omega
 have lb := JX (off := 0) o2 (by rw [acR]; omega)
 rw [aeZ, acX (by rw [acR]; omega)] at lb
 unfold xY yF yI zC zI
 simp (disch := omega) only [eY, gN, dX, stepR_skip, fO, fW, fN, fZ, fX, fY, gQ, gG, eT, fT, fS, gE, fR, fL, fV, fQ, fU, gB, gC, fP, fC, gI, gA, fK, iR, iO, iP, iU, iM, iS, iQ, iT, iN, eP, Result.ok.injEq, Next.value.injEq, true_and, and_true, fI, fJ, gH, fM, gD, gR, acM, fE, fF, fG, fD, eZ, eU, fB, eX, eQ, eH, if_true, if_false, acK, acQ, acL, acN, acP, acO, acJ, acI, eA, dV, aB, dM, dO, cB, eB, eS, eE, dK, eF, fA, dJ, eJ, bP, dS, bE, dN, aL, aH, eL, aX, cI, eM, aE, eN, dE, aR, bF, eD, bB, bC, bJ, aO, aI, cF, fH, dY, cJ, cC, dA, cH, dT, bD, eK, bT, dF, bR, aT, bV, aC, bY, bQ, cA, bX, aY, aU, bA, bU, dL, cP, bO, aV, aJ, aM, bG, aF, dC, dW, aK, aN, aZ, aG, cY, aD, cL, bW, bH, aP, cM, bZ, aA, dD, cO, cU, cG, dI, cD, dG, dU, cQ, eC, eI, bN, aS, dZ, bS, aQ, bL, dH, cZ, cV, cN, cS, bK, bM, cX, dR, cR, dQ, dB, lb]
 refine kJ.rule (fun m (t : ahB) w' => ∃ i : Nat, m = 64 - i /\ t = .int .i64 (i : Nat) /\ i <= 64 /\ jI w' (n + 3) ((TX b i).map u32) /\ gV w4 w' (fun y => y = n + 3)) 64 ⟨0, rfl, rfl, by omega, o4, gV.refl _ _⟩ ?_
 rintro m t w5 ⟨i, rfl, rfl, hi, o5, x5⟩
 unfold rX
 have hl5 := UJ b i
 by_cases hlt : i < 64
 .have d1 : decide ((i : Int) < 64) = true := by simp; omega
  have hq : (i : Int).tdiv 4 = ((i / 4 : Nat) : Int) := by rw [Int.tdiv_eq_ediv_of_nonneg (by omega)]; omega
  have gb : (b.map pG).toArray[i]? = some (.int .u8 ((b.getD i 0).toNat : Nat)) := by
   rw [aeT, adQ, acS (by omega), acU, acS (by omega)] <;> rfl
  have c5 := o5.cell (off := i / 4)
  rw [EW (by omega)] at c5
  have hx := (TH b i).getD (i / 4)
  have e1 := SQ ((TX b i).getD (i / 4) 0) 8
  have m1 : min (8 : Int).toNat IntKind.u32.bits = 8 := rfl
  have e2 := Uj (Ff ((TX b i).getD (i / 4) 0 * 2 ^ 8)) (J9 (b.getD i 0))
  have hby := (b.getD i 0).toNat_lt
  simp (disch := omega) only [eY, gN, dX, stepR_skip, fO, fW, fN, fZ, fX, fY, gQ, gG, eT, fT, fS, gE, fR, fL, fV, fQ, fU, gB, gC, fP, fC, gI, gA, fK, iR, iO, iP, iU, iM, iS, iQ, iT, iN, eP, Result.ok.injEq, Next.value.injEq, true_and, and_true, fI, fJ, gH, fM, gD, gR, acM, fE, fF, fG, fD, eZ, eU, fB, eX, eQ, eH, if_true, if_false, acK, acQ, acL, acN, acP, acO, acJ, acI, eA, dV, aB, dM, dO, cB, eB, eS, eE, dK, eF, fA, dJ, eJ, bP, dS, bE, dN, aL, aH, eL, aX, cI, eM, aE, eN, dE, aR, bF, eD, bB, bC, bJ, aO, aI, cF, fH, dY, cJ, cC, dA, cH, dT, bD, eK, bT, dF, bR, aT, bV, aC, bY, bQ, cA, bX, aY, aU, bA, bU, dL, cP, bO, aV, aJ, aM, bG, aF, dC, dW, aK, aN, aZ, aG, cY, aD, cL, bW, bH, aP, cM, bZ, aA, dD, cO, cU, cG, dI, cD, dG, dU, cQ, eC, eI, bN, aS, dZ, bS, aQ, bL, dH, cZ, cV, cN, cS, bK, bM, cX, dR, cR, dQ, dB, d1, hq, gb, c5, m1, e1, e2]
  refine zQ o5 rfl (by rw [acR]; omega) fun w6 o6 x6 s6 => ?_
  refine ⟨64 - (i + 1), by omega, i + 1, rfl, rfl, by omega, ?_, x5.seq x6⟩
  rw [TX, agY]
  exact o6
 have d1 : decide ((i : Int) < 64) = false := by simp; omega
 obtain rfl : i = 64 := by omega
 simp (disch := omega) only [eY, gN, dX, stepR_skip, fO, fW, fN, fZ, fX, fY, gQ, gG, eT, fT, fS, gE, fR, fL, fV, fQ, fU, gB, gC, fP, fC, gI, gA, fK, iR, iO, iP, iU, iM, iS, iQ, iT, iN, eP, Result.ok.injEq, Next.value.injEq, true_and, and_true, fI, fJ, gH, fM, gD, gR, acM, fE, fF, fG, fD, eZ, eU, fB, eX, eQ, eH, if_true, if_false, acK, acQ, acL, acN, acP, acO, acJ, acI, eA, dV, aB, dM, dO, cB, eB, eS, eE, dK, eF, fA, dJ, eJ, bP, dS, bE, dN, aL, aH, eL, aX, cI, eM, aE, eN, dE, aR, bF, eD, bB, bC, bJ, aO, aI, cF, fH, dY, cJ, cC, dA, cH, dT, bD, eK, bT, dF, bR, aT, bV, aC, bY, bQ, cA, bX, aY, aU, bA, bU, dL, cP, bO, aV, aJ, aM, bG, aF, dC, dW, aK, aN, aZ, aG, cY, aD, cL, bW, bH, aP, cM, bZ, aA, dD, cO, cU, cG, dI, cD, dG, dU, cQ, eC, eI, bN, aS, dZ, bS, aQ, bL, dH, cZ, cV, cN, cS, bK, bM, cX, dR, cR, dQ, dB, d1]
 clear lb
 unfold zJ yL yE yK zD
 simp (disch := omega) only [eY, gN, dX, stepR_skip, fO, fW, fN, fZ, fX, fY, gQ, gG, eT, fT, fS, gE, fR, fL, fV, fQ, fU, gB, gC, fP, fC, gI, gA, fK, iR, iO, iP, iU, iM, iS, iQ, iT, iN, eP, Result.ok.injEq, Next.value.injEq, true_and, and_true, fI, fJ, gH, fM, gD, gR, acM, fE, fF, fG, fD, eZ, eU, fB, eX, eQ, eH, if_true, if_false, acK, acQ, acL, acN, acP, acO, acJ, acI, eA, dV, aB, dM, dO, cB, eB, eS, eE, dK, eF, fA, dJ, eJ, bP, dS, bE, dN, aL, aH, eL, aX, cI, eM, aE, eN, dE, aR, bF, eD, bB, bC, bJ, aO, aI, cF, fH, dY, cJ, cC, dA, cH, dT, bD, eK, bT, dF, bR, aT, bV, aC, bY, bQ, cA, bX, aY, aU, bA, bU, dL, cP, bO, aV, aJ, aM, bG, aF, dC, dW, aK, aN, aZ, aG, cY, aD, cL, bW, bH, aP, cM, bZ, aA, dD, cO, cU, cG, dI, cD, dG, dU, cQ, eC, eI, bN, aS, dZ, bS, aQ, bL, dH, cZ, cV, cN, cS, bK, bM, cX, dR, cR, dQ, dB]
 obtain ⟨W0, hW0⟩ : ∃ W0, W0 = TX b 64 := ⟨_, rfl⟩
 have hW0l : Dg W0 := hW0 ▸ TH b 64
 rw [<- hW0] at o5 hl5
 refine kJ.rule (fun m (t : ahB) w' => ∃ j : Nat, m = 48 - j /\ t = .int .i64 ((16 + j : Nat) : Int) /\ j <= 48 /\ jI w' (n + 3) ((UY W0 j).map u32) /\ gV w4 w' (fun y => y = n + 3)) 48 ⟨0, rfl, rfl, by omega, o5, x5⟩ ?_
 clear o5 x5
 rintro m t w5 ⟨j, rfl, rfl, hj, o5, x5⟩
 unfold sP
 have hl6 : (UY W0 j).length = 64 := by rw [UB]; exact hl5
 by_cases hlt : j < 48
 .have d1 : decide (((16 + j : Nat) : Int) < 64) = true := by simp; omega
  have q1 : ((16 + j : Nat) : Int) - 16 = ((j : Nat) : Int) := by omega
  have q2 : ((16 + j : Nat) : Int) - 15 = ((j + 1 : Nat) : Int) := by omega
  have q3 : ((16 + j : Nat) : Int) - 7 = ((j + 9 : Nat) : Int) := by omega
  have q4 : ((16 + j : Nat) : Int) - 2 = ((j + 14 : Nat) : Int) := by omega
  have q5 : ((16 + j : Nat) : Int) + 1 = ((16 + (j + 1) : Nat) : Int) := by omega
  have od := kR o5
  have c1 := o5.cell (off := j)
  have c2 := o5.cell (off := j + 1)
  have c3 := o5.cell (off := j + 9)
  have c4 := o5.cell (off := j + 14)
  have d1' := od.cell (off := j)
  have d2' := od.cell (off := j + 1)
  have d3' := od.cell (off := j + 9)
  have d4' := od.cell (off := j + 14)
  rw [EW (by omega)] at c1 c2 c3 c4 d1' d2' d3' d4'
  have hl := Xx hW0l j
  have h1 := hl.getD j
  have h2 := hl.getD (j + 1)
  have h4 := hl.getD (j + 14)
  have f1 := Pp
  simp (disch := omega) only [eY, gN, dX, stepR_skip, fO, fW, fN, fZ, fX, fY, gQ, gG, eT, fT, fS, gE, fR, fL, fV, fQ, fU, gB, gC, fP, fC, gI, gA, fK, iR, iO, iP, iU, iM, iS, iQ, iT, iN, eP, Result.ok.injEq, Next.value.injEq, true_and, and_true, fI, fJ, gH, fM, gD, gR, acM, fE, fF, fG, fD, eZ, eU, fB, eX, eQ, eH, if_true, if_false, acK, acQ, acL, acN, acP, acO, acJ, acI, eA, dV, aB, dM, dO, cB, eB, eS, eE, dK, eF, fA, dJ, eJ, bP, dS, bE, dN, aL, aH, eL, aX, cI, eM, aE, eN, dE, aR, bF, eD, bB, bC, bJ, aO, aI, cF, fH, dY, cJ, cC, dA, cH, dT, bD, eK, bT, dF, bR, aT, bV, aC, bY, bQ, cA, bX, aY, aU, bA, bU, dL, cP, bO, aV, aJ, aM, bG, aF, dC, dW, aK, aN, aZ, aG, cY, aD, cL, bW, bH, aP, cM, bZ, aA, dD, cO, cU, cG, dI, cD, dG, dU, cQ, eC, eI, bN, aS, dZ, bS, aQ, bL, dH, cZ, cV, cN, cS, bK, bM, cX, dR, cR, dQ, dB, d1, q1, q2, q3, q4, d1', d2', d3', d4', c1, c2, c3, c4]
  refine (Qq h2 ⟨by decide, by decide⟩ ⟨by decide, by decide⟩ (by decide) _).mono ?_
  rintro r w6 ⟨rfl, x6⟩
  have o6 := od.ext x6 (fun h => h)
  have p1 := o6.cell (off := j)
  have p3 := o6.cell (off := j + 9)
  have p4 := o6.cell (off := j + 14)
  rw [EW (by omega)] at p1 p3 p4
  simp (disch := omega) only [eY, gN, dX, stepR_skip, fO, fW, fN, fZ, fX, fY, gQ, gG, eT, fT, fS, gE, fR, fL, fV, fQ, fU, gB, gC, fP, fC, gI, gA, fK, iR, iO, iP, iU, iM, iS, iQ, iT, iN, eP, Result.ok.injEq, Next.value.injEq, true_and, and_true, fI, fJ, gH, fM, gD, gR, acM, fE, fF, fG, fD, eZ, eU, fB, eX, eQ, eH, if_true, if_false, acK, acQ, acL, acN, acP, acO, acJ, acI, eA, dV, aB, dM, dO, cB, eB, eS, eE, dK, eF, fA, dJ, eJ, bP, dS, bE, dN, aL, aH, eL, aX, cI, eM, aE, eN, dE, aR, bF, eD, bB, bC, bJ, aO, aI, cF, fH, dY, cJ, cC, dA, cH, dT, bD, eK, bT, dF, bR, aT, bV, aC, bY, bQ, cA, bX, aY, aU, bA, bU, dL, cP, bO, aV, aJ, aM, bG, aF, dC, dW, aK, aN, aZ, aG, cY, aD, cL, bW, bH, aP, cM, bZ, aA, dD, cO, cU, cG, dI, cD, dG, dU, cQ, eC, eI, bN, aS, dZ, bS, aQ, bL, dH, cZ, cV, cN, cS, bK, bM, cX, dR, cR, dQ, dB, d1, q1, q2, q3, q4, d1', d2', d3', d4', c1, c2, c3, c4, p1, p3, p4, f1]
  refine (Qq h4 ⟨by decide, by decide⟩ ⟨by decide, by decide⟩ (by decide) _).mono ?_
  rintro r w7 ⟨rfl, x7⟩
  have o7 := o6.ext x7 (fun h => h)
  have r1 := o7.cell (off := j)
  have r3 := o7.cell (off := j + 9)
  have r4 := o7.cell (off := j + 14)
  rw [EW (by omega)] at r1 r3 r4
  simp (disch := omega) only [eY, gN, dX, stepR_skip, fO, fW, fN, fZ, fX, fY, gQ, gG, eT, fT, fS, gE, fR, fL, fV, fQ, fU, gB, gC, fP, fC, gI, gA, fK, iR, iO, iP, iU, iM, iS, iQ, iT, iN, eP, Result.ok.injEq, Next.value.injEq, true_and, and_true, fI, fJ, gH, fM, gD, gR, acM, fE, fF, fG, fD, eZ, eU, fB, eX, eQ, eH, if_true, if_false, acK, acQ, acL, acN, acP, acO, acJ, acI, eA, dV, aB, dM, dO, cB, eB, eS, eE, dK, eF, fA, dJ, eJ, bP, dS, bE, dN, aL, aH, eL, aX, cI, eM, aE, eN, dE, aR, bF, eD, bB, bC, bJ, aO, aI, cF, fH, dY, cJ, cC, dA, cH, dT, bD, eK, bT, dF, bR, aT, bV, aC, bY, bQ, cA, bX, aY, aU, bA, bU, dL, cP, bO, aV, aJ, aM, bG, aF, dC, dW, aK, aN, aZ, aG, cY, aD, cL, bW, bH, aP, cM, bZ, aA, dD, cO, cU, cG, dI, cD, dG, dU, cQ, eC, eI, bN, aS, dZ, bS, aQ, bL, dH, cZ, cV, cN, cS, bK, bM, cX, dR, cR, dQ, dB, q1, q2, q3, q4, q5, r1, r3, r4, f1]
  refine zQ o7 rfl (by rw [acR]; omega) fun w8 o8 x8 s8 => ?_
  refine ⟨48 - (j + 1), by omega, j + 1, rfl, rfl, by omega, ?_, x5.seq ((((gV.dr _ jN).seq x6).seq x7).mono (fun _ _ h => h.elim) |>.seq x8)⟩
  rw [UY, agY]
  exact o8
 have d1 : decide (((16 + j : Nat) : Int) < 64) = false := by simp; omega
 obtain rfl : j = 48 := by omega
 simp (disch := omega) only [eY, gN, dX, stepR_skip, fO, fW, fN, fZ, fX, fY, gQ, gG, eT, fT, fS, gE, fR, fL, fV, fQ, fU, gB, gC, fP, fC, gI, gA, fK, iR, iO, iP, iU, iM, iS, iQ, iT, iN, eP, Result.ok.injEq, Next.value.injEq, true_and, and_true, fI, fJ, gH, fM, gD, gR, acM, fE, fF, fG, fD, eZ, eU, fB, eX, eQ, eH, if_true, if_false, acK, acQ, acL, acN, acP, acO, acJ, acI, eA, dV, aB, dM, dO, cB, eB, eS, eE, dK, eF, fA, dJ, eJ, bP, dS, bE, dN, aL, aH, eL, aX, cI, eM, aE, eN, dE, aR, bF, eD, bB, bC, bJ, aO, aI, cF, fH, dY, cJ, cC, dA, cH, dT, bD, eK, bT, dF, bR, aT, bV, aC, bY, bQ, cA, bX, aY, aU, bA, bU, dL, cP, bO, aV, aJ, aM, bG, aF, dC, dW, aK, aN, aZ, aG, cY, aD, cL, bW, bH, aP, cM, bZ, aA, dD, cO, cU, cG, dI, cD, dG, dU, cQ, eC, eI, bN, aS, dZ, bS, aQ, bL, dH, cZ, cV, cN, cS, bK, bM, cX, dR, cR, dQ, dB, d1]
 obtain ⟨W, hW⟩ : ∃ W, W = UY W0 48 := ⟨_, rfl⟩
 have hwith : La s b = B0 (xQ W s 64) s 8 := by rw [hW, hW0] <;> rfl
 rw [<- hW] at o5 hl6
 have x05 : gV w w5 jN := x04.trans x5 fun y hy h => by omega
 have a1 := o1.ext x5 (by omega)
 have a3 := o3.ext x5 (by omega)
 have z5 := x5.size
 clear d1 hlt hj hW hW0 hW0l hl5 x5 o1 o2 o3 o4 x04
 unfold yX yW
 have ls := Fv (off := 0) a1 (by rw [acR]; omega)
 rw [aeZ, acX (by rw [acR]; omega)] at ls
 simp (disch := omega) only [eY, gN, dX, stepR_skip, fO, fW, fN, fZ, fX, fY, gQ, gG, eT, fT, fS, gE, fR, fL, fV, fQ, fU, gB, gC, fP, fC, gI, gA, fK, iR, iO, iP, iU, iM, iS, iQ, iT, iN, eP, Result.ok.injEq, Next.value.injEq, true_and, and_true, fI, fJ, gH, fM, gD, gR, acM, fE, fF, fG, fD, eZ, eU, fB, eX, eQ, eH, if_true, if_false, acK, acQ, acL, acN, acP, acO, acJ, acI, eA, dV, aB, dM, dO, cB, eB, eS, eE, dK, eF, fA, dJ, eJ, bP, dS, bE, dN, aL, aH, eL, aX, cI, eM, aE, eN, dE, aR, bF, eD, bB, bC, bJ, aO, aI, cF, fH, dY, cJ, cC, dA, cH, dT, bD, eK, bT, dF, bR, aT, bV, aC, bY, bQ, cA, bX, aY, aU, bA, bU, dL, cP, bO, aV, aJ, aM, bG, aF, dC, dW, aK, aN, aZ, aG, cY, aD, cL, bW, bH, aP, cM, bZ, aA, dD, cO, cU, cG, dI, cD, dG, dU, cQ, eC, eI, bN, aS, dZ, bS, aQ, bL, dH, cZ, cV, cN, cS, bK, bM, cX, dR, cR, dQ, dB, ls]
 refine MK fun w6 o6 x6 s6 => ?_
 have a1 := a1.ext x6 (fun h => h)
 have a3 := a3.ext x6 (fun h => h)
 have aW := o5.ext x6 (fun h => h)
 obtain ⟨v, hv⟩ : ∃ v, v = w5.heap.size := ⟨_, rfl⟩
 rw [<- hv] at o6 ⊢
 refine FL o6 (by simp [hs]) (fun y hy => LP s y (by simpa using hy)) (by simp) fun w7 o7 x7 s7 => ?_
 have hset : nA [(.int .u32 0), (.int .u32 0), (.int .u32 0), (.int .u32 0), (.int .u32 0), (.int .u32 0), (.int .u32 0), (.int .u32 0)] 0 (s.map u32).toArray.toList = s.map u32 := by
  rw [aeC]
  have := oQ (s.map u32) [] [(.int .u32 0), (.int .u32 0), (.int .u32 0), (.int .u32 0), (.int .u32 0), (.int .u32 0), (.int .u32 0), (.int .u32 0)] (by rw [acR, hs]; decide)
  rw [adJ, adJ, aeN, acR, hs] at this
  rw [this]; simp
 rw [hset] at o7
 have x07 : gV w w7 jN := (x05.seq x6).trans x7 fun y hy h => by omega
 have a1 := a1.ext x7 (by omega)
 have a3 := a3.ext x7 (by omega)
 have aW := aW.ext x7 (by omega)
 have hg7 := hg.ext x07
 have z7 : w7.heap.size = v + 1 := by omega
 have hvn : n + 4 <= v := by omega
 clear o5 o6 x6 x7 s6 s7 x05 hset ls
 unfold yD xR yJ yG AN
 simp (disch := omega) only [eY, gN, dX, stepR_skip, fO, fW, fN, fZ, fX, fY, gQ, gG, eT, fT, fS, gE, fR, fL, fV, fQ, fU, gB, gC, fP, fC, gI, gA, fK, iR, iO, iP, iU, iM, iS, iQ, iT, iN, eP, Result.ok.injEq, Next.value.injEq, true_and, and_true, fI, fJ, gH, fM, gD, gR, acM, fE, fF, fG, fD, eZ, eU, fB, eX, eQ, eH, if_true, if_false, acK, acQ, acL, acN, acP, acO, acJ, acI, eA, dV, aB, dM, dO, cB, eB, eS, eE, dK, eF, fA, dJ, eJ, bP, dS, bE, dN, aL, aH, eL, aX, cI, eM, aE, eN, dE, aR, bF, eD, bB, bC, bJ, aO, aI, cF, fH, dY, cJ, cC, dA, cH, dT, bD, eK, bT, dF, bR, aT, bV, aC, bY, bQ, cA, bX, aY, aU, bA, bU, dL, cP, bO, aV, aJ, aM, bG, aF, dC, dW, aK, aN, aZ, aG, cY, aD, cL, bW, bH, aP, cM, bZ, aA, dD, cO, cU, cG, dI, cD, dG, dU, cQ, eC, eI, bN, aS, dZ, bS, aQ, bL, dH, cZ, cV, cN, cS, bK, bM, cX, dR, cR, dQ, dB]
 refine kJ.rule (fun m (t : ahB) w' => ∃ i : Nat, m = 64 - i /\ t = .int .i64 (i : Nat) /\ i <= 64 /\ jI w' v ((xQ W s i).map u32) /\ gV w7 w' (fun y => y = v)) 64 ⟨0, rfl, rfl, by omega, o7, gV.refl _ _⟩ ?_
 clear o7
 rintro m t w8 ⟨i, rfl, rfl, hi, o8, x8⟩
 unfold tR
 have hl8 : (xQ W s i).length = 8 := Od hs i
 have hlt8 := Lm (W := W) h32 i
 by_cases hlt : i < 64
 .have d1 : decide ((i : Int) < 64) = true := by simp; omega
  have hnext : xQ W s (i + 1) = RQ (xQ W s i) (kN.getD i 0) (W.getD i 0) := rfl
  generalize xQ W s i = V at *
  have cW : ∀ {w' : ahA}, gV w7 w' (fun y => y = v) -> w'.cell? ⟨n + 3, i, none⟩ = some (u32 (W.getD i 0)) := fun {w'} x => by
   rw [(aW.ext x (by omega)).cell, EW (by omega)]
  have cK : ∀ {w' : ahA}, gV w7 w' (fun y => y = v) -> w'.cell? ⟨0, i, none⟩ = some (u32 (kN.getD i 0)) := fun {w'} x => Br (hg7.sh i hlt) x (by omega)
  obtain ⟨v0, v1, v2, v3, v4, v5, v6, v7, rfl⟩ : ∃ v0 v1 v2 v3 v4 v5 v6 v7, V = [v0, v1, v2, v3, v4, v5, v6, v7] := by
   match V, hl8 with
   | [a, b, c, d, e, f, g, h], _ => exact ⟨a, b, c, d, e, f, g, h, rfl⟩
  have b0 : v0 < uF := hlt8 _ (by simp)
  have b1 : v1 < uF := hlt8 _ (by simp)
  have b2 : v2 < uF := hlt8 _ (by simp)
  have b4 : v4 < uF := hlt8 _ (by simp)
  have b5 : v5 < uF := hlt8 _ (by simp)
  have b6 : v6 < uF := hlt8 _ (by simp)
  have q1 := kR o8
  have q2 := kR q1
  have q3 := kR q2
  have y2 : gV w7 (dr (dr w8)) (fun y => y = v) := (x8.seq (gV.dr _ _)).seq (gV.dr _ _)
  have kk := cK y2
  have ww := cW y2
  obtain ⟨K, hK⟩ : ∃ K, K = kN.getD i 0 := ⟨_, rfl⟩
  obtain ⟨Wi, hWi⟩ : ∃ Wi, Wi = W.getD i 0 := ⟨_, rfl⟩
  rw [<- hK] at kk hnext
  rw [<- hWi] at ww hnext
  obtain ⟨one, hone⟩ : ∃ one, one = Zw [v0, v1, v2, v3, v4, v5, v6, v7] K Wi := ⟨_, rfl⟩
  obtain ⟨two, htwo⟩ : ∃ two, two = ZX [v0, v1, v2, v3, v4, v5, v6, v7] := ⟨_, rfl⟩
  have hnext : xQ W s (i + 1) = [(one + two) % uF, v0, v1, v2, (v3 + one) % uF, v4, v5, v6] := by rw [hnext, hone, htwo] <;> rfl
  have hone : one = ((((v7 + Qu v4 6 11 25) % uF + ((v4 &&& v5) ^^^ ((4294967295 ^^^ v4) &&& v6))) % uF + K) % uF + Wi) % uF := hone
  have htwo : two = (Qu v0 2 13 22 + ((v0 &&& v1) ^^^ (v0 &&& v2) ^^^ (v1 &&& v2))) % uF := htwo
  have c10 := q1.cell (off := 0)
  have c14 := q1.cell (off := 4)
  have c27 := q2.cell (off := 7)
  have c25 := q2.cell (off := 5)
  have c26 := q2.cell (off := 6)
  have c31 := q3.cell (off := 1)
  have c32 := q3.cell (off := 2)
  simp only [acZ, List.map_nil, acI, acJ] at c10 c14 c27 c25 c26 c31 c32
  have t0 : (0 : Int).toNat = 0 := rfl
  have t1 : (1 : Int).toNat = 1 := rfl
  have t2 : (2 : Int).toNat = 2 := rfl
  have t4 : (4 : Int).toNat = 4 := rfl
  have t5 : (5 : Int).toNat = 5 := rfl
  have t6 : (6 : Int).toNat = 6 := rfl
  have t7 : (7 : Int).toNat = 7 := rfl
  have g1 : IntKind.u32.signed = false := rfl
  have g2 : IntKind.u32.max = 4294967295 := rfl
  have e1 := GC b4 b5
  have n4 : 4294967295 ^^^ v4 < uF := JW (by decide) b4
  have e2 : Rt .u32 (4294967295 : Int) (v4 : Int) = ((4294967295 ^^^ v4 : Nat) : Int) := uG (a := 4294967295) (by decide) b4
  have e3 := GC n4 b6
  have e4 := uG (LB v4 b5) (LB (4294967295 ^^^ v4) b6)
  have e5 := GC b0 b1
  have e6 := GC b0 b2
  have e7 := GC b1 b2
  have e8 := uG (LB v0 b1) (LB v0 b2)
  have e9 := uG (JW (LB v0 b1) (LB v0 b2)) (LB v1 b2)
  have f1 := Pp
  simp (disch := omega) only [eY, gN, dX, stepR_skip, fO, fW, fN, fZ, fX, fY, gQ, gG, eT, fT, fS, gE, fR, fL, fV, fQ, fU, gB, gC, fP, fC, gI, gA, fK, iR, iO, iP, iU, iM, iS, iQ, iT, iN, eP, Result.ok.injEq, Next.value.injEq, true_and, and_true, fI, fJ, gH, fM, gD, gR, acM, fE, fF, fG, fD, eZ, eU, fB, eX, eQ, eH, if_true, if_false, acK, acQ, acL, acN, acP, acO, acJ, acI, eA, dV, aB, dM, dO, cB, eB, eS, eE, dK, eF, fA, dJ, eJ, bP, dS, bE, dN, aL, aH, eL, aX, cI, eM, aE, eN, dE, aR, bF, eD, bB, bC, bJ, aO, aI, cF, fH, dY, cJ, cC, dA, cH, dT, bD, eK, bT, dF, bR, aT, bV, aC, bY, bQ, cA, bX, aY, aU, bA, bU, dL, cP, bO, aV, aJ, aM, bG, aF, dC, dW, aK, aN, aZ, aG, cY, aD, cL, bW, bH, aP, cM, bZ, aA, dD, cO, cU, cG, dI, cD, dG, dU, cQ, eC, eI, bN, aS, dZ, bS, aQ, bL, dH, cZ, cV, cN, cS, bK, bM, cX, dR, cR, dQ, dB, d1, c10, c14, c27, c25, c26, c31, c32, t0, t1, t2, t4, t5, t6, t7]
  refine (Sx b4 ⟨by decide, by decide⟩ ⟨by decide, by decide⟩ ⟨by decide, by decide⟩ _).mono ?_
  rintro r w9 ⟨rfl, hw⟩
  rw [hw]; clear hw w9
  simp (disch := omega) only [eY, gN, dX, stepR_skip, fO, fW, fN, fZ, fX, fY, gQ, gG, eT, fT, fS, gE, fR, fL, fV, fQ, fU, gB, gC, fP, fC, gI, gA, fK, iR, iO, iP, iU, iM, iS, iQ, iT, iN, eP, Result.ok.injEq, Next.value.injEq, true_and, and_true, fI, fJ, gH, fM, gD, gR, acM, fE, fF, fG, fD, eZ, eU, fB, eX, eQ, eH, if_true, if_false, acK, acQ, acL, acN, acP, acO, acJ, acI, eA, dV, aB, dM, dO, cB, eB, eS, eE, dK, eF, fA, dJ, eJ, bP, dS, bE, dN, aL, aH, eL, aX, cI, eM, aE, eN, dE, aR, bF, eD, bB, bC, bJ, aO, aI, cF, fH, dY, cJ, cC, dA, cH, dT, bD, eK, bT, dF, bR, aT, bV, aC, bY, bQ, cA, bX, aY, aU, bA, bU, dL, cP, bO, aV, aJ, aM, bG, aF, dC, dW, aK, aN, aZ, aG, cY, aD, cL, bW, bH, aP, cM, bZ, aA, dD, cO, cU, cG, dI, cD, dG, dU, cQ, eC, eI, bN, aS, dZ, bS, aQ, bL, dH, cZ, cV, cN, cS, bK, bM, cX, dR, cR, dQ, dB, c10, c14, c27, c25, c26, c31, c32, t0, t1, t2, t4, t5, t6, t7, g1, g2, e1, e2, e3, e4, f1, kk, ww]
  rw [<- hone]
  refine (Sx b0 ⟨by decide, by decide⟩ ⟨by decide, by decide⟩ ⟨by decide, by decide⟩ _).mono ?_
  rintro r w9 ⟨rfl, hw⟩
  rw [hw]; clear hw w9
  have sh1 : CG ⟨v, 0, none⟩ 8 1 1 = ⟨v, 0 + 1, none⟩ := LH (by omega)
  have sh0 : CG ⟨v, 0, none⟩ 8 0 1 = ⟨v, 0 + 0, none⟩ := LH (by omega)
  simp (disch := omega) only [eY, gN, dX, stepR_skip, fO, fW, fN, fZ, fX, fY, gQ, gG, eT, fT, fS, gE, fR, fL, fV, fQ, fU, gB, gC, fP, fC, gI, gA, fK, iR, iO, iP, iU, iM, iS, iQ, iT, iN, eP, Result.ok.injEq, Next.value.injEq, true_and, and_true, fI, fJ, gH, fM, gD, gR, acM, fE, fF, fG, fD, eZ, eU, fB, eX, eQ, eH, if_true, if_false, acK, acQ, acL, acN, acP, acO, acJ, acI, eA, dV, aB, dM, dO, cB, eB, eS, eE, dK, eF, fA, dJ, eJ, bP, dS, bE, dN, aL, aH, eL, aX, cI, eM, aE, eN, dE, aR, bF, eD, bB, bC, bJ, aO, aI, cF, fH, dY, cJ, cC, dA, cH, dT, bD, eK, bT, dF, bR, aT, bV, aC, bY, bQ, cA, bX, aY, aU, bA, bU, dL, cP, bO, aV, aJ, aM, bG, aF, dC, dW, aK, aN, aZ, aG, cY, aD, cL, bW, bH, aP, cM, bZ, aA, dD, cO, cU, cG, dI, cD, dG, dU, cQ, eC, eI, bN, aS, dZ, bS, aQ, bL, dH, cZ, cV, cN, cS, bK, bM, cX, dR, cR, dQ, dB, c31, c32, t0, t1, t2, t7, e5, e6, e7, e8, e9, f1, sh1, sh0]
  rw [<- htwo]
  have q4 := kR q3
  have src : Sl (dr (dr (dr (dr w8)))) (.slice (some ⟨v, 0, none⟩) (7 - 0) (8 - 0)) ([v0, v1, v2, v3, v4, v5, v6].map u32) := by
   refine ⟨_, _, _, rfl, rfl, by omega, fun _ => ⟨_, _, rfl, fun k hk => ?_⟩⟩
   rw [acQ, q4.cell]
   have hk : k < 7 := hk
   match k, hk with
   | 0, _ => rfl
   | 1, _ => rfl
   | 2, _ => rfl
   | 3, _ => rfl
   | 4, _ => rfl
   | 5, _ => rfl
   | 6, _ => rfl
  refine Q9 (off := 1) q4 (by simp) src (LP _) fun w9 o9 x9 s9 => ?_
  have o9 : jI w9 v ([v0, v0, v1, v2, v3, v4, v5, v6].map u32) := o9
  have c4 := o9.cell (off := 4)
  simp only [acZ, List.map_nil, acI, acJ] at c4
  simp (disch := omega) only [eY, gN, dX, stepR_skip, fO, fW, fN, fZ, fX, fY, gQ, gG, eT, fT, fS, gE, fR, fL, fV, fQ, fU, gB, gC, fP, fC, gI, gA, fK, iR, iO, iP, iU, iM, iS, iQ, iT, iN, eP, Result.ok.injEq, Next.value.injEq, true_and, and_true, fI, fJ, gH, fM, gD, gR, acM, fE, fF, fG, fD, eZ, eU, fB, eX, eQ, eH, if_true, if_false, acK, acQ, acL, acN, acP, acO, acJ, acI, eA, dV, aB, dM, dO, cB, eB, eS, eE, dK, eF, fA, dJ, eJ, bP, dS, bE, dN, aL, aH, eL, aX, cI, eM, aE, eN, dE, aR, bF, eD, bB, bC, bJ, aO, aI, cF, fH, dY, cJ, cC, dA, cH, dT, bD, eK, bT, dF, bR, aT, bV, aC, bY, bQ, cA, bX, aY, aU, bA, bU, dL, cP, bO, aV, aJ, aM, bG, aF, dC, dW, aK, aN, aZ, aG, cY, aD, cL, bW, bH, aP, cM, bZ, aA, dD, cO, cU, cG, dI, cD, dG, dU, cQ, eC, eI, bN, aS, dZ, bS, aQ, bL, dH, cZ, cV, cN, cS, bK, bM, cX, dR, cR, dQ, dB, c4, f1]
  refine zQ o9 rfl (by simp) fun w10 o10 x10 s10 => ?_
  refine zQ o10 rfl (by simp) fun w11 o11 x11 s11 => ?_
  refine ⟨64 - (i + 1), by omega, i + 1, rfl, rfl, by omega, ?_, ((((((x8.seq (gV.dr _ _)).seq (gV.dr _ _)).seq (gV.dr _ _)).seq (gV.dr _ _)).seq x9).seq x10).seq x11⟩
  rw [hnext]
  exact o11
 have d1 : decide ((i : Int) < 64) = false := by simp; omega
 obtain rfl : i = 64 := by omega
 simp (disch := omega) only [eY, gN, dX, stepR_skip, fO, fW, fN, fZ, fX, fY, gQ, gG, eT, fT, fS, gE, fR, fL, fV, fQ, fU, gB, gC, fP, fC, gI, gA, fK, iR, iO, iP, iU, iM, iS, iQ, iT, iN, eP, Result.ok.injEq, Next.value.injEq, true_and, and_true, fI, fJ, gH, fM, gD, gR, acM, fE, fF, fG, fD, eZ, eU, fB, eX, eQ, eH, if_true, if_false, acK, acQ, acL, acN, acP, acO, acJ, acI, eA, dV, aB, dM, dO, cB, eB, eS, eE, dK, eF, fA, dJ, eJ, bP, dS, bE, dN, aL, aH, eL, aX, cI, eM, aE, eN, dE, aR, bF, eD, bB, bC, bJ, aO, aI, cF, fH, dY, cJ, cC, dA, cH, dT, bD, eK, bT, dF, bR, aT, bV, aC, bY, bQ, cA, bX, aY, aU, bA, bU, dL, cP, bO, aV, aJ, aM, bG, aF, dC, dW, aK, aN, aZ, aG, cY, aD, cL, bW, bH, aP, cM, bZ, aA, dD, cO, cU, cG, dI, cD, dG, dU, cQ, eC, eI, bN, aS, dZ, bS, aQ, bL, dH, cZ, cV, cN, cS, bK, bM, cX, dR, cR, dQ, dB, d1]
 obtain ⟨V, hV⟩ : ∃ V, V = xQ W s 64 := ⟨_, rfl⟩
 rw [<- hV] at o8 hl8 hlt8 hwith
 unfold An Am AD Ae Ad
 simp (disch := omega) only [eY, gN, dX, stepR_skip, fO, fW, fN, fZ, fX, fY, gQ, gG, eT, fT, fS, gE, fR, fL, fV, fQ, fU, gB, gC, fP, fC, gI, gA, fK, iR, iO, iP, iU, iM, iS, iQ, iT, iN, eP, Result.ok.injEq, Next.value.injEq, true_and, and_true, fI, fJ, gH, fM, gD, gR, acM, fE, fF, fG, fD, eZ, eU, fB, eX, eQ, eH, if_true, if_false, acK, acQ, acL, acN, acP, acO, acJ, acI, eA, dV, aB, dM, dO, cB, eB, eS, eE, dK, eF, fA, dJ, eJ, bP, dS, bE, dN, aL, aH, eL, aX, cI, eM, aE, eN, dE, aR, bF, eD, bB, bC, bJ, aO, aI, cF, fH, dY, cJ, cC, dA, cH, dT, bD, eK, bT, dF, bR, aT, bV, aC, bY, bQ, cA, bX, aY, aU, bA, bU, dL, cP, bO, aV, aJ, aM, bG, aF, dC, dW, aK, aN, aZ, aG, cY, aD, cL, bW, bH, aP, cM, bZ, aA, dD, cO, cU, cG, dI, cD, dG, dU, cQ, eC, eI, bN, aS, dZ, bS, aQ, bL, dH, cZ, cV, cN, cS, bK, bM, cX, dR, cR, dQ, dB]
 refine kJ.rule (fun m (t : ahB) w' => ∃ i : Nat, m = 8 - i /\ t = .int .i64 (i : Nat) /\ i <= 8 /\ jI w' v ((B0 V s i).map u32) /\ gV w7 w' (fun y => y = v)) 8 ⟨0, rfl, rfl, by omega, by rw [TI]; exact o8, x8⟩ ?_
 clear o8 x8
 rintro m t w8 ⟨i, rfl, rfl, hi, o8, x8⟩
 unfold tZ
 have hl9 : (B0 V s i).length = 8 := by rw [Nx, hl8]
 by_cases hlt : i < 8
 .have d1 : decide ((i : Int) < 8) = true := by simp; omega
  have e1 : jI w8 n (s.map u32) := a1.ext x8 (by omega)
  have q1 := kR o8
  have q2 := kR e1
  have c1 := o8.cell (off := i)
  have c2 := e1.cell (off := i)
  have c1' := q1.cell (off := i)
  have c2' := q2.cell (off := i)
  rw [EW (by omega), Vj (by omega)] at c1 c1'
  rw [EW (by omega)] at c2 c2'
  have f1 := Pp
  simp (disch := omega) only [eY, gN, dX, stepR_skip, fO, fW, fN, fZ, fX, fY, gQ, gG, eT, fT, fS, gE, fR, fL, fV, fQ, fU, gB, gC, fP, fC, gI, gA, fK, iR, iO, iP, iU, iM, iS, iQ, iT, iN, eP, Result.ok.injEq, Next.value.injEq, true_and, and_true, fI, fJ, gH, fM, gD, gR, acM, fE, fF, fG, fD, eZ, eU, fB, eX, eQ, eH, if_true, if_false, acK, acQ, acL, acN, acP, acO, acJ, acI, eA, dV, aB, dM, dO, cB, eB, eS, eE, dK, eF, fA, dJ, eJ, bP, dS, bE, dN, aL, aH, eL, aX, cI, eM, aE, eN, dE, aR, bF, eD, bB, bC, bJ, aO, aI, cF, fH, dY, cJ, cC, dA, cH, dT, bD, eK, bT, dF, bR, aT, bV, aC, bY, bQ, cA, bX, aY, aU, bA, bU, dL, cP, bO, aV, aJ, aM, bG, aF, dC, dW, aK, aN, aZ, aG, cY, aD, cL, bW, bH, aP, cM, bZ, aA, dD, cO, cU, cG, dI, cD, dG, dU, cQ, eC, eI, bN, aS, dZ, bS, aQ, bL, dH, cZ, cV, cN, cS, bK, bM, cX, dR, cR, dQ, dB, d1, c1, c2, c1', c2', f1]
  refine zQ (by first | exact q1 | exact o8) rfl (by rw [acR]; omega) fun w9 o9 x9 s9 => ?_
  refine ⟨8 - (i + 1), by omega, i + 1, rfl, rfl, by omega, ?_, by first | exact (x8.seq (gV.dr _ _)).seq x9 | exact x8.seq x9⟩
  rw [<- U2 (by omega), agY]
  exact o9
 have d1 : decide ((i : Int) < 8) = false := by simp; omega
 obtain rfl : i = 8 := by omega
 simp (disch := omega) only [eY, gN, dX, stepR_skip, fO, fW, fN, fZ, fX, fY, gQ, gG, eT, fT, fS, gE, fR, fL, fV, fQ, fU, gB, gC, fP, fC, gI, gA, fK, iR, iO, iP, iU, iM, iS, iQ, iT, iN, eP, Result.ok.injEq, Next.value.injEq, true_and, and_true, fI, fJ, gH, fM, gD, gR, acM, fE, fF, fG, fD, eZ, eU, fB, eX, eQ, eH, if_true, if_false, acK, acQ, acL, acN, acP, acO, acJ, acI, eA, dV, aB, dM, dO, cB, eB, eS, eE, dK, eF, fA, dJ, eJ, bP, dS, bE, dN, aL, aH, eL, aX, cI, eM, aE, eN, dE, aR, bF, eD, bB, bC, bJ, aO, aI, cF, fH, dY, cJ, cC, dA, cH, dT, bD, eK, bT, dF, bR, aT, bV, aC, bY, bQ, cA, bX, aY, aU, bA, bU, dL, cP, bO, aV, aJ, aM, bG, aF, dC, dW, aK, aN, aZ, aG, cY, aD, cL, bW, bH, aP, cM, bZ, aA, dD, cO, cU, cG, dI, cD, dG, dU, cQ, eC, eI, bN, aS, dZ, bS, aQ, bL, dH, cZ, cV, cN, cS, bK, bM, cX, dR, cR, dQ, dB, d1]
 unfold tX
 rw [<- hwith] at o8 hl9
 have lv := Fv (off := 0) o8 (by rw [acR]; omega)
 rw [aeZ, acX (by rw [acR]; omega)] at lv
 have a3 := a3.ext x8 (by omega)
 simp (disch := omega) only [eY, gN, dX, stepR_skip, fO, fW, fN, fZ, fX, fY, gQ, gG, eT, fT, fS, gE, fR, fL, fV, fQ, fU, gB, gC, fP, fC, gI, gA, fK, iR, iO, iP, iU, iM, iS, iQ, iT, iN, eP, Result.ok.injEq, Next.value.injEq, true_and, and_true, fI, fJ, gH, fM, gD, gR, acM, fE, fF, fG, fD, eZ, eU, fB, eX, eQ, eH, if_true, if_false, acK, acQ, acL, acN, acP, acO, acJ, acI, eA, dV, aB, dM, dO, cB, eB, eS, eE, dK, eF, fA, dJ, eJ, bP, dS, bE, dN, aL, aH, eL, aX, cI, eM, aE, eN, dE, aR, bF, eD, bB, bC, bJ, aO, aI, cF, fH, dY, cJ, cC, dA, cH, dT, bD, eK, bT, dF, bR, aT, bV, aC, bY, bQ, cA, bX, aY, aU, bA, bU, dL, cP, bO, aV, aJ, aM, bG, aF, dC, dW, aK, aN, aZ, aG, cY, aD, cL, bW, bH, aP, cM, bZ, aA, dD, cO, cU, cG, dI, cD, dG, dU, cQ, eC, eI, bN, aS, dZ, bS, aQ, bL, dH, cZ, cV, cN, cS, bK, bM, cX, dR, cR, dQ, dB, lv]
 refine FL a3 (by simp [hl9]) (fun y hy => LP _ y (by simpa using hy)) (by simp) fun w9 o9 x9 s9 => ?_
 have hset : nA (List.replicate 8 (Value.int .u32 0)) 0 ((La s b).map u32).toArray.toList = (La s b).map u32 := by
  rw [aeC]
  have := oQ ((La s b).map u32) [] (List.replicate 8 (Value.int .u32 0)) (by rw [acR, hl9]; decide)
  rw [adJ, adJ, aeN, acR, hl9] at this
  rw [this]; simp
 rw [hset] at o9
 refine Qh o9 (by rw [acR]; omega) ?_
 rw [aeZ, acX (by rw [acR]; omega)]
 exact ⟨rfl, (x07.trans x8 fun y hy h => by omega).trans x9 fun y hy h => by omega⟩
def Ls (vs : List Nat) (kept : List UInt8) (n all : Nat) : List ahB := vs.map u32 ++ (kept.map pG ++ [.int .i64 (n : Int), .int .u64 (all : Int)])
theorem AF {vs : List Nat} {kept : List UInt8} {n all : Nat} (h1 : vs.length = 8) (h2 : kept.length = 64) : (Ls vs kept n all).length = 74 := by simp [Ls, h1, h2]
theorem ZS {vs : List Nat} {kept : List UInt8} {n all : Nat} (i : Nat) (h : i < vs.length) : (Ls vs kept n all)[i]? = some (u32 (vs.getD i 0)) := by
 unfold Ls; rw [adU (by simpa using h), EW h]
theorem Ua {vs : List Nat} {kept : List UInt8} {n all : Nat} (h1 : vs.length = 8) (h2 : kept.length = 64) : (Ls vs kept n all)[72]? = some (.int .i64 (n : Int)) := by
 unfold Ls
 rw [aeF (by simp [h1]), acR, h1, aeF (by simp [h2]), acR, h2] <;> rfl
theorem UD {vs : List Nat} {kept : List UInt8} {n all : Nat} (h1 : vs.length = 8) (h2 : kept.length = 64) : (Ls vs kept n all)[73]? = some (.int .u64 (all : Int)) := by
 unfold Ls
 rw [aeF (by simp [h1]), acR, h1, aeF (by simp [h2]), acR, h2] <;> rfl
theorem QE {vs : List Nat} {kept : List UInt8} {n all : Nat} (h1 : vs.length = 8) (h2 : kept.length = 64) (m : Nat) : (Ls vs kept n all).set 72 (.int .i64 (m : Int)) = Ls vs kept m all := by
 unfold Ls
 rw [aeU _ _ (by simp [h1]), acR, h1, aeU _ _ (by simp [h2]), acR, h2] <;> rfl
theorem SV {vs : List Nat} {kept : List UInt8} {n all : Nat} (h1 : vs.length = 8) (h2 : kept.length = 64) (m : Nat) : (Ls vs kept n all).set 73 (.int .u64 (m : Int)) = Ls vs kept n m := by
 unfold Ls
 rw [aeU _ _ (by simp [h1]), acR, h1, aeU _ _ (by simp [h2]), acR, h2] <;> rfl
theorem Z0 {vs : List Nat} {kept : List UInt8} {n all : Nat} (h1 : vs.length = 8) : ((Ls vs kept n all).drop 0).take 8 = vs.map u32 := by
 unfold Ls
 rw [aeZ, adL (by rw [acR]; omega), acX (by rw [acR]; omega)]
theorem XA {vs : List Nat} {kept : List UInt8} {n all : Nat} (h1 : vs.length = 8) (h2 : kept.length = 64) : ((Ls vs kept n all).drop 8).take 64 = kept.map pG := by
 unfold Ls
 rw [adS (by rw [acR]; omega), afB (by rw [acR]; omega), adJ, adL (by rw [acR]; omega), acX (by rw [acR]; omega)]
theorem UM {vs us : List Nat} {kept : List UInt8} {n all : Nat} (h1 : vs.length = 8) (h3 : us.length = 8) : nA (Ls vs kept n all) 0 (us.map u32) = Ls us kept n all := by
 unfold Ls
 have := oQ (us.map u32) [] (vs.map u32 ++ (kept.map pG ++ [.int .i64 (n : Int), .int .u64 (all : Int)])) (by rw [acT, acR, acR]; omega)
 rw [adJ, adJ, aeN, acR] at this
 rw [this, adS (by rw [acR]; omega), afB (by rw [acR]; omega), adJ]
def ZI (l : List UInt8) (o : Nat) (x : List UInt8) : List UInt8 := l.take o ++ x ++ l.drop (o + x.length)
theorem XY {l : List UInt8} {o : Nat} {x : List UInt8} (h : o + x.length <= l.length) : (ZI l o x).length = l.length := by
 simp [ZI]; omega
theorem Yk {vs : List Nat} {kept : List UInt8} {n all o : Nat} {x : List UInt8} (h1 : vs.length = 8) (h : o + x.length <= kept.length) : nA (Ls vs kept n all) (8 + o) (x.map pG) = Ls vs (ZI kept o x) n all := by
 have e : Ls vs kept n all = (vs.map u32 ++ (kept.take o).map pG) ++ ((kept.drop o).map pG ++ [.int .i64 (n : Int), .int .u64 (all : Int)]) := by
  unfold Ls
  rw [adM, <- adM (List.map pG (kept.take o)), <- aeI, agR]
 have := oQ (x.map pG) (vs.map u32 ++ (kept.take o).map pG) ((kept.drop o).map pG ++ [.int .i64 (n : Int), .int .u64 (all : Int)]) (by rw [acT, acR, acR, adB]; omega)
 rw [acT, acR, acR, adE, adW (by omega), h1] at this
 rw [e, this]
 unfold Ls ZI
 rw [acR, adS (by rw [acR, adB]; omega), <- afM, afV, aeI, aeI]
 simp only [adM]
def AA (w : ahA) (b : Nat) (L : List UInt8) (all : Nat) : Prop :=
 ∃ kept, kept.length = 64 /\ kept.take (L.length % 64) = L.drop (64 * (L.length / 64)) /\ jI w b (Ls (JI (L.length / 64) L) kept (L.length % 64) all)
theorem AA.ext {w w' : ahA} {b all : Nat} {L : List UInt8} {M : Nat -> Prop} (h : AA w b L all) (x : gV w w' M) (hM : ¬ M b) : AA w' b L all := by
 obtain ⟨kept, h1, h2, h3⟩ := h
 exact ⟨kept, h1, h2, h3.ext x hM⟩
theorem AA.lt {w : ahA} {b all : Nat} {L : List UInt8} (h : AA w b L all) : b < w.heap.size := by
 obtain ⟨kept, h1, h2, h3⟩ := h
 exact h3.lt
theorem XC (w : ahA) : gT pg J6 #[] w (fun v w' => v = .pointer (some ⟨w.heap.size, 0, none⟩) /\ AA w' w.heap.size [] 0 /\ gV w w' jN /\ w'.heap.size = w.heap.size + 1) := by
 refine Rj ?_
 unfold UG Lz
 simp (disch := omega) only [eY, gN, dX, stepR_skip, fO, fW, fN, fZ, fX, fY, gQ, gG, eT, fT, fS, gE, fR, fL, fV, fQ, fU, gB, gC, fP, fC, gI, gA, fK, iR, iO, iP, iU, iM, iS, iQ, iT, iN, eP, Result.ok.injEq, Next.value.injEq, true_and, and_true, fI, fJ, gH, fM, gD, gR, acM, fE, fF, fG, fD, eZ, eU, fB, eX, eQ, eH, if_true, if_false, acK, acQ, acL, acN, acP, acO, acJ, acI, eA, dV, aB, dM, dO, cB, eB, eS, eE, dK, eF, fA, dJ, eJ, bP, dS, bE, dN, aL, aH, eL, aX, cI, eM, aE, eN, dE, aR, bF, eD, bB, bC, bJ, aO, aI, cF, fH, dY, cJ, cC, dA, cH, dT, bD, eK, bT, dF, bR, aT, bV, aC, bY, bQ, cA, bX, aY, aU, bA, bU, dL, cP, bO, aV, aJ, aM, bG, aF, dC, dW, aK, aN, aZ, aG, cY, aD, cL, bW, bH, aP, cM, bZ, aA, dD, cO, cU, cG, dI, cD, dG, dU, cQ, eC, eI, bN, aS, dZ, bS, aQ, bL, dH, cZ, cV, cN, cS, bK, bM, cX, dR, cR, dQ, dB]
 refine oM fun w1 o1 x1 s1 => ⟨rfl, ⟨List.replicate 64 0, rfl, rfl, ?_⟩, x1, s1⟩
 exact o1
theorem Qi {w0 : ahA} {b all : Nat} {L l : List UInt8} {R : ahA -> Prop} (hg : qK w0) (hb0 : 0 ≠ b /\ 1 ≠ b) (hlen : L.length + l.length <= 1099511627776)
 (hR : ∀ w', AA w' b (L ++ l) all -> gV w0 w' (fun x => x = b) -> R w') {v : ahB} {w : ahA}
 (h : AA w b L all) (hv : Bs w v l) (hb : ¬ vO v (fun x => x = b)) (hx : gV w0 w (fun x => x = b)) :
 tV R (.pointer (some ⟨b, 0, none⟩)) v w := by
 unfold tV
 refine kJ.rule (fun n t w' => ∃ m : Nat, m <= l.length /\ n = l.length - m /\ Bs w' t (l.drop m) /\ ¬ vO t (fun x => x = b) /\ AA w' b (L ++ l.take m) all /\ gV w0 w' (fun x => x = b)) l.length
  ⟨0, by omega, rfl, hv, hb, by simpa using h, hx⟩ ?_
 clear h hv hb hx
 rintro n t w' ⟨m, hm, rfl, hv, hb, ⟨kept, h2, hk, ho⟩, hx⟩
 have hv' := hv
 obtain ⟨a, n, c, rfl, hn, hc, hcell⟩ := hv'
 rw [acR, adB] at hn
 unfold tW
 by_cases hlt : m < l.length
 .obtain ⟨b', o', rfl, hcell'⟩ := hcell (by omega)
  have hd : decide ((0 : Int) < (n : Int)) = true := by simp; omega
  have hM : (L ++ l.take m).length = L.length + m := by simp; omega
  rw [hM] at hk ho
  obtain ⟨q, hq⟩ : ∃ q, q = (L.length + m) / 64 := ⟨_, rfl⟩
  obtain ⟨r, hr⟩ : ∃ r, r = (L.length + m) % 64 := ⟨_, rfl⟩
  rw [<- hq, <- hr] at hk ho
  have hqr : L.length + m = 64 * q + r /\ r < 64 := by omega
  have h1 : (JI q (L ++ l.take m)).length = 8 := Cb _ _
  have hod := kR ho
  have c72 := hod.cell (off := 72)
  rw [Ua h1 h2] at c72
  have sh := LH (b := b) (o := 8) (show r ≠ 64 by omega)
  have hvd : Bs (dr w') (.slice (some ⟨b', o', none⟩) n c) (l.drop m) := hv.ext (gV.dr w' jN) (by unfold vO jN; split <;> simp)
  simp (disch := omega) only [eY, gN, dX, stepR_skip, fO, fW, fN, fZ, fX, fY, gQ, gG, eT, fT, fS, gE, fR, fL, fV, fQ, fU, gB, gC, fP, fC, gI, gA, fK, iR, iO, iP, iU, iM, iS, iQ, iT, iN, eP, Result.ok.injEq, Next.value.injEq, true_and, and_true, fI, fJ, gH, fM, gD, gR, acM, fE, fF, fG, fD, eZ, eU, fB, eX, eQ, eH, if_true, if_false, acK, acQ, acL, acN, acP, acO, acJ, acI, eA, dV, aB, dM, dO, cB, eB, eS, eE, dK, eF, fA, dJ, eJ, bP, dS, bE, dN, aL, aH, eL, aX, cI, eM, aE, eN, dE, aR, bF, eD, bB, bC, bJ, aO, aI, cF, fH, dY, cJ, cC, dA, cH, dT, bD, eK, bT, dF, bR, aT, bV, aC, bY, bQ, cA, bX, aY, aU, bA, bU, dL, cP, bO, aV, aJ, aM, bG, aF, dC, dW, aK, aN, aZ, aG, cY, aD, cL, bW, bH, aP, cM, bZ, aA, dD, cO, cU, cG, dI, cD, dG, dU, cQ, eC, eI, bN, aS, dZ, bS, aQ, bL, dH, cZ, cV, cN, cS, bK, bM, cX, dR, cR, dQ, dB, hd, c72, sh]
  refine Fh hod (by rw [AF h1 h2]; omega) hvd (Fq _) fun w1 o1 x1 s1 => ?_
  obtain ⟨u, hu⟩ : ∃ u, u = min n (64 - r) := ⟨_, rfl⟩
  have hlm : (List.map pG (l.drop m)).length = n := by rw [acR, adB, hn]
  rw [hlm] at o1 ⊢
  rw [<- hu] at o1 ⊢
  have hu1 : u <= n /\ u <= 64 - r /\ (u = n ∨ u = 64 - r) := by omega
  have hul : ((l.drop m).take u).length = u := by rw [adE, adB]; omega
  rw [<- agB, Yk h1 (by omega)] at o1
  obtain ⟨kept1, hk1⟩ : ∃ x, x = ZI kept r ((l.drop m).take u) := ⟨_, rfl⟩
  rw [<- hk1] at o1
  have h21 : kept1.length = 64 := by rw [hk1, XY (by omega)]; exact h2
  have c1 := o1.cell (off := 72)
  rw [Ua h1 h21] at c1
  have e1 : (r : Int) + (u : Int) = ((r + u : Nat) : Int) := by omega
  simp (disch := omega) only [eY, gN, dX, stepR_skip, fO, fW, fN, fZ, fX, fY, gQ, gG, eT, fT, fS, gE, fR, fL, fV, fQ, fU, gB, gC, fP, fC, gI, gA, fK, iR, iO, iP, iU, iM, iS, iQ, iT, iN, eP, Result.ok.injEq, Next.value.injEq, true_and, and_true, fI, fJ, gH, fM, gD, gR, acM, fE, fF, fG, fD, eZ, eU, fB, eX, eQ, eH, if_true, if_false, acK, acQ, acL, acN, acP, acO, acJ, acI, eA, dV, aB, dM, dO, cB, eB, eS, eE, dK, eF, fA, dJ, eJ, bP, dS, bE, dN, aL, aH, eL, aX, cI, eM, aE, eN, dE, aR, bF, eD, bB, bC, bJ, aO, aI, cF, fH, dY, cJ, cC, dA, cH, dT, bD, eK, bT, dF, bR, aT, bV, aC, bY, bQ, cA, bX, aY, aU, bA, bU, dL, cP, bO, aV, aJ, aM, bG, aF, dC, dW, aK, aN, aZ, aG, cY, aD, cL, bW, bH, aP, cM, bZ, aA, dD, cO, cU, cG, dI, cD, dG, dU, cQ, eC, eI, bN, aS, dZ, bS, aQ, bL, dH, cZ, cV, cN, cS, bK, bM, cX, dR, cR, dQ, dB, c1, e1]
  refine HD o1 rfl (by rw [AF h1 h21]; omega) fun w2 o2 x2 s2 => ?_
  rw [QE h1 h21] at o2
  have hx2 : gV w' w2 (fun x => x = b) := ((gV.dr w' _).seq x1).seq x2
  have hv2 := hv.ext hx2 hb
  have hv3 := hv2.drop hu1.1
  have hb3 := VG (k := u) hb (by omega) (n - u)
  rw [<- afM, afV] at hv3
  have hM2 : L ++ l.take (m + u) = (L ++ l.take m) ++ (l.drop m).take u := by rw [adM, List.take_add]
  have hacc : JI q (L ++ l.take (m + u)) = JI q (L ++ l.take m) := by rw [hM2]; exact NP _ _ _ (by omega)
  have hlen2 : (L ++ l.take (m + u)).length = L.length + (m + u) := by simp; omega
  have hkeep : kept1.take (r + u) = (L ++ l.take (m + u)).drop (64 * q) := by
   rw [hk1, hM2, adS (by omega), <- hk]
   unfold ZI
   rw [adL (by simp; omega), acX (by simp; omega)]
  rw [<- hacc] at o2
  have h11 := Cb q (L ++ l.take (m + u))
  have c2 := o2.cell (off := 72)
  rw [Ua h11 h21] at c2
  by_cases hfull : r + u = 64
  .have he : (((r + u : Nat) : Int) == 64) = true := by rw [hfull] <;> rfl
   have od := kR o2
   have ls := Fv (off := 0) od (by rw [AF h11 h21]; omega)
   have lk := JX (off := 8) od (by rw [AF h11 h21]; omega)
   rw [Z0 h11] at ls
   rw [XA h11 h21] at lk
   simp (disch := omega) only [eY, gN, dX, stepR_skip, fO, fW, fN, fZ, fX, fY, gQ, gG, eT, fT, fS, gE, fR, fL, fV, fQ, fU, gB, gC, fP, fC, gI, gA, fK, iR, iO, iP, iU, iM, iS, iQ, iT, iN, eP, Result.ok.injEq, Next.value.injEq, true_and, and_true, fI, fJ, gH, fM, gD, gR, acM, fE, fF, fG, fD, eZ, eU, fB, eX, eQ, eH, if_true, if_false, acK, acQ, acL, acN, acP, acO, acJ, acI, eA, dV, aB, dM, dO, cB, eB, eS, eE, dK, eF, fA, dJ, eJ, bP, dS, bE, dN, aL, aH, eL, aX, cI, eM, aE, eN, dE, aR, bF, eD, bB, bC, bJ, aO, aI, cF, fH, dY, cJ, cC, dA, cH, dT, bD, eK, bT, dF, bR, aT, bV, aC, bY, bQ, cA, bX, aY, aU, bA, bU, dL, cP, bO, aV, aJ, aM, bG, aF, dC, dW, aK, aN, aZ, aG, cY, aD, cL, bW, bH, aP, cM, bZ, aA, dD, cO, cU, cG, dI, cD, dG, dU, cQ, eC, eI, bN, aS, dZ, bS, aQ, bL, dH, cZ, cV, cN, cS, bK, bM, cX, dR, cR, dQ, dB, c2, he, ls, lk]
   rw [hfull] at hkeep
   refine (VB (hg.extM ((hx.seq hx2).seq (gV.dr _ _)) hb0.1 hb0.2) h11 (Rv _ _) h21).mono ?_
   rintro r' w3 ⟨rfl, x3⟩
   have o3 := od.ext x3 (fun h => h)
   have h13 := QT kept1 h11
   refine FL o3 (by simp [h13]) (fun y hy => LP _ y (by simpa using hy)) (by rw [AF h11 h21]; omega) fun w4 o4 x4 s4 => ?_
   rw [aeC, UM h11 h13] at o4
   refine HD o4 rfl (by rw [AF h13 h21]; omega) fun w5 o5 x5 s5 => ?_
   have o5 : jI w5 b ((Ls (La (JI q (L ++ l.take (m + u))) kept1) kept1 (r + u) all).set 72 (.int .i64 ((0 : Nat) : Int))) := o5
   rw [QE h13 h21] at o5
   have hx4 : gV w2 w5 (fun x => x = b) := (((gV.dr w2 _).seq (x3.mono fun _ _ h => h.elim)).seq x4).seq x5
   have hkk : kept1 = (L ++ l.take (m + u)).drop (64 * q) := by rw [<- hkeep, acX (by omega)]
   refine ⟨l.length - (m + u), by omega, m + u, by omega, rfl, hv3.ext hx4 hb3, hb3, ⟨kept1, h21, ?_, ?_⟩, (hx.seq hx2).seq hx4⟩
   .have z : (L ++ l.take (m + u)).drop (64 * ((L.length + (m + u)) / 64)) = [] := List.drop_eq_nil_of_le (by rw [hlen2]; omega)
    have z1 : (L.length + (m + u)) % 64 = 0 := by omega
    rw [hlen2, z, z1] <;> rfl
   .have z1 : (L.length + (m + u)) % 64 = 0 := by omega
    have z2 : (L.length + (m + u)) / 64 = q + 1 := by omega
    have z3 : kept1.take 64 = kept1 := acX (by omega)
    rw [hlen2, z1, z2, JI, <- hkk, z3]
    exact o5
  .have he : (((r + u : Nat) : Int) == 64) = false := by rw [beq_eq_false_iff_ne]; omega
   simp (disch := omega) only [eY, gN, dX, stepR_skip, fO, fW, fN, fZ, fX, fY, gQ, gG, eT, fT, fS, gE, fR, fL, fV, fQ, fU, gB, gC, fP, fC, gI, gA, fK, iR, iO, iP, iU, iM, iS, iQ, iT, iN, eP, Result.ok.injEq, Next.value.injEq, true_and, and_true, fI, fJ, gH, fM, gD, gR, acM, fE, fF, fG, fD, eZ, eU, fB, eX, eQ, eH, if_true, if_false, acK, acQ, acL, acN, acP, acO, acJ, acI, eA, dV, aB, dM, dO, cB, eB, eS, eE, dK, eF, fA, dJ, eJ, bP, dS, bE, dN, aL, aH, eL, aX, cI, eM, aE, eN, dE, aR, bF, eD, bB, bC, bJ, aO, aI, cF, fH, dY, cJ, cC, dA, cH, dT, bD, eK, bT, dF, bR, aT, bV, aC, bY, bQ, cA, bX, aY, aU, bA, bU, dL, cP, bO, aV, aJ, aM, bG, aF, dC, dW, aK, aN, aZ, aG, cY, aD, cL, bW, bH, aP, cM, bZ, aA, dD, cO, cU, cG, dI, cD, dG, dU, cQ, eC, eI, bN, aS, dZ, bS, aQ, bL, dH, cZ, cV, cN, cS, bK, bM, cX, dR, cR, dQ, dB, c2, he]
   refine ⟨l.length - (m + u), by omega, m + u, by omega, rfl, hv3, hb3, ⟨kept1, h21, ?_, ?_⟩, hx.seq hx2⟩
   .rw [hlen2, show (L.length + (m + u)) % 64 = r + u from by omega, show (L.length + (m + u)) / 64 = q from by omega]; exact hkeep
   .rw [hlen2, show (L.length + (m + u)) % 64 = r + u from by omega, show (L.length + (m + u)) / 64 = q from by omega]; exact o2
 .have hd : decide ((0 : Int) < (n : Int)) = false := by simp; omega
  have e : l.take m = l := acX (by omega)
  rw [e] at hk ho
  simp (disch := omega) only [eY, gN, dX, stepR_skip, fO, fW, fN, fZ, fX, fY, gQ, gG, eT, fT, fS, gE, fR, fL, fV, fQ, fU, gB, gC, fP, fC, gI, gA, fK, iR, iO, iP, iU, iM, iS, iQ, iT, iN, eP, Result.ok.injEq, Next.value.injEq, true_and, and_true, fI, fJ, gH, fM, gD, gR, acM, fE, fF, fG, fD, eZ, eU, fB, eX, eQ, eH, if_true, if_false, acK, acQ, acL, acN, acP, acO, acJ, acI, eA, dV, aB, dM, dO, cB, eB, eS, eE, dK, eF, fA, dJ, eJ, bP, dS, bE, dN, aL, aH, eL, aX, cI, eM, aE, eN, dE, aR, bF, eD, bB, bC, bJ, aO, aI, cF, fH, dY, cJ, cC, dA, cH, dT, bD, eK, bT, dF, bR, aT, bV, aC, bY, bQ, cA, bX, aY, aU, bA, bU, dL, cP, bO, aV, aJ, aM, bG, aF, dC, dW, aK, aN, aZ, aG, cY, aD, cL, bW, bH, aP, cM, bZ, aA, dD, cO, cU, cG, dI, cD, dG, dU, cQ, eC, eI, bN, aS, dZ, bS, aQ, bL, dH, cZ, cV, cN, cS, bK, bM, cX, dR, cR, dQ, dB, hd]
  exact hR _ ⟨kept, h2, hk, ho⟩ hx
theorem Pz {b all : Nat} {L l : List UInt8} {v : ahB} {w : ahA} (hg : qK w) (hb0 : 0 ≠ b /\ 1 ≠ b) (hlen : L.length + l.length <= 1099511627776) (hall : all + l.length <= 1099511627776) (h : AA w b L all) (hv : Bs w v l) (hb : ¬ vO v (fun x => x = b)) :
 gT pg mJ #[.pointer (some ⟨b, 0, none⟩), v] w (fun r w' => r = .tuple #[] /\ AA w' b (L ++ l) (all + l.length) /\ gV w w' (fun x => x = b)) := by
 refine KD ?_
 unfold J1 AO AK
 obtain ⟨kept, h2, hk, ho⟩ := h
 have h1 := Cb (L.length / 64) L
 obtain ⟨va, vc, rfl, _⟩ := hv.len
 rw [acR] at hv hb ⊢
 have c73 := ho.cell (off := 73)
 rw [UD h1 h2] at c73
 have e1 : (all : Int) + (l.length : Int) = ((all + l.length : Nat) : Int) := by omega
 simp (disch := omega) only [eY, gN, dX, stepR_skip, fO, fW, fN, fZ, fX, fY, gQ, gG, eT, fT, fS, gE, fR, fL, fV, fQ, fU, gB, gC, fP, fC, gI, gA, fK, iR, iO, iP, iU, iM, iS, iQ, iT, iN, eP, Result.ok.injEq, Next.value.injEq, true_and, and_true, fI, fJ, gH, fM, gD, gR, acM, fE, fF, fG, fD, eZ, eU, fB, eX, eQ, eH, if_true, if_false, acK, acQ, acL, acN, acP, acO, acJ, acI, eA, dV, aB, dM, dO, cB, eB, eS, eE, dK, eF, fA, dJ, eJ, bP, dS, bE, dN, aL, aH, eL, aX, cI, eM, aE, eN, dE, aR, bF, eD, bB, bC, bJ, aO, aI, cF, fH, dY, cJ, cC, dA, cH, dT, bD, eK, bT, dF, bR, aT, bV, aC, bY, bQ, cA, bX, aY, aU, bA, bU, dL, cP, bO, aV, aJ, aM, bG, aF, dC, dW, aK, aN, aZ, aG, cY, aD, cL, bW, bH, aP, cM, bZ, aA, dD, cO, cU, cG, dI, cD, dG, dU, cQ, eC, eI, bN, aS, dZ, bS, aQ, bL, dH, cZ, cV, cN, cS, bK, bM, cX, dR, cR, dQ, dB, c73, e1]
 refine J5 ho rfl (by rw [AF h1 h2]; omega) fun w1 o1 x1 s1 => ?_
 rw [SV h1 h2] at o1
 unfold Ap
 exact Qi hg hb0 hlen (fun w' h' x' => ⟨h', x'⟩) ⟨kept, h2, hk, o1⟩ (hv.ext x1 hb) hb x1
end Go.Proofs.YteelnmpbnaohpaaDoor
namespace Go.En
open Go
theorem Jv.ext {w w' : ahA} {S M : Nat -> Prop} {sz n : Nat} {v : ahB} {l : List ahB} (h : Jv w S sz v n l) (hx : gV w w' M) (hM : ∀ b, S b -> ¬ M b) : Jv w' S sz v n l := by
 refine ⟨h.1, ?_⟩
 rcases h.2 with h2 | ⟨b, c, rest, h1, h2, h3, h4, h5⟩
 .exact .inl h2
 .exact .inr ⟨b, c, rest, h1, h2, h3.ext hx (hM b h2), h4, h5⟩
theorem Ac.ne {w : ahA} {base p sz n : Nat} {v : ahB} {l : List ahB} (h : Ac w base sz v n l) (hp : w.heap.size <= p) : Jv w (fun b => base <= b /\ b ≠ p) sz v n l := by
 refine ⟨h.1, ?_⟩
 rcases h.2 with h2 | ⟨b, c, rest, h1, h2, h3, h4, h5⟩
 .exact .inl h2
 .have := h3.lt
  exact .inr ⟨b, c, rest, h1, ⟨h2, by omega⟩, h3, h4, h5⟩
theorem Jv.len {w : ahA} {S : Nat -> Prop} {sz n : Nat} {v : ahB} {l : List ahB} (h : Jv w S sz v n l) : ∃ a c, v = .slice a n c := by
 rcases h.2 with ⟨h1, rfl⟩ | ⟨b, c, rest, h1, _⟩
 .exact ⟨_, _, h1⟩
 .exact ⟨_, _, h1⟩
end Go.En
namespace Go.Proofs.YteelnmpbnaohpaaDoor
open Go Go.En Go.Pu
set_option maxRecDepth 4000
theorem YY {w : ahA} {b : Nat} {x : UInt8} (o : jI w b [.int .u8 (x.toNat : Nat)]) : Bs w (.slice (some ⟨b, 0, none⟩) 1 1) [x] := jI.bs (l := [x]) (off := 0) (c := 1) o (by simp) fun i hi => by
 have hi : i < 1 := hi
 obtain rfl : i = 0 := by omega
 rfl
theorem PL {w : ahA} {b all : Nat} {L : List UInt8} {x : Nat} (hx : x < 256) {K : ahB -> ahA -> Prop} (hg : qK w) (hb0 : 0 ≠ b /\ 1 ≠ b) (hlen : L.length + 1 <= 1099511627776) (hall : all + 1 <= 1099511627776) (h : AA w b L all)
 (hK : ∀ w', AA w' b (L ++ [UInt8.ofNat x]) (all + 1) -> gV w w' (fun y => y = b) -> K (.tuple #[]) w') :
 eY pg (iL 22 1 [(0, .int .u8 (x : Nat))]) w fun t w => gT pg mJ #[.pointer (some ⟨b, 0, none⟩), t] w K := by
 refine EN (cells := #[.int .u8 (x : Nat)]) (by decide) (by decide) (by kernel_rfl) fun w1 o1 x1 s1 => ?_
 have hbl := h.lt
 have hxx : (UInt8.ofNat x).toNat = x := by rw [afR]; omega
 have o1 : jI w1 w.heap.size [.int .u8 ((UInt8.ofNat x).toNat : Nat)] := by rw [hxx]; exact o1
 refine (Pz (hg.ext x1) hb0 (l := [UInt8.ofNat x]) hlen hall (h.ext x1 (fun h => h)) (YY o1) (fun hi => ?_)).mono ?_
 .have hi : w.heap.size = b := hi
  omega
 rintro r w2 ⟨rfl, h2, x2⟩
 exact hK w2 h2 ((x1.mono fun _ _ h => h.elim).seq x2)
theorem Hf (xs cs : List ahB) (h : cs.length = xs.length) : nA cs 0 xs = xs := by
 have := oQ xs [] cs (by omega)
 rw [adJ, afB (by omega), aeJ, adJ] at this
 exact this
theorem Y9 (n k : Nat) (hk : k <= (119 - n % 64) % 64) : ((n + 1 + k) % 64 = 56) ↔ k = (119 - n % 64) % 64 := by omega
theorem Wz {b : Nat} {L : List UInt8} {w : ahA} (hg : qK w) (hlen : L.length <= 1000000000) (h : AA w b L L.length) :
 gT pg AY #[.pointer (some ⟨b, 0, none⟩)] w (fun r w' => r = .agg ((Sv L).map pG).toArray /\ gV w w' jN) := by
 refine Mt ?_
 obtain ⟨RR, hRR⟩ : ∃ RR : ahB -> ahA -> Prop, RR = fun r w' => r = .agg ((Sv L).map pG).toArray /\ gV w w' jN := ⟨_, rfl⟩
 rw [<- hRR]
 unfold L5 BC BP
 obtain ⟨hg0, hg1⟩ := hg.lt
 have hbl := h.lt
 refine GU fun w1 o1 x1 s1 => ?_
 obtain ⟨p, hp⟩ : ∃ p, p = w.heap.size := ⟨_, rfl⟩
 rw [<- hp] at o1 ⊢
 have o1 : jI w1 p (List.replicate 32 (.int .u8 0)) := o1
 obtain ⟨kept, h2, hk, ho⟩ := h.ext x1 (fun h => h)
 have h1 := Cb (L.length / 64) L
 have la := Ry (off := 0) ho (by rw [AF h1 h2]; omega)
 rw [aeZ, acX (by rw [AF h1 h2]; omega)] at la
 simp (disch := omega) only [eY, gN, dX, stepR_skip, fO, fW, fN, fZ, fX, fY, gQ, gG, eT, fT, fS, gE, fR, fL, fV, fQ, fU, gB, gC, fP, fC, gI, gA, fK, iR, iO, iP, iU, iM, iS, iQ, iT, iN, eP, Result.ok.injEq, Next.value.injEq, true_and, and_true, fI, fJ, gH, fM, gD, gR, acM, fE, fF, fG, fD, eZ, eU, fB, eX, eQ, eH, if_true, if_false, acK, acQ, acL, acN, acP, acO, acJ, acI, eA, dV, aB, dM, dO, cB, eB, eS, eE, dK, eF, fA, dJ, eJ, bP, dS, bE, dN, aL, aH, eL, aX, cI, eM, aE, eN, dE, aR, bF, eD, bB, bC, bJ, aO, aI, cF, fH, dY, cJ, cC, dA, cH, dT, bD, eK, bT, dF, bR, aT, bV, aC, bY, bQ, cA, bX, aY, aU, bA, bU, dL, cP, bO, aV, aJ, aM, bG, aF, dC, dW, aK, aN, aZ, aG, cY, aD, cL, bW, bH, aP, cM, bZ, aA, dD, cO, cU, cG, dI, cD, dG, dU, cQ, eC, eI, bN, aS, dZ, bS, aQ, bL, dH, cZ, cV, cN, cS, bK, bM, cX, dR, cR, dQ, dB, la]
 refine RT fun w2 o2 x2 s2 => ?_
 obtain ⟨q, hq⟩ : ∃ q, q = w1.heap.size := ⟨_, rfl⟩
 rw [<- hq] at o2 ⊢
 have hone : ∀ y ∈ (Ls (JI (L.length / 64) L) kept (L.length % 64) L.length).toArray.toList, one y = true := fun y hy => by
  rw [aeC] at hy
  unfold Ls at hy
  rcases adV.1 hy with h | h
  .exact LP _ y h
  .rcases adV.1 h with h | h
   .obtain ⟨z, -, rfl⟩ := aeE.1 h; rfl
   .simp only [adX, List.not_mem_nil, or_false] at h
    rcases h with rfl | rfl <;> rfl
 refine Rc o2 (by rw [afI, AF h1 h2]) hone (by simp) fun w3 o3 x3 s3 => ?_
 have o3 : jI w3 q (Ls (JI (L.length / 64) L) kept (L.length % 64) L.length) := by
  rw [aeC, Hf _ _ (by rw [AF h1 h2] <;> rfl)] at o3
  exact o3
 have z1 : w1.heap.size = p + 1 := by omega
 have hqp : q = p + 1 := by omega
 have x03 : gV w w3 jN := (x1.seq x2).trans x3 fun y hy h => by omega
 have hS3 : AA w3 q L L.length := ⟨kept, h2, hk, o3⟩
 have r3 := (o1.ext x2 (fun h => h)).ext x3 (show ¬ p = q by omega)
 have bh3 : AA w3 b L L.length := h.ext x03 (fun h => h)
 have hb0 : 0 ≠ q /\ 1 ≠ q := ⟨by omega, by omega⟩
 clear o1 o2 o3 x1 x2 x3 s1 s2 s3 la hone ho
 have keep : ∀ {w' : ahA} {x : ahB}, gV w3 w' (fun y => y = q) -> qK w' /\ jI w' p (List.replicate 32 (.int .u8 0)) /\ AA w' b L L.length /\ gV w w' jN := fun {w' x} hx =>
  ⟨hg.ext (x03.trans hx fun y hy h => by omega), r3.ext hx (by omega), bh3.ext hx (by omega), x03.trans hx fun y hy h => by omega⟩
 refine PL (x := 128) (by decide) (hg.ext x03) hb0 (by omega) (by omega) hS3 fun w4 h4 x4 => ?_
 unfold BL BE Bq
 obtain ⟨z, hz⟩ : ∃ z, z = (119 - L.length % 64) % 64 := ⟨_, rfl⟩
 refine kJ.rule (fun m (t : Unit) w' => ∃ (k all : Nat), m = z - k /\ k <= z /\ all = L.length + 1 + k /\ AA w' q (L ++ [128] ++ List.replicate k 0) all /\ gV w3 w' (fun y => y = q)) z ⟨0, _, rfl, by omega, rfl, by simpa using h4, x4⟩ ?_
 clear h4 x4
 rintro m _ w5 ⟨k, all, rfl, hkz, rfl, h5, x5⟩
 unfold vS
 have hlk : (L ++ [128] ++ List.replicate k (0 : UInt8)).length = L.length + 1 + k := by simp; omega
 have c72 : w5.cell? ⟨q, 72, none⟩ = some (.int .i64 (((L.length + 1 + k) % 64 : Nat) : Int)) := by
  obtain ⟨kp, g2, gk, go⟩ := h5
  rw [go.cell, Ua (Cb _ _) g2, hlk]
 obtain ⟨hg5, r5, bh5, x05⟩ := keep (x := undef) x5
 by_cases hlt : k < z
 .have d1 : ((((L.length + 1 + k) % 64 : Nat) : Int) != 56) = true := by
   rw [bne_iff_ne]
   have := Y9 L.length k (by omega)
   omega
  simp (disch := omega) only [eY, gN, dX, stepR_skip, fO, fW, fN, fZ, fX, fY, gQ, gG, eT, fT, fS, gE, fR, fL, fV, fQ, fU, gB, gC, fP, fC, gI, gA, fK, iR, iO, iP, iU, iM, iS, iQ, iT, iN, eP, Result.ok.injEq, Next.value.injEq, true_and, and_true, fI, fJ, gH, fM, gD, gR, acM, fE, fF, fG, fD, eZ, eU, fB, eX, eQ, eH, if_true, if_false, acK, acQ, acL, acN, acP, acO, acJ, acI, eA, dV, aB, dM, dO, cB, eB, eS, eE, dK, eF, fA, dJ, eJ, bP, dS, bE, dN, aL, aH, eL, aX, cI, eM, aE, eN, dE, aR, bF, eD, bB, bC, bJ, aO, aI, cF, fH, dY, cJ, cC, dA, cH, dT, bD, eK, bT, dF, bR, aT, bV, aC, bY, bQ, cA, bX, aY, aU, bA, bU, dL, cP, bO, aV, aJ, aM, bG, aF, dC, dW, aK, aN, aZ, aG, cY, aD, cL, bW, bH, aP, cM, bZ, aA, dD, cO, cU, cG, dI, cD, dG, dU, cQ, eC, eI, bN, aS, dZ, bS, aQ, bL, dH, cZ, cV, cN, cS, bK, bM, cX, dR, cR, dQ, dB, c72, d1]
  refine PL (x := 0) (by decide) hg5 hb0 (by rw [hlk]; omega) (by omega) h5 fun w6 h6 x6 => ?_
  refine ⟨z - (k + 1), by omega, k + 1, L.length + 1 + (k + 1), rfl, by omega, rfl, ?_, x5.seq x6⟩
  rw [List.replicate_succ', <- adM]
  exact h6
 have d1 : ((((L.length + 1 + k) % 64 : Nat) : Int) != 56) = false := by
  rw [bne_eq_false_iff_eq]
  have := (Y9 L.length k (by omega)).2 (by omega)
  omega
 obtain rfl : k = z := by omega
 simp (disch := omega) only [eY, gN, dX, stepR_skip, fO, fW, fN, fZ, fX, fY, gQ, gG, eT, fT, fS, gE, fR, fL, fV, fQ, fU, gB, gC, fP, fC, gI, gA, fK, iR, iO, iP, iU, iM, iS, iQ, iT, iN, eP, Result.ok.injEq, Next.value.injEq, true_and, and_true, fI, fJ, gH, fM, gD, gR, acM, fE, fF, fG, fD, eZ, eU, fB, eX, eQ, eH, if_true, if_false, acK, acQ, acL, acN, acP, acO, acJ, acI, eA, dV, aB, dM, dO, cB, eB, eS, eE, dK, eF, fA, dJ, eJ, bP, dS, bE, dN, aL, aH, eL, aX, cI, eM, aE, eN, dE, aR, bF, eD, bB, bC, bJ, aO, aI, cF, fH, dY, cJ, cC, dA, cH, dT, bD, eK, bT, dF, bR, aT, bV, aC, bY, bQ, cA, bX, aY, aU, bA, bU, dL, cP, bO, aV, aJ, aM, bG, aF, dC, dW, aK, aN, aZ, aG, cY, aD, cL, bW, bH, aP, cM, bZ, aA, dD, cO, cU, cG, dI, cD, dG, dU, cQ, eC, eI, bN, aS, dZ, bS, aQ, bL, dH, cZ, cV, cN, cS, bK, bM, cX, dR, cR, dQ, dB, c72, d1]
 obtain ⟨B, hB⟩ : ∃ B, B = L ++ [128] ++ List.replicate k (0 : UInt8) := ⟨_, rfl⟩
 rw [<- hB] at h5 hlk
 unfold BA Bx BH By BO
 refine kJ.rule (fun m (t : ahB) w' => ∃ (j : Nat), m = 8 - j /\ j <= 8 /\ t = .int .i64 (56 - 8 * (j : Int)) /\ AA w' q (B ++ XJ (8 * L.length) j) (L.length + 1 + k + j) /\ gV w3 w' (fun y => y = q)) 8 ⟨0, rfl, by omega, rfl, by simpa [XJ] using h5, x5⟩ ?_
 clear c72 d1 h5 x5 hg5 r5 bh5 x05 hlt
 rintro m t w6 ⟨j, rfl, hj, rfl, h6, x6⟩
 unfold vQ
 obtain ⟨hg6, r6, bh6, x06⟩ := keep (x := undef) x6
 by_cases hlt : j < 8
 .have d1 : decide ((0 : Int) <= 56 - 8 * (j : Int)) = true := by simp; omega
  have c73 : w6.cell? ⟨b, 73, none⟩ = some (.int .u64 (L.length : Nat)) := by
   obtain ⟨kp, g2, gk, go⟩ := bh6
   rw [go.cell, UD (Cb _ _) g2]
  have e1 : (8 : Int) * (L.length : Int) = ((8 * L.length : Nat) : Int) := by omega
  have e2 : (56 - 8 * (j : Int)).toNat = 56 - 8 * j := by omega
  have b64 : IntKind.u64.bits = 64 := rfl
  have m1 : min (56 - 8 * j) IntKind.u64.bits = 56 - 8 * j := by rw [b64]; omega
  have e3 := O1 (8 * L.length) (56 - 8 * j)
  have e4 : IntKind.u8.wrap ((8 * L.length / 2 ^ (56 - 8 * j) : Nat) : Int) = ((8 * L.length / 2 ^ (56 - 8 * j) % 256 : Nat) : Int) := by
   generalize 8 * L.length / 2 ^ (56 - 8 * j) = y
   rw [show IntKind.u8.wrap (y : Int) = (y : Int) % 256 from rfl]; omega
  have e5 : 56 - 8 * (j : Int) - 8 = 56 - 8 * ((j + 1 : Nat) : Int) := by omega
  have hBl : (B ++ XJ (8 * L.length) j).length = L.length + 1 + k + j := by rw [acT, hlk, T7]
  simp (disch := omega) only [eY, gN, dX, stepR_skip, fO, fW, fN, fZ, fX, fY, gQ, gG, eT, fT, fS, gE, fR, fL, fV, fQ, fU, gB, gC, fP, fC, gI, gA, fK, iR, iO, iP, iU, iM, iS, iQ, iT, iN, eP, Result.ok.injEq, Next.value.injEq, true_and, and_true, fI, fJ, gH, fM, gD, gR, acM, fE, fF, fG, fD, eZ, eU, fB, eX, eQ, eH, if_true, if_false, acK, acQ, acL, acN, acP, acO, acJ, acI, eA, dV, aB, dM, dO, cB, eB, eS, eE, dK, eF, fA, dJ, eJ, bP, dS, bE, dN, aL, aH, eL, aX, cI, eM, aE, eN, dE, aR, bF, eD, bB, bC, bJ, aO, aI, cF, fH, dY, cJ, cC, dA, cH, dT, bD, eK, bT, dF, bR, aT, bV, aC, bY, bQ, cA, bX, aY, aU, bA, bU, dL, cP, bO, aV, aJ, aM, bG, aF, dC, dW, aK, aN, aZ, aG, cY, aD, cL, bW, bH, aP, cM, bZ, aA, dD, cO, cU, cG, dI, cD, dG, dU, cQ, eC, eI, bN, aS, dZ, bS, aQ, bL, dH, cZ, cV, cN, cS, bK, bM, cX, dR, cR, dQ, dB, d1, c73, e1, e2, m1, e3, e4, e5]
  refine PL (x := 8 * L.length / 2 ^ (56 - 8 * j) % 256) (afX _ (by decide)) hg6 hb0 (by rw [hBl]; omega) (by omega) h6 fun w7 h7 x7 => ?_
  refine ⟨8 - (j + 1), by omega, j + 1, rfl, by omega, rfl, ?_, x6.seq x7⟩
  rw [V4, <- adM]
  exact h7
 have d1 : decide ((0 : Int) <= 56 - 8 * (j : Int)) = false := by simp; omega
 obtain rfl : j = 8 := by omega
 simp (disch := omega) only [eY, gN, dX, stepR_skip, fO, fW, fN, fZ, fX, fY, gQ, gG, eT, fT, fS, gE, fR, fL, fV, fQ, fU, gB, gC, fP, fC, gI, gA, fK, iR, iO, iP, iU, iM, iS, iQ, iT, iN, eP, Result.ok.injEq, Next.value.injEq, true_and, and_true, fI, fJ, gH, fM, gD, gR, acM, fE, fF, fG, fD, eZ, eU, fB, eX, eQ, eH, if_true, if_false, acK, acQ, acL, acN, acP, acO, acJ, acI, eA, dV, aB, dM, dO, cB, eB, eS, eE, dK, eF, fA, dJ, eJ, bP, dS, bE, dN, aL, aH, eL, aX, cI, eM, aE, eN, dE, aR, bF, eD, bB, bC, bJ, aO, aI, cF, fH, dY, cJ, cC, dA, cH, dT, bD, eK, bT, dF, bR, aT, bV, aC, bY, bQ, cA, bX, aY, aU, bA, bU, dL, cP, bO, aV, aJ, aM, bG, aF, dC, dW, aK, aN, aZ, aG, cY, aD, cL, bW, bH, aP, cM, bZ, aA, dD, cO, cU, cG, dI, cD, dG, dU, cQ, eC, eI, bN, aS, dZ, bS, aQ, bL, dH, cZ, cV, cN, cS, bK, bM, cX, dR, cR, dQ, dB, d1]
 have hpad : B ++ XJ (8 * L.length) 8 = Vb L := by rw [hB, hz] <;> rfl
 rw [hpad] at h6
 have hpl : (Vb L).length % 64 = 0 := by
  rw [<- hpad, acT, hlk, T7]
  have := (Y9 L.length k (by omega)).2 hz
  omega
 obtain ⟨st, hst⟩ : ∃ st, st = JI ((Vb L).length / 64) (Vb L) := ⟨_, rfl⟩
 have hstl : st.length = 8 := by rw [hst]; exact Cb _ _
 have hst32 : Dg st := by rw [hst]; exact Rv _ _
 have hsha : Sv L = Qa st 32 := by rw [hst] <;> rfl
 obtain ⟨kp, g2, gk, go⟩ := h6
 rw [<- hst] at go
 clear d1 hlt hj hpad gk bh6 hg6
 unfold Cz Cy
 refine GU fun w7 o7 x7 s7 => ?_
 have o7 : jI w7 w6.heap.size (List.replicate 32 (.int .u8 0)) := o7
 obtain ⟨u, hu⟩ : ∃ u, u = w6.heap.size := ⟨_, rfl⟩
 rw [<- hu] at o7 ⊢
 have q7 := go.ext x7 (fun h => h)
 have r7 := r6.ext x7 (fun h => h)
 have x07 := x06.seq x7
 have hql := go.lt
 have hpl2 := r6.lt
 clear x6 x06 go r6 x7
 unfold CA CC CD CB CH
 refine kJ.rule (fun m (t : ahB) w' => ∃ (i : Nat), m = 32 - i /\ i <= 32 /\ t = .int .i64 (i : Nat) /\ jI w' u ((Qa st i).map pG ++ List.replicate (32 - i) (.int .u8 0)) /\ gV w7 w' (fun y => y = u)) 32 ⟨0, rfl, by omega, rfl, o7, gV.refl _ _⟩ ?_
 clear o7
 rintro m t w8 ⟨i, rfl, hi, rfl, o8, x8⟩
 unfold xN
 have q8 := q7.ext x8 (show ¬ q = u by omega)
 by_cases hlt : i < 32
 .have d1 : decide ((i : Int) < 32) = true := by simp; omega
  have e1 : (i : Int).tdiv 4 = ((i / 4 : Nat) : Int) := by rw [Int.tdiv_eq_ediv_of_nonneg (by omega)]; omega
  have e2 : (i : Int).tmod 4 = ((i % 4 : Nat) : Int) := by rw [Int.tmod_eq_emod_of_nonneg (by omega)]; omega
  have e3 : (24 : Int) - ((i % 4 : Nat) : Int) * 8 = ((24 - i % 4 * 8 : Nat) : Int) := by omega
  have c8 := q8.cell (off := i / 4)
  rw [ZS _ (by omega)] at c8
  have b32 : IntKind.u32.bits = 32 := rfl
  have m1 : min (24 - i % 4 * 8) IntKind.u32.bits = 24 - i % 4 * 8 := by rw [b32]; omega
  have e4 := O1 (st.getD (i / 4) 0) (24 - i % 4 * 8)
  obtain ⟨y, hy⟩ : ∃ y, y = UInt8.ofNat (st.getD (i / 4) 0 / 2 ^ (24 - i % 4 * 8) % 256) := ⟨_, rfl⟩
  have e5 : IntKind.u8.wrap ((st.getD (i / 4) 0 / 2 ^ (24 - i % 4 * 8) : Nat) : Int) = ((y.toNat : Nat) : Int) := by
   rw [hy, afR]
   generalize st.getD (i / 4) 0 / 2 ^ (24 - i % 4 * 8) = z
   rw [show IntKind.u8.wrap (z : Int) = (z : Int) % 256 from rfl]; omega
  simp (disch := omega) only [eY, gN, dX, stepR_skip, fO, fW, fN, fZ, fX, fY, gQ, gG, eT, fT, fS, gE, fR, fL, fV, fQ, fU, gB, gC, fP, fC, gI, gA, fK, iR, iO, iP, iU, iM, iS, iQ, iT, iN, eP, Result.ok.injEq, Next.value.injEq, true_and, and_true, fI, fJ, gH, fM, gD, gR, acM, fE, fF, fG, fD, eZ, eU, fB, eX, eQ, eH, if_true, if_false, acK, acQ, acL, acN, acP, acO, acJ, acI, eA, dV, aB, dM, dO, cB, eB, eS, eE, dK, eF, fA, dJ, eJ, bP, dS, bE, dN, aL, aH, eL, aX, cI, eM, aE, eN, dE, aR, bF, eD, bB, bC, bJ, aO, aI, cF, fH, dY, cJ, cC, dA, cH, dT, bD, eK, bT, dF, bR, aT, bV, aC, bY, bQ, cA, bX, aY, aU, bA, bU, dL, cP, bO, aV, aJ, aM, bG, aF, dC, dW, aK, aN, aZ, aG, cY, aD, cL, bW, bH, aP, cM, bZ, aA, dD, cO, cU, cG, dI, cD, dG, dU, cQ, eC, eI, bN, aS, dZ, bS, aQ, bL, dH, cZ, cV, cN, cS, bK, bM, cX, dR, cR, dQ, dB, d1, e1, e2, e3, c8, m1, e4, e5]
  refine WH o8 rfl (by rw [acT, acR, LY, adI]; omega) fun w9 o9 x9 s9 => ?_
  refine ⟨32 - (i + 1), by omega, i + 1, rfl, by omega, rfl, ?_, x8.seq x9⟩
  have e6 : ((Qa st i).map pG ++ List.replicate (32 - i) (Value.int .u8 0)).set i (.int .u8 (y.toNat : Nat)) = (Qa st (i + 1)).map pG ++ List.replicate (32 - (i + 1)) (.int .u8 0) := by
   rw [aeU _ _ (by rw [acR, LY]; omega), acR, LY, agV, show 32 - i = (32 - (i + 1)) + 1 from by omega, List.replicate_succ, adA, Vp, <- hy, aeI, adM]
   rfl
  rw [e6] at o9
  exact o9
 have d1 : decide ((i : Int) < 32) = false := by simp; omega
 obtain rfl : i = 32 := by omega
 simp (disch := omega) only [eY, gN, dX, stepR_skip, fO, fW, fN, fZ, fX, fY, gQ, gG, eT, fT, fS, gE, fR, fL, fV, fQ, fU, gB, gC, fP, fC, gI, gA, fK, iR, iO, iP, iU, iM, iS, iQ, iT, iN, eP, Result.ok.injEq, Next.value.injEq, true_and, and_true, fI, fJ, gH, fM, gD, gR, acM, fE, fF, fG, fD, eZ, eU, fB, eX, eQ, eH, if_true, if_false, acK, acQ, acL, acN, acP, acO, acJ, acI, eA, dV, aB, dM, dO, cB, eB, eS, eE, dK, eF, fA, dJ, eJ, bP, dS, bE, dN, aL, aH, eL, aX, cI, eM, aE, eN, dE, aR, bF, eD, bB, bC, bJ, aO, aI, cF, fH, dY, cJ, cC, dA, cH, dT, bD, eK, bT, dF, bR, aT, bV, aC, bY, bQ, cA, bX, aY, aU, bA, bU, dL, cP, bO, aV, aJ, aM, bG, aF, dC, dW, aK, aN, aZ, aG, cY, aD, cL, bW, bH, aP, cM, bZ, aA, dD, cO, cU, cG, dI, cD, dG, dU, cQ, eC, eI, bN, aS, dZ, bS, aQ, bL, dH, cZ, cV, cN, cS, bK, bM, cX, dR, cR, dQ, dB, d1]
 rw [<- hsha, agV, List.replicate_zero, aeJ] at o8
 have hl32 : ((Sv L).map pG).length = 32 := by rw [acR, Aw]
 unfold xM
 have lo := R7 (off := 0) o8 (by omega)
 rw [aeZ, acX (by omega)] at lo
 have r8 := r7.ext x8 (show ¬ p = u by omega)
 simp (disch := omega) only [eY, gN, dX, stepR_skip, fO, fW, fN, fZ, fX, fY, gQ, gG, eT, fT, fS, gE, fR, fL, fV, fQ, fU, gB, gC, fP, fC, gI, gA, fK, iR, iO, iP, iU, iM, iS, iQ, iT, iN, eP, Result.ok.injEq, Next.value.injEq, true_and, and_true, fI, fJ, gH, fM, gD, gR, acM, fE, fF, fG, fD, eZ, eU, fB, eX, eQ, eH, if_true, if_false, acK, acQ, acL, acN, acP, acO, acJ, acI, eA, dV, aB, dM, dO, cB, eB, eS, eE, dK, eF, fA, dJ, eJ, bP, dS, bE, dN, aL, aH, eL, aX, cI, eM, aE, eN, dE, aR, bF, eD, bB, bC, bJ, aO, aI, cF, fH, dY, cJ, cC, dA, cH, dT, bD, eK, bT, dF, bR, aT, bV, aC, bY, bQ, cA, bX, aY, aU, bA, bU, dL, cP, bO, aV, aJ, aM, bG, aF, dC, dW, aK, aN, aZ, aG, cY, aD, cL, bW, bH, aP, cM, bZ, aA, dD, cO, cU, cG, dI, cD, dG, dU, cQ, eC, eI, bN, aS, dZ, bS, aQ, bL, dH, cZ, cV, cN, cS, bK, bM, cX, dR, cR, dQ, dB, lo]
 refine JH r8 (by rw [afI, hl32]) (fun y hy => Fq _ y (by simpa using hy)) (by simp) fun w9 o9 x9 s9 => ?_
 rw [aeC, Hf _ _ (by rw [hl32]; simp)] at o9
 refine JK o9 (by omega) ?_
 rw [aeZ, acX (by omega), hRR]
 exact ⟨rfl, (x07.trans x8 fun y hy h => by omega).trans x9 fun y hy h => by omega⟩
theorem Yr {l : List UInt8} {v : ahB} {w : ahA} (hg : qK w) (hv : Bs w v l) (hl : l.length <= 1000000000) :
 gT pg JD #[v] w (fun r w' => r = .agg ((Sv l).map pG).toArray /\ gV w w' jN) := by
 refine SH ?_
 unfold Wx NG
 refine GU fun w1 o1 x1 s1 => ?_
 have o1 : jI w1 w.heap.size (List.replicate 32 (.int .u8 0)) := o1
 obtain ⟨hg0, hg1⟩ := hg.lt
 refine (XC w1).mono ?_
 rintro r w2 ⟨rfl, h2, x2, s2⟩
 have hv2 := hv.ext (x1.seq x2) (jG _)
 have hnb : ¬ vO v (fun y => y = w1.heap.size) := fun h => hv.old (vG h fun b hb => by omega)
 refine (Pz (L := []) (l := l) (hg.ext (x1.seq x2)) ⟨by omega, by omega⟩ (by simp; omega) (by omega) h2 hv2 hnb).mono ?_
 rintro r w3 ⟨rfl, h3, x3⟩
 rw [adJ, acQ] at h3
 have x03 : gV w w3 jN := (x1.seq x2).trans x3 fun y hy h => by omega
 refine (Wz (hg.ext x03) hl h3).mono ?_
 rintro r w4 ⟨rfl, x4⟩
 have hl32 : ((Sv l).map pG).length = 32 := by rw [acR, Aw]
 have r4 := ((o1.ext x2 (fun h => h)).ext x3 (by omega)).ext x4 (fun h => h)
 refine JH r4 (by rw [afI, hl32]) (fun y hy => Fq _ y (by simpa using hy)) (by simp) fun w5 o5 x5 s5 => ?_
 rw [aeC, Hf _ _ (by rw [hl32]; simp)] at o5
 refine JK o5 (by omega) ?_
 rw [aeZ, acX (by omega)]
 exact ⟨rfl, (x03.seq x4).trans x5 fun y hy h => by omega⟩
end Go.Proofs.YteelnmpbnaohpaaDoor
namespace Go.Pu
section
variable {κ β : Type} [DecidableEq κ]
def jC (k : κ) : List (κ × β) -> Option β
 | [] => none
 | p :: r => if k = p.1 then some p.2 else jC k r
def nB (k : κ) (v : β) : List (κ × β) -> List (κ × β)
 | [] => [(k, v)]
 | p :: r => if k = p.1 then (k, v) :: r else p :: nB k v r
def zB (k : κ) : List (κ × β) -> List (κ × β)
 | [] => []
 | p :: r => if k = p.1 then r else p :: zB k r
theorem PM (k j : κ) (v : β) : ∀ l : List (κ × β), jC j (nB k v l) = if j = k then some v else jC j l := by
 intro l
 induction l with
 | nil => simp only [nB, jC]
 | cons p r ih =>
   simp only [nB]
   by_cases h : k = p.1
   .rw [if_pos h]
    simp only [jC]
    by_cases hj : j = k
    .rw [if_pos hj, if_pos hj]
    .rw [if_neg hj, if_neg hj, if_neg (fun e => hj (e.trans h.symm))]
   .rw [if_neg h]
    simp only [jC, ih]
    by_cases hj : j = p.1
    .rw [if_pos hj, if_pos hj, if_neg (fun e => h (e.symm.trans hj))]
    .rw [if_neg hj, if_neg hj]
theorem QQ {k : κ} : ∀ {l : List (κ × β)}, k ∉ l.map (·.1) -> jC k l = none
 | [], _ => rfl
 | p :: r, h => by
   rw [acZ, adX, not_or] at h
   rw [jC, if_neg h.1, QQ h.2]
theorem OU {k j : κ} : ∀ {l : List (κ × β)}, (l.map (·.1)).Nodup -> jC j (zB k l) = if j = k then none else jC j l
 | [], _ => by simp [zB, jC]
 | p :: r, h => by
   rw [acZ, afG] at h
   simp only [zB]
   by_cases hk : k = p.1
   .rw [if_pos hk]
    simp only [jC]
    by_cases hj : j = k
    .rw [if_pos hj, hj, hk, QQ h.1]
    .rw [if_neg hj, if_neg (fun e => hj (e.trans hk.symm))]
   .rw [if_neg hk]
    simp only [jC, OU h.2]
    by_cases hj : j = p.1
    .rw [if_pos hj, if_pos hj, if_neg (fun e => hk (e.symm.trans hj))]
    .rw [if_neg hj, if_neg hj]
theorem QD {k : κ} {v : β} {x : κ} : ∀ {l : List (κ × β)}, x ∈ (nB k v l).map (·.1) -> x = k ∨ x ∈ l.map (·.1)
 | [], h => by simp [nB] at h; exact .inl h
 | p :: r, h => by
   simp only [nB] at h
   split at h
   .rename_i e
    rw [acZ, adX] at h
    rcases h with h | h
    .exact .inl h
    .exact .inr (by rw [acZ]; exact adC _ h)
   .rw [acZ, adX] at h
    rcases h with h | h
    .exact .inr (by rw [acZ, h]; exact aeO)
    .rcases QD h with h | h
     .exact .inl h
     .exact .inr (by rw [acZ]; exact adC _ h)
theorem sC {k : κ} {v : β} : ∀ {l : List (κ × β)}, (l.map (·.1)).Nodup -> ((nB k v l).map (·.1)).Nodup
 | [], _ => by simp [nB]
 | p :: r, h => by
   rw [acZ, afG] at h
   simp only [nB]
   split
   .rename_i e
    rw [acZ, afG]
    exact ⟨fun hm => h.1 (e ▸ hm), h.2⟩
   .rename_i e
    rw [acZ, afG]
    refine ⟨fun hm => ?_, sC h.2⟩
    rcases QD hm with h1 | h1
    .exact e h1.symm
    .exact h.1 h1
theorem Sz {k : κ} : ∀ l : List (κ × β), (zB k l).Sublist l
 | [] => List.Sublist.slnil
 | p :: r => by
   simp only [zB]
   split
   .exact List.sublist_cons_self _ _
   .exact (Sz r).cons_cons _
theorem TC {k : κ} {l : List (κ × β)} (h : (l.map (·.1)).Nodup) : ((zB k l).map (·.1)).Nodup := h.sublist ((Sz l).map _)
end
abbrev oR := List (ByteArray × List UInt8)
def iJ (c : oR) : Nat := (c.map fun p => p.2.length).sum
theorem nR (k : ByteArray) (b : List UInt8) : ∀ c : oR, iJ (nB k b c) + ((jC k c).getD []).length = iJ c + b.length
 | [] => by simp [nB, jC, iJ]
 | p :: r => by
   have ih := nR k b r
   simp only [nB, jC]
   split
   .simp [iJ]; omega
   .unfold iJ at *
    rw [acZ, acZ, agC, agC]; omega
theorem Di (k : ByteArray) : ∀ c : oR, iJ (zB k c) + ((jC k c).getD []).length = iJ c
 | [] => by simp [zB, jC, iJ]
 | p :: r => by
   have ih := Di k r
   simp only [zB, jC]
   split
   .simp [iJ]; omega
   .unfold iJ at *
    rw [acZ, acZ, agC, agC]; omega
theorem SY {c : oR} {j : Nat} (h : j < c.length) : iJ (c.eraseIdx j) + c[j].2.length = iJ c := by
 induction c generalizing j with
 | nil => simp at h
 | cons p r ih =>
   cases j with
   | zero => simp [iJ]; omega
   | succ j =>
     have := ih (j := j) (by simpa using h)
     unfold iJ at *
     rw [aeQ, acZ, acZ, agC, agC, List.getElem_cons_succ]; omega
theorem BJ {k : ByteArray} {c : oR} : ((jC k c).getD []).length <= iJ c := by have := Di k c; omega
structure NT where
 kind : Nat
 name : ByteArray
 other : ByteArray
 at' : Nat
 bytes : List UInt8
def over (old : List UInt8) (a : Nat) (b : List UInt8) : List UInt8 := (old ++ List.replicate (max old.length (a + b.length) - old.length) 0).take a ++ b ++ (old ++ List.replicate (max old.length (a + b.length) - old.length) 0).drop (a + b.length)
theorem B2 (old : List UInt8) (a : Nat) (b : List UInt8) : (over old a b).length = max old.length (a + b.length) := by
 unfold over
 simp only [acT, adE, adB, adI]; omega
def CV (o : NT) (c : oR) : oR :=
 if o.kind = 0 then nB o.name (over ((jC o.name c).getD []) o.at' o.bytes) c
 else if o.kind = 1 then match jC o.name c with
  | none => c
  | some old => nB o.other old (zB o.name c)
 else if o.kind = 2 then zB o.name c else c
def FT : List UInt8 -> Nat
 | [] => 0
 | c :: l => c.toNat + 256 * FT l
theorem HG : ∀ l : List UInt8, FT l < 256 ^ l.length
 | [] => by simp [FT]
 | c :: l => by
   have := HG l
   have hc := c.toNat_lt
   rw [FT, adP, Nat.pow_succ]; omega
theorem Qs (c : UInt8) : ∀ l : List UInt8, FT (l ++ [c]) = FT l + 256 ^ l.length * c.toNat
 | [] => by simp [FT]
 | d :: l => by
   rw [afY, FT, Qs c l, FT, adP, Nat.pow_succ, agE, afN, Nat.mul_comm (256 ^ l.length) 256, Nat.mul_assoc]
theorem Tb (i : Nat) : 256 ^ i = 2 ^ (8 * i) := by rw [Nat.pow_mul]
theorem Yp (l : List UInt8) (c : UInt8) : FT l ||| (c.toNat * 2 ^ (8 * l.length)) = FT (l ++ [c]) := by
 have := HG l
 rw [Tb] at this
 rw [Y4 this, Qs, Tb]
def BD (x : Nat) : Nat -> List UInt8
 | 0 => []
 | n + 1 => UInt8.ofNat (x % 256) :: BD (x / 256) n
theorem lQ : ∀ (n x : Nat), (BD x n).length = n
 | 0, _ => rfl
 | n + 1, x => by rw [BD, adP, lQ n]
theorem Nk : ∀ (n x : Nat), FT (BD x n) = x % 256 ^ n
 | 0, x => by simp [BD, FT, Nat.mod_one]
 | n + 1, x => by
   rw [BD, FT, Nk n, Nat.pow_succ, Nat.mul_comm (256 ^ n) 256, Nat.mod_mul]
   have : (UInt8.ofNat (x % 256)).toNat = x % 256 := by
    rw [afR]; omega
   rw [this]
theorem Qv : ∀ (n x : Nat), BD x (n + 1) = BD x n ++ [UInt8.ofNat (x / 256 ^ n % 256)]
 | 0, x => by simp [BD]
 | n + 1, x => by
   rw [BD, Qv n (x / 256), BD, afY, Nat.div_div_eq_div_mul, Nat.pow_succ, Nat.mul_comm (256 ^ n) 256]
section
variable (cf : List UInt8 -> Nat)
def LC (k v : Nat) : List UInt8 := BD k 1 ++ BD v 8
def rT (k v : Nat) : List UInt8 := LC k v ++ BD (cf (LC k v)) 4
theorem nJ (k v : Nat) : (rT cf k v).length = 13 := by
 unfold rT LC
 rw [acT, acT, lQ, lQ, lQ]
def XK (p : List UInt8) : Nat := FT (p.take 1)
def Wb (p : List UInt8) : Nat := if p.length < 9 then 0 else FT ((p.drop 1).take 8)
def KX (p : List UInt8) : Bool := (XK p == 1 || XK p == 2) && rT cf (XK p) (Wb p) == p
def IL : Nat -> List UInt8 -> List (Nat × Nat)
 | 0, _ => []
 | n + 1, b => if b = [] then [] else if KX cf (b.take 13) then (XK (b.take 13), Wb (b.take 13)) :: IL n (b.drop 13) else []
def mZ (b : List UInt8) : List (Nat × Nat) := IL cf b.length b
def mS (l : List (Nat × Nat)) : List UInt8 := (l.map fun r => rT cf r.1 r.2).flatten
theorem lM : ∀ l : List (Nat × Nat), (mS cf l).length = 13 * l.length
 | [] => rfl
 | r :: l => by
   have := lM l
   unfold mS at *
   rw [acZ, List.flatten_cons, acT, nJ, this, adP]; omega
theorem Nf {p : List UInt8} (h : KX cf p = true) : p.length = 13 := by
 unfold KX at h
 simp only [acV, beq_iff_eq] at h
 rw [<- h.2, nJ]
theorem SK {k : Nat} (v : Nat) (hk : k < 256) : XK (rT cf k v) = k := by
 have e : (rT cf k v).take 1 = BD k 1 := by
  unfold rT LC
  rw [adM, adL (by rw [lQ]; omega), acX (by rw [lQ]; omega)]
 unfold XK
 rw [e, Nk]; omega
theorem R3 (k : Nat) {v : Nat} (hv : v < 2 ^ 64) : Wb (rT cf k v) = v := by
 have e : ((rT cf k v).drop 1).take 8 = BD v 8 := by
  unfold rT LC
  rw [adM, adS (by rw [lQ]; omega), afB (by rw [lQ]; omega), adJ,
    adL (by rw [lQ]; omega), acX (by rw [lQ]; omega)]
 unfold Wb
 rw [if_neg (by rw [nJ]; omega), e, Nk]
 exact aeY (by omega)
def S6 (r : Nat × Nat) : Prop := (r.1 = 1 ∨ r.1 = 2) /\ r.2 < 2 ^ 64
theorem Tg {k v : Nat} (h : S6 (k, v)) : KX cf (rT cf k v) = true := by
 obtain ⟨hk, hv⟩ := h
 have hk : k = 1 ∨ k = 2 := hk
 unfold KX
 rw [SK cf v (by omega), R3 cf k hv]
 simp; omega
theorem RB : ∀ (n : Nat) (b : List UInt8), ∀ r ∈ IL cf n b, S6 r
 | 0, b, r, h => by simp [IL] at h
 | n + 1, b, r, h => by
   rw [IL] at h
   split at h
   .simp at h
   .split at h
    .rename_i hg
     rcases adX.1 h with rfl | h
     .have hl := Nf cf hg
      unfold KX at hg
      simp only [acV, aeH, beq_iff_eq] at hg
      refine ⟨hg.1, ?_⟩
      show Wb _ < _
      unfold Wb
      split
      .omega
      .have := HG (((b.take 13).drop 1).take 8)
       refine afK this ?_
       rw [show (2 : Nat) ^ 64 = 256 ^ 8 from by decide]
       exact agZ (by omega) (by rw [adE]; omega)
     .exact RB n _ r h
    .simp at h
theorem Ps : ∀ (n : Nat) (b : List UInt8), 13 * (IL cf n b).length <= b.length
 | 0, b => by simp [IL]
 | n + 1, b => by
   rw [IL]
   split
   .simp
   .split
    .rename_i hg
     have := Ps n (b.drop 13)
     have hl := Nf cf hg
     rw [adE] at hl
     rw [adB] at this
     rw [adP]; omega
    .simp
theorem QI : ∀ (l : List (Nat × Nat)) (n : Nat), (∀ r ∈ l, S6 r) -> 13 * l.length <= n -> IL cf n (mS cf l) = l
 | [], n, _, _ => by cases n <;> simp [IL, mS]
 | r :: l, 0, _, h => by simp at h
 | r :: l, n + 1, hl, h => by
   have e : mS cf (r :: l) = rT cf r.1 r.2 ++ mS cf l := rfl
   have h13 := nJ cf r.1 r.2
   have h1 : (mS cf (r :: l)).take 13 = rT cf r.1 r.2 := by rw [e, adL (by omega), acX (by omega)]
   have h2 : (mS cf (r :: l)).drop 13 = mS cf l := by rw [e, adS (by omega), afB (by omega), adJ]
   have hne : mS cf (r :: l) ≠ [] := fun h => by have := congrArg List.length h; rw [lM] at this; simp at this
   have ho : S6 r := hl r aeO
   rw [adP] at h
   rw [IL, if_neg hne, h1, h2, Tg cf ho, if_pos rfl, SK cf _ (by have := ho.1; omega), R3 cf _ ho.2, QI l n (fun r hr => hl r (adC _ hr)) (by omega)]
theorem U5 {l : List (Nat × Nat)} (hl : ∀ r ∈ l, S6 r) : mZ cf (mS cf l) = l := QI cf l _ hl (by rw [lM]; omega)
theorem PD (l : List (Nat × Nat)) (r : Nat × Nat) : mS cf (l ++ [r]) = mS cf l ++ rT cf r.1 r.2 := by
 unfold mS
 rw [aeI, List.flatten_append]
 simp
end
def jY (k : Nat) : List (Nat × Nat) -> Nat
 | [] => 0
 | r :: l => if r.1 = k then max r.2 (jY k l) else jY k l
theorem Hr (k : Nat) (r : Nat × Nat) : ∀ l, jY k (l ++ [r]) = if r.1 = k then max r.2 (jY k l) else jY k l
 | [] => rfl
 | s :: l => by
   rw [afY, jY, Hr k r l, jY]
   split <;> split <;> omega
theorem RS {k : Nat} : ∀ {l : List (Nat × Nat)}, (∀ r ∈ l, S6 r) -> jY k l < 2 ^ 64
 | [], _ => by unfold jY; omega
 | r :: l, h => by
   have h1 := RS (k := k) (l := l) fun r hr => h r (adC _ hr)
   have h2 := (h r aeO).2
   rw [jY]
   split <;> omega
def mA (L k : Nat) : Nat := if 0 < L % k then L / k + 1 else L / k
theorem Av {L k i : Nat} (hk : 0 < k) : i < mA L k ↔ k * i < L := by
 unfold mA
 have h1 := Nat.div_add_mod L k
 have h2 := afX L hk
 generalize L / k = q at *
 generalize L % k = r at *
 split
 .constructor
  .intro h
   have : k * i <= k * q := afJ _ (by omega)
   omega
  .intro h
   by_cases h3 : i < q + 1
   .exact h3
   .have : k * (q + 1) <= k * i := afJ _ (by omega)
    rw [agE] at this; omega
 .constructor
  .intro h
   have : k * (i + 1) <= k * q := afJ _ (by omega)
   rw [agE] at this; omega
  .intro h
   by_cases h3 : i < q
   .exact h3
   .have : k * q <= k * i := afJ _ (by omega)
    omega
theorem Hk {L k : Nat} (hk : 0 < k) : mA L k <= L := by
 by_cases h : mA L k = 0
 .omega
 .have := (Av (i := mA L k - 1) (L := L) hk).1 (by omega)
  have h2 : 1 * (mA L k - 1) <= k * (mA L k - 1) := Nat.mul_le_mul_right _ hk
  omega
def Kq (L k i : Nat) : Nat := min (L - k * i) k
def nW (L k i : Nat) (b : List UInt8) : List UInt8 := (b.drop (k * i)).take (Kq L k i)
theorem OP {L k i j : Nat} {b : List UInt8} : (nW L k i b)[j]? = if j < Kq L k i then b[k * i + j]? else none := by
 unfold nW
 rw [List.getElem?_take]
 split
 .rw [afQ]
 .rfl
theorem BF {L k i : Nat} {b : List UInt8} (h : b.length = L) : (nW L k i b).length = Kq L k i := by
 unfold nW Kq
 rw [adE, adB]; omega
theorem Zc {L k i : Nat} {b f : List UInt8} (h : ∀ j, j < Kq L k i -> b[k * i + j]? = f[k * i + j]?) : nW L k i b = nW L k i f := by
 apply afS
 intro j
 rw [OP, OP]
 split
 .exact h j (by assumption)
 .rfl
theorem XX {L k i j : Nat} {b f : List UInt8} (h : nW L k i b = nW L k i f) (hj : j < Kq L k i) : b[k * i + j]? = f[k * i + j]? := by
 have := congrArg (fun l => l[j]?) h
 simp only [OP, if_pos hj] at this
 exact this
theorem QB {L k : Nat} {b f : List UInt8} (hk : 0 < k) (hb : b.length = L) (hf : f.length = L) (h : ∀ i, i < mA L k -> nW L k i b = nW L k i f) : b = f := by
 apply afS
 intro j
 by_cases hj : j < L
 .have h1 := Nat.div_add_mod j k
  have h2 := afX j hk
  have h3 := XX (h (j / k) ((Av hk).2 (by omega))) (j := j % k) (by unfold Kq; omega)
  rw [h1] at h3
  exact h3
 .rw [adZ (by omega), adZ (by omega)]
theorem X7 {old b : List UInt8} {a : Nat} (h : a + b.length <= old.length) : over old a b = old.take a ++ b ++ old.drop (a + b.length) := by
 unfold over
 rw [show max old.length (a + b.length) - old.length = 0 from by omega, List.replicate_zero, aeJ]
theorem RO {old b : List UInt8} {a j : Nat} (h : a + b.length <= old.length) : (over old a b)[j]? = if a <= j /\ j < a + b.length then b[j - a]? else old[j]? := by
 rw [X7 h]
 by_cases h1 : j < a
 .rw [if_neg (by omega), adM, adU (by rw [adE]; omega), aeW h1]
 .by_cases h2 : j < a + b.length
  .rw [if_pos ⟨by omega, h2⟩, adM, aeF (by rw [adE]; omega), adE, adW (by omega), adU (by omega)]
  .rw [if_neg (by omega), aeF (by rw [acT, adE]; omega), acT, adE, adW (by omega), afQ]
   congr 1; omega
theorem Db {L k i : Nat} (h : k * i < L) : k * i + Kq L k i <= L := by unfold Kq; omega
theorem KW {L k i : Nat} {P f : List UInt8} (hP : P.length = L) (hf : f.length = L) (hi : k * i < L) : nW L k i (over P (k * i) (nW L k i f)) = nW L k i f := by
 have hl := BF (k := k) (i := i) hf
 have he := Db hi
 apply afS
 intro j
 rw [OP]
 by_cases h : j < Kq L k i
 .rw [if_pos h, RO (by omega), if_pos (by omega), show k * i + j - k * i = j from by omega]
 .rw [if_neg h, adZ (by omega)]
theorem Jx {L k i i' : Nat} {P f : List UInt8} (hP : P.length = L) (hf : f.length = L) (hi : k * i < L) (hne : i' ≠ i) : nW L k i' (over P (k * i) (nW L k i f)) = nW L k i' P := by
 have hl := BF (k := k) (i := i) hf
 have he := Db hi
 apply Zc
 intro j hj
 rw [RO (by omega), if_neg]
 intro h
 have hs : j < k := by unfold Kq at hj; omega
 have hs2 : Kq L k i <= k := by unfold Kq; omega
 rcases Nat.lt_or_gt_of_ne hne with h1 | h1
 .have : k * (i' + 1) <= k * i := afJ _ h1
  rw [agE] at this; omega
 .have : k * (i + 1) <= k * i' := afJ _ h1
  rw [agE] at this; omega
theorem Xr (n : Nat) : over [] 0 (List.replicate n 0) = List.replicate n 0 := by
 unfold over
 simp
theorem Pf {old b : List UInt8} : over old old.length b = old ++ b := by
 unfold over
 rw [show max old.length (old.length + b.length) - old.length = b.length from by omega, adL (acY _), acX (acY _), afB (by rw [acT, adI]; omega), aeJ]
end Go.Pu
namespace Go.En
open Go Go.ChangeShapes Go.WideShapes Go.ChangeAt Go.RowKit
theorem P2 {H : Type} {enc : TypeId × ahB -> H} {P : Program} (hl : laidOutB P = true) {W W' : ahA} (hb : Below W.heap.size W W') : ∀ (ts : List TypeId) (vs : List ahB) (ds : List (DataW H)) (ps : List MemPlace),
 (ts.all fun t => P.readableRec t && decide (t < P.types.size)) = true -> DataW.TrodAll enc P W 0 (fun _ => true) true ts vs ds ps -> (∀ x ∈ ps, x.block < W.heap.size) →
 DataW.TrodAll enc P W' 0 (fun b => decide (b < W.heap.size)) true ts vs ds ps := by
 intro ts
 induction ts with
 | nil =>
   intro vs ds ps _ h _
   cases vs <;> cases ds <;> simp [DataW.TrodAll] at h ⊢
   exact h
 | cons t ts ih =>
   intro vs ds ps hr h hlt
   cases vs with
   | nil => simp [DataW.TrodAll] at h
   | cons v vs =>
     cases ds with
     | nil => simp [DataW.TrodAll] at h
     | cons d ds =>
       obtain ⟨p, q, h1, h2, rfl⟩ := h
       rw [List.all_cons, acV, acV, decide_eq_true_eq] at hr
       exact ⟨p, q, Below.trod hl hr.1.1 hr.1.2 h1 hb (fun x hx => hlt x (afF _ hx)), ih _ _ _ hr.2 h2 (fun x hx => hlt x (afU _ hx)), rfl⟩
theorem Xa {H : Type} {enc : TypeId × ahB -> H} {P : Program} {f : Func} {s : ChangeSpec} {apart fresh handsOn : Bool} {tb : TypeId} {W W' : ahA} {args : Array ahB} {ds gs : List (DataW H)} {before : List MemPlace}
 (hl : laidOutB P = true) (hr : (f.params.toList.all fun t => P.readableRec t && decide (t < P.types.size)) = true) (hres : f.resultTypes = #[tb]) (hbool : P.underlying tb = some .bool)
 (hW : DataW.Whole enc P f.params.toList s.vars apart W args.toList ds gs before) (hvars : s.vars = []) (h1 : (s.fn H (ds ++ gs)).results = [.lit (.bool true)]) (h2 : (s.fn H (ds ++ gs)).args = ds) (h3 : (s.fn H (ds ++ gs)).vars = [])
 (hx : gV W W' jN) : s.post enc P f apart fresh handsOn false W args (.bool true) W' := by
 have hb := hx.below
 have hlt : ∀ x ∈ before, x.block < W.heap.size := fun x hx => hW.lt x hx
 have hW' := hW
 obtain ⟨p, q, hA, hV, rfl, _, _⟩ := hW
 rw [hvars] at hV
 obtain ⟨_, rfl⟩ := trodVars_none hV
 rw [aeJ] at hW' hlt
 refine ⟨ds, gs, p, [], p, [], hW', ?_, ?_, ?_, hb.frame _, fun h => by cases h⟩
 .rw [h1, hres]
  exact trodAll_cons_mk (shut_bool hbool _) trodAll_mk0
 .rw [h2]; exact P2 hl hb _ _ _ _ hr hA hlt
 .rw [h3, hvars] <;> rfl
theorem OM {H : Type} {enc : TypeId × ahB -> H} {P : Program} {W : ahA} {base b0 : Nat} {r : Reach} {sp : Nat -> Bool} {hd : Bool} {t e : TypeId} {k : IntKind} {v : ahB} {d : DataW H} {ps : List MemPlace} (ht : P.underlying t = some (.slice e)) (he : P.underlying e = some (.int k)) (hc : P.cellsOf e = 1)
 (hval : Value.okWide P W r b0 t v) (h : DataW.Trod enc P W base sp hd t v d ps) :
 ∃ zs : List Int, Sl W v (zs.map (Value.int k)) /\ zs.length <= 9223372036854775807 /\ ∀ z ∈ zs, (Lit.int k z).wf = true := by
 obtain ⟨a0, len, cap, rfl⟩ := okWide_slice ht hval
 obtain ⟨fuel, hf⟩ := h
 rcases open_ints ht he hc hf with ⟨hcs, -⟩ | ⟨a, len', cap', zs, hcs, _, hl, hm, hz, -, hcell, hwz⟩
 .have : Value.slice a0 len cap = .slice none 0 0 := by simpa [Value.cells] using hcs
  cases this
  exact ⟨[], ⟨none, 0, 0, rfl, rfl, acY _, fun h => absurd h (by simp)⟩, by simp, by simp⟩
 .have : Value.slice a0 len cap = .slice (some a) len' cap' := by simpa [Value.cells] using hcs
  cases this
  unfold maxLen at hm
  have hle : len <= zs.length := by rw [hz]; split <;> omega
  refine ⟨zs.take len, ⟨some a, len, cap, rfl, by rw [acR, adE]; omega, hl, fun h0 => ?_⟩, by rw [adE]; omega, fun z hz => hwz z (agU hz)⟩
  obtain ⟨b, off, spot⟩ := a
  have hs : spot = none := by
   have h0 := hcell 0 (by omega)
   unfold World.cell? at h0
   split at h0
   .cases spot
    .rfl
    .simp [Addr.add] at h0
   .cases h0
  subst hs
  refine ⟨b, off, rfl, fun i hi => ?_⟩
  rw [<- Bv, hcell i (by omega), adQ, aeW hi, acU, acS (by omega)]
  rfl
theorem My (zs : List Int) (h : ∀ z ∈ zs, (Lit.int .u8 z).wf = true) : ∃ l : List UInt8, zs.map (Value.int .u8) = l.map pG /\ l.length = zs.length := by
 refine ⟨zs.map fun z => UInt8.ofNat z.toNat, ?_, by simp⟩
 rw [List.map_map]
 refine aeL fun z hz => ?_
 have := h z hz
 have hx : 0 <= z /\ z <= 255 := by simpa [Lit.wf, IntKind.min, IntKind.max, IntKind.signed, IntKind.bits] using this
 show _ = pG (UInt8.ofNat z.toNat)
 unfold pG
 rw [afR]
 congr 1
 omega
theorem Wg {H : Type} {enc : TypeId × ahB -> H} {P : Program} {W : ahA} {base b0 : Nat} {r : Reach} {hd : Bool} {t e : TypeId} {v : ahB} {d : DataW H} {ps : List MemPlace} (ht : P.underlying t = some (.slice e)) (he : P.underlying e = some .bool) (hc : P.cellsOf e = 1)
 (hval : Value.okWide P W r b0 t v) (h : DataW.Trod enc P W base (fun _ => true) hd t v d ps) :
 ∃ zs : List Bool, Sl W v (zs.map Value.bool) /\ zs.length <= 9223372036854775807 := by
 obtain ⟨a0, len, cap, rfl⟩ := okWide_slice ht hval
 obtain ⟨fuel, hf⟩ := h
 rcases Go.Deep.open_bools ht he hc hf with ⟨hcs, -⟩ | ⟨a, len', cap', B, hcs, _, hl, hm, -, hcell⟩
 .have : Value.slice a0 len cap = .slice none 0 0 := by simpa [Value.cells] using hcs
  cases this
  exact ⟨[], ⟨none, 0, 0, rfl, rfl, acY _, fun h => absurd h (by simp)⟩, by simp⟩
 .have : Value.slice a0 len cap = .slice (some a) len' cap' := by simpa [Value.cells] using hcs
  cases this
  unfold maxLen at hm
  refine ⟨(List.range len).map B, ⟨some a, len, cap, rfl, by simp, hl, fun h0 => ?_⟩, by simp; omega⟩
  obtain ⟨b, off, spot⟩ := a
  have hs : spot = none := by
   have h0 := hcell 0 (by omega)
   unfold World.cell? at h0
   split at h0
   .cases spot
    .rfl
    .simp [Addr.add] at h0
   .cases h0
  subst hs
  refine ⟨b, off, rfl, fun i hi => ?_⟩
  rw [<- Bv, hcell i (by omega)]
  simp [hi]
end Go.En
namespace Go.Proofs.YteelnmpbnaohpaaDoor
open Go Go.En Go.Pu
set_option maxRecDepth 4000
theorem Rr {L k : Nat} {w : ahA} (hL : L <= 1000000000000) (h1 : 1 <= k) (h2 : k <= 65536) :
 gT pg sU #[.int .u64 (L : Nat), .int .i64 (k : Nat)] w (fun r w' => r = (if 1024 < mA L k then .tuple #[.int .i64 0, .int .i64 12] else .tuple #[.int .i64 (mA L k : Nat), .int .i64 0]) /\ w' = w) := by
 refine Nj ?_
 unfold NX Dt DT
 have d1 : decide ((k : Int) < 1) = false := by simp; omega
 have d2 : decide ((65536 : Int) < (k : Int)) = false := by simp; omega
 have e1 : (L : Int).tdiv (k : Int) = ((L / k : Nat) : Int) := rfl
 have e2 : (L : Int).tmod (k : Int) = ((L % k : Nat) : Int) := rfl
 have hq : L / k <= L := Nat.div_le_self _ _
 have hm := afX L (show 0 < k by omega)
 have hc : mA L k = if 0 < L % k then L / k + 1 else L / k := rfl
 generalize L / k = q at *
 generalize L % k = r at *
 by_cases hr : 0 < r
 .rw [if_pos hr] at hc
  have d3 : decide ((0 : Int) < (r : Int)) = true := by simp only [decide_eq_true_eq]; omega
  have e3 : (q : Int) + 1 = ((q + 1 : Nat) : Int) := by omega
  rw [hc]
  by_cases hb : 1024 < q + 1
  .have d4 : decide ((1024 : Int) < ((q + 1 : Nat) : Int)) = true := by simp only [decide_eq_true_eq]; omega
   rw [if_pos hb]
   unfold pD
   simp (disch := omega) only [eY, gN, dX, stepR_skip, fO, fW, fN, fZ, fX, fY, gQ, gG, eT, fT, fS, gE, fR, fL, fV, fQ, fU, gB, gC, fP, fC, gI, gA, fK, iR, iO, iP, iU, iM, iS, iQ, iT, iN, eP, Result.ok.injEq, Next.value.injEq, true_and, and_true, fI, fJ, gH, fM, gD, gR, acM, fE, fF, fG, fD, eZ, eU, fB, eX, eQ, eH, if_true, if_false, acK, acQ, acL, acN, acP, acO, acJ, acI, eA, dV, aB, dM, dO, cB, eB, eS, eE, dK, eF, fA, dJ, eJ, bP, dS, bE, dN, aL, aH, eL, aX, cI, eM, aE, eN, dE, aR, bF, eD, bB, bC, bJ, aO, aI, cF, fH, dY, cJ, cC, dA, cH, dT, bD, eK, bT, dF, bR, aT, bV, aC, bY, bQ, cA, bX, aY, aU, bA, bU, dL, cP, bO, aV, aJ, aM, bG, aF, dC, dW, aK, aN, aZ, aG, cY, aD, cL, bW, bH, aP, cM, bZ, aA, dD, cO, cU, cG, dI, cD, dG, dU, cQ, eC, eI, bN, aS, dZ, bS, aQ, bL, dH, cZ, cV, cN, cS, bK, bM, cX, dR, cR, dQ, dB, d1, d2, e1, e2, d3, e3, d4]
  .have d4 : decide ((1024 : Int) < ((q + 1 : Nat) : Int)) = false := by simp only [decide_eq_false_iff_not]; omega
   rw [if_neg hb]
   unfold pD
   simp (disch := omega) only [eY, gN, dX, stepR_skip, fO, fW, fN, fZ, fX, fY, gQ, gG, eT, fT, fS, gE, fR, fL, fV, fQ, fU, gB, gC, fP, fC, gI, gA, fK, iR, iO, iP, iU, iM, iS, iQ, iT, iN, eP, Result.ok.injEq, Next.value.injEq, true_and, and_true, fI, fJ, gH, fM, gD, gR, acM, fE, fF, fG, fD, eZ, eU, fB, eX, eQ, eH, if_true, if_false, acK, acQ, acL, acN, acP, acO, acJ, acI, eA, dV, aB, dM, dO, cB, eB, eS, eE, dK, eF, fA, dJ, eJ, bP, dS, bE, dN, aL, aH, eL, aX, cI, eM, aE, eN, dE, aR, bF, eD, bB, bC, bJ, aO, aI, cF, fH, dY, cJ, cC, dA, cH, dT, bD, eK, bT, dF, bR, aT, bV, aC, bY, bQ, cA, bX, aY, aU, bA, bU, dL, cP, bO, aV, aJ, aM, bG, aF, dC, dW, aK, aN, aZ, aG, cY, aD, cL, bW, bH, aP, cM, bZ, aA, dD, cO, cU, cG, dI, cD, dG, dU, cQ, eC, eI, bN, aS, dZ, bS, aQ, bL, dH, cZ, cV, cN, cS, bK, bM, cX, dR, cR, dQ, dB, d1, d2, e1, e2, d3, e3, d4]
 .rw [if_neg hr] at hc
  have d3 : decide ((0 : Int) < (r : Int)) = false := by simp only [decide_eq_false_iff_not]; omega
  rw [hc]
  by_cases hb : 1024 < q
  .have d4 : decide ((1024 : Int) < (q : Int)) = true := by simp only [decide_eq_true_eq]; omega
   rw [if_pos hb]
   unfold pD
   simp (disch := omega) only [eY, gN, dX, stepR_skip, fO, fW, fN, fZ, fX, fY, gQ, gG, eT, fT, fS, gE, fR, fL, fV, fQ, fU, gB, gC, fP, fC, gI, gA, fK, iR, iO, iP, iU, iM, iS, iQ, iT, iN, eP, Result.ok.injEq, Next.value.injEq, true_and, and_true, fI, fJ, gH, fM, gD, gR, acM, fE, fF, fG, fD, eZ, eU, fB, eX, eQ, eH, if_true, if_false, acK, acQ, acL, acN, acP, acO, acJ, acI, eA, dV, aB, dM, dO, cB, eB, eS, eE, dK, eF, fA, dJ, eJ, bP, dS, bE, dN, aL, aH, eL, aX, cI, eM, aE, eN, dE, aR, bF, eD, bB, bC, bJ, aO, aI, cF, fH, dY, cJ, cC, dA, cH, dT, bD, eK, bT, dF, bR, aT, bV, aC, bY, bQ, cA, bX, aY, aU, bA, bU, dL, cP, bO, aV, aJ, aM, bG, aF, dC, dW, aK, aN, aZ, aG, cY, aD, cL, bW, bH, aP, cM, bZ, aA, dD, cO, cU, cG, dI, cD, dG, dU, cQ, eC, eI, bN, aS, dZ, bS, aQ, bL, dH, cZ, cV, cN, cS, bK, bM, cX, dR, cR, dQ, dB, d1, d2, e1, e2, d3, d4]
  .have d4 : decide ((1024 : Int) < (q : Int)) = false := by simp only [decide_eq_false_iff_not]; omega
   rw [if_neg hb]
   unfold pD
   simp (disch := omega) only [eY, gN, dX, stepR_skip, fO, fW, fN, fZ, fX, fY, gQ, gG, eT, fT, fS, gE, fR, fL, fV, fQ, fU, gB, gC, fP, fC, gI, gA, fK, iR, iO, iP, iU, iM, iS, iQ, iT, iN, eP, Result.ok.injEq, Next.value.injEq, true_and, and_true, fI, fJ, gH, fM, gD, gR, acM, fE, fF, fG, fD, eZ, eU, fB, eX, eQ, eH, if_true, if_false, acK, acQ, acL, acN, acP, acO, acJ, acI, eA, dV, aB, dM, dO, cB, eB, eS, eE, dK, eF, fA, dJ, eJ, bP, dS, bE, dN, aL, aH, eL, aX, cI, eM, aE, eN, dE, aR, bF, eD, bB, bC, bJ, aO, aI, cF, fH, dY, cJ, cC, dA, cH, dT, bD, eK, bT, dF, bR, aT, bV, aC, bY, bQ, cA, bX, aY, aU, bA, bU, dL, cP, bO, aV, aJ, aM, bG, aF, dC, dW, aK, aN, aZ, aG, cY, aD, cL, bW, bH, aP, cM, bZ, aA, dD, cO, cU, cG, dI, cD, dG, dU, cQ, eC, eI, bN, aS, dZ, bS, aQ, bL, dH, cZ, cV, cN, cS, bK, bM, cX, dR, cR, dQ, dB, d1, d2, e1, e2, d3, d4]
theorem Ph {L k i : Nat} {w : ahA} (hL : L <= 1000000000000) (h1 : 1 <= k) (h2 : k <= 65536) (hn : mA L k <= 1024) (hi : i < mA L k) :
 gT pg pT #[.int .u64 (L : Nat), .int .i64 (k : Nat), .int .i64 (i : Nat)] w (fun r w' => r = .tuple #[.int .u64 ((k * i : Nat) : Int), .int .i64 (Kq L k i : Nat), .int .i64 0] /\ w' = w) := by
 refine Ow ?_
 unfold O8 FO
 refine (Rr hL h1 h2).mono ?_
 rintro r w1 ⟨rfl, hw⟩
 rw [hw]; clear hw w1
 rw [if_neg (by omega)]
 have n0 : ((0 : Int) != 0) = false := rfl
 have d1 : decide ((i : Int) < 0) = false := by simp
 have d2 : decide (((mA L k : Nat) : Int) <= (i : Int)) = false := by simp; omega
 have hlt := (Av (L := L) (k := k) (i := i) (by omega)).1 hi
 have e1 : (k : Int) * (i : Int) = ((k * i : Nat) : Int) := by simp
 obtain ⟨q, hq⟩ : ∃ q, q = k * i := ⟨_, rfl⟩
 have e2 : (L : Int) - ((q : Nat) : Int) = ((L - q : Nat) : Int) := by omega
 have e3 : (if ((k : Nat) : Int) < ((L - q : Nat) : Int) then ((k : Nat) : Int) else ((L - q : Nat) : Int)) = ((Kq L k i : Nat) : Int) := by
  unfold Kq
  rw [<- hq]
  split <;> omega
 rw [<- hq] at e1 hlt ⊢
 simp (disch := omega) only [eY, gN, dX, stepR_skip, fO, fW, fN, fZ, fX, fY, gQ, gG, eT, fT, fS, gE, fR, fL, fV, fQ, fU, gB, gC, fP, fC, gI, gA, fK, iR, iO, iP, iU, iM, iS, iQ, iT, iN, eP, Result.ok.injEq, Next.value.injEq, true_and, and_true, fI, fJ, gH, fM, gD, gR, acM, fE, fF, fG, fD, eZ, eU, fB, eX, eQ, eH, if_true, if_false, acK, acQ, acL, acN, acP, acO, acJ, acI, eA, dV, aB, dM, dO, cB, eB, eS, eE, dK, eF, fA, dJ, eJ, bP, dS, bE, dN, aL, aH, eL, aX, cI, eM, aE, eN, dE, aR, bF, eD, bB, bC, bJ, aO, aI, cF, fH, dY, cJ, cC, dA, cH, dT, bD, eK, bT, dF, bR, aT, bV, aC, bY, bQ, cA, bX, aY, aU, bA, bU, dL, cP, bO, aV, aJ, aM, bG, aF, dC, dW, aK, aN, aZ, aG, cY, aD, cL, bW, bH, aP, cM, bZ, aA, dD, cO, cU, cG, dI, cD, dG, dU, cQ, eC, eI, bN, aS, dZ, bS, aQ, bL, dH, cZ, cV, cN, cS, bK, bM, cX, dR, cR, dQ, dB, n0, d1, d2, e1, e2, e3]
theorem SL {w : ahA} {v : ahB} {l : List Bool} (h : Sl w v (l.map Value.bool)) {i : Nat} (hi : i < l.length) : ∃ a o c, v = .slice (some ⟨a, o, none⟩) l.length c /\ w.cell? ⟨a, o + i, none⟩ = some (.bool (l.getD i false)) := by
 obtain ⟨a, n, c, rfl, hn, hc, hh⟩ := h
 rw [acR] at hn
 obtain ⟨b, off, rfl, h2⟩ := hh (by omega)
 have := h2 i (by omega)
 rw [adQ, acS hi] at this
 refine ⟨b, off, c, by rw [hn], ?_⟩
 rw [this, acU, acS hi] <;> rfl
theorem Qb {l : List Bool} {i : Nat} (hi : i < l.length) : (l.take (i + 1)).contains false = ((l.take i).contains false || !(l.getD i false)) := by
 rw [aeS hi, acU, acS hi]
 rw [List.contains_append]
 cases l[i] <;> simp
theorem PH {v : ahB} {l : List Bool} {w : ahA} (h : Sl w v (l.map Value.bool)) (hl : l.length <= 1000000000) :
 gT pg zP #[v] w (fun r w' => r = .bool (!l.contains false) /\ w' = w) := by
 refine O4 ?_
 unfold QJ G0
 refine EJ ?_
 unfold B6 qX
 refine HF ?_
 unfold Fl vF vD uL uU vJ uP vI
 obtain ⟨va, vc, rfl, _⟩ := h.len
 rw [acR] at h ⊢
 simp (disch := omega) only [eY, gN, dX, stepR_skip, fO, fW, fN, fZ, fX, fY, gQ, gG, eT, fT, fS, gE, fR, fL, fV, fQ, fU, gB, gC, fP, fC, gI, gA, fK, iR, iO, iP, iU, iM, iS, iQ, iT, iN, eP, Result.ok.injEq, Next.value.injEq, true_and, and_true, fI, fJ, gH, fM, gD, gR, acM, fE, fF, fG, fD, eZ, eU, fB, eX, eQ, eH, if_true, if_false, acK, acQ, acL, acN, acP, acO, acJ, acI, eA, dV, aB, dM, dO, cB, eB, eS, eE, dK, eF, fA, dJ, eJ, bP, dS, bE, dN, aL, aH, eL, aX, cI, eM, aE, eN, dE, aR, bF, eD, bB, bC, bJ, aO, aI, cF, fH, dY, cJ, cC, dA, cH, dT, bD, eK, bT, dF, bR, aT, bV, aC, bY, bQ, cA, bX, aY, aU, bA, bU, dL, cP, bO, aV, aJ, aM, bG, aF, dC, dW, aK, aN, aZ, aG, cY, aD, cL, bW, bH, aP, cM, bZ, aA, dD, cO, cU, cG, dI, cD, dG, dU, cQ, eC, eI, bN, aS, dZ, bS, aQ, bL, dH, cZ, cV, cN, cS, bK, bM, cX, dR, cR, dQ, dB]
 refine kJ.rule (fun m (t : ahB) w' => ∃ i : Nat, m = l.length - i /\ i <= l.length /\ t = .int .i64 (i : Nat) /\ (l.take i).contains false = false /\ w' = w) l.length ⟨0, rfl, by omega, rfl, rfl, rfl⟩ ?_
 rintro m t w' ⟨i, rfl, hi, rfl, hc, hw⟩
 rw [hw]; clear hw w'
 unfold qF
 by_cases hlt : i < l.length
 .have d1 : decide ((i : Int) < (l.length : Int)) = true := by simp; omega
  obtain ⟨a, o, c, hv, hcell⟩ := SL h hlt
  cases hv
  have ht := Qb hlt
  rw [hc, agN] at ht
  cases hb : l.getD i false with
  | true =>
    rw [hb] at hcell ht
    have e : (false == true) = false := rfl
    simp (disch := omega) only [eY, gN, dX, stepR_skip, fO, fW, fN, fZ, fX, fY, gQ, gG, eT, fT, fS, gE, fR, fL, fV, fQ, fU, gB, gC, fP, fC, gI, gA, fK, iR, iO, iP, iU, iM, iS, iQ, iT, iN, eP, Result.ok.injEq, Next.value.injEq, true_and, and_true, fI, fJ, gH, fM, gD, gR, acM, fE, fF, fG, fD, eZ, eU, fB, eX, eQ, eH, if_true, if_false, acK, acQ, acL, acN, acP, acO, acJ, acI, eA, dV, aB, dM, dO, cB, eB, eS, eE, dK, eF, fA, dJ, eJ, bP, dS, bE, dN, aL, aH, eL, aX, cI, eM, aE, eN, dE, aR, bF, eD, bB, bC, bJ, aO, aI, cF, fH, dY, cJ, cC, dA, cH, dT, bD, eK, bT, dF, bR, aT, bV, aC, bY, bQ, cA, bX, aY, aU, bA, bU, dL, cP, bO, aV, aJ, aM, bG, aF, dC, dW, aK, aN, aZ, aG, cY, aD, cL, bW, bH, aP, cM, bZ, aA, dD, cO, cU, cG, dI, cD, dG, dU, cQ, eC, eI, bN, aS, dZ, bS, aQ, bL, dH, cZ, cV, cN, cS, bK, bM, cX, dR, cR, dQ, dB, d1, hcell, e]
    exact ⟨l.length - (i + 1), by omega, i + 1, rfl, by omega, rfl, ht⟩
  | false =>
    rw [hb] at hcell ht
    have e : (false == false) = true := rfl
    have d2 : decide ((0 : Int) <= (i : Int)) = true := by simp
    have hall : l.contains false = true := by
     have hm : false ∈ l.take (i + 1) := by simpa using ht
     simpa using agU hm
    rw [hall]
    simp (disch := omega) only [eY, gN, dX, stepR_skip, fO, fW, fN, fZ, fX, fY, gQ, gG, eT, fT, fS, gE, fR, fL, fV, fQ, fU, gB, gC, fP, fC, gI, gA, fK, iR, iO, iP, iU, iM, iS, iQ, iT, iN, eP, Result.ok.injEq, Next.value.injEq, true_and, and_true, fI, fJ, gH, fM, gD, gR, acM, fE, fF, fG, fD, eZ, eU, fB, eX, eQ, eH, if_true, if_false, acK, acQ, acL, acN, acP, acO, acJ, acI, eA, dV, aB, dM, dO, cB, eB, eS, eE, dK, eF, fA, dJ, eJ, bP, dS, bE, dN, aL, aH, eL, aX, cI, eM, aE, eN, dE, aR, bF, eD, bB, bC, bJ, aO, aI, cF, fH, dY, cJ, cC, dA, cH, dT, bD, eK, bT, dF, bR, aT, bV, aC, bY, bQ, cA, bX, aY, aU, bA, bU, dL, cP, bO, aV, aJ, aM, bG, aF, dC, dW, aK, aN, aZ, aG, cY, aD, cL, bW, bH, aP, cM, bZ, aA, dD, cO, cU, cG, dI, cD, dG, dU, cQ, eC, eI, bN, aS, dZ, bS, aQ, bL, dH, cZ, cV, cN, cS, bK, bM, cX, dR, cR, dQ, dB, d1, hcell, e, d2]
 .have d1 : decide ((i : Int) < (l.length : Int)) = false := by simp; omega
  rw [acX (by omega)] at hc
  rw [hc]
  unfold qA
  have d2 : decide ((0 : Int) <= -1) = false := rfl
  simp (disch := omega) only [eY, gN, dX, stepR_skip, fO, fW, fN, fZ, fX, fY, gQ, gG, eT, fT, fS, gE, fR, fL, fV, fQ, fU, gB, gC, fP, fC, gI, gA, fK, iR, iO, iP, iU, iM, iS, iQ, iT, iN, eP, Result.ok.injEq, Next.value.injEq, true_and, and_true, fI, fJ, gH, fM, gD, gR, acM, fE, fF, fG, fD, eZ, eU, fB, eX, eQ, eH, if_true, if_false, acK, acQ, acL, acN, acP, acO, acJ, acI, eA, dV, aB, dM, dO, cB, eB, eS, eE, dK, eF, fA, dJ, eJ, bP, dS, bE, dN, aL, aH, eL, aX, cI, eM, aE, eN, dE, aR, bF, eD, bB, bC, bJ, aO, aI, cF, fH, dY, cJ, cC, dA, cH, dT, bD, eK, bT, dF, bR, aT, bV, aC, bY, bQ, cA, bX, aY, aU, bA, bU, dL, cP, bO, aV, aJ, aM, bG, aF, dC, dW, aK, aN, aZ, aG, cY, aD, cL, bW, bH, aP, cM, bZ, aA, dD, cO, cU, cG, dI, cD, dG, dU, cQ, eC, eI, bN, aS, dZ, bS, aQ, bL, dH, cZ, cV, cN, cS, bK, bM, cX, dR, cR, dQ, dB, d1, d2]
theorem VF {v u : ahB} {l m : List UInt8} {w : ahA} (h : Bs w v l) (hu : Bs w u m) (hl : l.length <= 1000000000) (hm : m.length <= 1000000000) :
 gT pg qS #[v, u] w (fun r w' => r = .bool (l == m) /\ gV w w' jN) := by
 refine Hg ?_
 obtain ⟨RR, hRR⟩ : ∃ RR : ahB -> ahA -> Prop, RR = fun r w' => r = .bool (l == m) /\ gV w w' jN := ⟨_, rfl⟩
 rw [<- hRR]
 unfold Fc uJ uY
 obtain ⟨va, vc, rfl, _⟩ := h.len
 obtain ⟨ua, uc, rfl, _⟩ := hu.len
 rw [acR] at h ⊢
 rw [acR] at hu ⊢
 by_cases hne : l.length = m.length
 rotate_left
 .have d1 : (((l.length : Nat) : Int) != ((m.length : Nat) : Int)) = true := by rw [bne_iff_ne]; omega
  have e : (l == m) = false := beq_eq_false_iff_ne.2 fun e => hne (by rw [e])
  simp (disch := omega) only [eY, gN, dX, stepR_skip, fO, fW, fN, fZ, fX, fY, gQ, gG, eT, fT, fS, gE, fR, fL, fV, fQ, fU, gB, gC, fP, fC, gI, gA, fK, iR, iO, iP, iU, iM, iS, iQ, iT, iN, eP, Result.ok.injEq, Next.value.injEq, true_and, and_true, fI, fJ, gH, fM, gD, gR, acM, fE, fF, fG, fD, eZ, eU, fB, eX, eQ, eH, if_true, if_false, acK, acQ, acL, acN, acP, acO, acJ, acI, eA, dV, aB, dM, dO, cB, eB, eS, eE, dK, eF, fA, dJ, eJ, bP, dS, bE, dN, aL, aH, eL, aX, cI, eM, aE, eN, dE, aR, bF, eD, bB, bC, bJ, aO, aI, cF, fH, dY, cJ, cC, dA, cH, dT, bD, eK, bT, dF, bR, aT, bV, aC, bY, bQ, cA, bX, aY, aU, bA, bU, dL, cP, bO, aV, aJ, aM, bG, aF, dC, dW, aK, aN, aZ, aG, cY, aD, cL, bW, bH, aP, cM, bZ, aA, dD, cO, cU, cG, dI, cD, dG, dU, cQ, eC, eI, bN, aS, dZ, bS, aQ, bL, dH, cZ, cV, cN, cS, bK, bM, cX, dR, cR, dQ, dB, d1]
  rw [hRR]
  exact ⟨by rw [e], gV.refl _ _⟩
 have d1 : (((l.length : Nat) : Int) != ((m.length : Nat) : Int)) = false := by rw [bne_eq_false_iff_eq]; omega
 simp (disch := omega) only [eY, gN, dX, stepR_skip, fO, fW, fN, fZ, fX, fY, gQ, gG, eT, fT, fS, gE, fR, fL, fV, fQ, fU, gB, gC, fP, fC, gI, gA, fK, iR, iO, iP, iU, iM, iS, iQ, iT, iN, eP, Result.ok.injEq, Next.value.injEq, true_and, and_true, fI, fJ, gH, fM, gD, gR, acM, fE, fF, fG, fD, eZ, eU, fB, eX, eQ, eH, if_true, if_false, acK, acQ, acL, acN, acP, acO, acJ, acI, eA, dV, aB, dM, dO, cB, eB, eS, eE, dK, eF, fA, dJ, eJ, bP, dS, bE, dN, aL, aH, eL, aX, cI, eM, aE, eN, dE, aR, bF, eD, bB, bC, bJ, aO, aI, cF, fH, dY, cJ, cC, dA, cH, dT, bD, eK, bT, dF, bR, aT, bV, aC, bY, bQ, cA, bX, aY, aU, bA, bU, dL, cP, bO, aV, aJ, aM, bG, aF, dC, dW, aK, aN, aZ, aG, cY, aD, cL, bW, bH, aP, cM, bZ, aA, dD, cO, cU, cG, dI, cD, dG, dU, cQ, eC, eI, bN, aS, dZ, bS, aQ, bL, dH, cZ, cV, cN, cS, bK, bM, cX, dR, cR, dQ, dB, d1]
 unfold uK uV uR vA uO
 simp (disch := omega) only [eY, gN, dX, stepR_skip, fO, fW, fN, fZ, fX, fY, gQ, gG, eT, fT, fS, gE, fR, fL, fV, fQ, fU, gB, gC, fP, fC, gI, gA, fK, iR, iO, iP, iU, iM, iS, iQ, iT, iN, eP, Result.ok.injEq, Next.value.injEq, true_and, and_true, fI, fJ, gH, fM, gD, gR, acM, fE, fF, fG, fD, eZ, eU, fB, eX, eQ, eH, if_true, if_false, acK, acQ, acL, acN, acP, acO, acJ, acI, eA, dV, aB, dM, dO, cB, eB, eS, eE, dK, eF, fA, dJ, eJ, bP, dS, bE, dN, aL, aH, eL, aX, cI, eM, aE, eN, dE, aR, bF, eD, bB, bC, bJ, aO, aI, cF, fH, dY, cJ, cC, dA, cH, dT, bD, eK, bT, dF, bR, aT, bV, aC, bY, bQ, cA, bX, aY, aU, bA, bU, dL, cP, bO, aV, aJ, aM, bG, aF, dC, dW, aK, aN, aZ, aG, cY, aD, cL, bW, bH, aP, cM, bZ, aA, dD, cO, cU, cG, dI, cD, dG, dU, cQ, eC, eI, bN, aS, dZ, bS, aQ, bL, dH, cZ, cV, cN, cS, bK, bM, cX, dR, cR, dQ, dB]
 refine kJ.rule (fun n (t : ahB) w' => ∃ i : Nat, n = l.length - i /\ i <= l.length /\ t = .int .i64 (i : Nat) /\ l.take i = m.take i /\ gV w w' jN) l.length ⟨0, rfl, by omega, rfl, rfl, gV.refl _ _⟩ ?_
 rintro n t w' ⟨i, rfl, hi, rfl, hc, x'⟩
 unfold pS
 by_cases hlt : i < l.length
 .have d2 : decide ((i : Int) < (l.length : Int)) = true := by simp; omega
  have xd : gV w (dr w') jN := x'.seq (gV.dr _ _)
  have cell : ∀ {w' : ahA}, gV w w' jN -> ∃ b off b' off', va = some ⟨b, off, none⟩ /\ ua = some ⟨b', off', none⟩ /\ w'.cell? ⟨b, off + i, none⟩ = some (.int .u8 ((l[i]'hlt).toNat : Nat)) /\ w'.cell? ⟨b', off' + i, none⟩ = some (.int .u8 ((m[i]'(by omega)).toNat : Nat)) := fun {w'} x => by
   obtain ⟨b, off, c', hv, hc', hcell⟩ := (h.ext x (jG _)).openV (by rw [acR]; omega)
   obtain ⟨b', off', c'', hv', hc'', hcell'⟩ := (hu.ext x (jG _)).openV (by rw [acR]; omega)
   have g1 := hcell i (by rw [acR]; exact hlt)
   have g2 := hcell' i (by rw [acR]; omega)
   rw [agP] at g1 g2
   rw [acR] at hv hv'
   cases hv
   cases hv'
   exact ⟨_, _, _, _, rfl, rfl, g1, g2⟩
  obtain ⟨b, off, b', off', rfl, rfl, g1, g2⟩ := cell x'
  obtain ⟨_, _, _, _, e1, e2, g1', g2'⟩ := cell xd
  cases e1
  cases e2
  by_cases hq : l[i]'hlt = m[i]'(by omega)
  .have d3 : ((((l[i]'hlt).toNat : Nat) : Int) != (((m[i]'(by omega)).toNat : Nat) : Int)) = false := by rw [hq]; simp
   simp (disch := omega) only [eY, gN, dX, stepR_skip, fO, fW, fN, fZ, fX, fY, gQ, gG, eT, fT, fS, gE, fR, fL, fV, fQ, fU, gB, gC, fP, fC, gI, gA, fK, iR, iO, iP, iU, iM, iS, iQ, iT, iN, eP, Result.ok.injEq, Next.value.injEq, true_and, and_true, fI, fJ, gH, fM, gD, gR, acM, fE, fF, fG, fD, eZ, eU, fB, eX, eQ, eH, if_true, if_false, acK, acQ, acL, acN, acP, acO, acJ, acI, eA, dV, aB, dM, dO, cB, eB, eS, eE, dK, eF, fA, dJ, eJ, bP, dS, bE, dN, aL, aH, eL, aX, cI, eM, aE, eN, dE, aR, bF, eD, bB, bC, bJ, aO, aI, cF, fH, dY, cJ, cC, dA, cH, dT, bD, eK, bT, dF, bR, aT, bV, aC, bY, bQ, cA, bX, aY, aU, bA, bU, dL, cP, bO, aV, aJ, aM, bG, aF, dC, dW, aK, aN, aZ, aG, cY, aD, cL, bW, bH, aP, cM, bZ, aA, dD, cO, cU, cG, dI, cD, dG, dU, cQ, eC, eI, bN, aS, dZ, bS, aQ, bL, dH, cZ, cV, cN, cS, bK, bM, cX, dR, cR, dQ, dB, d2, g1, g2, g1', g2', d3]
   refine ⟨l.length - (i + 1), by omega, i + 1, rfl, by omega, rfl, ?_, xd⟩
   rw [aeS hlt, aeS (by omega), hc, hq]
  .have d3 : ((((l[i]'hlt).toNat : Nat) : Int) != (((m[i]'(by omega)).toNat : Nat) : Int)) = true := by
    rw [bne_iff_ne]
    intro he
    exact hq (UInt8.toNat_inj.1 (by exact_mod_cast he))
   have e : (l == m) = false := beq_eq_false_iff_ne.2 fun e => hq (by subst e; rfl)
   simp (disch := omega) only [eY, gN, dX, stepR_skip, fO, fW, fN, fZ, fX, fY, gQ, gG, eT, fT, fS, gE, fR, fL, fV, fQ, fU, gB, gC, fP, fC, gI, gA, fK, iR, iO, iP, iU, iM, iS, iQ, iT, iN, eP, Result.ok.injEq, Next.value.injEq, true_and, and_true, fI, fJ, gH, fM, gD, gR, acM, fE, fF, fG, fD, eZ, eU, fB, eX, eQ, eH, if_true, if_false, acK, acQ, acL, acN, acP, acO, acJ, acI, eA, dV, aB, dM, dO, cB, eB, eS, eE, dK, eF, fA, dJ, eJ, bP, dS, bE, dN, aL, aH, eL, aX, cI, eM, aE, eN, dE, aR, bF, eD, bB, bC, bJ, aO, aI, cF, fH, dY, cJ, cC, dA, cH, dT, bD, eK, bT, dF, bR, aT, bV, aC, bY, bQ, cA, bX, aY, aU, bA, bU, dL, cP, bO, aV, aJ, aM, bG, aF, dC, dW, aK, aN, aZ, aG, cY, aD, cL, bW, bH, aP, cM, bZ, aA, dD, cO, cU, cG, dI, cD, dG, dU, cQ, eC, eI, bN, aS, dZ, bS, aQ, bL, dH, cZ, cV, cN, cS, bK, bM, cX, dR, cR, dQ, dB, d2, g1, g2, g1', g2', d3]
   rw [hRR]
   exact ⟨by rw [e], xd⟩
 .have d2 : decide ((i : Int) < (l.length : Int)) = false := by simp; omega
  rw [acX (by omega), acX (by omega)] at hc
  unfold pX
  simp (disch := omega) only [eY, gN, dX, stepR_skip, fO, fW, fN, fZ, fX, fY, gQ, gG, eT, fT, fS, gE, fR, fL, fV, fQ, fU, gB, gC, fP, fC, gI, gA, fK, iR, iO, iP, iU, iM, iS, iQ, iT, iN, eP, Result.ok.injEq, Next.value.injEq, true_and, and_true, fI, fJ, gH, fM, gD, gR, acM, fE, fF, fG, fD, eZ, eU, fB, eX, eQ, eH, if_true, if_false, acK, acQ, acL, acN, acP, acO, acJ, acI, eA, dV, aB, dM, dO, cB, eB, eS, eE, dK, eF, fA, dJ, eJ, bP, dS, bE, dN, aL, aH, eL, aX, cI, eM, aE, eN, dE, aR, bF, eD, bB, bC, bJ, aO, aI, cF, fH, dY, cJ, cC, dA, cH, dT, bD, eK, bT, dF, bR, aT, bV, aC, bY, bQ, cA, bX, aY, aU, bA, bU, dL, cP, bO, aV, aJ, aM, bG, aF, dC, dW, aK, aN, aZ, aG, cY, aD, cL, bW, bH, aP, cM, bZ, aA, dD, cO, cU, cG, dI, cD, dG, dU, cQ, eC, eI, bN, aS, dZ, bS, aQ, bL, dH, cZ, cV, cN, cS, bK, bM, cX, dR, cR, dQ, dB, d2]
  rw [hRR]
  exact ⟨by rw [hc]; simp, x'⟩
end Go.Proofs.YteelnmpbnaohpaaDoor
namespace Go.En
open Go
section
variable {P : Program} {w : ahA} {t e : TypeId}
theorem JP {i : TypeInfo} (hu : P.underlying t = some (.slice e)) (hi : P.info? e = some i)
 {K : ahB -> ahA -> Prop} (hk : ∀ w', jI w' w.heap.size [] -> gV w w' jN -> w'.heap.size = w.heap.size + 1 -> K (.slice (some ⟨w.heap.size, 0, none⟩) 0 0) w') :
 eY P (iL t 0 []) w K := by
 have : (iL t 0 []).run P w = .ok (.value (.slice (some ⟨w.heap.size, 0, none⟩) 0 0)) (w.alloc (.cells ([] : List ahB).toArray e)) := by
  unfold iL; rw [nF]
  have h1 : ¬ (0 > 2 ^ 24) := by omega
  have e : ∀ f : Nat -> ahB, Array.map f (Array.range 0) = #[] := fun f => by simp
  simp only [Instr.buildSlice, underlying, pure_bind, Sem.run_bind, run_program, Result.andThen_ok, hu, Sem.run_pure, kQ hi, Nat.zero_mul, h1, if_false, if_true, newRow, run_newObj, Instr.fill, e]
  rfl
 unfold eY
 rw [this]
 exact hk _ (jI.alloc _ _ _) (gV.alloc _ _ _) (by simp)
def At (v : ahB) (b : Nat) : Prop := ∀ M : Nat -> Prop, ¬ M b -> ¬ vO v M
theorem At.nil (c b : Nat) (a : Option Addr) : At (.slice a 0 c) b := fun M h => by unfold vO; split <;> simp_all
theorem At.at (b o n c : Nat) : At (.slice (some ⟨b, o, none⟩) n c) b := fun M h => by
 unfold vO; split
 .rename_i x m _ e
  obtain ⟨rfl, _⟩ : (⟨b, o, none⟩ : Addr) = x /\ _ := by simpa using e
  exact h
 .simp
theorem Ac.at' {w : ahA} {base sz n : Nat} {v : ahB} {l : List ahB} (h : Ac w base sz v n l) (hb : base < w.heap.size) : ∃ b, base <= b /\ b < w.heap.size /\ At v b := by
 rcases h.2 with ⟨rfl, rfl⟩ | ⟨b, c, rest, rfl, h2, h3, h4, h5⟩
 .exact ⟨base, acY _, hb, At.nil _ _ _⟩
 .exact ⟨b, h2, h3.lt, At.at _ _ _ _⟩
end
end Go.En
namespace Go.Proofs.YteelnmpbnaohpaaDoor
open Go Go.En Go.Pu
set_option maxRecDepth 4000
theorem WL (a b : Nat) : ((a : Int)).fdiv (b : Int) = ((a / b : Nat) : Int) := by rw [Int.fdiv_eq_ediv_of_nonneg _ (by omega)] <;> rfl
theorem Ym (x j : Nat) (hj : j <= 64) : ((x : Int)).fdiv (2 ^ (min (j : Nat) IntKind.u64.bits)) = ((x / 2 ^ j : Nat) : Int) := by
 have e : min j IntKind.u64.bits = j := by simp only [IntKind.bits]; omega
 rw [e, <- WL]; simp
theorem OJ {v : ahB} {l : List UInt8} {w : ahA} (h : Bs w v l) (hl : l.length <= 1000000000) :
 gT pg lA #[v] w (fun r w' => Ac w' w.heap.size 1 r l.length (l.map pG) /\ gV w w' jN) := by
 refine EI ?_
 have h1 := h
 obtain ⟨a, n, c, rfl, hn, hc, hh⟩ := h
 rw [acR] at hn
 unfold Cg rE
 cases a with
 | none =>
   have h0 : l = [] := by
    cases l with
    | nil => rfl
    | cons x l => obtain ⟨b, off, h, _⟩ := hh (by simp at hn; omega); cases h
   subst h0
   simp (disch := omega) only [eY, dC, acN, dX, eQ]
   exact ⟨Ac.nil _ _ _, gV.refl _ _⟩
 | some x =>
   simp (disch := omega) only [eY, dC, acL, dX, eH]
   refine JP Tryd.underlying22 Jl fun w1 o1 x1 s1 => ?_
   have hcl1 := (h1.ext x1 (jG _)).cl
   rw [acR] at hcl1
   have hos : Ac w1 w.heap.size 1 (.slice (some ⟨w.heap.size, 0, none⟩) 0 0) 0 [] := ⟨rfl, .inr ⟨_, 0, [], rfl, acY _, o1, rfl, acY _⟩⟩
   refine Cq hos hcl1 (Fq _) x1.size (by omega) fun v3 w3 o3 x3 => ?_
   rw [acQ, adJ] at o3
   exact ⟨o3, x1.trans x3 fun b hb h => Nat.not_le_of_lt hb h⟩
def Zd (v : ahB) (lo hi : Nat) : Prop := ∀ M : Nat -> Prop, (∀ b, lo <= b -> b < hi -> ¬ M b) -> ¬ vO v M
theorem Ac.atI {w : ahA} {base sz n : Nat} {v : ahB} {l : List ahB} (h : Ac w base sz v n l) : Zd v base w.heap.size := by
 intro M hM
 rcases h.2 with ⟨rfl, rfl⟩ | ⟨b, c, rest, rfl, h2, h3, h4, h5⟩
 .exact fun h => h
 .exact At.at b 0 n c M (hM b h2 h3.lt)
def Fwd (w : ahA) (lo hi : Nat) (l : List UInt8) (st : Nat) : Prop := ∃ v, jI w hi [v, .int .i64 st] /\ Bs w v l /\ Zd v lo hi
theorem Fwd.ext {w w' : ahA} {lo hi st : Nat} {l : List UInt8} {M : Nat -> Prop} (h : Fwd w lo hi l st) (hx : gV w w' M) (hM : ∀ b, lo <= b -> b <= hi -> ¬ M b) (hlh : lo <= hi) : Fwd w' lo hi l st := by
 obtain ⟨v, h1, h2, h3⟩ := h
 exact ⟨v, h1.ext hx (hM _ hlh (acY _)), h2.ext hx (h3 M fun b hb hh => hM b hb (by omega)), h3⟩
theorem Zd.sub {a : Option Addr} {n c m c' k sz lo hi : Nat} (h : Zd (.slice a n c) lo hi) (hm : m <= n) : Zd (.slice (kA a c k sz) m c') lo hi := by
 intro M hM hin
 cases m with
 | zero => unfold vO at hin; split at hin <;> simp_all
 | succ m =>
   obtain ⟨n', rfl⟩ : ∃ n', n = n' + 1 := ⟨n - 1, by omega⟩
   have h1 := h M hM
   cases a with
   | none => unfold kA at hin; split at hin <;> exact hin
   | some x =>
     unfold kA at hin
     have h2 : M x.block := by
      split at hin
      .exact hin
      .rw [aeA] at hin
       have e : (x.add (k * sz)).block = x.block := by unfold Addr.add; split <;> rfl
       have h3 : M (x.add (k * sz)).block := hin
       rwa [e] at h3
     exact h1 h2
def U1 (v : ahB) (S : Nat -> Prop) : Prop := ∀ M : Nat -> Prop, (∀ b, S b -> ¬ M b) -> ¬ vO v M
theorem Zd.toS {v : ahB} {lo hi : Nat} {S : Nat -> Prop} (h : Zd v lo hi) (hS : ∀ b, lo <= b -> b < hi -> S b) : U1 v S := fun M hM => h M fun b h1 h2 => hM b (hS b h1 h2)
theorem U1.mono {v : ahB} {S T : Nat -> Prop} (h : U1 v S) (hT : ∀ b, S b -> T b) : U1 v T := fun M hM => h M fun b hb => hM b (hT b hb)
theorem U1.nil (S : Nat -> Prop) : U1 (.slice none 0 0) S := fun M _ h => h
theorem U1.sub {a : Option Addr} {n c m c' k mx sz : Nat} {S : Nat -> Prop} (h : U1 (.slice a n c) S) (hm : m <= n) : U1 (.slice (kA a mx k sz) m c') S := by
 intro M hM hin
 cases m with
 | zero => unfold vO at hin; split at hin <;> simp_all
 | succ m =>
   obtain ⟨n', rfl⟩ : ∃ n', n = n' + 1 := ⟨n - 1, by omega⟩
   have h1 := h M hM
   cases a with
   | none => unfold kA at hin; split at hin <;> exact hin
   | some x =>
     unfold kA at hin
     have h2 : M x.block := by
      split at hin
      .exact hin
      .rw [aeA] at hin
       have e : (x.add (k * sz)).block = x.block := by unfold Addr.add; split <;> rfl
       have h3 : M (x.add (k * sz)).block := hin
       rwa [e] at h3
     exact h1 h2
theorem aaE {w : ahA} {a : Option Addr} {n c : Nat} {l : List ahB} (h : Sl w (.slice a n c) l) {k : Nat} (hk : k <= n) : Sl w (.slice (kA a k 0 1) (k - 0) (k - 0)) (l.take k) := by
 obtain ⟨a', n', c', e, hn, hc, h⟩ := h
 cases e
 refine ⟨_, _, _, rfl, by rw [adE]; omega, acY _, fun h0 => ?_⟩
 obtain ⟨b, off, rfl, h2⟩ := h (by omega)
 have hs : kA (some ⟨b, off, none⟩) k 0 1 = some ⟨b, off + 0 * 1, none⟩ := by unfold kA; rw [if_neg (by omega)] <;> rfl
 refine ⟨b, off, by rw [hs]; simp, fun i hi => ?_⟩
 rw [aeW (by omega)]
 exact h2 i (by omega)
def UL (w : ahA) (lo hi p : Nat) (l : List UInt8) (e : Int) : Prop := lo <= p /\ p < hi /\ ∃ v, jI w p [v, .int .i64 e] /\ Bs w v l /\ U1 v (fun b => lo <= b /\ b < hi /\ b ≠ p)
theorem UL.ext {w w' : ahA} {lo hi p : Nat} {l : List UInt8} {e : Int} {M : Nat -> Prop} (h : UL w lo hi p l e) (x : gV w w' M) (hM : ∀ b, lo <= b -> b < hi -> ¬ M b) : UL w' lo hi p l e := by
 obtain ⟨h0, h0', v, h1, h2, h3⟩ := h
 exact ⟨h0, h0', v, h1.ext x (hM _ h0 h0'), h2.ext x (h3 M fun b hb => hM b hb.1 hb.2.1), h3⟩
theorem UL.lt {w : ahA} {lo hi p : Nat} {l : List UInt8} {e : Int} (h : UL w lo hi p l e) : p < w.heap.size := by
 obtain ⟨_, _, v, h1, _⟩ := h; exact h1.lt
theorem UL.up {w : ahA} {lo hi hi' p : Nat} {l : List UInt8} {e : Int} (h : UL w lo hi p l e) (hh : hi <= hi') : UL w lo hi' p l e := by
 obtain ⟨h0, h0', v, h1, h2, h3⟩ := h
 exact ⟨h0, by omega, v, h1, h2, h3.mono fun b hb => ⟨hb.1, by omega, hb.2.2⟩⟩
theorem Sa {v : ahB} {l : List UInt8} {w : ahA} (h : Bs w v l) (hl : l.length <= 1000000000) :
 gT pg rW #[v] w (fun r w' => ∃ p, r = .pointer (some ⟨p, 0, none⟩) /\ UL w' w.heap.size w'.heap.size p l 0 /\ gV w w' jN) := by
 refine H9 ?_
 unfold Gz wU
 refine (OJ h hl).mono ?_
 rintro r w1 ⟨ho, x1⟩
 have hat := Ac.atI ho
 have hs := ho.sl
 obtain ⟨va, vc, rfl⟩ := ho.len
 simp (disch := omega) only [eY, bN, dX]
 refine oM fun w2 o2 x2 s2 => ?_
 have o2 : jI w2 w1.heap.size [.slice va l.length vc, .int .i64 0] := o2
 have hz := o2.lt
 exact ⟨w1.heap.size, rfl, ⟨x1.size, hz, _, o2, hs.ext x2 (jG _), hat.toS fun b h1 h2 => ⟨h1, by omega, by omega⟩⟩, x1.seq x2⟩
def RI (l : List UInt8) (e : Int) (n : Nat) : List UInt8 × List UInt8 × Int := if e ≠ 0 then ([], l, e) else if l.length < n then ([], l, 10) else (l.take n, l.drop n, 0)
theorem Xg {lo hi p n : Nat} {l : List UInt8} {e : Int} {w : ahA} (h : UL w lo hi p l e) (hl : l.length <= 1000000000) (hn : n <= 1000000000) :
 gT pg pR #[.pointer (some ⟨p, 0, none⟩), .int .i64 n, .bool true] w (fun r w' => Bs w' r (RI l e n).1 /\ U1 r (fun b => lo <= b /\ b < hi /\ b ≠ p) /\ UL w' lo hi p (RI l e n).2.1 (RI l e n).2.2 /\ gV w w' (fun y => y = p)) := by
 refine Gf ?_
 unfold D7 tN
 have h' := h
 obtain ⟨h0, h0', v, o, hb, hat⟩ := h'
 obtain ⟨va, vc, rfl, hvc⟩ := hb.len
 rw [acR] at hb hat o hvc
 have c0 := o.cell (off := 0)
 have c1 := o.cell (off := 1)
 simp only [acI, acJ] at c0 c1
 by_cases he : e = 0
 rotate_left
 .have n1 : (e != 0) = true := by simpa using he
  have ht : RI l e n = ([], l, e) := by unfold RI; rw [if_pos he]
  rw [ht]
  simp (disch := omega) only [eY, fK, fP, acP, dX, bK, acQ, bM, dY, eH, dT, c1, eP, fR, n1, eQ]
  exact ⟨Sl.nil _, U1.nil _, h, gV.refl _ _⟩
 subst he
 have n1 : ((0 : Int) != 0) = false := rfl
 by_cases hsh : l.length < n
 .have d1 : decide ((l.length : Int) < (n : Int)) = true := by simp; omega
  have ht : RI l 0 n = ([], l, 10) := by unfold RI; rw [if_neg (by decide), if_pos hsh]
  rw [ht]
  simp (disch := omega) only [eY, fK, fP, acP, dX, bK, acQ, bM, dY, eH, dT, c1, eP, fR, n1, c0, eA, fQ, d1, eQ]
  refine Df o rfl (by simp) fun w1 o1 x1 s1 => ?_
  simp only [adA, adN] at o1
  exact ⟨Sl.nil _, U1.nil _, ⟨h0, h0', _, o1, hb.ext x1 (hat _ fun b hb => hb.2.2), hat⟩, x1⟩
 .have d1 : decide ((l.length : Int) < (n : Int)) = false := by simp; omega
  have ht : RI l 0 n = (l.take n, l.drop n, 0) := by unfold RI; rw [if_neg (by decide), if_neg hsh]
  rw [ht]
  simp (disch := omega) only [eY, fK, fP, acP, dX, bK, acQ, bM, dY, eH, dT, c1, eP, fR, n1, c0, eA, fQ, d1, cX, acM, cY]
  refine NL o rfl (by simp [one]) fun w1 o1 x1 s1 => ?_
  simp only [adA, adN] at o1
  have hbn : Bs w (.slice (kA va n 0 1) (n - 0) (n - 0)) (l.take n) := by
   have := aaE hb (k := n) (by omega)
   rwa [<- agB] at this
  have hbd : Bs w (.slice (kA va vc n 1) (l.length - n) (vc - n)) (l.drop n) := by
   have := hb.drop' (k := n) (by omega)
   rwa [<- afM] at this
  have hn1 := hat.sub (mx := n) (k := 0) (sz := 1) (m := n - 0) (c' := n - 0) (by omega)
  have hn2 := hat.sub (mx := vc) (k := n) (sz := 1) (m := l.length - n) (c' := vc - n) (by omega)
  exact ⟨hbn.ext x1 (hn1 _ fun b hb => hb.2.2), hn1, ⟨h0, h0', _, o1, hbd.ext x1 (hn2 _ fun b hb => hb.2.2), hn2⟩, x1⟩
theorem PU {lo hi p n : Nat} {l : List UInt8} {e : Int} {w : ahA} (h : UL w lo hi p l e) (hl : l.length <= 1000000000) (hn : 1 <= n /\ n <= 8) :
 gT pg mR #[.pointer (some ⟨p, 0, none⟩), .int .i64 n] w (fun r w' => r = .int .u64 (FT (RI l e n).1 : Nat) /\ UL w' lo hi p (RI l e n).2.1 (RI l e n).2.2 /\ gV w w' (fun y => y = p)) := by
 refine EE ?_
 unfold BY rH rM rI rR rK
 have d1 : decide ((1 : Int) <= (n : Int)) = true := by simp; omega
 have d2 : decide ((n : Int) <= 8) = true := by simp; omega
 simp (disch := omega) only [eY, aS, acL, fU, d1, dX, fE, fC, if_true, eZ, fV, d2, eH]
 refine (Xg h hl (by omega)).mono ?_
 rintro r w1 ⟨hb, hat, hr, x1⟩
 obtain ⟨t, ht⟩ : ∃ t, t = (RI l e n).1 := ⟨_, rfl⟩
 have htl : t.length <= 8 := by
  rw [ht]; unfold RI
  split
  .simp
  .split
   .simp
   .simp; omega
 rw [<- ht] at hb ⊢
 obtain ⟨va, vc, rfl, hvc⟩ := hb.len
 rw [acR] at hb hvc hat
 simp (disch := omega) only [acR, eA, dX]
 unfold rB rC
 refine kJ.rule (fun m s w' => ∃ i : Nat, m = t.length - i /\ i <= t.length /\ s = (.int .u64 (FT (t.take i) : Nat), .int .i64 i) /\ w' = w1) t.length ⟨0, rfl, by omega, rfl, rfl⟩ ?_
 rintro m s w2 ⟨i, rfl, hi, rfl, hw⟩
 rw [hw]; clear hw w2
 unfold nQ
 by_cases hlt : i < t.length
 .have d3 : decide ((i : Int) < (t.length : Int)) = true := by simp; omega
  obtain ⟨c, hc⟩ : ∃ c, c = t[i]'hlt := ⟨_, rfl⟩
  have htk : t.take (i + 1) = t.take i ++ [c] := by rw [agI, acS hlt, <- hc] <;> rfl
  have hor := Yp (t.take i) c
  rw [<- htk, adE, adW (by omega)] at hor
  have hcl : c.toNat < 256 := UInt8.toNat_lt c
  obtain ⟨b, off, c', hv, hcc, hcell⟩ := hb.openV (by rw [acR]; omega)
  have g1 := hcell i (by rw [acR]; exact hlt)
  rw [acR] at hv
  cases hv
  rw [agP, <- hc] at g1
  simp only [pG] at g1
  generalize c.toNat = cx at *
  have hp : 2 ^ (8 * i) <= 2 ^ 56 := agZ (by omega) (by omega)
  have hm : cx * 2 ^ (8 * i) <= 255 * 2 ^ 56 := Nat.mul_le_mul (by omega) hp
  have hb0 := HG (t.take i)
  have hb1 := HG (t.take (i + 1))
  rw [adE, adW (by omega)] at hb0 hb1
  have hq : 256 ^ i <= 256 ^ 7 := agZ (by omega) (by omega)
  have e0 : ((8 : Int) * (i : Int)) = ((8 * i : Nat) : Int) := by omega
  have e5 : IntKind.u64.wrap ((cx : Int) * 2 ^ (min (8 * i) IntKind.u64.bits)) = ((cx * 2 ^ (8 * i) : Nat) : Int) := by
   rw [show min (8 * i) IntKind.u64.bits = 8 * i from adW (by have : IntKind.u64.bits = 64 := rfl
                                                              omega)]
   have e : (cx : Int) * 2 ^ (8 * i) = ((cx * 2 ^ (8 * i) : Nat) : Int) := by simp
   rw [e]
   exact fJ (by omega) (by omega)
  have e6 := XU (a := FT (t.take i)) (b := cx * 2 ^ (8 * i)) (by omega) (by omega)
  rw [hor] at e6
  have e7 : IntKind.u64.wrap (cx : Int) = (cx : Int) := fJ (by omega) (by omega)
  simp (disch := omega) only [eY, fL, d3, eB, acM, fN, e0, fI, fO, dX, dZ, fJ, eS, g1, eP, cM, e7, fT, e5, gQ, e6, and_true, eQ]
  exact ⟨t.length - (i + 1), by omega, i + 1, rfl, by omega, rfl⟩
 .have d3 : decide ((i : Int) < (t.length : Int)) = false := by simp; omega
  obtain rfl : i = t.length := by omega
  simp (disch := omega) only [eY, fL, d3, fN, fI, fO, dX, dZ, fJ, eH]
  unfold nV
  rw [List.take_length]
  exact ⟨rfl, hr, x1⟩
end Go.Proofs.YteelnmpbnaohpaaDoor
namespace Go.Pu
open Go Go.En
structure abC (B : List Bool) (l : List UInt8) : Prop where
 len : l.length = (B.length + 7) / 8
 bits : YV l = B ++ List.replicate (8 * l.length - B.length) false
end Go.Pu
namespace Go.Proofs.YteelnmpbnaohpaaDoor
open Go Go.En Go.Pu
set_option maxRecDepth 4000
theorem wM {w w' : ahA} {S M : Nat -> Prop} {sz n : Nat} {v : ahB} {l : List ahB} (h : Jv w S sz v n l) (hx : gV w w' M) (hM : ∀ b, S b -> ¬ M b) : Jv w' S sz v n l := by
 refine ⟨h.1, ?_⟩
 rcases h.2 with h2 | ⟨b, c, rest, h1, h2, h3, h4, h5⟩
 .exact .inl h2
 .exact .inr ⟨b, c, rest, h1, h2, h3.ext hx (hM b h2), h4, h5⟩
def Wr (w : ahA) (lo p : Nat) (B : List Bool) : Prop := lo <= p /\ ∃ v bytes, jI w p [v, .int .i64 B.length] /\ Jv w (fun b => lo <= b /\ b ≠ p) 1 v bytes.length (bytes.map pG) /\ abC B bytes
theorem Wr.ext {w w' : ahA} {lo p : Nat} {B : List Bool} {M : Nat -> Prop} (h : Wr w lo p B) (hx : gV w w' M) (hM : ∀ b, lo <= b -> ¬ M b) : Wr w' lo p B := by
 obtain ⟨h0, v, bytes, h1, h2, h3⟩ := h
 exact ⟨h0, v, bytes, h1.ext hx (hM _ h0), wM h2 hx fun b hb => hM b hb.1, h3⟩
def Cw (w : ahA) (p : Nat) (S : Nat -> Prop) (l : List UInt8) : Prop := ¬ S p /\ ∃ v, jI w p [v] /\ Jv w S 1 v l.length (l.map pG)
theorem Cw.ext {w w' : ahA} {p : Nat} {S M : Nat -> Prop} {l : List UInt8} (h : Cw w p S l) (x : gV w w' M) (hp : ¬ M p) (hM : ∀ b, S b -> ¬ M b) : Cw w' p S l := by
 obtain ⟨h0, v, h1, h2⟩ := h
 exact ⟨h0, v, h1.ext x hp, wM h2 x hM⟩
theorem Cw.lt {w : ahA} {p : Nat} {S : Nat -> Prop} {l : List UInt8} (h : Cw w p S l) : p < w.heap.size := by
 obtain ⟨_, v, h1, _⟩ := h; exact h1.lt
theorem Cw.turn {w : ahA} {p : Nat} {S T : Nat -> Prop} {l : List UInt8} (h : Cw w p S l) (hT : ∀ b, S b -> b < w.heap.size -> T b) (hp : ¬ T p) : Cw w p T l := by
 obtain ⟨h0, v, h1, h2, h3⟩ := h
 refine ⟨hp, v, h1, h2, ?_⟩
 rcases h3 with h3 | ⟨b, c, rest, g1, g2, g3, g4, g5⟩
 .exact .inl h3
 .exact .inr ⟨b, c, rest, g1, hT b g2 g3.lt, g3, g4, g5⟩
theorem Ez {w : ahA} {S : Nat -> Prop} {sz n : Nat} {v : ahB} {l : List ahB} (o3 : Jv w S sz v n l) : ∃ a c, v = .slice a n c := by
 rcases o3.2 with ⟨rfl, rfl⟩ | ⟨b, c, rest, rfl, _⟩
 .exact ⟨_, _, rfl⟩
 .exact ⟨_, _, rfl⟩
theorem NB {w : ahA} {S : Nat -> Prop} {n : Nat} {v : ahB} {l : List ahB} (o3 : Jv w S 1 v n l) : Sl w v l := by
 have : Ac w 0 1 v n l := ⟨o3.1, by
  rcases o3.2 with h | ⟨b, c, rest, g1, g2, g3⟩
  .exact .inl h
  .exact .inr ⟨b, c, rest, g1, by omega, g3⟩⟩
 exact this.sl
theorem T4 (w : ahA) : gT pg sG #[] w (fun r w' => r = .pointer (some ⟨w.heap.size, 0, none⟩) /\ w.heap.size < w'.heap.size /\ Cw w' w.heap.size (fun b => w.heap.size < b) [] /\ gV w w' jN) := by
 refine Is ?_
 unfold Gh wT
 simp (disch := omega) only [eY, bS, dX]
 refine oM fun w1 o1 x1 s1 => ?_
 simp only [Value.cells] at o1
 exact ⟨rfl, by omega, ⟨by omega, _, o1, ⟨rfl, .inl ⟨rfl, rfl⟩⟩⟩, x1⟩
theorem Jk {p x n : Nat} {S : Nat -> Prop} {l : List UInt8} {w : ahA} (h : Cw w p S l) (hS : ∀ b, w.heap.size <= b -> S b) (hx : x < 2 ^ 64) (hn : 1 <= n /\ n <= 8) (hl : l.length <= 100000000) :
 gT pg lV #[.pointer (some ⟨p, 0, none⟩), .int .u64 x, .int .i64 n] w (fun r w' => r = .tuple #[] /\ Cw w' p S (l ++ BD x n) /\ gV w w' (fun y => y = p ∨ S y)) := by
 refine EF ?_
 unfold Cd rG qZ
 have d1 : decide ((n : Int) < 1) = false := by simp; omega
 have d2 : decide ((8 : Int) < (n : Int)) = false := by simp; omega
 simp (disch := omega) only [eY, aQ, acL, true_and, dX, fD, fC, acK, if_false, eZ, fL, d1, fQ, d2, eH]
 unfold rS rN
 refine kJ.rule (fun m (t : ahB) w' => ∃ i : Nat, m = n - i /\ t = .int .i64 i /\ i <= n /\ Cw w' p S (l ++ BD x i) /\ gV w w' (fun y => y = p ∨ S y)) n
  ⟨0, rfl, rfl, by omega, by rw [BD, aeJ]; exact h, gV.refl _ _⟩ ?_
 rintro m t w1 ⟨i, rfl, rfl, hi, hw, x1⟩
 unfold nS
 by_cases hlt : i < n
 .have d3 : decide ((i : Int) < (n : Int)) = true := by simp; omega
  have e0 : ((8 : Int) * (i : Int)) = ((8 * i : Nat) : Int) := by omega
  have e1 : (x : Int).fdiv (2 ^ (min (8 * i) IntKind.u64.bits)) = ((x / 256 ^ i : Nat) : Int) := by
   rw [Tb]; exact Ym x (8 * i) (by omega)
  have e2 : IntKind.u8.wrap ((x / 256 ^ i : Nat) : Int) = (((UInt8.ofNat (x / 256 ^ i % 256)).toNat : Nat) : Int) := by
   rw [afR]
   generalize x / 256 ^ i = y
   rw [show IntKind.u8.wrap (y : Int) = (y : Int) % 256 from rfl]
   omega
  obtain ⟨c, hc⟩ : ∃ c, c = UInt8.ofNat (x / 256 ^ i % 256) := ⟨_, rfl⟩
  rw [<- hc] at e2
  obtain ⟨h0, v0, o, os⟩ := hw
  obtain ⟨va, vc, rfl⟩ := Ez os
  have c0 := o.cell (off := 0)
  simp only [acI, acJ] at c0
  have lp := o.lt
  have hsz := x1.size
  have hpl := lQ i x
  rw [acT, hpl] at os
  rw [acT, hpl] at c0
  simp (disch := omega) only [eY, fL, d3, fK, fN, e0, fI, fO, dX, bL, dZ, fJ, fS, acM, e1, cL, e2, dY, c0, eP, eQ]
  refine EN (cells := #[.int .u8 c.toNat]) (by decide) (by decide) (by kernel_rfl) fun w2 o2 x2 s2 => ?_
  refine Fk (m := 1) (news := [pG c]) (i := Tryd.t5) Tryd.underlying22 Tryd.underlying22 Jl rfl rfl rfl (wM os x2 (fun _ _ h => h)) (o2.cl (off := 0) (l := [pG c]) (n := 1) rfl (fun i hi => by rw [acQ] <;> rfl)) (by simp [one, pG]) (fun b hb => hS b (by omega)) (by omega) (by rw [show Tryd.t5.bytes = 1 from rfl]; omega) (by decide) fun v3 w3 o3 x3 => ?_
  have x13 : gV w1 w3 S := (x2.mono fun _ _ h => h.elim).seq x3
  have op3 := o.ext x13 h0
  obtain ⟨a3, c3, rfl⟩ := Ez o3
  refine NL op3 rfl (by simp) fun w4 o4 x4 s4 => ?_
  simp only [adA, adN] at o4
  have x14 : gV w1 w4 (fun y => y = p ∨ S y) := (x13.mono fun y _ h => .inr h).seq (x4.mono fun y _ h => .inl h)
  refine ⟨n - (i + 1), by omega, i + 1, rfl, rfl, by omega, ⟨h0, _, o4, ?_⟩, x1.seq x14⟩
  have := wM o3 x4 (fun b hb h => h0 (h ▸ hb))
  rw [Qv, <- hc, <- adM, aeI, acT, acT, lQ]
  exact this
 .have d3 : decide ((i : Int) < (n : Int)) = false := by simp; omega
  obtain rfl : i = n := by omega
  simp (disch := omega) only [eY, fL, d3, fK, fN, fI, fO, dX, bL, dZ, fJ, fS, cL, dY, eH]
  exact ⟨hw, x1⟩
theorem So {p : Nat} {S : Nat -> Prop} {l : List UInt8} {w : ahA} (h : Cw w p S l) (hl : l.length <= 1000000000) :
 gT pg oB #[.pointer (some ⟨p, 0, none⟩)] w (fun r w' => Ac w' w.heap.size 1 r l.length (l.map pG) /\ gV w w' jN) := by
 refine HE ?_
 unfold EZ uZ
 obtain ⟨h0, v0, o, os⟩ := h
 obtain ⟨va, vc, rfl⟩ := Ez os
 have c0 := o.cell (off := 0)
 simp only [acI, acJ] at c0
 simp (disch := omega) only [eY, aQ, acL, fK, dX, bL, dY, c0, eP, eH]
 exact OJ (NB os) hl
end Go.Proofs.YteelnmpbnaohpaaDoor
namespace Go.Proofs.YteelnmpbnaohpaaDoor
open Go Go.En
set_option maxRecDepth 4000
theorem Yg (l : List UInt8) : ∀ y ∈ l.map pG, one y = true := fun y hy => by
 obtain ⟨z, -, rfl⟩ := aeE.1 hy; rfl
theorem abD {w : ahA} {a : Option Addr} {n c : Nat} {l : List ahB} (h : Sl w (.slice a n c) l) (h0 : 0 < n) : ∃ b off, a = some ⟨b, off, none⟩ /\ ∀ i, i < n -> w.cell? ⟨b, off + i, none⟩ = l[i]? := by
 obtain ⟨a', n', c', e, hn, hc, hh⟩ := h
 cases e
 exact hh h0
end Go.Proofs.YteelnmpbnaohpaaDoor
namespace Go.Proofs.YteelnmpbnaohpaaDoor
open Go Go.En Go.Pu
set_option maxRecDepth 4000
abbrev WV (k v : Nat) : ahB := .agg #[.int .u8 (k : Int), .int .u64 (v : Int)]
abbrev BN (r : Nat × Nat) : List ahB := [.int .u8 (r.1 : Int), .int .u64 (r.2 : Int)]
theorem Sy {k v : Nat} {w : ahA} (hg : qK w) (hk : k < 256) (hv : v < 2 ^ 64) :
 gT pg Az #[WV k v] w (fun r w' => (if k = 1 ∨ k = 2 then ∃ b, r = .tuple #[b, .int .i64 0] /\ Ac w' w.heap.size 1 b 13 ((rT iA k v).map pG) else r = .tuple #[.slice none 0 0, .int .i64 1]) /\ gV w w' jN) := by
 refine OD ?_
 obtain ⟨RR, hRR⟩ : ∃ RR : ahB -> ahA -> Prop, RR = fun r w' => (if k = 1 ∨ k = 2 then ∃ b, r = .tuple #[b, .int .i64 0] /\ Ac w' w.heap.size 1 b 13 ((rT iA k v).map pG) else r = .tuple #[.slice none 0 0, .int .i64 1]) /\ gV w w' jN := ⟨_, rfl⟩
 rw [<- hRR]
 unfold O9 FM
 refine oM fun w1 o1 x1 s1 => ?_
 have o1 : jI w1 w.heap.size (BN (k, v)) := o1
 have c0 := o1.cell (off := 0)
 have c1 := o1.cell (off := 1)
 simp only [acI, acJ] at c0 c1
 by_cases h1 : k < 1
 .have d1 : decide ((k : Int) < 1) = true := by simp; omega
  simp (disch := omega) only [eY, gN, dX, stepR_skip, fO, fW, fN, fZ, fX, fY, gQ, gG, eT, fT, fS, gE, fR, fL, fV, fQ, fU, gB, gC, fP, fC, gI, gA, fK, iR, iO, iP, iU, iM, iS, iQ, iT, iN, eP, Result.ok.injEq, Next.value.injEq, true_and, and_true, fI, fJ, gH, fM, gD, gR, acM, fE, fF, fG, fD, eZ, eU, fB, eX, eQ, eH, if_true, if_false, acK, acQ, acL, acN, acP, acO, acJ, acI, eA, dV, aB, dM, dO, cB, eB, eS, eE, dK, eF, fA, dJ, eJ, bP, dS, bE, dN, aL, aH, eL, aX, cI, eM, aE, eN, dE, aR, bF, eD, bB, bC, bJ, aO, aI, cF, fH, dY, cJ, cC, dA, cH, dT, bD, eK, bT, dF, bR, aT, bV, aC, bY, bQ, cA, bX, aY, aU, bA, bU, dL, cP, bO, aV, aJ, aM, bG, aF, dC, dW, aK, aN, aZ, aG, cY, aD, cL, bW, bH, aP, cM, bZ, aA, dD, cO, cU, cG, dI, cD, dG, dU, cQ, eC, eI, bN, aS, dZ, bS, aQ, bL, dH, cZ, cV, cN, cS, bK, bM, cX, dR, cR, dQ, dB, c0, d1]
  rw [hRR]
  refine ⟨?_, x1⟩
  rw [if_neg (by omega)]
 have d1 : decide ((k : Int) < 1) = false := by simp; omega
 by_cases h2 : 2 < k
 .have d2 : decide ((2 : Int) < (k : Int)) = true := by simp; omega
  simp (disch := omega) only [eY, gN, dX, stepR_skip, fO, fW, fN, fZ, fX, fY, gQ, gG, eT, fT, fS, gE, fR, fL, fV, fQ, fU, gB, gC, fP, fC, gI, gA, fK, iR, iO, iP, iU, iM, iS, iQ, iT, iN, eP, Result.ok.injEq, Next.value.injEq, true_and, and_true, fI, fJ, gH, fM, gD, gR, acM, fE, fF, fG, fD, eZ, eU, fB, eX, eQ, eH, if_true, if_false, acK, acQ, acL, acN, acP, acO, acJ, acI, eA, dV, aB, dM, dO, cB, eB, eS, eE, dK, eF, fA, dJ, eJ, bP, dS, bE, dN, aL, aH, eL, aX, cI, eM, aE, eN, dE, aR, bF, eD, bB, bC, bJ, aO, aI, cF, fH, dY, cJ, cC, dA, cH, dT, bD, eK, bT, dF, bR, aT, bV, aC, bY, bQ, cA, bX, aY, aU, bA, bU, dL, cP, bO, aV, aJ, aM, bG, aF, dC, dW, aK, aN, aZ, aG, cY, aD, cL, bW, bH, aP, cM, bZ, aA, dD, cO, cU, cG, dI, cD, dG, dU, cQ, eC, eI, bN, aS, dZ, bS, aQ, bL, dH, cZ, cV, cN, cS, bK, bM, cX, dR, cR, dQ, dB, c0, d1, d2]
  rw [hRR]
  refine ⟨?_, x1⟩
  rw [if_neg (by omega)]
 have d2 : decide ((2 : Int) < (k : Int)) = false := by simp; omega
 have e1 : IntKind.u64.wrap (k : Int) = (k : Int) := fJ (by omega) (by omega)
 simp (disch := omega) only [eY, gN, dX, stepR_skip, fO, fW, fN, fZ, fX, fY, gQ, gG, eT, fT, fS, gE, fR, fL, fV, fQ, fU, gB, gC, fP, fC, gI, gA, fK, iR, iO, iP, iU, iM, iS, iQ, iT, iN, eP, Result.ok.injEq, Next.value.injEq, true_and, and_true, fI, fJ, gH, fM, gD, gR, acM, fE, fF, fG, fD, eZ, eU, fB, eX, eQ, eH, if_true, if_false, acK, acQ, acL, acN, acP, acO, acJ, acI, eA, dV, aB, dM, dO, cB, eB, eS, eE, dK, eF, fA, dJ, eJ, bP, dS, bE, dN, aL, aH, eL, aX, cI, eM, aE, eN, dE, aR, bF, eD, bB, bC, bJ, aO, aI, cF, fH, dY, cJ, cC, dA, cH, dT, bD, eK, bT, dF, bR, aT, bV, aC, bY, bQ, cA, bX, aY, aU, bA, bU, dL, cP, bO, aV, aJ, aM, bG, aF, dC, dW, aK, aN, aZ, aG, cY, aD, cL, bW, bH, aP, cM, bZ, aA, dD, cO, cU, cG, dI, cD, dG, dU, cQ, eC, eI, bN, aS, dZ, bS, aQ, bL, dH, cZ, cV, cN, cS, bK, bM, cX, dR, cR, dQ, dB, c0, d1, d2]
 refine (T4 w1).mono ?_
 rintro r w2 ⟨rfl, s2, h2', x2⟩
 have p2 : w2.cell? ⟨w.heap.size, 0, none⟩ = _ := (o1.ext x2 (fun h => h)).cell (off := 0)
 simp only [acI, acJ] at p2
 simp (disch := omega) only [eY, gN, dX, stepR_skip, fO, fW, fN, fZ, fX, fY, gQ, gG, eT, fT, fS, gE, fR, fL, fV, fQ, fU, gB, gC, fP, fC, gI, gA, fK, iR, iO, iP, iU, iM, iS, iQ, iT, iN, eP, Result.ok.injEq, Next.value.injEq, true_and, and_true, fI, fJ, gH, fM, gD, gR, acM, fE, fF, fG, fD, eZ, eU, fB, eX, eQ, eH, if_true, if_false, acK, acQ, acL, acN, acP, acO, acJ, acI, eA, dV, aB, dM, dO, cB, eB, eS, eE, dK, eF, fA, dJ, eJ, bP, dS, bE, dN, aL, aH, eL, aX, cI, eM, aE, eN, dE, aR, bF, eD, bB, bC, bJ, aO, aI, cF, fH, dY, cJ, cC, dA, cH, dT, bD, eK, bT, dF, bR, aT, bV, aC, bY, bQ, cA, bX, aY, aU, bA, bU, dL, cP, bO, aV, aJ, aM, bG, aF, dC, dW, aK, aN, aZ, aG, cY, aD, cL, bW, bH, aP, cM, bZ, aA, dD, cO, cU, cG, dI, cD, dG, dU, cQ, eC, eI, bN, aS, dZ, bS, aQ, bL, dH, cZ, cV, cN, cS, bK, bM, cX, dR, cR, dQ, dB, p2, e1]
 refine (Jk (x := k) (n := 1) h2' (fun b hb => by omega) (by omega) ⟨by omega, by omega⟩ (by simp)).mono ?_
 rintro r w3 ⟨rfl, h3, x3⟩
 have z3 := x3.size
 have o3 := (o1.ext x2 (fun h => h)).ext x3 (by omega)
 have p3 := o3.cell (off := 1)
 simp only [acI, acJ] at p3
 simp (disch := omega) only [eY, gN, dX, stepR_skip, fO, fW, fN, fZ, fX, fY, gQ, gG, eT, fT, fS, gE, fR, fL, fV, fQ, fU, gB, gC, fP, fC, gI, gA, fK, iR, iO, iP, iU, iM, iS, iQ, iT, iN, eP, Result.ok.injEq, Next.value.injEq, true_and, and_true, fI, fJ, gH, fM, gD, gR, acM, fE, fF, fG, fD, eZ, eU, fB, eX, eQ, eH, if_true, if_false, acK, acQ, acL, acN, acP, acO, acJ, acI, eA, dV, aB, dM, dO, cB, eB, eS, eE, dK, eF, fA, dJ, eJ, bP, dS, bE, dN, aL, aH, eL, aX, cI, eM, aE, eN, dE, aR, bF, eD, bB, bC, bJ, aO, aI, cF, fH, dY, cJ, cC, dA, cH, dT, bD, eK, bT, dF, bR, aT, bV, aC, bY, bQ, cA, bX, aY, aU, bA, bU, dL, cP, bO, aV, aJ, aM, bG, aF, dC, dW, aK, aN, aZ, aG, cY, aD, cL, bW, bH, aP, cM, bZ, aA, dD, cO, cU, cG, dI, cD, dG, dU, cQ, eC, eI, bN, aS, dZ, bS, aQ, bL, dH, cZ, cV, cN, cS, bK, bM, cX, dR, cR, dQ, dB, p3]
 refine (Jk (x := v) (n := 8) h3 (fun b hb => by omega) hv ⟨by omega, by omega⟩ (by simp [lQ])).mono ?_
 rintro r w4 ⟨rfl, h4, x4⟩
 have z4 := x4.size
 have hH : [] ++ BD k 1 ++ BD v 8 = LC k v := rfl
 rw [hH] at h4
 have hHl : (LC k v).length = 9 := by unfold LC; rw [acT, lQ, lQ]
 have x14 : gV w1 w4 jN := (x2.trans x3 fun y hy h => by omega).trans x4 fun y hy h => by omega
 refine (So h4 (by omega)).mono ?_
 rintro r w5 ⟨ho5, x5⟩
 refine (Yo (l := LC k v) (hg.ext ((x1.seq x14).seq x5)) ho5.sl (by omega)).mono ?_
 rintro r w6 ⟨rfl, x6⟩
 have hcr := Yy (LC k v)
 have hM : uF = 4294967296 := rfl
 have e2 : IntKind.u64.wrap ((iA (LC k v) : Nat) : Int) = ((iA (LC k v) : Nat) : Int) := fJ (by omega) (by omega)
 have h6 := (h4.ext x5 (fun h => h) (fun _ _ h => h)).ext x6 (fun h => h) (fun _ _ h => h)
 have z5 := x5.size
 have z6 := x6.size
 simp (disch := omega) only [eY, gN, dX, stepR_skip, fO, fW, fN, fZ, fX, fY, gQ, gG, eT, fT, fS, gE, fR, fL, fV, fQ, fU, gB, gC, fP, fC, gI, gA, fK, iR, iO, iP, iU, iM, iS, iQ, iT, iN, eP, Result.ok.injEq, Next.value.injEq, true_and, and_true, fI, fJ, gH, fM, gD, gR, acM, fE, fF, fG, fD, eZ, eU, fB, eX, eQ, eH, if_true, if_false, acK, acQ, acL, acN, acP, acO, acJ, acI, eA, dV, aB, dM, dO, cB, eB, eS, eE, dK, eF, fA, dJ, eJ, bP, dS, bE, dN, aL, aH, eL, aX, cI, eM, aE, eN, dE, aR, bF, eD, bB, bC, bJ, aO, aI, cF, fH, dY, cJ, cC, dA, cH, dT, bD, eK, bT, dF, bR, aT, bV, aC, bY, bQ, cA, bX, aY, aU, bA, bU, dL, cP, bO, aV, aJ, aM, bG, aF, dC, dW, aK, aN, aZ, aG, cY, aD, cL, bW, bH, aP, cM, bZ, aA, dD, cO, cU, cG, dI, cD, dG, dU, cQ, eC, eI, bN, aS, dZ, bS, aQ, bL, dH, cZ, cV, cN, cS, bK, bM, cX, dR, cR, dQ, dB, e2]
 refine (Jk (x := iA (LC k v)) (n := 4) h6 (fun b hb => by omega) (by omega) ⟨by omega, by omega⟩ (by omega)).mono ?_
 rintro r w7 ⟨rfl, h7, x7⟩
 have z7 := x7.size
 have hR : LC k v ++ BD (iA (LC k v)) 4 = rT iA k v := rfl
 rw [hR] at h7
 have h13 := nJ iA k v
 refine (So h7 (by omega)).mono ?_
 rintro r w8 ⟨ho8, x8⟩
 have x17 : gV w1 w7 jN := ((x14.seq x5).seq x6).trans x7 fun y hy h => by omega
 rw [h13] at ho8
 rw [hRR]
 refine ⟨?_, (x1.seq x17).seq x8⟩
 rw [if_pos (by omega)]
 refine ⟨r, rfl, ho8.1, ?_⟩
 rcases ho8.2 with h | ⟨b, c, rest, g1, g2, g3⟩
 .exact .inl h
 .exact .inr ⟨b, c, rest, g1, by have := x1.size; have := x17.size; omega, g3⟩
theorem Ti {k : Nat} {l : List (Nat × Nat)} {i : Nat} (h : i < l.length) : jY k (l.take (i + 1)) = if l[i].1 = k then max l[i].2 (jY k (l.take i)) else jY k (l.take i) := by
 rw [aeS h, Hr]
theorem QP {l : List (Nat × Nat)} {i : Nat} (h : i < l.length) : ((l.flatMap BN).drop (i * 2)).take 2 = BN l[i] := by
 induction l generalizing i with
 | nil => simp at h
 | cons a l ih =>
   cases i with
   | zero => rfl
   | succ i =>
     rw [agJ, show (i + 1) * 2 = 2 + i * 2 from by omega, <- afV]
     have : ((BN a ++ l.flatMap BN).drop 2) = l.flatMap BN := rfl
     rw [this, ih (by simpa using h)] <;> rfl
theorem MU (l : List (Nat × Nat)) : (l.flatMap BN).length = l.length * 2 := by
 induction l with
 | nil => rfl
 | cons a l ih =>
   rw [agJ, acT, ih, adP]
   simp only [adP, aeN]; omega
theorem Vd {v : ahB} {l : List (Nat × Nat)} {k : Nat} {w : ahA} (hv : ∃ S, Jv w S 2 v l.length (l.flatMap BN)) (hl : l.length <= 100000000) (ho : ∀ r ∈ l, r.1 < 256 /\ r.2 < 2 ^ 64) (hk : k < 256) :
 gT pg BV #[v, .int .u8 (k : Nat)] w (fun r w' => (∃ t, r = .tuple #[.int .u64 (jY k l : Nat), .bool t]) /\ gV w w' jN) := by
 refine Nt ?_
 obtain ⟨S, hs⟩ := hv
 unfold NQ CL CI Dr Dx EB El DA
 obtain ⟨a, c, rfl⟩ := Ez hs
 simp (disch := omega) only [eY, gN, dX, stepR_skip, fO, fW, fN, fZ, fX, fY, gQ, gG, eT, fT, fS, gE, fR, fL, fV, fQ, fU, gB, gC, fP, fC, gI, gA, fK, iR, iO, iP, iU, iM, iS, iQ, iT, iN, eP, Result.ok.injEq, Next.value.injEq, true_and, and_true, fI, fJ, gH, fM, gD, gR, acM, fE, fF, fG, fD, eZ, eU, fB, eX, eQ, eH, if_true, if_false, acK, acQ, acL, acN, acP, acO, acJ, acI, eA, dV, aB, dM, dO, cB, eB, eS, eE, dK, eF, fA, dJ, eJ, bP, dS, bE, dN, aL, aH, eL, aX, cI, eM, aE, eN, dE, aR, bF, eD, bB, bC, bJ, aO, aI, cF, fH, dY, cJ, cC, dA, cH, dT, bD, eK, bT, dF, bR, aT, bV, aC, bY, bQ, cA, bX, aY, aU, bA, bU, dL, cP, bO, aV, aJ, aM, bG, aF, dC, dW, aK, aN, aZ, aG, cY, aD, cL, bW, bH, aP, cM, bZ, aA, dD, cO, cU, cG, dI, cD, dG, dU, cQ, eC, eI, bN, aS, dZ, bS, aQ, bL, dH, cZ, cV, cN, cS, bK, bM, cX, dR, cR, dQ, dB]
 refine kJ.rule (fun m (t : ahB × ahB × ahB) w' => ∃ (i : Nat) (tb : Bool), m = l.length - i /\ i <= l.length /\ t = (.int .u64 (jY k (l.take i) : Nat), .bool tb, .int .i64 (i : Nat)) /\ gV w w' jN) l.length ⟨0, false, rfl, by omega, rfl, gV.refl _ _⟩ ?_
 rintro m t w1 ⟨i, tb, rfl, hi, rfl, x1⟩
 unfold AX EA
 by_cases hlt : i < l.length
 .have d1 : decide ((i : Int) < (l.length : Int)) = true := by simp; omega
  obtain ⟨h1, h2⟩ := ho _ (aeX hlt)
  rcases (hs.ext x1 (fun _ _ h => h)).2 with ⟨_, h0⟩ | ⟨b, c', rest, hv, hb, ob, hbl, hbc⟩
  .omega
  cases hv
  have l1 := tS (off := i * 2) ob (by rw [acT, MU]; omega)
  rw [adS (by rw [MU]; omega), adL (by rw [adB, MU]; omega), QP hlt] at l1
  have hlast := Ti (k := k) hlt
  obtain ⟨M, hM⟩ : ∃ M, M = jY k (l.take i) := ⟨_, rfl⟩
  rw [<- hM] at hlast ⊢
  simp (disch := omega) only [eY, gN, dX, stepR_skip, fO, fW, fN, fZ, fX, fY, gQ, gG, eT, fT, fS, gE, fR, fL, fV, fQ, fU, gB, gC, fP, fC, gI, gA, fK, iR, iO, iP, iU, iM, iS, iQ, iT, iN, eP, Result.ok.injEq, Next.value.injEq, true_and, and_true, fI, fJ, gH, fM, gD, gR, acM, fE, fF, fG, fD, eZ, eU, fB, eX, eQ, eH, if_true, if_false, acK, acQ, acL, acN, acP, acO, acJ, acI, eA, dV, aB, dM, dO, cB, eB, eS, eE, dK, eF, fA, dJ, eJ, bP, dS, bE, dN, aL, aH, eL, aX, cI, eM, aE, eN, dE, aR, bF, eD, bB, bC, bJ, aO, aI, cF, fH, dY, cJ, cC, dA, cH, dT, bD, eK, bT, dF, bR, aT, bV, aC, bY, bQ, cA, bX, aY, aU, bA, bU, dL, cP, bO, aV, aJ, aM, bG, aF, dC, dW, aK, aN, aZ, aG, cY, aD, cL, bW, bH, aP, cM, bZ, aA, dD, cO, cU, cG, dI, cD, dG, dU, cQ, eC, eI, bN, aS, dZ, bS, aQ, bL, dH, cZ, cV, cN, cS, bK, bM, cX, dR, cR, dQ, dB, d1, l1]
  refine BG fun w2 o2 x2 s2 => ?_
  refine AM o2 rfl (by simp [one]) (by decide) fun w3 o3 x3 s3 => ?_
  have x13 : gV w w3 jN := (x1.seq x2).trans x3 fun y hy h => by have := x1.size; omega
  have o3 : jI w3 w1.heap.size (BN l[i]) := o3
  have c0 := o3.cell (off := 0)
  have c1 := o3.cell (off := 1)
  simp only [acI, acJ] at c0 c1
  have e3 : (if (((l[i]'hlt).2 : Nat) : Int) > (M : Int) then (((l[i]'hlt).2 : Nat) : Int) else (M : Int)) = ((max (l[i]'hlt).2 M : Nat) : Int) := by split <;> omega
  by_cases hq : (l[i]'hlt).1 = k
  .have n1 : ((((l[i]'hlt).1 : Nat) : Int) == (k : Int)) = true := by rw [hq]; simp
   rw [if_pos hq] at hlast
   unfold uM
   simp (disch := omega) only [eY, gN, dX, stepR_skip, fO, fW, fN, fZ, fX, fY, gQ, gG, eT, fT, fS, gE, fR, fL, fV, fQ, fU, gB, gC, fP, fC, gI, gA, fK, iR, iO, iP, iU, iM, iS, iQ, iT, iN, eP, Result.ok.injEq, Next.value.injEq, true_and, and_true, fI, fJ, gH, fM, gD, gR, acM, fE, fF, fG, fD, eZ, eU, fB, eX, eQ, eH, if_true, if_false, acK, acQ, acL, acN, acP, acO, acJ, acI, eA, dV, aB, dM, dO, cB, eB, eS, eE, dK, eF, fA, dJ, eJ, bP, dS, bE, dN, aL, aH, eL, aX, cI, eM, aE, eN, dE, aR, bF, eD, bB, bC, bJ, aO, aI, cF, fH, dY, cJ, cC, dA, cH, dT, bD, eK, bT, dF, bR, aT, bV, aC, bY, bQ, cA, bX, aY, aU, bA, bU, dL, cP, bO, aV, aJ, aM, bG, aF, dC, dW, aK, aN, aZ, aG, cY, aD, cL, bW, bH, aP, cM, bZ, aA, dD, cO, cU, cG, dI, cD, dG, dU, cQ, eC, eI, bN, aS, dZ, bS, aQ, bL, dH, cZ, cV, cN, cS, bK, bM, cX, dR, cR, dQ, dB, c0, c1, n1, e3]
   exact ⟨l.length - (i + 1), by omega, i + 1, true, rfl, by omega, by rw [hlast] <;> rfl, x13⟩
  .have n1 : ((((l[i]'hlt).1 : Nat) : Int) == (k : Int)) = false := by rw [beq_eq_false_iff_ne]; omega
   rw [if_neg hq] at hlast
   unfold uM
   simp (disch := omega) only [eY, gN, dX, stepR_skip, fO, fW, fN, fZ, fX, fY, gQ, gG, eT, fT, fS, gE, fR, fL, fV, fQ, fU, gB, gC, fP, fC, gI, gA, fK, iR, iO, iP, iU, iM, iS, iQ, iT, iN, eP, Result.ok.injEq, Next.value.injEq, true_and, and_true, fI, fJ, gH, fM, gD, gR, acM, fE, fF, fG, fD, eZ, eU, fB, eX, eQ, eH, if_true, if_false, acK, acQ, acL, acN, acP, acO, acJ, acI, eA, dV, aB, dM, dO, cB, eB, eS, eE, dK, eF, fA, dJ, eJ, bP, dS, bE, dN, aL, aH, eL, aX, cI, eM, aE, eN, dE, aR, bF, eD, bB, bC, bJ, aO, aI, cF, fH, dY, cJ, cC, dA, cH, dT, bD, eK, bT, dF, bR, aT, bV, aC, bY, bQ, cA, bX, aY, aU, bA, bU, dL, cP, bO, aV, aJ, aM, bG, aF, dC, dW, aK, aN, aZ, aG, cY, aD, cL, bW, bH, aP, cM, bZ, aA, dD, cO, cU, cG, dI, cD, dG, dU, cQ, eC, eI, bN, aS, dZ, bS, aQ, bL, dH, cZ, cV, cN, cS, bK, bM, cX, dR, cR, dQ, dB, c0, c1, n1, e3]
   exact ⟨l.length - (i + 1), by omega, i + 1, tb, rfl, by omega, by rw [hlast] <;> rfl, x13⟩
 .have d1 : decide ((i : Int) < (l.length : Int)) = false := by simp; omega
  unfold AT
  rw [acX (by omega)]
  simp (disch := omega) only [eY, gN, dX, stepR_skip, fO, fW, fN, fZ, fX, fY, gQ, gG, eT, fT, fS, gE, fR, fL, fV, fQ, fU, gB, gC, fP, fC, gI, gA, fK, iR, iO, iP, iU, iM, iS, iQ, iT, iN, eP, Result.ok.injEq, Next.value.injEq, true_and, and_true, fI, fJ, gH, fM, gD, gR, acM, fE, fF, fG, fD, eZ, eU, fB, eX, eQ, eH, if_true, if_false, acK, acQ, acL, acN, acP, acO, acJ, acI, eA, dV, aB, dM, dO, cB, eB, eS, eE, dK, eF, fA, dJ, eJ, bP, dS, bE, dN, aL, aH, eL, aX, cI, eM, aE, eN, dE, aR, bF, eD, bB, bC, bJ, aO, aI, cF, fH, dY, cJ, cC, dA, cH, dT, bD, eK, bT, dF, bR, aT, bV, aC, bY, bQ, cA, bX, aY, aU, bA, bU, dL, cP, bO, aV, aJ, aM, bG, aF, dC, dW, aK, aN, aZ, aG, cY, aD, cL, bW, bH, aP, cM, bZ, aA, dD, cO, cU, cG, dI, cD, dG, dU, cQ, eC, eI, bN, aS, dZ, bS, aQ, bL, dH, cZ, cV, cN, cS, bK, bM, cX, dR, cR, dQ, dB, d1]
  exact ⟨⟨tb, rfl⟩, x1⟩
theorem Xy {v : ahB} {l : List UInt8} {w : ahA} (hg : qK w) (hv : Bs w v l) (hl : l.length <= 100000000) :
 gT pg xI #[v] w (fun r w' => r = .agg ((gU l).map pG).toArray /\ gV w w' jN) := by
 refine Ns ?_
 unfold Oj Dy
 refine GU fun w1 o1 x1 s1 => ?_
 have o1 : jI w1 w.heap.size (List.replicate 32 (.int .u8 0)) := o1
 refine EN (cells := #[.int .u8 0]) (by decide) (by decide) (by kernel_rfl) fun w2 o2 x2 s2 => ?_
 have o2 : jI w2 w1.heap.size [.int .u8 0] := o2
 have hos : Ac w2 w1.heap.size 1 (.slice (some ⟨w1.heap.size, 0, none⟩) 1 1) 1 [.int .u8 0] := ⟨rfl, .inr ⟨_, 1, [], rfl, acY _, o2, rfl, acY _⟩⟩
 have hcl := (hv.ext (x1.seq x2) (jG _)).cl
 rw [acR] at hcl
 refine Cq hos hcl (Yg _) (by omega) (by omega) fun v3 w3 o3 x3 => ?_
 have o3 : Ac w3 w1.heap.size 1 v3 (1 + l.length) ((0 :: l).map pG) := o3
 have z3 := x3.size
 have x03 : gV w w3 jN := (x1.seq x2).trans x3 fun y hy h => by omega
 have z0 : w1.heap.size = w.heap.size + 1 := s1
 refine (Yr (l := 0 :: l) (hg.ext x03) o3.sl (by simp; omega)).mono ?_
 rintro r w4 ⟨rfl, x4⟩
 have r4 := ((o1.ext x2 (fun h => h)).ext x3 (by omega)).ext x4 (fun h => h)
 have hl32 : ((gU l).map pG).length = 32 := by rw [acR]; exact Aw _
 refine JH r4 (by rw [afI]; exact hl32) (fun y hy => Fq _ y (by simpa using hy)) (by simp) fun w5 o5 x5 s5 => ?_
 rw [aeC, Hf _ _ (by rw [acR, Aw]; simp)] at o5
 refine JK o5 (by rw [acR]; have := Aw (0 :: l); omega) ?_
 rw [aeZ, acX (by rw [acR]; have := Aw (0 :: l); omega)]
 exact ⟨rfl, (x03.seq x4).trans x5 fun y hy h => by omega⟩
end Go.Proofs.YteelnmpbnaohpaaDoor
namespace Go.En
open Go
section
variable {P : Program}
theorem Sn {a : Array ahB} {t x : Nat} {v : ahB} (h : t < a.size) : KB (a.setIfInBounds t v) x = if x = t then v else KB a x := by
 unfold KB
 rw [acW, acW]
 by_cases hx : x = t
 .subst hx; rw [adF h, if_pos rfl] <;> rfl
 .rw [adG (fun e => hx e.symm), if_neg hx]
theorem Vu {N x : Nat} {g : Env} (h : x < N) : KB (tmpsOf N g) x = g x := by
 unfold KB tmpsOf
 rw [acW, adD (by simpa using h)]
 simp
theorem Yb {f : FuncId} {fn : Func} (hf : P.funcs[f]? = some fn) (hb : fn.body.isSome = true) (hn : (fn.name == "runtime.NumGoroutine") = false) (cap : Array ahB) (args : List ahB) (w : ahA) :
 (zL (.func (.func f) #[] cap) args).run P w = .ok (.enter f (args.toArray ++ cap)) w := by
 unfold zL Deferred.ofValue
 simp only [pure_bind, invoke, Array.empty_append]
 exact Hu hf hb hn _ _
def Pr (r : Loop) (args : List ahB) : Array ahB := (r.params.zip args.toArray).foldl (fun tmps (t, a) => tmps.setIfInBounds t a) r.tmps
theorem Yw {r : Loop} {a : Tmp} {t : Array ahB} (hp : r.params = #[a]) (ht : r.tmps = t) (x : ahB) : Pr r [x] = t.setIfInBounds a x := by
 unfold Pr; rw [hp, ht]; simp
theorem Ub {l : Nat} {r : Loop} {args : List ahB} {w : ahA} (h : w.heap[l]? = some (.loop r)) (hs : args.length = r.params.size) :
 (zL (Du l) args).run P w = .ok (.round l r.fn (Pr r args) r.assign r.body) w := by
 unfold zL Du Deferred.ofValue
 simp only [pure_bind, invoke, Array.empty_append]
 exact run_yield h (by simpa using hs)
theorem Xh {f fi : FuncId} {fn : Func} {gf : Operand} {ps : Array Tmp} {acH bd : Code} {Q : Exit -> Env -> ahA -> Prop} {g : Env} {w : ahA} {cap : Array ahB}
 (hm : noMark (g DS) = true) (he : ev g gf = .func (.func fi) #[] cap) (hf : P.funcs[fi]? = some fn) (hb : fn.body.isSome = true) (hn : (fn.name == "runtime.NumGoroutine") = false)
 (h : gT P fi (#[Du (w.heap.size + 1)] ++ cap) (VT f (MZ P f) ps acH bd g w) fun _ w3 => XD (w.heap.size + 1) Q (put g (some DS) (.pointer (some ⟨w.heap.size, 0, none⟩))) w3) :
 RF P f gf ps acH bd Q g w := by
 unfold RF
 rw [hm]
 simp only
 rw [he, Yb hf hb hn]
 exact h
theorem gV.putObj (w : ahA) (l : Nat) (o : Obj) : gV w (w.putObj l o) (fun y => y = l) :=
 ⟨rfl, rfl, rfl, by simp, fun b hb hM => World.putObj_heap_other hM⟩
theorem Cv {w w' : ahA} {l : Nat} {o : Obj} {M : Nat -> Prop} (h : w.heap[l]? = some o) (hx : gV w w' M) (hM : ¬ M l) : w'.heap[l]? = some o := by
 have : l < w.heap.size := by
  rcases aeG l w.heap.size with h' | h'
  .exact h'
  .rw [adR h'] at h; cases h
 rw [hx.keep l this hM]; exact h
theorem V9 {w : ahA} {l : Nat} {o : Obj} (h : w.heap[l]? = some o) : l < w.heap.size := by
 rcases aeG l w.heap.size with h' | h'
 .exact h'
 .rw [adR h'] at h; cases h
theorem Ve (f : FuncId) (N : Nat) (ps : Array Tmp) (acH bd : Code) (g : Env) (w : ahA) :
 gV w (VT f N ps acH bd g w) jN /\ (VT f N ps acH bd g w).heap.size = w.heap.size + 2 /\ (VT f N ps acH bd g w).heap[w.heap.size]? = some (.deferred (some [])) /\
  (VT f N ps acH bd g w).heap[w.heap.size + 1]? = some (.loop { state := .ready, pending := none, fn := f, tmps := tmpsOf N g, params := ps, assign := acH, body := bd, defers := w.heap.size }) := by
 unfold VT
 have x1 := gV.alloc w (.deferred (some [])) jN
 have h1 := World.alloc_heap_new w (.deferred (some []))
 have z1 : (w.alloc (.deferred (some []))).heap.size = w.heap.size + 1 := by simp
 generalize w.alloc (.deferred (some [])) = w1 at *
 refine ⟨x1.seq (gV.alloc w1 _ jN), by simp [z1], Cv h1 (gV.alloc w1 _ jN) (fun h => h), ?_⟩
 have := World.alloc_heap_new w1 (.loop { state := .ready, pending := none, fn := f, tmps := tmpsOf N g, params := ps, assign := acH, body := bd, defers := w.heap.size })
 rw [z1] at this
 exact this
theorem UX {l : Nat} {r : Loop} {w : ahA} {K : ahA -> Prop} (h : w.heap[l]? = some (.loop r)) (hr : r.state = .ready)
 (hk : ∀ w', w'.heap[l]? = some (.loop { r with state := .busy }) -> gV w w' (fun y => y = l) -> w'.heap.size = w.heap.size -> K w') : Rdy l w K :=
 ⟨r, h, hr, hk _ (World.putObj_heap_same (V9 h)) (gV.putObj _ _ _) (by simp)⟩
theorem OQ {l : Nat} {r : Loop} {j : Option Code} {w : ahA} {R : ahB -> ahA -> Prop} (h : w.heap[l]? = some (.loop r))
 (hk : ∀ w', w'.heap[l]? = some (.loop { r with state := jSt j, pending := j }) -> gV w w' (fun y => y = l) -> w'.heap.size = w.heap.size -> R (.bool j.isNone) w') : RY l j R w :=
 ⟨r, h, hk _ (World.putObj_heap_same (V9 h)) (gV.putObj _ _ _) (by simp)⟩
theorem Og {l : Nat} {r : Loop} {w : ahA} {Q : Exit -> Env -> ahA -> Prop} {g : Env} (h : w.heap[l]? = some (.loop r)) (hb : r.state ≠ .busy)
 (hk : ∀ w', gV w w' (fun y => y = l) -> w'.heap.size = w.heap.size -> Zq Q g r.pending w') : XD l Q g w :=
 ⟨r, h, hb, hk _ (gV.putObj _ _ _) (by simp)⟩
theorem Tt {b : Nat} {w : ahA} {K : ahA -> Prop} (h : w.heap[b]? = some (.deferred (some []))) (hk : ∀ w', gV w w' (fun y => y = b) -> w'.heap.size = w.heap.size -> K w') :
 CT (.pointer (some ⟨b, 0, none⟩)) w K := ⟨h, hk _ (gV.putObj _ _ _) (by simp)⟩
theorem Np {f : FuncId} (first captured : List ahB) (w : ahA) : (JM (.func f) first captured).run P w = .ok (.value (.func (.func f) first.toArray captured.toArray)) w := by
 unfold JM V Instr.makeFunc
 simp [Sem.run_bind, Sem.run_pure]
end
end Go.En
namespace Go.En
open Go
theorem Sj {P : Program} {w : ahA} {t e : TypeId} {k k' k'' : IntKind} {lo hi mx : Int} {i : TypeInfo} (hu : P.underlying t = some (.slice e)) (hi' : P.info? e = some i) (x : Option Addr) (n c : Nat) (h0 : 0 <= lo) (h0' : lo <= hi) (h1 : hi <= mx) (h2 : mx <= c) :
 (mG t (.slice x n c) (some (.int k lo)) (some (.int k' hi)) (some (.int k'' mx))).run P w = .ok (.value (.slice (kA x mx.toNat lo.toNat i.size) (hi.toNat - lo.toNat) (mx.toNat - lo.toNat))) w := by
 have h3 : (0 : Int) <= mx := by omega
 have h4 : hi <= (mx.toNat : Int) := by omega
 have h5 : (0 : Int) <= hi := by omega
 have h6 : lo <= (hi.toNat : Int) := by omega
 simp only [mG, nF, Instr.sliceAt, underlying, hu, Sem.run_bind, run_program, Result.andThen_ok, Sem.run_pure, Instr.slice, Instr.sliceBounds, pure_bind, sV h3 h2, sV h5 h4, sV h0 h6, kQ hi', kA]
theorem ZF {w : ahA} {a : Option Addr} {n c : Nat} {l : List ahB} (h : Sl w (.slice a n c) l) {i j : Nat} (hij : i < j) (hj : j <= n) : Sl w (.slice (kA a j i 1) (j - i) (j - i)) ((l.drop i).take (j - i)) := by
 obtain ⟨a', n', c', e, hn, hc, h⟩ := h
 cases e
 refine ⟨_, _, _, rfl, by rw [adE, adB]; omega, acY _, fun h0 => ?_⟩
 obtain ⟨b, off, rfl, h2⟩ := h (by omega)
 have hs : kA (some ⟨b, off, none⟩) j i 1 = some ⟨b, off + i, none⟩ := by unfold kA; rw [if_neg (by omega), aeA]; unfold Addr.add; simp
 refine ⟨b, off + i, hs, fun q hq => ?_⟩
 rw [aeW (by omega), afQ, afN]
 exact h2 (i + q) (by omega)
theorem XO {a : Option Addr} {n c i j : Nat} {M : Nat -> Prop} (hij : i < j) (hj : j <= n) (h : vO (.slice (kA a j i 1) (j - i) (j - i)) M) : vO (.slice a n c) M := by
 obtain ⟨n', rfl⟩ : ∃ n', n = n' + 1 := ⟨n - 1, by omega⟩
 obtain ⟨d, hd⟩ : ∃ d, j - i = d + 1 := ⟨j - i - 1, by omega⟩
 rw [hd] at h
 cases a with
 | none => unfold kA at h; rw [if_neg (by omega)] at h; exact h
 | some x =>
   have hs : kA (some x) j i 1 = some (x.add (i * 1)) := by unfold kA; rw [if_neg (by omega)] <;> rfl
   rw [hs] at h
   have e : (x.add (i * 1)).block = x.block := by unfold Addr.add; split <;> rfl
   have h3 : M (x.add (i * 1)).block := h
   rw [e] at h3
   exact h3
end Go.En
namespace Go.Proofs.YteelnmpbnaohpaaDoor
open Go Go.En Go.Pu
set_option maxRecDepth 4000
set_option linter.unusedSimpArgs false
set_option linter.unusedVariables false
theorem YA {l : List UInt8} {v : ahB} {box bn lp : Nat} {r0 : Loop} {w : ahA} (I : Nat -> ahA -> Prop) (S : ahA -> Prop)
 (hI : ∀ i W, I i W -> jI W box [v] /\ jI W bn [.int .i64 13] /\ Bs W v l /\ W.heap[lp]? = some (.loop r0)) (hD : ∀ i W, I i W -> I i (dr W)) (hp : r0.params.size = 1) (hl : l.length <= 1000000000) (h0 : I 0 w)
 (hs : ∀ i W pv, i < l.length -> I i W -> Bs W pv ((l.drop i).take 13) -> (∀ M : Nat -> Prop, vO pv M -> vO v M) -> QH pg lp r0.fn (Pr r0 [pv]) r0.assign r0.body W (fun b W' => (b = .bool true /\ I (i + 13) W') ∨ (b = .bool false /\ S W'))) :
 gT pg mQ #[Du lp, .pointer (some ⟨box, 0, none⟩), .pointer (some ⟨bn, 0, none⟩)] w (fun r W => r = .tuple #[] /\ ((∃ i, l.length <= i /\ I i W) ∨ S W)) := by
 refine EG ?_
 obtain ⟨RR, hRR⟩ : ∃ RR : ahB -> ahA -> Prop, RR = fun r W => r = .tuple #[] /\ ((∃ i, l.length <= i /\ I i W) ∨ S W) := ⟨_, rfl⟩
 rw [<- hRR]
 unfold B7 rO rD rQ qW
 simp (disch := omega) only [eY, gN, dX, stepR_skip, fO, fW, fN, fZ, fX, fY, gQ, gG, eT, fT, fS, gE, fR, fL, fV, fQ, fU, gB, gC, fP, fC, gI, gA, fK, iR, iO, iP, iU, iM, iS, iQ, iT, iN, eP, Result.ok.injEq, Next.value.injEq, true_and, and_true, fI, fJ, gH, fM, gD, gR, acM, fE, fF, fG, fD, eZ, eU, fB, eX, eQ, eH, if_true, if_false, acK, acQ, acL, acN, acP, acO, acJ, acI, eA, dV, aB, dM, dO, cB, eB, eS, eE, dK, eF, fA, dJ, eJ, bP, dS, bE, dN, aL, aH, eL, aX, cI, eM, aE, eN, dE, aR, bF, eD, bB, bC, bJ, aO, aI, cF, fH, dY, cJ, cC, dA, cH, dT, bD, eK, bT, dF, bR, aT, bV, aC, bY, bQ, cA, bX, aY, aU, bA, bU, dL, cP, bO, aV, aJ, aM, bG, aF, dC, dW, aK, aN, aZ, aG, cY, aD, cL, bW, bH, aP, cM, bZ, aA, dD, cO, cU, cG, dI, cD, dG, dU, cQ, eC, eI, bN, aS, dZ, bS, aQ, bL, dH, cZ, cV, cN, cS, bK, bM, cX, dR, cR, dQ, dB]
 refine kJ.rule (fun m (t : ahB) w' => ∃ i : Nat, m = l.length - i /\ t = .int .i64 (i : Nat) /\ i <= l.length + 13 /\ I i w') l.length ⟨0, rfl, rfl, by omega, h0⟩ ?_
 rintro m t w1 ⟨i, rfl, rfl, hi, hIw⟩
 obtain ⟨o, on, hb, hlp⟩ := hI _ _ hIw
 obtain ⟨a, c, rfl, hc⟩ := hb.len
 rw [acR] at hb hc o
 have c1 := o.cell (off := 0)
 have c1d := (kR o).cell (off := 0)
 have c2 := on.cell (off := 0)
 have c2d := (kR on).cell (off := 0)
 simp only [acI] at c1 c1d c2 c2d
 unfold nT
 by_cases hlt : i < l.length
 .have d1 : decide ((i : Int) < (l.length : Int)) = true := by simp; omega
  obtain ⟨q, hq⟩ : ∃ q, q = min 13 (l.length - i) := ⟨_, rfl⟩
  have e1 : ((l.length - i : Nat) : Int) = ((l.length - i : Nat) : Int) := rfl
  have e2 : (if ((l.length - i : Nat) : Int) < (13 : Int) then ((l.length - i : Nat) : Int) else (13 : Int)) = (q : Int) := by split <;> omega
  have e3 : (i : Int) + (q : Int) = ((i + q : Nat) : Int) := by omega
  have l1 := fun w => Sj (P := pg) (w := w) (k := .i64) (k' := .i64) (k'' := .i64) (lo := (i : Int)) (hi := ((i + q : Nat) : Int)) (mx := ((i + q : Nat) : Int)) Tryd.underlying22 Jl a l.length c (by omega) (by omega) (by omega) (by omega)
  rw [acR] at hI hs
  obtain ⟨pv, hpv⟩ : ∃ pv, pv = Value.slice (kA a (i + q) i 1) (i + q - i) (i + q - i) := ⟨_, rfl⟩
  have l1 : ∀ w, (mG 22 (.slice a l.length c) (some (.int .i64 (i : Nat))) (some (.int .i64 ((i + q : Nat) : Int))) (some (.int .i64 ((i + q : Nat) : Int)))).run pg w = .ok (.value pv) w := fun w => by rw [hpv]; exact l1 w
  have hpb : Bs w1 pv ((l.drop i).take 13) := by
   have := ZF hb (i := i) (j := i + q) (by omega) (by omega)
   rw [<- afM, <- agB] at this
   rw [hpv]
   have e : (l.drop i).take 13 = (l.drop i).take (i + q - i) := by
    rw [hq]
    by_cases h13 : 13 <= l.length - i
    .rw [adW h13, aeR]
    .rw [Nat.min_eq_right (by omega), acX (by rw [adB]; omega), acX (by rw [adB]; omega)]
   rw [e]; exact this
  have hpn : ∀ M : Nat -> Prop, vO pv M -> vO (.slice a l.length c) M := fun M h => XO (i := i) (j := i + q) (by omega) (by omega) (by rw [hpv] at h; exact h)
  have qd : (dr w1).heap[lp]? = some (.loop r0) := hlp
  have q1 := Ub (P := pg) (args := [pv]) hlp (by rw [hp] <;> rfl)
  have q1d := Ub (P := pg) (args := [pv]) qd (by rw [hp] <;> rfl)
  simp (disch := omega) only [eY, gN, dX, stepR_skip, fO, fW, fN, fZ, fX, fY, gQ, gG, eT, fT, fS, gE, fR, fL, fV, fQ, fU, gB, gC, fP, fC, gI, gA, fK, iR, iO, iP, iU, iM, iS, iQ, iT, iN, eP, Result.ok.injEq, Next.value.injEq, true_and, and_true, fI, fJ, gH, fM, gD, gR, acM, fE, fF, fG, fD, eZ, eU, fB, eX, eQ, eH, if_true, if_false, acK, acQ, acL, acN, acP, acO, acJ, acI, eA, dV, aB, dM, dO, cB, eB, eS, eE, dK, eF, fA, dJ, eJ, bP, dS, bE, dN, aL, aH, eL, aX, cI, eM, aE, eN, dE, aR, bF, eD, bB, bC, bJ, aO, aI, cF, fH, dY, cJ, cC, dA, cH, dT, bD, eK, bT, dF, bR, aT, bV, aC, bY, bQ, cA, bX, aY, aU, bA, bU, dL, cP, bO, aV, aJ, aM, bG, aF, dC, dW, aK, aN, aZ, aG, cY, aD, cL, bW, bH, aP, cM, bZ, aA, dD, cO, cU, cG, dI, cD, dG, dU, cQ, eC, eI, bN, aS, dZ, bS, aQ, bL, dH, cZ, cV, cN, cS, bK, bM, cX, dR, cR, dQ, dB, d1, c1, c1d, c2d, e2, e3, l1, q1, q1d, SU]
  obtain ⟨b', w2, hret, hR⟩ := hs i (dr w1) pv hlt (hD _ _ hIw) (hpb.ext (gV.dr _ jN) (jG _)) hpn
  refine ⟨b', w2, hret, ?_⟩
  rcases hR with ⟨rfl, hI2⟩ | ⟨rfl, hS⟩
  .obtain ⟨_, on2, _, _⟩ := hI _ _ hI2
   have c3 := on2.cell (off := 0)
   simp only [acI] at c3
   have e4 : (i : Int) + 13 = ((i + 13 : Nat) : Int) := by omega
   simp (disch := omega) only [eY, gN, dX, stepR_skip, fO, fW, fN, fZ, fX, fY, gQ, gG, eT, fT, fS, gE, fR, fL, fV, fQ, fU, gB, gC, fP, fC, gI, gA, fK, iR, iO, iP, iU, iM, iS, iQ, iT, iN, eP, Result.ok.injEq, Next.value.injEq, true_and, and_true, fI, fJ, gH, fM, gD, gR, acM, fE, fF, fG, fD, eZ, eU, fB, eX, eQ, eH, if_true, if_false, acK, acQ, acL, acN, acP, acO, acJ, acI, eA, dV, aB, dM, dO, cB, eB, eS, eE, dK, eF, fA, dJ, eJ, bP, dS, bE, dN, aL, aH, eL, aX, cI, eM, aE, eN, dE, aR, bF, eD, bB, bC, bJ, aO, aI, cF, fH, dY, cJ, cC, dA, cH, dT, bD, eK, bT, dF, bR, aT, bV, aC, bY, bQ, cA, bX, aY, aU, bA, bU, dL, cP, bO, aV, aJ, aM, bG, aF, dC, dW, aK, aN, aZ, aG, cY, aD, cL, bW, bH, aP, cM, bZ, aA, dD, cO, cU, cG, dI, cD, dG, dU, cQ, eC, eI, bN, aS, dZ, bS, aQ, bL, dH, cZ, cV, cN, cS, bK, bM, cX, dR, cR, dQ, dB, c3, e4]
   exact ⟨l.length - (i + 13), by omega, i + 13, rfl, rfl, by omega, hI2⟩
  .simp (disch := omega) only [eY, gN, dX, stepR_skip, fO, fW, fN, fZ, fX, fY, gQ, gG, eT, fT, fS, gE, fR, fL, fV, fQ, fU, gB, gC, fP, fC, gI, gA, fK, iR, iO, iP, iU, iM, iS, iQ, iT, iN, eP, Result.ok.injEq, Next.value.injEq, true_and, and_true, fI, fJ, gH, fM, gD, gR, acM, fE, fF, fG, fD, eZ, eU, fB, eX, eQ, eH, if_true, if_false, acK, acQ, acL, acN, acP, acO, acJ, acI, eA, dV, aB, dM, dO, cB, eB, eS, eE, dK, eF, fA, dJ, eJ, bP, dS, bE, dN, aL, aH, eL, aX, cI, eM, aE, eN, dE, aR, bF, eD, bB, bC, bJ, aO, aI, cF, fH, dY, cJ, cC, dA, cH, dT, bD, eK, bT, dF, bR, aT, bV, aC, bY, bQ, cA, bX, aY, aU, bA, bU, dL, cP, bO, aV, aJ, aM, bG, aF, dC, dW, aK, aN, aZ, aG, cY, aD, cL, bW, bH, aP, cM, bZ, aA, dD, cO, cU, cG, dI, cD, dG, dU, cQ, eC, eI, bN, aS, dZ, bS, aQ, bL, dH, cZ, cV, cN, cS, bK, bM, cX, dR, cR, dQ, dB]
   rw [hRR]
   exact ⟨rfl, .inr hS⟩
 .have d1 : decide ((i : Int) < (l.length : Int)) = false := by simp; omega
  simp (disch := omega) only [eY, gN, dX, stepR_skip, fO, fW, fN, fZ, fX, fY, gQ, gG, eT, fT, fS, gE, fR, fL, fV, fQ, fU, gB, gC, fP, fC, gI, gA, fK, iR, iO, iP, iU, iM, iS, iQ, iT, iN, eP, Result.ok.injEq, Next.value.injEq, true_and, and_true, fI, fJ, gH, fM, gD, gR, acM, fE, fF, fG, fD, eZ, eU, fB, eX, eQ, eH, if_true, if_false, acK, acQ, acL, acN, acP, acO, acJ, acI, eA, dV, aB, dM, dO, cB, eB, eS, eE, dK, eF, fA, dJ, eJ, bP, dS, bE, dN, aL, aH, eL, aX, cI, eM, aE, eN, dE, aR, bF, eD, bB, bC, bJ, aO, aI, cF, fH, dY, cJ, cC, dA, cH, dT, bD, eK, bT, dF, bR, aT, bV, aC, bY, bQ, cA, bX, aY, aU, bA, bU, dL, cP, bO, aV, aJ, aM, bG, aF, dC, dW, aK, aN, aZ, aG, cY, aD, cL, bW, bH, aP, cM, bZ, aA, dD, cO, cU, cG, dI, cD, dG, dU, cQ, eC, eI, bN, aS, dZ, bS, aQ, bL, dH, cZ, cV, cN, cS, bK, bM, cX, dR, cR, dQ, dB, c1, d1]
  rw [hRR]
  exact ⟨rfl, .inl ⟨i, by omega, hIw⟩⟩
end Go.Proofs.YteelnmpbnaohpaaDoor
namespace Go.Proofs.YteelnmpbnaohpaaDoor
open Go Go.En Go.Pu
set_option maxRecDepth 4000
theorem Yx {ox oy : Operand} (a b a' b' : Int) (w : ahA) : (gO .eql 77 ox oy (.agg #[.int .u8 a, .int .u64 b]) (.agg #[.int .u8 a', .int .u64 b'])).run pg w = .ok (.value (.bool (a == a' && b == b'))) w := by
 have a3 : ∀ w, (isAgg 24).run pg w = .ok false w := fun w => by kernel_rfl
 have a5 : ∀ w, (isAgg 5).run pg w = .ok false w := fun w => by kernel_rfl
 have u3 := Tryd.underlying24
 have u5 := Tryd.underlying5
 have g0 : pg.eqGuardType pg.depth 77 = false := by kernel_rfl
 have g1 : pg.underlying 77 = some (.struct (pg.fieldsOf 77)) := by kernel_rfl
 have g2 : pg.stoodInHeld 77 = false := by kernel_rfl
 unfold gO
 simp only [Cn, nF, Sem.run_bind, run_eqGuard_agg w .eql 77 ox oy _ _ g0, Result.andThen_ok, run_eql_struct]
 rw [run_equalIn_agg w 9999 77 _ _ g1 g2]
 simp only [Program.fieldsOf, Tryd.underlying77, Op.eqFields]
 simp [part, a3, a5, run_equalIn_int w 9998 24 _ _ _ _ u3, run_equalIn_int w 9998 5 _ _ _ _ u5]
 by_cases h1 : a = a' <;> by_cases h2 : b = b' <;> simp [h1, h2]
theorem M1 (cf : List UInt8 -> Nat) : ∀ (n m : Nat) (b : List UInt8), b.length <= n -> b.length <= m -> IL cf n b = IL cf m b
 | 0, m, b, h, _ => by
   have : b = [] := adK.1 (by omega)
   subst this
   cases m <;> simp [IL]
 | n + 1, 0, b, _, h => by
   have : b = [] := adK.1 (by omega)
   subst this
   simp [IL]
 | n + 1, m + 1, b, h, h' => by
   rw [IL, IL]
   by_cases hb : b = []
   .rw [if_pos hb, if_pos hb]
   .have hl : 0 < b.length := List.length_pos_iff.2 hb
    rw [if_neg hb, if_neg hb, M1 cf n m (b.drop 13) (by rw [adB]; omega) (by rw [adB]; omega)]
theorem Vl {cf : List UInt8 -> Nat} {b : List UInt8} (h : b ≠ []) : mZ cf b = if KX cf (b.take 13) then (XK (b.take 13), Wb (b.take 13)) :: mZ cf (b.drop 13) else [] := by
 have hl : 0 < b.length := List.length_pos_iff.2 h
 unfold mZ
 rw [M1 cf b.length (b.length - 1 + 1) b (acY _) (by omega), IL, if_neg h, M1 cf (b.length - 1) (b.drop 13).length (b.drop 13) (by rw [adB]; omega) (acY _)]
theorem tk1 {p : List UInt8} (h : 0 < p.length) : RI p 0 1 = (p.take 1, p.drop 1, 0) := by
 unfold RI; rw [if_neg (by decide), if_neg (by omega)]
theorem tk8 {p : List UInt8} : FT (RI (p.drop 1) 0 8).1 = Wb p := by
 unfold RI Wb
 rw [if_neg (by decide), adB]
 by_cases h : p.length < 9
 .rw [if_pos (by omega), if_pos h] <;> rfl
 .rw [if_neg (by omega), if_neg h]
theorem Xz : V0 iD = #[13] := by kernel_rfl
theorem Zf : MZ pg lF = 46 := by kernel_rfl
def YK (w : ahA) (base : Nat) (o : ahB) (R : List (Nat × Nat)) : Prop := Jv w (fun b => base <= b) 2 o R.length (R.flatMap BN)
theorem U4 {l : List UInt8} {v : ahB} {w : ahA} (hg : qK w) (hb : Bs w v l) (hl : l.length <= 100000000) :
 gT pg lF #[v] w (fun r w' => ∃ o, r = .tuple #[o, .int .i64 ((13 * (mZ iA l).length : Nat) : Int)] /\ YK w' w.heap.size o (mZ iA l) /\ gV w w' jN) := by
 refine NF ?_
 obtain ⟨RR, hRR⟩ : ∃ RR : ahB -> ahA -> Prop, RR = fun r w' => ∃ o, r = .tuple #[o, .int .i64 ((13 * (mZ iA l).length : Nat) : Int)] /\ YK w' w.heap.size o (mZ iA l) /\ gV w w' jN := ⟨_, rfl⟩
 rw [<- hRR]
 unfold Om CM CK DD I3 Dq
 refine Kt fun w1 o1 x1 s1 => ?_
 refine Zs fun w2 o2 x2 s2 => ?_
 refine HD o2 rfl (by simp) fun w3 o3 x3 s3 => ?_
 simp only [adA] at o3
 unfold Ed Eh ED
 refine GQ ?_
 unfold ET vM vE
 obtain ⟨va, vn, vc, hv, -⟩ := id hb
 subst hv
 refine oM fun w4 o4 x4 s4 => ?_
 simp only [Value.cells] at o4
 refine oM fun w5 o5 x5 s5 => ?_
 simp only [Value.cells] at o5
 have c5 := o5.cell (off := 0)
 simp only [acI] at c5
 have d5 : decide ((13 : Int) < 1) = false := rfl
 have q1 := fun w => Np (P := pg) (f := mQ) [] [.pointer (some ⟨w3.heap.size, 0, none⟩), .pointer (some ⟨w4.heap.size, 0, none⟩)] w
 unfold qB
 simp (disch := omega) only [eY, gN, dX, stepR_skip, fO, fW, fN, fZ, fX, fY, gQ, gG, eT, fT, fS, gE, fR, fL, fV, fQ, fU, gB, gC, fP, fC, gI, gA, fK, iR, iO, iP, iU, iM, iS, iQ, iT, iN, eP, Result.ok.injEq, Next.value.injEq, true_and, and_true, fI, fJ, gH, fM, gD, gR, acM, fE, fF, fG, fD, eZ, eU, fB, eX, eQ, eH, if_true, if_false, acK, acQ, acL, acN, acP, acO, acJ, acI, eA, dV, aB, dM, dO, cB, eB, eS, eE, dK, eF, fA, dJ, eJ, bP, dS, bE, dN, aL, aH, eL, aX, cI, eM, aE, eN, dE, aR, bF, eD, bB, bC, bJ, aO, aI, cF, fH, dY, cJ, cC, dA, cH, dT, bD, eK, bT, dF, bR, aT, bV, aC, bY, bQ, cA, bX, aY, aU, bA, bU, dL, cP, bO, aV, aJ, aM, bG, aF, dC, dW, aK, aN, aZ, aG, cY, aD, cL, bW, bH, aP, cM, bZ, aA, dD, cO, cU, cG, dI, cD, dG, dU, cQ, eC, eI, bN, aS, dZ, bS, aQ, bL, dH, cZ, cV, cN, cS, bK, bM, cX, dR, cR, dQ, dB, c5, d5, q1]
 unfold Eo DV
 intro g g4 g5 g12 gm
 generalize hn0 : w.heap.size = n0 at *
 have e1 : w1.heap.size = n0 + 1 := by omega
 have e3 : w3.heap.size = n0 + 2 := by omega
 have e4 : w4.heap.size = n0 + 3 := by omega
 have e5 : w5.heap.size = n0 + 4 := by omega
 rw [e1] at o2 o3 x3 g5
 rw [e3] at o4 g12
 rw [e4] at o5 g12
 have x03 : gV w w3 jN := (x1.seq x2).trans x3 fun y hy h => by omega
 have x05 : gV w w5 jN := (x03.seq x4).seq x5
 have b1 : jI w5 n0 [.slice none 0 0] := (((o1.ext x2 (fun h => h)).ext x3 (by omega)).ext x4 (fun h => h)).ext x5 (fun h => h)
 have b2 : jI w5 (n0 + 1) [.int .i64 0] := (o3.ext x4 (fun h => h)).ext x5 (fun h => h)
 have b3 : jI w5 (n0 + 2) [.slice va vn vc] := o4.ext x5 (fun h => h)
 refine Xh (fi := mQ) (cap := #[.pointer (some ⟨n0 + 2, 0, none⟩), .pointer (some ⟨n0 + 3, 0, none⟩)]) (by show noMark (g 1000003) = true; rw [gm] <;> rfl) g12 Tryd.func67 (by kernel_rfl) (by kernel_rfl) ?_
 obtain ⟨x8, s8, d8, l8⟩ := Ve lF (MZ pg lF) (V0 iD) (Vx iD) (Tw iD) g w5
 rw [e5] at s8 d8 l8 ⊢
 generalize VT lF (MZ pg lF) (V0 iD) (Vx iD) (Tw iD) g w5 = w8 at *
 obtain ⟨r0, hr0⟩ : ∃ r0 : Loop, r0 = { state := .ready, pending := none, fn := lF, tmps := tmpsOf (MZ pg lF) g, params := V0 iD, assign := Vx iD, body := Tw iD, defers := n0 + 4 } := ⟨_, rfl⟩
 rw [<- hr0] at l8
 have x08 : gV w w8 jN := x05.seq x8
 let M : Nat -> Prop := fun y => y = n0 + 5 ∨ y = n0 ∨ y = n0 + 1 ∨ n0 + 5 < y
 let Q : Nat -> ahA -> List (Nat × Nat) -> Prop := fun base W R => ∃ ov, gV w8 W M /\ jI W n0 [ov] /\ jI W (n0 + 1) [.int .i64 ((13 * R.length : Nat) : Int)] /\ Jv W (fun b => n0 + 5 < b) 2 ov R.length (R.flatMap BN)
 let I : Nat -> ahA -> Prop := fun i W => ∃ R, mZ iA l = R ++ mZ iA (l.drop i) /\ W.heap[n0 + 5]? = some (.loop r0) /\ R.length <= i /\ Q n0 W R
 let S : ahA -> Prop := fun W => W.heap[n0 + 5]? = some (.loop { r0 with state := .done, pending := some (.exit 0) }) /\ Q n0 W (mZ iA l)
 have hQd : ∀ {W R}, Q n0 W R -> Q n0 (dr W) R := fun {W R} ⟨ov, h1, h2, h3, h4⟩ => ⟨ov, h1.seq (gV.dr _ _), h2.ext (gV.dr _ jN) (fun h => h), h3.ext (gV.dr _ jN) (fun h => h), h4.ext (gV.dr _ jN) (fun _ _ h => h)⟩
 have hmain := YA (l := l) (v := .slice va vn vc) (box := n0 + 2) (bn := n0 + 3) (lp := n0 + 5) (r0 := r0) (w := w8) I S ?hI ?hD ?hp (by omega) ?h0 ?hs
 case hI =>
  rintro i W ⟨R, hR, hlp, hRl, ov, hx, q1, q2, q3⟩
  exact ⟨(b3.ext x8 (fun h => h)).ext hx (by omega), (o5.ext x8 (fun h => h)).ext hx (by omega), hb.ext (x08.trans hx fun y hy h => by omega) (jG _), hlp⟩
 case hD =>
  rintro i W ⟨R, hR, hlp, hRl, hq⟩
  exact ⟨R, hR, hlp, hRl, hQd hq⟩
 case hp => rw [hr0, Xz] <;> rfl
 case h0 => exact ⟨[], rfl, l8, acY _, _, gV.refl _ _, b1.ext x8 (fun h => h), b2.ext x8 (fun h => h), ⟨rfl, .inl ⟨rfl, rfl⟩⟩⟩
 case hs =>
  rintro i W pv hi ⟨R, hR, hlp, hRl, ov, hx, q1, q2, q3⟩ hpb hpn
  have zW := hx.size
  have y08 : gV w W jN := x08.trans hx fun y hy h => by omega
  have hT : Pr r0 [pv] = (tmpsOf 46 g).setIfInBounds 13 pv := Yw (by rw [hr0]; exact Xz) (by rw [hr0]; simp only; rw [Zf]) _
  have hE : ∀ {x : Nat} {u v : ahB}, x < 13 -> g x = u -> KB ((tmpsOf 46 g).setIfInBounds 13 v) x = u := fun {x u v} h1 h2 => by
   rw [Sn (by simp [tmpsOf]), if_neg (by omega), Vu (by omega), h2]
  have hE13 : ∀ {v : ahB}, KB ((tmpsOf 46 g).setIfInBounds 13 v) 13 = v := fun {v} => by
   rw [Sn (by simp [tmpsOf]), if_pos rfl]
  rw [hT]
  subst hr0
  refine MA (by simp [tmpsOf]) ?_
  rw [hE (by omega) g4, hE (by omega) g5, hE13]
  unfold HZ AE
  refine UX hlp rfl fun W1 l1 y1 z1 => ?_
  obtain ⟨p, hp⟩ : ∃ p, p = (l.drop i).take 13 := ⟨_, rfl⟩
  rw [<- hp] at hpb
  have hpl : p.length = min 13 (l.length - i) := by rw [hp, adE, adB]
  have hne : l.drop i ≠ [] := fun h => by have := congrArg List.length h; rw [adB] at this; simp at this; omega
  have hstep := Vl (cf := iA) hne
  rw [<- hp, afV] at hstep
  have y01 : gV w W1 jN := y08.trans y1 fun y hy h => by omega
  have hpv0 : ∀ {N : Nat -> Prop}, (∀ y, N y -> n0 <= y) -> ¬ vO pv N := fun {N} hN h => hb.old (vG (hpn _ h) fun y hy => by rw [hn0]; exact hN y hy)
  have hp1 : Bs W1 pv p := hpb.ext y1 (hpv0 fun y hy => by omega)
  have q1 := q1.ext y1 (by omega)
  have q2 := q2.ext y1 (by omega)
  have q3 := q3.ext y1 (fun b hb h => by omega)
  unfold uA
  refine (Sa hp1 (by omega)).mono ?_
  rintro r W2 ⟨pr, rfl, hr2, y2⟩
  refine (PU (n := 1) hr2 (by omega) ⟨by omega, by omega⟩).mono ?_
  rintro r W3 ⟨rfl, hr3, y3⟩
  have tk := tk1 (p := p) (by omega)
  rw [tk] at hr3 ⊢
  have hk1 : FT (p.take 1) = XK p := rfl
  have hk256 : XK p < 256 := by
   have := HG (p.take 1)
   rw [adE, adW (by omega)] at this
   rw [<- hk1]; simpa using this
  rw [hk1]
  obtain ⟨K, hK⟩ : ∃ K, K = XK p := ⟨_, rfl⟩
  rw [<- hK] at hk256 ⊢
  have e6 : IntKind.u8.wrap (K : Int) = (K : Int) := gR (by omega) (by omega)
  simp (disch := omega) only [eY, gN, dX, stepR_skip, fO, fW, fN, fZ, fX, fY, gQ, gG, eT, fT, fS, gE, fR, fL, fV, fQ, fU, gB, gC, fP, fC, gI, gA, fK, iR, iO, iP, iU, iM, iS, iQ, iT, iN, eP, Result.ok.injEq, Next.value.injEq, true_and, and_true, fI, fJ, gH, fM, gD, gR, acM, fE, fF, fG, fD, eZ, eU, fB, eX, eQ, eH, if_true, if_false, acK, acQ, acL, acN, acP, acO, acJ, acI, eA, dV, aB, dM, dO, cB, eB, eS, eE, dK, eF, fA, dJ, eJ, bP, dS, bE, dN, aL, aH, eL, aX, cI, eM, aE, eN, dE, aR, bF, eD, bB, bC, bJ, aO, aI, cF, fH, dY, cJ, cC, dA, cH, dT, bD, eK, bT, dF, bR, aT, bV, aC, bY, bQ, cA, bX, aY, aU, bA, bU, dL, cP, bO, aV, aJ, aM, bG, aF, dC, dW, aK, aN, aZ, aG, cY, aD, cL, bW, bH, aP, cM, bZ, aA, dD, cO, cU, cG, dI, cD, dG, dU, cQ, eC, eI, bN, aS, dZ, bS, aQ, bL, dH, cZ, cV, cN, cS, bK, bM, cX, dR, cR, dQ, dB, e6]
  refine (PU (n := 8) hr3 (by rw [adB]; omega) ⟨by omega, by omega⟩).mono ?_
  rintro r W4 ⟨rfl, hr4, y4⟩
  rw [tk8]
  obtain ⟨V, hV⟩ : ∃ V, V = Wb p := ⟨_, rfl⟩
  have hV64 : V < 2 ^ 64 := by
   rw [hV]
   unfold Wb
   split
   .omega
   .have := HG ((p.drop 1).take 8)
    rw [adE, adB, adW (by omega)] at this
    omega
  rw [<- hV]
  obtain ⟨hr0a, hr0b, _⟩ := hr2
  have zW1 := y1.size
  have zW2 := y2.size
  have zW3 := y3.size
  have zW4 := y4.size
  have y14 : gV W1 W4 jN := (y2.trans y3 fun y hy h => by omega).trans y4 fun y hy h => by omega
  simp (disch := omega) only [eY, gN, dX, stepR_skip, fO, fW, fN, fZ, fX, fY, gQ, gG, eT, fT, fS, gE, fR, fL, fV, fQ, fU, gB, gC, fP, fC, gI, gA, fK, iR, iO, iP, iU, iM, iS, iQ, iT, iN, eP, Result.ok.injEq, Next.value.injEq, true_and, and_true, fI, fJ, gH, fM, gD, gR, acM, fE, fF, fG, fD, eZ, eU, fB, eX, eQ, eH, if_true, if_false, acK, acQ, acL, acN, acP, acO, acJ, acI, eA, dV, aB, dM, dO, cB, eB, eS, eE, dK, eF, fA, dJ, eJ, bP, dS, bE, dN, aL, aH, eL, aX, cI, eM, aE, eN, dE, aR, bF, eD, bB, bC, bJ, aO, aI, cF, fH, dY, cJ, cC, dA, cH, dT, bD, eK, bT, dF, bR, aT, bV, aC, bY, bQ, cA, bX, aY, aU, bA, bU, dL, cP, bO, aV, aJ, aM, bG, aF, dC, dW, aK, aN, aZ, aG, cY, aD, cL, bW, bH, aP, cM, bZ, aA, dD, cO, cU, cG, dI, cD, dG, dU, cQ, eC, eI, bN, aS, dZ, bS, aQ, bL, dH, cZ, cV, cN, cS, bK, bM, cX, dR, cR, dQ, dB]
  refine BG fun W5 o5 y5 z5 => ?_
  refine AM o5 rfl (by simp [one]) (by decide) fun W6 o6 y6 z6 => ?_
  obtain ⟨pc, hpc⟩ : ∃ pc, pc = W4.heap.size := ⟨_, rfl⟩
  rw [<- hpc] at o6 y6 ⊢
  have o6 : jI W6 pc (BN (K, V)) := o6
  have y16 : gV W1 W6 jN := (y14.seq y5).trans y6 fun y hy h => by omega
  have y06 : gV w W6 jN := y01.seq y16
  have lr := tS (off := 0) o6 (by simp)
  have lr : (gJ 77 (.pointer (some ⟨pc, 0, none⟩))).run pg W6 = .ok (.value (WV K V)) W6 := lr
  have hz := fun ox oy => Yx (ox := ox) (oy := oy) (K : Int) (V : Int) 0 0 W6
  have q1 := q1.ext y16 (fun h => h)
  have q2 := q2.ext y16 (fun h => h)
  have q3 := q3.ext y16 (fun _ _ h => h)
  have l6 := Cv l1 y16 (fun h => h)
  have x86 : gV w8 W6 M := (hx.trans y1 fun y hy h => .inl h).seq (y16.mono fun _ _ h => h.elim)
  have hbad : KX iA p = false -> ∀ W7, gV W6 W7 jN -> RY (n0 + 5) (some (.exit 0)) (fun b W' => (b = .bool true /\ I (i + 13) W') ∨ (b = .bool false /\ S W')) W7 := by
   intro hbd W7 y7
   have hLR : mZ iA l = R := by rw [hR, hstep, if_neg (by rw [hbd]; decide), aeJ]
   refine OQ (Cv l6 y7 (fun h => h)) fun W8 l8' y8 z8 => .inr ⟨rfl, l8', ?_⟩
   rw [hLR]
   exact ⟨ov, (x86.trans y7 fun y hy h => h.elim).trans y8 fun y hy h => .inl h, (q1.ext y7 (fun h => h)).ext y8 (by omega), (q2.ext y7 (fun h => h)).ext y8 (by omega), (q3.ext y7 (fun _ _ h => h)).ext y8 (fun b hb h => by omega)⟩
  have hgd : KX iA p = ((K == 1 || K == 2) && rT iA K V == p) := by rw [hK, hV] <;> rfl
  by_cases hz0 : K = 0 /\ V = 0
  .have d1 : (((K : Nat) : Int) == 0 && ((V : Nat) : Int) == 0) = true := by rw [hz0.1, hz0.2] <;> rfl
   simp only [d1] at hz
   simp (disch := omega) only [eY, gN, dX, stepR_skip, fO, fW, fN, fZ, fX, fY, gQ, gG, eT, fT, fS, gE, fR, fL, fV, fQ, fU, gB, gC, fP, fC, gI, gA, fK, iR, iO, iP, iU, iM, iS, iQ, iT, iN, eP, Result.ok.injEq, Next.value.injEq, true_and, and_true, fI, fJ, gH, fM, gD, gR, acM, fE, fF, fG, fD, eZ, eU, fB, eX, eQ, eH, if_true, if_false, acK, acQ, acL, acN, acP, acO, acJ, acI, eA, dV, aB, dM, dO, cB, eB, eS, eE, dK, eF, fA, dJ, eJ, bP, dS, bE, dN, aL, aH, eL, aX, cI, eM, aE, eN, dE, aR, bF, eD, bB, bC, bJ, aO, aI, cF, fH, dY, cJ, cC, dA, cH, dT, bD, eK, bT, dF, bR, aT, bV, aC, bY, bQ, cA, bX, aY, aU, bA, bU, dL, cP, bO, aV, aJ, aM, bG, aF, dC, dW, aK, aN, aZ, aG, cY, aD, cL, bW, bH, aP, cM, bZ, aA, dD, cO, cU, cG, dI, cD, dG, dU, cQ, eC, eI, bN, aS, dZ, bS, aQ, bL, dH, cZ, cV, cN, cS, bK, bM, cX, dR, cR, dQ, dB, lr, hz]
   exact hbad (by rw [hgd, hz0.1] <;> rfl) W6 (gV.refl _ _)
  have d1 : (((K : Nat) : Int) == 0 && ((V : Nat) : Int) == 0) = false := by
   rw [agS, beq_eq_false_iff_ne, beq_eq_false_iff_ne]
   omega
  simp only [d1] at hz
  simp (disch := omega) only [eY, gN, dX, stepR_skip, fO, fW, fN, fZ, fX, fY, gQ, gG, eT, fT, fS, gE, fR, fL, fV, fQ, fU, gB, gC, fP, fC, gI, gA, fK, iR, iO, iP, iU, iM, iS, iQ, iT, iN, eP, Result.ok.injEq, Next.value.injEq, true_and, and_true, fI, fJ, gH, fM, gD, gR, acM, fE, fF, fG, fD, eZ, eU, fB, eX, eQ, eH, if_true, if_false, acK, acQ, acL, acN, acP, acO, acJ, acI, eA, dV, aB, dM, dO, cB, eB, eS, eE, dK, eF, fA, dJ, eJ, bP, dS, bE, dN, aL, aH, eL, aX, cI, eM, aE, eN, dE, aR, bF, eD, bB, bC, bJ, aO, aI, cF, fH, dY, cJ, cC, dA, cH, dT, bD, eK, bT, dF, bR, aT, bV, aC, bY, bQ, cA, bX, aY, aU, bA, bU, dL, cP, bO, aV, aJ, aM, bG, aF, dC, dW, aK, aN, aZ, aG, cY, aD, cL, bW, bH, aP, cM, bZ, aA, dD, cO, cU, cG, dI, cD, dG, dU, cQ, eC, eI, bN, aS, dZ, bS, aQ, bL, dH, cZ, cV, cN, cS, bK, bM, cX, dR, cR, dQ, dB, lr, hz]
  refine (Sy (hg.ext y06) hk256 hV64).mono ?_
  rintro r W7 ⟨hr7, y7⟩
  by_cases hk12 : K = 1 ∨ K = 2
  rotate_left
  .rw [if_neg hk12] at hr7
   subst hr7
   have n1 : ((1 : Int) != 0) = true := rfl
   simp (disch := omega) only [eY, gN, dX, stepR_skip, fO, fW, fN, fZ, fX, fY, gQ, gG, eT, fT, fS, gE, fR, fL, fV, fQ, fU, gB, gC, fP, fC, gI, gA, fK, iR, iO, iP, iU, iM, iS, iQ, iT, iN, eP, Result.ok.injEq, Next.value.injEq, true_and, and_true, fI, fJ, gH, fM, gD, gR, acM, fE, fF, fG, fD, eZ, eU, fB, eX, eQ, eH, if_true, if_false, acK, acQ, acL, acN, acP, acO, acJ, acI, eA, dV, aB, dM, dO, cB, eB, eS, eE, dK, eF, fA, dJ, eJ, bP, dS, bE, dN, aL, aH, eL, aX, cI, eM, aE, eN, dE, aR, bF, eD, bB, bC, bJ, aO, aI, cF, fH, dY, cJ, cC, dA, cH, dT, bD, eK, bT, dF, bR, aT, bV, aC, bY, bQ, cA, bX, aY, aU, bA, bU, dL, cP, bO, aV, aJ, aM, bG, aF, dC, dW, aK, aN, aZ, aG, cY, aD, cL, bW, bH, aP, cM, bZ, aA, dD, cO, cU, cG, dI, cD, dG, dU, cQ, eC, eI, bN, aS, dZ, bS, aQ, bL, dH, cZ, cV, cN, cS, bK, bM, cX, dR, cR, dQ, dB, n1]
   refine hbad ?_ W7 y7
   rw [hgd]
   have : (K == 1 || K == 2) = false := by rw [afW, beq_eq_false_iff_ne, beq_eq_false_iff_ne]; omega
   rw [this] <;> rfl
  rw [if_pos hk12] at hr7
  obtain ⟨pb, rfl, hpbs⟩ := hr7
  have h13 := nJ iA K V
  have n0' : ((0 : Int) != 0) = false := rfl
  have y17 : gV W1 W7 jN := y16.seq y7
  simp (disch := omega) only [eY, gN, dX, stepR_skip, fO, fW, fN, fZ, fX, fY, gQ, gG, eT, fT, fS, gE, fR, fL, fV, fQ, fU, gB, gC, fP, fC, gI, gA, fK, iR, iO, iP, iU, iM, iS, iQ, iT, iN, eP, Result.ok.injEq, Next.value.injEq, true_and, and_true, fI, fJ, gH, fM, gD, gR, acM, fE, fF, fG, fD, eZ, eU, fB, eX, eQ, eH, if_true, if_false, acK, acQ, acL, acN, acP, acO, acJ, acI, eA, dV, aB, dM, dO, cB, eB, eS, eE, dK, eF, fA, dJ, eJ, bP, dS, bE, dN, aL, aH, eL, aX, cI, eM, aE, eN, dE, aR, bF, eD, bB, bC, bJ, aO, aI, cF, fH, dY, cJ, cC, dA, cH, dT, bD, eK, bT, dF, bR, aT, bV, aC, bY, bQ, cA, bX, aY, aU, bA, bU, dL, cP, bO, aV, aJ, aM, bG, aF, dC, dW, aK, aN, aZ, aG, cY, aD, cL, bW, bH, aP, cM, bZ, aA, dD, cO, cU, cG, dI, cD, dG, dU, cQ, eC, eI, bN, aS, dZ, bS, aQ, bL, dH, cZ, cV, cN, cS, bK, bM, cX, dR, cR, dQ, dB, n0']
  refine (VF (show Bs W7 pb (rT iA K V) from hpbs.sl) (hp1.ext y17 (jG _)) (by omega) (by omega)).mono ?_
  rintro r W8 ⟨rfl, y8⟩
  have y68 : gV W6 W8 jN := y7.seq y8
  cases hq : (rT iA K V == p) with
  | false =>
    simp (disch := omega) only [eY, gN, dX, stepR_skip, fO, fW, fN, fZ, fX, fY, gQ, gG, eT, fT, fS, gE, fR, fL, fV, fQ, fU, gB, gC, fP, fC, gI, gA, fK, iR, iO, iP, iU, iM, iS, iQ, iT, iN, eP, Result.ok.injEq, Next.value.injEq, true_and, and_true, fI, fJ, gH, fM, gD, gR, acM, fE, fF, fG, fD, eZ, eU, fB, eX, eQ, eH, if_true, if_false, acK, acQ, acL, acN, acP, acO, acJ, acI, eA, dV, aB, dM, dO, cB, eB, eS, eE, dK, eF, fA, dJ, eJ, bP, dS, bE, dN, aL, aH, eL, aX, cI, eM, aE, eN, dE, aR, bF, eD, bB, bC, bJ, aO, aI, cF, fH, dY, cJ, cC, dA, cH, dT, bD, eK, bT, dF, bR, aT, bV, aC, bY, bQ, cA, bX, aY, aU, bA, bU, dL, cP, bO, aV, aJ, aM, bG, aF, dC, dW, aK, aN, aZ, aG, cY, aD, cL, bW, bH, aP, cM, bZ, aA, dD, cO, cU, cG, dI, cD, dG, dU, cQ, eC, eI, bN, aS, dZ, bS, aQ, bL, dH, cZ, cV, cN, cS, bK, bM, cX, dR, cR, dQ, dB]
    exact hbad (by rw [hgd, hq, Bool.and_false]) W8 y68
  | true =>
    have hgood : KX iA p = true := by
     rw [hgd, hq, Bool.and_true, aeH, beq_iff_eq, beq_iff_eq]; exact hk12
    have hp13 := Nf iA hgood
    have q1 := q1.ext y68 (fun h => h)
    have q2 := q2.ext y68 (fun h => h)
    have q3 := q3.ext y68 (fun _ _ h => h)
    have l8 := Cv l6 y68 (fun h => h)
    have lr8 := tS (off := 0) (o6.ext y68 (fun h => h)) (by simp)
    have lr8 : (gJ 77 (.pointer (some ⟨pc, 0, none⟩))).run pg W8 = .ok (.value (WV K V)) W8 := lr8
    have c1 := q1.cell (off := 0)
    simp only [acI] at c1
    simp (disch := omega) only [eY, gN, dX, stepR_skip, fO, fW, fN, fZ, fX, fY, gQ, gG, eT, fT, fS, gE, fR, fL, fV, fQ, fU, gB, gC, fP, fC, gI, gA, fK, iR, iO, iP, iU, iM, iS, iQ, iT, iN, eP, Result.ok.injEq, Next.value.injEq, true_and, and_true, fI, fJ, gH, fM, gD, gR, acM, fE, fF, fG, fD, eZ, eU, fB, eX, eQ, eH, if_true, if_false, acK, acQ, acL, acN, acP, acO, acJ, acI, eA, dV, aB, dM, dO, cB, eB, eS, eE, dK, eF, fA, dJ, eJ, bP, dS, bE, dN, aL, aH, eL, aX, cI, eM, aE, eN, dE, aR, bF, eD, bB, bC, bJ, aO, aI, cF, fH, dY, cJ, cC, dA, cH, dT, bD, eK, bT, dF, bR, aT, bV, aC, bY, bQ, cA, bX, aY, aU, bA, bU, dL, cP, bO, aV, aJ, aM, bG, aF, dC, dW, aK, aN, aZ, aG, cY, aD, cL, bW, bH, aP, cM, bZ, aA, dD, cO, cU, cG, dI, cD, dG, dU, cQ, eC, eI, bN, aS, dZ, bS, aQ, bL, dH, cZ, cV, cN, cS, bK, bM, cX, dR, cR, dQ, dB, c1, lr8]
    refine Ku (cells := #[.int .u8 (K : Nat), .int .u64 (V : Nat)]) (by decide) (by decide) (by kernel_rfl) fun W9 o9 y9 z9 => ?_
    have o9 : jI W9 W8.heap.size (BN (K, V)) := o9
    have z85 : n0 + 5 < W8.heap.size := by
     have := y17.size
     have := y8.size
     have := V9 l1
     omega
    obtain ⟨oa, oc, rfl⟩ := Ez q3
    have q3 := q3.ext y9 (fun _ _ h => h)
    refine Fk (m := 1) (news := BN (K, V)) (i := Tryd.t77) Tryd.underlying72 Tryd.underlying72 OV rfl rfl rfl q3 (o9.cl (off := 0) (n := 1) rfl (fun i hi => by rw [acQ])) (by simp [one]) (fun b hb => by omega) (by omega) (by rw [show Tryd.t77.bytes = 16 from rfl]; omega) (by decide) fun v' W10 o' y10 => ?_
    obtain ⟨oa', oc', rfl⟩ := Ez o'
    have q1 := (q1.ext y9 (fun h => h)).ext y10 (by omega)
    have q2 := (q2.ext y9 (fun h => h)).ext y10 (by omega)
    refine Kz q1 rfl (by simp) fun W11 q1 y11 z11 => ?_
    simp only [adA] at q1
    have q2 := q2.ext y11 (by omega)
    have o' := wM o' y11 (fun b hb h => by omega)
    have c2 := q2.cell (off := 0)
    simp only [acI] at c2
    have e13 : ((13 * R.length : Nat) : Int) + 13 = ((13 * (R.length + 1) : Nat) : Int) := by omega
    simp (disch := omega) only [eY, gN, dX, stepR_skip, fO, fW, fN, fZ, fX, fY, gQ, gG, eT, fT, fS, gE, fR, fL, fV, fQ, fU, gB, gC, fP, fC, gI, gA, fK, iR, iO, iP, iU, iM, iS, iQ, iT, iN, eP, Result.ok.injEq, Next.value.injEq, true_and, and_true, fI, fJ, gH, fM, gD, gR, acM, fE, fF, fG, fD, eZ, eU, fB, eX, eQ, eH, if_true, if_false, acK, acQ, acL, acN, acP, acO, acJ, acI, eA, dV, aB, dM, dO, cB, eB, eS, eE, dK, eF, fA, dJ, eJ, bP, dS, bE, dN, aL, aH, eL, aX, cI, eM, aE, eN, dE, aR, bF, eD, bB, bC, bJ, aO, aI, cF, fH, dY, cJ, cC, dA, cH, dT, bD, eK, bT, dF, bR, aT, bV, aC, bY, bQ, cA, bX, aY, aU, bA, bU, dL, cP, bO, aV, aJ, aM, bG, aF, dC, dW, aK, aN, aZ, aG, cY, aD, cL, bW, bH, aP, cM, bZ, aA, dD, cO, cU, cG, dI, cD, dG, dU, cQ, eC, eI, bN, aS, dZ, bS, aQ, bL, dH, cZ, cV, cN, cS, bK, bM, cX, dR, cR, dQ, dB, c2, e13]
    refine HD q2 rfl (by simp) fun W12 q2 y12 z12 => ?_
    simp only [adA] at q2
    have y812 : gV W8 W12 M := (((y9.mono fun _ _ h => h.elim).seq (y10.mono fun y _ h => .inr (.inr (.inr h)))).seq (y11.mono fun y _ h => .inr (.inl h))).seq (y12.mono fun y _ h => .inr (.inr (.inl h)))
    have l12 := Cv (Cv (Cv (Cv l8 y9 (fun h => h)) y10 (by omega)) y11 (by omega)) y12 (by omega)
    refine OQ l12 fun W13 l13 y13 z13 => .inl ⟨rfl, R ++ [(K, V)], ?_, l13, ?_, _, ((x86.trans y68 fun y hy h => h.elim).seq y812).seq (y13.mono fun y _ h => .inl h), q1.ext y12 (by omega) |>.ext y13 (by omega), ?_, ?_⟩
    .rw [hR, hstep, if_pos hgood, adM, <- hK, <- hV] <;> rfl
    .rw [acT]; simp; omega
    .rw [acT]; exact q2.ext y13 (by omega)
    .rw [acT, List.flatMap_append]
     exact wM (wM o' y12 (fun b hb h => by omega)) y13 (fun b hb h => by omega)
 refine hmain.mono ?_
 rintro r w9 ⟨rfl, h⟩
 have fin : ∀ {wa : ahA}, wa.heap[n0 + 4]? = some (.deferred (some [])) -> Q n0 wa (mZ iA l) -> pF RR (.pointer (some ⟨n0, 0, none⟩)) (.pointer (some ⟨n0 + 1, 0, none⟩)) (.pointer (some ⟨n0 + 4, 0, none⟩)) wa := fun {wa} hd ⟨ov, hx, q1, q2, q3⟩ => by
  unfold pF
  have c1 := (kR q1).cell (off := 0)
  have c2 := (kR q2).cell (off := 0)
  simp only [acI] at c1 c2
  simp (disch := omega) only [eY, gN, dX, stepR_skip, fO, fW, fN, fZ, fX, fY, gQ, gG, eT, fT, fS, gE, fR, fL, fV, fQ, fU, gB, gC, fP, fC, gI, gA, fK, iR, iO, iP, iU, iM, iS, iQ, iT, iN, eP, Result.ok.injEq, Next.value.injEq, true_and, and_true, fI, fJ, gH, fM, gD, gR, acM, fE, fF, fG, fD, eZ, eU, fB, eX, eQ, eH, if_true, if_false, acK, acQ, acL, acN, acP, acO, acJ, acI, eA, dV, aB, dM, dO, cB, eB, eS, eE, dK, eF, fA, dJ, eJ, bP, dS, bE, dN, aL, aH, eL, aX, cI, eM, aE, eN, dE, aR, bF, eD, bB, bC, bJ, aO, aI, cF, fH, dY, cJ, cC, dA, cH, dT, bD, eK, bT, dF, bR, aT, bV, aC, bY, bQ, cA, bX, aY, aU, bA, bU, dL, cP, bO, aV, aJ, aM, bG, aF, dC, dW, aK, aN, aZ, aG, cY, aD, cL, bW, bH, aP, cM, bZ, aA, dD, cO, cU, cG, dI, cD, dG, dU, cQ, eC, eI, bN, aS, dZ, bS, aQ, bL, dH, cZ, cV, cN, cS, bK, bM, cX, dR, cR, dQ, dB, c1, c2]
  refine Tt hd fun we ye ze => ?_
  rw [hRR]
  refine ⟨ov, rfl, ?_, ((x08.trans hx fun y hy h => by omega).seq (gV.dr _ _)).trans ye fun y hy h => by omega⟩
  have o' := wM (wM q3 (gV.dr _ jN) (fun _ _ h => h)) ye (fun b hb h => by omega)
  refine ⟨o'.1, ?_⟩
  rcases o'.2 with h | ⟨b, c, rest, g1, g2, g3⟩
  .exact .inl h
  .exact .inr ⟨b, c, rest, g1, by omega, g3⟩
 have hz4 : put g (some DS) (.pointer (some ⟨n0 + 4, 0, none⟩)) 4 = g 4 := rfl
 have hz5 : put g (some DS) (.pointer (some ⟨n0 + 4, 0, none⟩)) 5 = g 5 := rfl
 have hzm : put g (some DS) (.pointer (some ⟨n0 + 4, 0, none⟩)) 1000003 = .pointer (some ⟨n0 + 4, 0, none⟩) := rfl
 have hQx : ∀ {W W' R}, Q n0 W R -> gV W W' (fun y => y = n0 + 5) -> Q n0 W' R := fun {W W' R} ⟨ov, h1, h2, h3, h4⟩ x => ⟨ov, h1.seq (x.mono fun y _ h => .inl h), h2.ext x (by omega), h3.ext x (by omega), wM h4 x (fun b hb h => by omega)⟩
 rcases h with ⟨i, hil, R, hR, hlp, hRl, hQ⟩ | ⟨hlp, hQ⟩
 .have hnil : l.drop i = [] := List.drop_eq_nil_of_le hil
  have hLR : mZ iA l = R := by rw [hR, hnil]; exact aeJ _
  obtain ⟨ov, hx, _⟩ := id hQ
  refine Og hlp (by rw [hr0]; simp) fun wa ya za => ?_
  rw [hr0]
  show pF RR (put g (some DS) (.pointer (some ⟨n0 + 4, 0, none⟩)) 4) (put g (some DS) (.pointer (some ⟨n0 + 4, 0, none⟩)) 5) (put g (some DS) (.pointer (some ⟨n0 + 4, 0, none⟩)) 1000003) wa
  rw [hz4, hz5, hzm, g4, g5]
  refine fin (Cv (Cv d8 hx (by omega)) ya (by omega)) ?_
  rw [hLR]
  exact hQx hQ ya
 .obtain ⟨ov, hx, _⟩ := id hQ
  refine Og hlp (by simp) fun wa ya za => ?_
  show pF RR (put g (some DS) (.pointer (some ⟨n0 + 4, 0, none⟩)) 4) (put g (some DS) (.pointer (some ⟨n0 + 4, 0, none⟩)) 5) (put g (some DS) (.pointer (some ⟨n0 + 4, 0, none⟩)) 1000003) wa
  rw [hz4, hz5, hzm, g4, g5]
  exact fin (Cv (Cv d8 hx (by omega)) ya (by omega)) (hQx hQ ya)
end Go.Proofs.YteelnmpbnaohpaaDoor
namespace Go.En
open Go Go.Pu
theorem Y3 {v : ahB} {P Q : Nat -> Prop} (h : vO v fun b => P b ∨ Q b) : vO v P ∨ vO v Q := by
 unfold vO at *
 split
 .exact h
 .rename_i hne
  split at h
  .exact absurd rfl (hne _ _ _)
  .exact h.elim
def EM (w : ahA) (X : Nat -> Prop) (v : ahB) (b : List UInt8) : Prop := Bs w v b /\ ¬ vO v X
theorem EM.ext {w w' : ahA} {X M : Nat -> Prop} {v : ahB} {b : List UInt8} (h : EM w X v b) (x : gV w w' M) (hM : ∀ b, M b -> X b) : EM w' X v b := ⟨h.1.ext x fun h' => h.2 (vG h' hM), h.2⟩
theorem EM.sub {w : ahA} {X Y : Nat -> Prop} {v : ahB} {b : List UInt8} (h : EM w X v b) (hY : ∀ b, Y b -> X b ∨ w.heap.size <= b) : EM w Y v b :=
 ⟨h.1, fun h' => by
   rcases Y3 (vG h' hY) with h' | h'
   .exact h.2 h'
   .exact h.1.old h'⟩
def C7 (w : ahA) (X : Nat -> Prop) : List (ByteArray × ahB) -> oR -> Prop
 | [], [] => True
 | p :: l, q :: c => p.1 = q.1 /\ EM w X p.2 q.2 /\ C7 w X l c
 | _, _ => False
theorem C7.map {w w' : ahA} {X Y : Nat -> Prop} (hd : ∀ v b, EM w X v b -> EM w' Y v b) : ∀ {l : List (ByteArray × ahB)} {c : oR}, C7 w X l c -> C7 w' Y l c
 | [], [], _ => trivial
 | p :: l, q :: c, h => ⟨h.1, hd _ _ h.2.1, C7.map hd h.2.2⟩
theorem C7.ext {w w' : ahA} {X M : Nat -> Prop} {l : List (ByteArray × ahB)} {c : oR} (h : C7 w X l c) (x : gV w w' M) (hM : ∀ b, M b -> X b) : C7 w' X l c := h.map fun _ _ h => h.ext x hM
theorem C7.sub {w : ahA} {X Y : Nat -> Prop} {l : List (ByteArray × ahB)} {c : oR} (h : C7 w X l c) (hY : ∀ b, Y b -> X b ∨ w.heap.size <= b) : C7 w Y l c := h.map fun _ _ h => h.sub hY
theorem C7.get {w : ahA} {X : Nat -> Prop} (k : ByteArray) : ∀ {l : List (ByteArray × ahB)} {c : oR}, C7 w X l c -> (H2 k l = none /\ jC k c = none) ∨ ∃ v b, H2 k l = some v /\ jC k c = some b /\ EM w X v b
 | [], [], _ => .inl ⟨rfl, rfl⟩
 | p :: l, q :: c, h => by
   obtain ⟨h1, h2, h3⟩ := h
   simp only [H2, jC, <- h1]
   by_cases hk : k = p.1
   .rw [if_pos hk, if_pos hk]; exact .inr ⟨_, _, rfl, rfl, h2⟩
   .rw [if_neg hk, if_neg hk]; exact C7.get k h3
theorem C7.set {w : ahA} {X : Nat -> Prop} {k : ByteArray} {v : ahB} {b : List UInt8} (hd : EM w X v b) : ∀ {l : List (ByteArray × ahB)} {c : oR}, C7 w X l c -> C7 w X (TB k v l) (nB k b c)
 | [], [], _ => ⟨rfl, hd, trivial⟩
 | p :: l, q :: c, h => by
   obtain ⟨h1, h2, h3⟩ := h
   simp only [TB, nB, <- h1]
   by_cases hk : k = p.1
   .rw [if_pos hk, if_pos hk]; exact ⟨rfl, hd, h3⟩
   .rw [if_neg hk, if_neg hk]; exact ⟨h1, h2, C7.set hd h3⟩
theorem C7.del {w : ahA} {X : Nat -> Prop} {k : ByteArray} : ∀ {l : List (ByteArray × ahB)} {c : oR}, C7 w X l c -> C7 w X (del k l) (zB k c)
 | [], [], _ => trivial
 | p :: l, q :: c, h => by
   obtain ⟨h1, h2, h3⟩ := h
   simp only [Go.En.del, zB, <- h1]
   by_cases hk : k = p.1
   .rw [if_pos hk, if_pos hk]; exact h3
   .rw [if_neg hk, if_neg hk]; exact ⟨h1, h2, C7.del h3⟩
theorem C7.len {w : ahA} {X : Nat -> Prop} : ∀ {l : List (ByteArray × ahB)} {c : oR}, C7 w X l c -> l.length = c.length
 | [], [], _ => rfl
 | p :: l, q :: c, h => by rw [adP, adP, C7.len h.2.2]
theorem C7.at {w : ahA} {X : Nat -> Prop} : ∀ {l : List (ByteArray × ahB)} {c : oR} {j : Nat} (h : C7 w X l c) (h1 : j < l.length) (h2 : j < c.length), l[j].1 = c[j].1 /\ EM w X l[j].2 c[j].2
 | [], [], j, _, h1, _ => by simp at h1
 | p :: l, q :: c, 0, h, _, _ => ⟨h.1, h.2.1⟩
 | p :: l, q :: c, j + 1, h, h1, h2 => C7.at h.2.2 (by simpa using h1) (by simpa using h2)
theorem C7.erase {w : ahA} {X : Nat -> Prop} : ∀ {l : List (ByteArray × ahB)} {c : oR} (j : Nat) (h : C7 w X l c), C7 w X (l.eraseIdx j) (c.eraseIdx j)
 | [], [], j, _ => by simp [C7]
 | p :: l, q :: c, 0, h => h.2.2
 | p :: l, q :: c, j + 1, h => by
   rw [aeQ, aeQ]
   exact ⟨h.1, h.2.1, C7.erase j h.2.2⟩
def MW (o : NT) (v : ahB) : List ahB := [.int .i64 o.kind, .string o.name, .string o.other, .int .i64 o.at', v]
def Ot (w : ahA) (X : Nat -> Prop) : List ahB -> List NT -> Prop
 | cs, [] => cs = []
 | cs, o :: os => ∃ v cs', (∃ x n k, v = .slice x n k) /\ cs = MW o v ++ cs' /\ EM w X v o.bytes /\ Ot w X cs' os
theorem Ot.nil (w : ahA) (X : Nat -> Prop) : Ot w X [] [] := rfl
theorem Ot.map {w w' : ahA} {X Y : Nat -> Prop} (hd : ∀ v b, EM w X v b -> EM w' Y v b) : ∀ {os : List NT} {cs : List ahB}, Ot w X cs os -> Ot w' Y cs os
 | [], cs, h => h
 | o :: os, cs, ⟨v, cs', h1, h2, h3, h4⟩ => ⟨v, cs', h1, h2, hd _ _ h3, Ot.map hd h4⟩
theorem Ot.ext {w w' : ahA} {X M : Nat -> Prop} {os : List NT} {cs : List ahB} (h : Ot w X cs os) (x : gV w w' M) (hM : ∀ b, M b -> X b) : Ot w' X cs os := h.map fun _ _ h => h.ext x hM
theorem Ot.sub {w : ahA} {X Y : Nat -> Prop} {os : List NT} {cs : List ahB} (h : Ot w X cs os) (hY : ∀ b, Y b -> X b ∨ w.heap.size <= b) : Ot w Y cs os := h.map fun _ _ h => h.sub hY
theorem Ot.len {w : ahA} {X : Nat -> Prop} : ∀ {os : List NT} {cs : List ahB}, Ot w X cs os -> cs.length = os.length * 5
 | [], cs, h => by rw [show cs = [] from h] <;> rfl
 | o :: os, cs, ⟨v, cs', h1, h2, h3, h4⟩ => by rw [h2, acT, Ot.len h4, adP]; show 5 + _ = _; omega
theorem Ot.snoc {w : ahA} {X : Nat -> Prop} {o : NT} {v : ahB} (hv : ∃ x n k, v = .slice x n k) (hd : EM w X v o.bytes) : ∀ {os : List NT} {cs : List ahB}, Ot w X cs os -> Ot w X (cs ++ MW o v) (os ++ [o])
 | [], cs, h => ⟨v, [], hv, by rw [show cs = [] from h, adJ, aeJ], hd, rfl⟩
 | o' :: os, cs, ⟨v', cs', h1, h2, h3, h4⟩ => ⟨v', cs' ++ MW o v, h1, by rw [h2, adM], h3, Ot.snoc hv hd h4⟩
theorem Ot.at {w : ahA} {X : Nat -> Prop} : ∀ {os : List NT} {cs : List ahB} {i : Nat} (h : Ot w X cs os) (hi : i < os.length), ∃ v, (∃ x n k, v = .slice x n k) /\ (cs.drop (i * 5)).take 5 = MW os[i] v /\ EM w X v os[i].bytes
 | [], cs, i, _, hi => by simp at hi
 | o :: os, cs, 0, ⟨v, cs', h1, h2, h3, h4⟩, _ => ⟨v, h1, by rw [h2] <;> rfl, h3⟩
 | o :: os, cs, i + 1, ⟨v, cs', h1, h2, h3, h4⟩, hi => by
   obtain ⟨v', q1, q2, q3⟩ := Ot.at h4 (i := i) (by simpa using hi)
   refine ⟨v', q1, ?_, q3⟩
   rw [show (i + 1) * 5 = 5 + i * 5 from by omega, <- afV, h2]
   exact q2
structure jL where
 room : Int
 sure : oR
 seen : oR
 under : List NT
 left : Int
 down : Bool
abbrev Nl : ByteArray -> ahB := fun s => .string s
def mE (w : ahA) (p : Nat) (X D : Nat -> Prop) (S : jL) : Prop :=
 ∃ (ms mn : Nat) (sv : ahB) (ls ln : List (ByteArray × ahB)) (cs : List ahB), X p /\ X ms /\ X mn /\ p ≠ ms /\ p ≠ mn /\ ms ≠ mn /\ (∀ b, X b -> D b) /\ (∀ b, D b -> b < w.heap.size) /\
   jI w p [.int .i64 S.room, .map (some ms), .map (some mn), sv, .int .i64 S.left, .bool S.down] /\ Mp w ms Nl ls /\ Mp w mn Nl ln /\ C7 w D ls S.sure /\ C7 w D ln S.seen /\
   Jv w (fun b => X b /\ b ≠ p /\ b ≠ ms /\ b ≠ mn) 5 sv S.under.length cs /\ Ot w D cs S.under
theorem mE.ext {w w' : ahA} {p : Nat} {X D M : Nat -> Prop} {S : jL} (h : mE w p X D S) (x : gV w w' M) (hM : ∀ b, M b -> D b /\ ¬ X b) : mE w' p X D S := by
 obtain ⟨ms, mn, sv, ls, ln, cs, h1, h2, h3, h4, h5, h6, h7, h7', h8, h9, h10, h11, h12, h13, h14⟩ := h
 have hx : ∀ {b}, X b -> ¬ M b := fun hb hm => (hM _ hm).2 hb
 have hd : ∀ v b, EM w D v b -> EM w' D v b := fun _ _ hd => hd.ext x fun b h => (hM b h).1
 exact ⟨ms, mn, sv, ls, ln, cs, h1, h2, h3, h4, h5, h6, h7, fun b hb => afK (h7' b hb) x.size, h8.ext x (hx h1), h9.ext x (hx h2), h10.ext x (hx h3), h11.map hd, h12.map hd, h13.ext x (fun b hb => hx hb.1), h14.map hd⟩
theorem mE.new {w w' : ahA} {p : Nat} {X D : Nat -> Prop} {S : jL} (h : mE w p X D S) (x : gV w w' jN) : mE w' p X D S := h.ext x fun _ h => h.elim
theorem mE.more {w w' : ahA} {p q : Nat} {X D : Nat -> Prop} {S : jL} (h : mE w p X D S) (x : gV w w' jN) (hq : w.heap.size <= q) (hq' : q < w'.heap.size) : mE w' p X (fun b => D b ∨ b = q) S := by
 obtain ⟨ms, mn, sv, ls, ln, cs, h1, h2, h3, h4, h5, h6, h7, h7', h8, h9, h10, h11, h12, h13, h14⟩ := h
 have hd : ∀ v b, EM w D v b -> EM w' (fun b => D b ∨ b = q) v b := fun v b hd => (hd.sub (Y := fun b => D b ∨ b = q) fun b h => by
  rcases h with h | h
  .exact .inl h
  .exact .inr (by omega)).ext x fun _ h => h.elim
 have z := x.size
 exact ⟨ms, mn, sv, ls, ln, cs, h1, h2, h3, h4, h5, h6, fun b h => .inl (h7 b h), fun b hb => by
  rcases hb with hb | hb
  .have := h7' b hb; omega
  .omega, h8.ext x (fun h => h), h9.ext x (fun h => h), h10.ext x (fun h => h), h11.map hd, h12.map hd, h13.ext x (fun b _ h => h), h14.map hd⟩
end Go.En
namespace Go.Proofs.YteelnmpbnaohpaaDoor
open Go Go.En Go.Pu
set_option maxRecDepth 4000
def Lw (s : ByteArray) : Bool := decide (1 <= s.size /\ s.size <= 32)
theorem Xf (s : ByteArray) (w : ahA) : gT pg Bz #[.string s] w (fun r w' => r = .bool (Lw s) /\ w' = w) := by
 refine Qf ?_
 unfold SA JG Lw
 by_cases h1 : 1 <= s.size
 .have d1 : decide ((1 : Int) <= (s.size : Int)) = true := by simp; omega
  by_cases h2 : s.size <= 32
  .have d2 : decide ((s.size : Int) <= 32) = true := by simp; omega
   rw [decide_eq_true ⟨h1, h2⟩]
   simp (disch := omega) only [eY, gN, dX, stepR_skip, fO, fW, fN, fZ, fX, fY, gQ, gG, eT, fT, fS, gE, fR, fL, fV, fQ, fU, gB, gC, fP, fC, gI, gA, fK, iR, iO, iP, iU, iM, iS, iQ, iT, iN, eP, Result.ok.injEq, Next.value.injEq, true_and, and_true, fI, fJ, gH, fM, gD, gR, acM, fE, fF, fG, fD, eZ, eU, fB, eX, eQ, eH, if_true, if_false, acK, acQ, acL, acN, acP, acO, acJ, acI, eA, dV, aB, dM, dO, cB, eB, eS, eE, dK, eF, fA, dJ, eJ, bP, dS, bE, dN, aL, aH, eL, aX, cI, eM, aE, eN, dE, aR, bF, eD, bB, bC, bJ, aO, aI, cF, fH, dY, cJ, cC, dA, cH, dT, bD, eK, bT, dF, bR, aT, bV, aC, bY, bQ, cA, bX, aY, aU, bA, bU, dL, cP, bO, aV, aJ, aM, bG, aF, dC, dW, aK, aN, aZ, aG, cY, aD, cL, bW, bH, aP, cM, bZ, aA, dD, cO, cU, cG, dI, cD, dG, dU, cQ, eC, eI, bN, aS, dZ, bS, aQ, bL, dH, cZ, cV, cN, cS, bK, bM, cX, dR, cR, dQ, dB, d1, d2]
  .have d2 : decide ((s.size : Int) <= 32) = false := by simp; omega
   rw [decide_eq_false (fun h => h2 h.2)]
   simp (disch := omega) only [eY, gN, dX, stepR_skip, fO, fW, fN, fZ, fX, fY, gQ, gG, eT, fT, fS, gE, fR, fL, fV, fQ, fU, gB, gC, fP, fC, gI, gA, fK, iR, iO, iP, iU, iM, iS, iQ, iT, iN, eP, Result.ok.injEq, Next.value.injEq, true_and, and_true, fI, fJ, gH, fM, gD, gR, acM, fE, fF, fG, fD, eZ, eU, fB, eX, eQ, eH, if_true, if_false, acK, acQ, acL, acN, acP, acO, acJ, acI, eA, dV, aB, dM, dO, cB, eB, eS, eE, dK, eF, fA, dJ, eJ, bP, dS, bE, dN, aL, aH, eL, aX, cI, eM, aE, eN, dE, aR, bF, eD, bB, bC, bJ, aO, aI, cF, fH, dY, cJ, cC, dA, cH, dT, bD, eK, bT, dF, bR, aT, bV, aC, bY, bQ, cA, bX, aY, aU, bA, bU, dL, cP, bO, aV, aJ, aM, bG, aF, dC, dW, aK, aN, aZ, aG, cY, aD, cL, bW, bH, aP, cM, bZ, aA, dD, cO, cU, cG, dI, cD, dG, dU, cQ, eC, eI, bN, aS, dZ, bS, aQ, bL, dH, cZ, cV, cN, cS, bK, bM, cX, dR, cR, dQ, dB, d1, d2]
 .have d1 : decide ((1 : Int) <= (s.size : Int)) = false := by simp; omega
  rw [decide_eq_false (fun h => h1 h.1)]
  simp (disch := omega) only [eY, gN, dX, stepR_skip, fO, fW, fN, fZ, fX, fY, gQ, gG, eT, fT, fS, gE, fR, fL, fV, fQ, fU, gB, gC, fP, fC, gI, gA, fK, iR, iO, iP, iU, iM, iS, iQ, iT, iN, eP, Result.ok.injEq, Next.value.injEq, true_and, and_true, fI, fJ, gH, fM, gD, gR, acM, fE, fF, fG, fD, eZ, eU, fB, eX, eQ, eH, if_true, if_false, acK, acQ, acL, acN, acP, acO, acJ, acI, eA, dV, aB, dM, dO, cB, eB, eS, eE, dK, eF, fA, dJ, eJ, bP, dS, bE, dN, aL, aH, eL, aX, cI, eM, aE, eN, dE, aR, bF, eD, bB, bC, bJ, aO, aI, cF, fH, dY, cJ, cC, dA, cH, dT, bD, eK, bT, dF, bR, aT, bV, aC, bY, bQ, cA, bX, aY, aU, bA, bU, dL, cP, bO, aV, aJ, aM, bG, aF, dC, dW, aK, aN, aZ, aG, cY, aD, cL, bW, bH, aP, cM, bZ, aA, dD, cO, cU, cG, dI, cD, dG, dU, cQ, eC, eI, bN, aS, dZ, bS, aQ, bL, dH, cZ, cV, cN, cS, bK, bM, cX, dR, cR, dQ, dB, d1]
theorem ZE {m : Nat} {X : Nat -> Prop} {ls : List (ByteArray × ahB)} {c : oR} {w : ahA} (hm : Mp w m Nl ls) (hf : C7 w X ls c) (hs : iJ c <= 1099511627776) :
 gT pg uD #[.map (some m)] w (fun r w' => r = .int .i64 (iJ c : Nat) /\ gV w w' jN) := by
 refine I1 ?_
 unfold H0 xT zG yB yU yH
 have hlt := hm.lt
 refine Qn hm fun w1 hi x1 s1 => ?_
 unfold yQ xV
 have hf1 : C7 w1 (fun b => X b ∨ w.heap.size <= b) ls c := (hf.sub (Y := fun b => X b ∨ w.heap.size <= b) fun _ h => h).ext x1 fun _ h => h.elim
 refine kJ.rule (fun k (t : ahB) w' => ∃ (rest : List (ByteArray × ahB)) (cr : oR) (n : Nat), k = rest.length /\ t = .int .i64 n /\ YR w' w.heap.size m Nl rest /\ C7 w' (fun b => X b ∨ w.heap.size <= b) rest cr /\ n + iJ cr = iJ c /\ gV w1 w' (fun y => y = w.heap.size)) ls.length
  ⟨ls, c, 0, rfl, rfl, hi, hf1, by omega, gV.refl _ _⟩ ?_
 rintro k t w2 ⟨rest, cr, n, rfl, rfl, hi2, hf2, hn, x2⟩
 unfold sN
 refine Wj hi2 (by omega) (fun h0 => ?_) fun w3 j hj hi3 hc x3 s3 => ?_
 .have hl := hf2.len
  rw [h0] at hl
  have hcr : cr = [] := adK.1 hl.symm
  have hz : iJ cr = 0 := by rw [hcr] <;> rfl
  unfold sE
  have e1 : n = iJ c := by omega
  simp (disch := omega) only [eY, gN, dX, stepR_skip, fO, fW, fN, fZ, fX, fY, gQ, gG, eT, fT, fS, gE, fR, fL, fV, fQ, fU, gB, gC, fP, fC, gI, gA, fK, iR, iO, iP, iU, iM, iS, iQ, iT, iN, eP, Result.ok.injEq, Next.value.injEq, true_and, and_true, fI, fJ, gH, fM, gD, gR, acM, fE, fF, fG, fD, eZ, eU, fB, eX, eQ, eH, if_true, if_false, acK, acQ, acL, acN, acP, acO, acJ, acI, eA, dV, aB, dM, dO, cB, eB, eS, eE, dK, eF, fA, dJ, eJ, bP, dS, bE, dN, aL, aH, eL, aX, cI, eM, aE, eN, dE, aR, bF, eD, bB, bC, bJ, aO, aI, cF, fH, dY, cJ, cC, dA, cH, dT, bD, eK, bT, dF, bR, aT, bV, aC, bY, bQ, cA, bX, aY, aU, bA, bU, dL, cP, bO, aV, aJ, aM, bG, aF, dC, dW, aK, aN, aZ, aG, cY, aD, cL, bW, bH, aP, cM, bZ, aA, dD, cO, cU, cG, dI, cD, dG, dU, cQ, eC, eI, bN, aS, dZ, bS, aQ, bL, dH, cZ, cV, cN, cS, bK, bM, cX, dR, cR, dQ, dB, e1]
  exact x1.new x2 (acY _)
 .have hl := hf2.len
  have hat := hf2.at hj (by omega)
  obtain ⟨va, vc, hv, _⟩ := hat.2.1.len
  rw [acR] at hv
  have he := Yv (P := pg) hc
  rw [hv] at he
  have hse := SY (c := cr) (j := j) (by omega)
  generalize (cr[j]'(by omega)).2.length = q at *
  have e1 : (n : Int) + (q : Int) = ((n + q : Nat) : Int) := by omega
  simp (disch := omega) only [eY, gN, dX, stepR_skip, fO, fW, fN, fZ, fX, fY, gQ, gG, eT, fT, fS, gE, fR, fL, fV, fQ, fU, gB, gC, fP, fC, gI, gA, fK, iR, iO, iP, iU, iM, iS, iQ, iT, iN, eP, Result.ok.injEq, Next.value.injEq, true_and, and_true, fI, fJ, gH, fM, gD, gR, acM, fE, fF, fG, fD, eZ, eU, fB, eX, eQ, eH, if_true, if_false, acK, acQ, acL, acN, acP, acO, acJ, acI, eA, dV, aB, dM, dO, cB, eB, eS, eE, dK, eF, fA, dJ, eJ, bP, dS, bE, dN, aL, aH, eL, aX, cI, eM, aE, eN, dE, aR, bF, eD, bB, bC, bJ, aO, aI, cF, fH, dY, cJ, cC, dA, cH, dT, bD, eK, bT, dF, bR, aT, bV, aC, bY, bQ, cA, bX, aY, aU, bA, bU, dL, cP, bO, aV, aJ, aM, bG, aF, dC, dW, aK, aN, aZ, aG, cY, aD, cL, bW, bH, aP, cM, bZ, aA, dD, cO, cU, cG, dI, cD, dG, dU, cQ, eC, eI, bN, aS, dZ, bS, aQ, bL, dH, cZ, cV, cN, cS, bK, bM, cX, dR, cR, dQ, dB, he, e1]
  refine ⟨(rest.eraseIdx j).length, by rw [List.length_eraseIdx_of_lt hj]; omega, _, cr.eraseIdx j, n + q, rfl, rfl, hi3, (hf2.erase j).ext x3 (fun b h => .inr (by omega)), by omega, x2.seq x3⟩
theorem Tu (cs : List ahB) (n : Nat) : nA cs n [] = cs := by unfold nA; rfl
theorem Ur (n : Nat) : (List.replicate n (0 : UInt8)).map pG = List.replicate n (Value.int .u8 0) := by rw [agH] <;> rfl
theorem ZO {m : Nat} {X : Nat -> Prop} {ls : List (ByteArray × ahB)} {c : oR} {o : NT} {va : Option Addr} {vc : Nat} {w : ahA} (hm : Mp w m Nl ls) (hmX : X m) (hX : ∀ b, X b -> b < w.heap.size) (hf : C7 w X ls c)
 (hd : EM w X (.slice va o.bytes.length vc) o.bytes) (hs : iJ c <= 1099511627776) (ha : o.at' <= 1099511627776) (hb : o.bytes.length <= 1099511627776) :
 gT pg sS #[.map (some m), .agg (MW o (.slice va o.bytes.length vc)).toArray] w (fun r w' => r = .tuple #[] /\ ∃ ls', Mp w' m Nl ls' /\ C7 w' X ls' (CV o c) /\ gV w w' (fun b => b = m)) := by
 refine Lo ?_
 unfold KM BK
 refine oM fun w1 o1 x1 s1 => ?_
 have o1 : jI w1 w.heap.size [.int .i64 o.kind, .string o.name, .string o.other, .int .i64 o.at', .slice va o.bytes.length vc] := o1
 have hlt := hm.lt
 have hm1 := hm.ext x1 (fun h => h)
 have fin : ∀ {w' : ahA} {ls' : List (ByteArray × ahB)}, Mp w' m Nl ls' -> C7 w' X ls' (CV o c) -> gV w w' (fun b => b = m) -> ∃ ls', Mp w' m Nl ls' /\ C7 w' X ls' (CV o c) /\ gV w w' (fun b => b = m) := fun h1 h2 h3 => ⟨_, h1, h2, h3⟩
 have hfx : ∀ {w' : ahA}, gV w w' (fun b => b = m) -> C7 w' X ls c := fun x => hf.ext x fun b h => h ▸ hmX
 obtain ⟨oa, oc, ob, th, l0, hbo, hnx, hob, hth⟩ : ∃ (oa : Option Addr) (oc : Nat) (ob : List UInt8) (th : Bool), (Ay 61 (.map (some m)) (.string o.name) true).run pg w1 = .ok (.value (.tuple #[.slice oa ob.length oc, .bool th])) w1 /\ Bs w (.slice oa ob.length oc) ob /\ ¬ vO (.slice oa ob.length oc) X /\
  (jC o.name c).getD [] = ob /\ (th = true /\ jC o.name c = some ob ∨ th = false /\ jC o.name c = none) := by
  have l0 := BT hm1 o.name
  rcases hf.get o.name with ⟨h1, h2⟩ | ⟨v, b, h1, h2, h3⟩
  .rw [h1] at l0
   exact ⟨none, 0, [], false, l0, Sl.nil _, fun h => h, by rw [h2] <;> rfl, .inr ⟨rfl, h2⟩⟩
  .obtain ⟨a', c', hv, _⟩ := h3.1.len
   rw [acR] at hv
   subst hv
   rw [h1] at l0
   exact ⟨a', c', b, true, l0, h3.1, h3.2, by rw [h2] <;> rfl, .inl ⟨rfl, h2⟩⟩
 have c0 := o1.cell (off := 0)
 have c1 := o1.cell (off := 1)
 have c2 := o1.cell (off := 2)
 have c3 := o1.cell (off := 3)
 have c4 := o1.cell (off := 4)
 simp only [acI, acJ] at c0 c1 c2 c3 c4
 have holdlen : ob.length <= 1099511627776 := by rw [<- hob]; have := BJ (k := o.name) (c := c); omega
 by_cases k0 : o.kind = 0
 .have n1 : (((o.kind : Nat) : Int) == 0) = true := by rw [k0] <;> rfl
  obtain ⟨M, hM⟩ : ∃ M, M = max ob.length (o.at' + o.bytes.length) := ⟨_, rfl⟩
  have e1 : (o.at' : Int) + (o.bytes.length : Int) = ((o.at' + o.bytes.length : Nat) : Int) := by omega
  have hmax : (if ((o.at' + o.bytes.length : Nat) : Int) > (ob.length : Int) then ((o.at' + o.bytes.length : Nat) : Int) else (ob.length : Int)) = ((M : Nat) : Int) := by
   split <;> omega
  simp (disch := omega) only [eY, gN, dX, stepR_skip, fO, fW, fN, fZ, fX, fY, gQ, gG, eT, fT, fS, gE, fR, fL, fV, fQ, fU, gB, gC, fP, fC, gI, gA, fK, iR, iO, iP, iU, iM, iS, iQ, iT, iN, eP, Result.ok.injEq, Next.value.injEq, true_and, and_true, fI, fJ, gH, fM, gD, gR, acM, fE, fF, fG, fD, eZ, eU, fB, eX, eQ, eH, if_true, if_false, acK, acQ, acL, acN, acP, acO, acJ, acI, eA, dV, aB, dM, dO, cB, eB, eS, eE, dK, eF, fA, dJ, eJ, bP, dS, bE, dN, aL, aH, eL, aX, cI, eM, aE, eN, dE, aR, bF, eD, bB, bC, bJ, aO, aI, cF, fH, dY, cJ, cC, dA, cH, dT, bD, eK, bT, dF, bR, aT, bV, aC, bY, bQ, cA, bX, aY, aU, bA, bU, dL, cP, bO, aV, aJ, aM, bG, aF, dC, dW, aK, aN, aZ, aG, cY, aD, cL, bW, bH, aP, cM, bZ, aA, dD, cO, cU, cG, dI, cD, dG, dU, cQ, eC, eI, bN, aS, dZ, bS, aQ, bL, dH, cZ, cV, cN, cS, bK, bM, cX, dR, cR, dQ, dB, c0, c1, c3, c4, l0, n1, e1, hmax]
  refine NV (by omega) (by omega) fun w2 o2 x2 s2 => ?_
  rw [acM] at o2 ⊢
  have x02 := x1.seq x2
  have hnb : ¬ vO (.slice oa ob.length oc) (fun y => y = w1.heap.size) := fun h => hbo.old (vG h fun b hb => by omega)
  refine Fh o2 (by rw [adI]; omega) (hbo.ext x02 (jG _)) (Fq _) fun w3 o3 x3 s3 => ?_
  have P3 : nA (List.replicate M (Value.int .u8 0)) 0 ((ob.map pG).take (min (ob.map pG).length M)) = (ob ++ List.replicate (M - ob.length) 0).map pG := by
   rw [acR, adW (by omega), acX (by rw [acR]; omega)]
   have := oQ (ob.map pG) [] (List.replicate M (Value.int .u8 0)) (by rw [acR, adI]; omega)
   rw [adJ, adJ, aeN] at this
   rw [this, aeI, Ur, List.drop_replicate, acR]
  rw [P3] at o3
  have x03 : gV w w3 jN := x02.new x3 (by omega)
  have o13 := (o1.ext x2 (fun h => h)).ext x3 (by omega)
  have hm3 := hm.ext x03 (fun h => h)
  have q1 := o13.cell (off := 1)
  have q3 := o13.cell (off := 3)
  have q4 := o13.cell (off := 4)
  have q3d := (kR o13).cell (off := 3)
  have q4d := (kR o13).cell (off := 4)
  simp only [acI, acJ] at q1 q3 q4 q3d q4d
  have hbd : Bs (dr w3) (.slice va o.bytes.length vc) o.bytes := (hd.1.ext x03 (jG _)).ext (gV.dr _ jN) (jG _)
  have hhm : o.at' <= M := by omega
  have hP : (ob ++ List.replicate (M - ob.length) (0 : UInt8)).length = M := by rw [acT, adI]; omega
  have hov : over ob o.at' o.bytes = (ob ++ List.replicate (M - ob.length) 0).take o.at' ++ o.bytes ++ (ob ++ List.replicate (M - ob.length) 0).drop (o.at' + o.bytes.length) := by unfold over; rw [<- hM]
  have hol := B2 ob o.at' o.bytes
  generalize ob ++ List.replicate (M - ob.length) (0 : UInt8) = P at *
  have ending : ∀ (w4 : ahA), jI w4 w1.heap.size ((over ob o.at' o.bytes).map pG) -> gV w w4 jN →
      eY pg (Li 61 (.map (some m)) (.string o.name) (.slice (some ⟨w1.heap.size, 0, none⟩) M M)) w4 fun _ w' => ∃ ls', Mp w' m Nl ls' /\ C7 w' X ls' (CV o c) /\ gV w w' (fun b => b = m) := fun w4 o4 x4 => by
   refine KF (hm.ext x4 (fun h => h)) o.name _ fun w5 hm5 x5 s5 => ?_
   have x05 : gV w w5 (fun b => b = m) := (x4.mono fun _ _ h => h.elim).seq x5
   have hdo : CV o c = nB o.name (over ob o.at' o.bytes) c := by unfold CV; rw [if_pos k0, hob]
   rw [hdo]
   refine ⟨_, hm5, C7.set ⟨?_, fun h => ?_⟩ (hfx x05), x05⟩
   .have := jI.whole (c := M) (o4.ext x5 (by omega)) (by omega)
    rw [hol, <- hM] at this
    exact this
   .obtain ⟨M', hM'⟩ : ∃ M', M = M' + 1 ∨ M = 0 := ⟨M - 1, by omega⟩
    rcases hM' with h' | h'
    .rw [h'] at h
     have h : X w1.heap.size := h
     have := hX _ h
     omega
    .rw [h'] at h
     exact h
  by_cases hat : o.at' < M
  .have hsh : kA (some ⟨w1.heap.size, 0, none⟩) M o.at' 1 = some ⟨w1.heap.size, 0 + o.at', none⟩ := TY (by omega)
   simp (disch := omega) only [eY, gN, dX, stepR_skip, fO, fW, fN, fZ, fX, fY, gQ, gG, eT, fT, fS, gE, fR, fL, fV, fQ, fU, gB, gC, fP, fC, gI, gA, fK, iR, iO, iP, iU, iM, iS, iQ, iT, iN, eP, Result.ok.injEq, Next.value.injEq, true_and, and_true, fI, fJ, gH, fM, gD, gR, acM, fE, fF, fG, fD, eZ, eU, fB, eX, eQ, eH, if_true, if_false, acK, acQ, acL, acN, acP, acO, acJ, acI, eA, dV, aB, dM, dO, cB, eB, eS, eE, dK, eF, fA, dJ, eJ, bP, dS, bE, dN, aL, aH, eL, aX, cI, eM, aE, eN, dE, aR, bF, eD, bB, bC, bJ, aO, aI, cF, fH, dY, cJ, cC, dA, cH, dT, bD, eK, bT, dF, bR, aT, bV, aC, bY, bQ, cA, bX, aY, aU, bA, bU, dL, cP, bO, aV, aJ, aM, bG, aF, dC, dW, aK, aN, aZ, aG, cY, aD, cL, bW, bH, aP, cM, bZ, aA, dD, cO, cU, cG, dI, cD, dG, dU, cQ, eC, eI, bN, aS, dZ, bS, aQ, bL, dH, cZ, cV, cN, cS, bK, bM, cX, dR, cR, dQ, dB, q3, q4, q3d, q4d, hsh]
   refine Fh (off := o.at') (kR o3) (by rw [acR]; omega) hbd (Fq _) fun w4 o4 x4 s4 => ?_
   have P4 : nA (P.map pG) o.at' ((o.bytes.map pG).take (min (o.bytes.map pG).length (M - o.at'))) = (over ob o.at' o.bytes).map pG := by
    rw [acR, adW (by omega), acX (by rw [acR]; omega)]
    have := oQ (o.bytes.map pG) ((P.take o.at').map pG) ((P.drop o.at').map pG) (by rw [acR, acR, adB]; omega)
    rw [<- aeI, agR, acR, adE, adW (by omega)] at this
    rw [this, hov, acR, aeI, aeI, <- afM, afV]
   rw [P4] at o4
   have x34 : gV w3 w4 (fun y => y = w1.heap.size) := (gV.dr _ _).seq x4
   have x04 : gV w w4 jN := x03.new x34 (by omega)
   have o14 := o13.ext x34 (by omega)
   have q1 := o14.cell (off := 1)
   have q1d := (kR o14).cell (off := 1)
   simp only [acI, acJ] at q1 q1d
   have e4 := ending w4 o4 x04
   simp (disch := omega) only [eY, gN, dX, stepR_skip, fO, fW, fN, fZ, fX, fY, gQ, gG, eT, fT, fS, gE, fR, fL, fV, fQ, fU, gB, gC, fP, fC, gI, gA, fK, iR, iO, iP, iU, iM, iS, iQ, iT, iN, eP, Result.ok.injEq, Next.value.injEq, true_and, and_true, fI, fJ, gH, fM, gD, gR, acM, fE, fF, fG, fD, eZ, eU, fB, eX, eQ, eH, if_true, if_false, acK, acQ, acL, acN, acP, acO, acJ, acI, eA, dV, aB, dM, dO, cB, eB, eS, eE, dK, eF, fA, dJ, eJ, bP, dS, bE, dN, aL, aH, eL, aX, cI, eM, aE, eN, dE, aR, bF, eD, bB, bC, bJ, aO, aI, cF, fH, dY, cJ, cC, dA, cH, dT, bD, eK, bT, dF, bR, aT, bV, aC, bY, bQ, cA, bX, aY, aU, bA, bU, dL, cP, bO, aV, aJ, aM, bG, aF, dC, dW, aK, aN, aZ, aG, cY, aD, cL, bW, bH, aP, cM, bZ, aA, dD, cO, cU, cG, dI, cD, dG, dU, cQ, eC, eI, bN, aS, dZ, bS, aQ, bL, dH, cZ, cV, cN, cS, bK, bM, cX, dR, cR, dQ, dB, q1, q1d]
   exact e4
  .have hE : o.at' = M := by omega
   have hb0 : o.bytes = [] := adK.1 (by omega)
   have hsh : kA (some ⟨w1.heap.size, 0, none⟩) M o.at' 1 = some ⟨w1.heap.size, 0, none⟩ := by unfold kA; rw [if_pos hE.symm]
   simp (disch := omega) only [eY, gN, dX, stepR_skip, fO, fW, fN, fZ, fX, fY, gQ, gG, eT, fT, fS, gE, fR, fL, fV, fQ, fU, gB, gC, fP, fC, gI, gA, fK, iR, iO, iP, iU, iM, iS, iQ, iT, iN, eP, Result.ok.injEq, Next.value.injEq, true_and, and_true, fI, fJ, gH, fM, gD, gR, acM, fE, fF, fG, fD, eZ, eU, fB, eX, eQ, eH, if_true, if_false, acK, acQ, acL, acN, acP, acO, acJ, acI, eA, dV, aB, dM, dO, cB, eB, eS, eE, dK, eF, fA, dJ, eJ, bP, dS, bE, dN, aL, aH, eL, aX, cI, eM, aE, eN, dE, aR, bF, eD, bB, bC, bJ, aO, aI, cF, fH, dY, cJ, cC, dA, cH, dT, bD, eK, bT, dF, bR, aT, bV, aC, bY, bQ, cA, bX, aY, aU, bA, bU, dL, cP, bO, aV, aJ, aM, bG, aF, dC, dW, aK, aN, aZ, aG, cY, aD, cL, bW, bH, aP, cM, bZ, aA, dD, cO, cU, cG, dI, cD, dG, dU, cQ, eC, eI, bN, aS, dZ, bS, aQ, bL, dH, cZ, cV, cN, cS, bK, bM, cX, dR, cR, dQ, dB, q3, q4, q3d, q4d, hsh]
   refine Fh (off := 0) (kR o3) (by rw [acR]; omega) hbd (Fq _) fun w4 o4 x4 s4 => ?_
   have P4 : nA (P.map pG) 0 ((o.bytes.map pG).take (min (o.bytes.map pG).length (M - o.at'))) = (over ob o.at' o.bytes).map pG := by
    rw [hov, hb0]
    show nA (P.map pG) 0 (List.take (min 0 (M - o.at')) []) = _
    rw [List.take_nil, Tu, aeJ, aeN, Nat.add_zero, agR]
   rw [P4] at o4
   have x34 : gV w3 w4 (fun y => y = w1.heap.size) := (gV.dr _ _).seq x4
   have x04 : gV w w4 jN := x03.new x34 (by omega)
   have o14 := o13.ext x34 (by omega)
   have q1 := o14.cell (off := 1)
   have q1d := (kR o14).cell (off := 1)
   simp only [acI, acJ] at q1 q1d
   have e4 := ending w4 o4 x04
   simp (disch := omega) only [eY, gN, dX, stepR_skip, fO, fW, fN, fZ, fX, fY, gQ, gG, eT, fT, fS, gE, fR, fL, fV, fQ, fU, gB, gC, fP, fC, gI, gA, fK, iR, iO, iP, iU, iM, iS, iQ, iT, iN, eP, Result.ok.injEq, Next.value.injEq, true_and, and_true, fI, fJ, gH, fM, gD, gR, acM, fE, fF, fG, fD, eZ, eU, fB, eX, eQ, eH, if_true, if_false, acK, acQ, acL, acN, acP, acO, acJ, acI, eA, dV, aB, dM, dO, cB, eB, eS, eE, dK, eF, fA, dJ, eJ, bP, dS, bE, dN, aL, aH, eL, aX, cI, eM, aE, eN, dE, aR, bF, eD, bB, bC, bJ, aO, aI, cF, fH, dY, cJ, cC, dA, cH, dT, bD, eK, bT, dF, bR, aT, bV, aC, bY, bQ, cA, bX, aY, aU, bA, bU, dL, cP, bO, aV, aJ, aM, bG, aF, dC, dW, aK, aN, aZ, aG, cY, aD, cL, bW, bH, aP, cM, bZ, aA, dD, cO, cU, cG, dI, cD, dG, dU, cQ, eC, eI, bN, aS, dZ, bS, aQ, bL, dH, cZ, cV, cN, cS, bK, bM, cX, dR, cR, dQ, dB, q1, q1d]
   exact e4
 have n1 : (((o.kind : Nat) : Int) == 0) = false := beq_eq_false_iff_ne.2 (by omega)
 have self : gV w w1 (fun b => b = m) := x1.mono fun _ _ h => h.elim
 by_cases k1 : o.kind = 1
 .have n2 : (((o.kind : Nat) : Int) == 1) = true := by rw [k1] <;> rfl
  rcases hth with ⟨rfl, hg⟩ | ⟨rfl, hg⟩
  .have hdo : CV o c = nB o.other ob (zB o.name c) := by unfold CV; rw [if_neg k0, if_pos k1, hg]
   simp (disch := omega) only [eY, gN, dX, stepR_skip, fO, fW, fN, fZ, fX, fY, gQ, gG, eT, fT, fS, gE, fR, fL, fV, fQ, fU, gB, gC, fP, fC, gI, gA, fK, iR, iO, iP, iU, iM, iS, iQ, iT, iN, eP, Result.ok.injEq, Next.value.injEq, true_and, and_true, fI, fJ, gH, fM, gD, gR, acM, fE, fF, fG, fD, eZ, eU, fB, eX, eQ, eH, if_true, if_false, acK, acQ, acL, acN, acP, acO, acJ, acI, eA, dV, aB, dM, dO, cB, eB, eS, eE, dK, eF, fA, dJ, eJ, bP, dS, bE, dN, aL, aH, eL, aX, cI, eM, aE, eN, dE, aR, bF, eD, bB, bC, bJ, aO, aI, cF, fH, dY, cJ, cC, dA, cH, dT, bD, eK, bT, dF, bR, aT, bV, aC, bY, bQ, cA, bX, aY, aU, bA, bU, dL, cP, bO, aV, aJ, aM, bG, aF, dC, dW, aK, aN, aZ, aG, cY, aD, cL, bW, bH, aP, cM, bZ, aA, dD, cO, cU, cG, dI, cD, dG, dU, cQ, eC, eI, bN, aS, dZ, bS, aQ, bL, dH, cZ, cV, cN, cS, bK, bM, cX, dR, cR, dQ, dB, c0, c1, c2, c3, c4, l0, n1, n2]
   refine Lb hm1 o.name fun w2 hm2 x2 s2 => ?_
   have x02 := self.seq x2
   have q2 := (o1.ext x2 (by omega)).cell (off := 2)
   simp only [acI, acJ] at q2
   simp (disch := omega) only [eY, gN, dX, stepR_skip, fO, fW, fN, fZ, fX, fY, gQ, gG, eT, fT, fS, gE, fR, fL, fV, fQ, fU, gB, gC, fP, fC, gI, gA, fK, iR, iO, iP, iU, iM, iS, iQ, iT, iN, eP, Result.ok.injEq, Next.value.injEq, true_and, and_true, fI, fJ, gH, fM, gD, gR, acM, fE, fF, fG, fD, eZ, eU, fB, eX, eQ, eH, if_true, if_false, acK, acQ, acL, acN, acP, acO, acJ, acI, eA, dV, aB, dM, dO, cB, eB, eS, eE, dK, eF, fA, dJ, eJ, bP, dS, bE, dN, aL, aH, eL, aX, cI, eM, aE, eN, dE, aR, bF, eD, bB, bC, bJ, aO, aI, cF, fH, dY, cJ, cC, dA, cH, dT, bD, eK, bT, dF, bR, aT, bV, aC, bY, bQ, cA, bX, aY, aU, bA, bU, dL, cP, bO, aV, aJ, aM, bG, aF, dC, dW, aK, aN, aZ, aG, cY, aD, cL, bW, bH, aP, cM, bZ, aA, dD, cO, cU, cG, dI, cD, dG, dU, cQ, eC, eI, bN, aS, dZ, bS, aQ, bL, dH, cZ, cV, cN, cS, bK, bM, cX, dR, cR, dQ, dB, q2]
   refine KF hm2 o.other _ fun w3 hm3 x3 s3 => ?_
   have x03 := x02.seq x3
   rw [hdo]
   refine fin (w' := w3) hm3 ?_ x03 |> fun h => by rw [hdo] at h; exact h
   rw [hdo]
   exact C7.set ⟨hbo.ext x03 (fun h => hnx (vG h fun b hb => by rw [hb]; exact hmX)), hnx⟩ (C7.del (hfx x03))
  .have hdo : CV o c = c := by unfold CV; rw [if_neg k0, if_pos k1, hg]
   simp (disch := omega) only [eY, gN, dX, stepR_skip, fO, fW, fN, fZ, fX, fY, gQ, gG, eT, fT, fS, gE, fR, fL, fV, fQ, fU, gB, gC, fP, fC, gI, gA, fK, iR, iO, iP, iU, iM, iS, iQ, iT, iN, eP, Result.ok.injEq, Next.value.injEq, true_and, and_true, fI, fJ, gH, fM, gD, gR, acM, fE, fF, fG, fD, eZ, eU, fB, eX, eQ, eH, if_true, if_false, acK, acQ, acL, acN, acP, acO, acJ, acI, eA, dV, aB, dM, dO, cB, eB, eS, eE, dK, eF, fA, dJ, eJ, bP, dS, bE, dN, aL, aH, eL, aX, cI, eM, aE, eN, dE, aR, bF, eD, bB, bC, bJ, aO, aI, cF, fH, dY, cJ, cC, dA, cH, dT, bD, eK, bT, dF, bR, aT, bV, aC, bY, bQ, cA, bX, aY, aU, bA, bU, dL, cP, bO, aV, aJ, aM, bG, aF, dC, dW, aK, aN, aZ, aG, cY, aD, cL, bW, bH, aP, cM, bZ, aA, dD, cO, cU, cG, dI, cD, dG, dU, cQ, eC, eI, bN, aS, dZ, bS, aQ, bL, dH, cZ, cV, cN, cS, bK, bM, cX, dR, cR, dQ, dB, c0, c1, c2, c3, c4, l0, n1, n2]
   exact fin hm1 (by rw [hdo]; exact hfx self) self
 have n2 : (((o.kind : Nat) : Int) == 1) = false := beq_eq_false_iff_ne.2 (by omega)
 by_cases k2 : o.kind = 2
 .have n3 : (((o.kind : Nat) : Int) == 2) = true := by rw [k2] <;> rfl
  have hdo : CV o c = zB o.name c := by unfold CV; rw [if_neg k0, if_neg k1, if_pos k2]
  simp (disch := omega) only [eY, gN, dX, stepR_skip, fO, fW, fN, fZ, fX, fY, gQ, gG, eT, fT, fS, gE, fR, fL, fV, fQ, fU, gB, gC, fP, fC, gI, gA, fK, iR, iO, iP, iU, iM, iS, iQ, iT, iN, eP, Result.ok.injEq, Next.value.injEq, true_and, and_true, fI, fJ, gH, fM, gD, gR, acM, fE, fF, fG, fD, eZ, eU, fB, eX, eQ, eH, if_true, if_false, acK, acQ, acL, acN, acP, acO, acJ, acI, eA, dV, aB, dM, dO, cB, eB, eS, eE, dK, eF, fA, dJ, eJ, bP, dS, bE, dN, aL, aH, eL, aX, cI, eM, aE, eN, dE, aR, bF, eD, bB, bC, bJ, aO, aI, cF, fH, dY, cJ, cC, dA, cH, dT, bD, eK, bT, dF, bR, aT, bV, aC, bY, bQ, cA, bX, aY, aU, bA, bU, dL, cP, bO, aV, aJ, aM, bG, aF, dC, dW, aK, aN, aZ, aG, cY, aD, cL, bW, bH, aP, cM, bZ, aA, dD, cO, cU, cG, dI, cD, dG, dU, cQ, eC, eI, bN, aS, dZ, bS, aQ, bL, dH, cZ, cV, cN, cS, bK, bM, cX, dR, cR, dQ, dB, c0, c1, c2, c3, c4, l0, n1, n2, n3]
  refine Lb hm1 o.name fun w2 hm2 x2 s2 => ?_
  have x02 := self.seq x2
  exact fin hm2 (by rw [hdo]; exact C7.del (hfx x02)) x02
 .have n3 : (((o.kind : Nat) : Int) == 2) = false := beq_eq_false_iff_ne.2 (by omega)
  have hdo : CV o c = c := by unfold CV; rw [if_neg k0, if_neg k1, if_neg k2]
  simp (disch := omega) only [eY, gN, dX, stepR_skip, fO, fW, fN, fZ, fX, fY, gQ, gG, eT, fT, fS, gE, fR, fL, fV, fQ, fU, gB, gC, fP, fC, gI, gA, fK, iR, iO, iP, iU, iM, iS, iQ, iT, iN, eP, Result.ok.injEq, Next.value.injEq, true_and, and_true, fI, fJ, gH, fM, gD, gR, acM, fE, fF, fG, fD, eZ, eU, fB, eX, eQ, eH, if_true, if_false, acK, acQ, acL, acN, acP, acO, acJ, acI, eA, dV, aB, dM, dO, cB, eB, eS, eE, dK, eF, fA, dJ, eJ, bP, dS, bE, dN, aL, aH, eL, aX, cI, eM, aE, eN, dE, aR, bF, eD, bB, bC, bJ, aO, aI, cF, fH, dY, cJ, cC, dA, cH, dT, bD, eK, bT, dF, bR, aT, bV, aC, bY, bQ, cA, bX, aY, aU, bA, bU, dL, cP, bO, aV, aJ, aM, bG, aF, dC, dW, aK, aN, aZ, aG, cY, aD, cL, bW, bH, aP, cM, bZ, aA, dD, cO, cU, cG, dI, cD, dG, dU, cQ, eC, eI, bN, aS, dZ, bS, aQ, bL, dH, cZ, cV, cN, cS, bK, bM, cX, dR, cR, dQ, dB, c0, c1, c2, c3, c4, l0, n1, n2, n3]
  exact fin hm1 (by rw [hdo]; exact hfx self) self
abbrev dP (p : Nat) : ahB := .pointer (some ⟨p, 0, none⟩)
def A7 (w : ahA) (p : Nat) (X D : Nat -> Prop) (S' : jL) (w' : ahA) : Prop := ∃ X' D', mE w' p X' D' S' /\ (∀ b, X' b -> X b ∨ w.heap.size <= b) /\ (∀ b, D b -> D' b) /\ gV w w' X
theorem A7.refl {w : ahA} {p : Nat} {X D : Nat -> Prop} {S : jL} (h : mE w p X D S) : A7 w p X D S w := ⟨X, D, h, fun _ h => .inl h, fun _ h => h, gV.refl _ _⟩
theorem A7.step {w w1 w2 : ahA} {p : Nat} {X D X1 D1 : Nat -> Prop} {S2 : jL} (x : gV w w1 X) (hX : ∀ b, X1 b -> X b ∨ w.heap.size <= b) (hD : ∀ b, D b -> D1 b) (h : A7 w1 p X1 D1 S2 w2) : A7 w p X D S2 w2 := by
 obtain ⟨X2, D2, h1, h2, h4, h3⟩ := h
 have z := x.size
 refine ⟨X2, D2, h1, fun b hb => ?_, fun b hb => h4 b (hD b hb), x.trans h3 fun b hb hx => ?_⟩
 .rcases h2 b hb with h | h
  .exact hX b h
  .exact .inr (by omega)
 .rcases hX b hx with h | h
  .exact h
  .omega
theorem Uk {w : ahA} {S T : Nat -> Prop} {sz n : Nat} {v : ahB} {l : List ahB} (h : Jv w S sz v n l) (hT : ∀ b, S b -> T b) : Jv w T sz v n l := by
 refine ⟨h.1, ?_⟩
 rcases h.2 with h2 | ⟨b, c, rest, h1, h2, h3⟩
 .exact .inl h2
 .exact .inr ⟨b, c, rest, h1, hT b h2, h3⟩
theorem OL {w : ahA} {S : Nat -> Prop} {sz n : Nat} {v : ahB} {l : List ahB} (h : Jv w S sz v n l) : Jv w (fun b => S b /\ b < w.heap.size) sz v n l := by
 refine ⟨h.1, ?_⟩
 rcases h.2 with h2 | ⟨b, c, rest, h1, h2, h3, h4⟩
 .exact .inl h2
 .exact .inr ⟨b, c, rest, h1, ⟨h2, h3.lt⟩, h3, h4⟩
theorem Xw {p : Nat} {X D : Nat -> Prop} {S : jL} {w : ahA} (h : mE w p X D S) : gT pg nI #[dP p] w (fun r w' => r = .int .i64 (if S.down then 20 else 0) /\ w' = w) := by
 refine MD ?_
 unfold MJ CE
 obtain ⟨ms, mn, sv, ls, ln, cs, h1, h2, h3, h4, h5, h6, hXD, hDl, o, hms, hmn, hfs, hfn, hu, ho⟩ := h
 have c5 := o.cell (off := 5)
 simp only [acI, acJ] at c5
 cases hd : S.down with
 | true =>
   rw [hd] at c5
   simp (disch := omega) only [eY, gN, dX, stepR_skip, fO, fW, fN, fZ, fX, fY, gQ, gG, eT, fT, fS, gE, fR, fL, fV, fQ, fU, gB, gC, fP, fC, gI, gA, fK, iR, iO, iP, iU, iM, iS, iQ, iT, iN, eP, Result.ok.injEq, Next.value.injEq, true_and, and_true, fI, fJ, gH, fM, gD, gR, acM, fE, fF, fG, fD, eZ, eU, fB, eX, eQ, eH, if_true, if_false, acK, acQ, acL, acN, acP, acO, acJ, acI, eA, dV, aB, dM, dO, cB, eB, eS, eE, dK, eF, fA, dJ, eJ, bP, dS, bE, dN, aL, aH, eL, aX, cI, eM, aE, eN, dE, aR, bF, eD, bB, bC, bJ, aO, aI, cF, fH, dY, cJ, cC, dA, cH, dT, bD, eK, bT, dF, bR, aT, bV, aC, bY, bQ, cA, bX, aY, aU, bA, bU, dL, cP, bO, aV, aJ, aM, bG, aF, dC, dW, aK, aN, aZ, aG, cY, aD, cL, bW, bH, aP, cM, bZ, aA, dD, cO, cU, cG, dI, cD, dG, dU, cQ, eC, eI, bN, aS, dZ, bS, aQ, bL, dH, cZ, cV, cN, cS, bK, bM, cX, dR, cR, dQ, dB, c5]
 | false =>
   rw [hd] at c5
   simp (disch := omega) only [eY, gN, dX, stepR_skip, fO, fW, fN, fZ, fX, fY, gQ, gG, eT, fT, fS, gE, fR, fL, fV, fQ, fU, gB, gC, fP, fC, gI, gA, fK, iR, iO, iP, iU, iM, iS, iQ, iT, iN, eP, Result.ok.injEq, Next.value.injEq, true_and, and_true, fI, fJ, gH, fM, gD, gR, acM, fE, fF, fG, fD, eZ, eU, fB, eX, eQ, eH, if_true, if_false, acK, acQ, acL, acN, acP, acO, acJ, acI, eA, dV, aB, dM, dO, cB, eB, eS, eE, dK, eF, fA, dJ, eJ, bP, dS, bE, dN, aL, aH, eL, aX, cI, eM, aE, eN, dE, aR, bF, eD, bB, bC, bJ, aO, aI, cF, fH, dY, cJ, cC, dA, cH, dT, bD, eK, bT, dF, bR, aT, bV, aC, bY, bQ, cA, bX, aY, aU, bA, bU, dL, cP, bO, aV, aJ, aM, bG, aF, dC, dW, aK, aN, aZ, aG, cY, aD, cL, bW, bH, aP, cM, bZ, aA, dD, cO, cU, cG, dI, cD, dG, dU, cQ, eC, eI, bN, aS, dZ, bS, aQ, bL, dH, cZ, cV, cN, cS, bK, bM, cX, dR, cR, dQ, dB, c5]
def pO (l : Int) : Int := if 0 < l then l - 1 else l
def LM (S : jL) : Bool := S.down || S.left == 0
theorem Uh {p : Nat} {a b c d : ahB} {left : Int} {down : Bool} {w : ahA} (o : jI w p [a, b, c, d, .int .i64 left, .bool down]) (hl : -1 <= left /\ left <= 9223372036854775807) :
 gT pg pZ #[dP p] w (fun r w' => r = .bool (down || left == 0) /\ jI w' p [a, b, c, d, .int .i64 (pO left), .bool (down || left == 0)] /\ gV w w' (fun y => y = p)) := by
 refine Jj ?_
 unfold HW zK yS pO
 have c4 := o.cell (off := 4)
 simp only [acI, acJ] at c4
 by_cases h0 : left = 0
 .subst h0
  have n1 : ((0 : Int) == 0) = true := rfl
  simp (disch := omega) only [eY, gN, dX, stepR_skip, fO, fW, fN, fZ, fX, fY, gQ, gG, eT, fT, fS, gE, fR, fL, fV, fQ, fU, gB, gC, fP, fC, gI, gA, fK, iR, iO, iP, iU, iM, iS, iQ, iT, iN, eP, Result.ok.injEq, Next.value.injEq, true_and, and_true, fI, fJ, gH, fM, gD, gR, acM, fE, fF, fG, fD, eZ, eU, fB, eX, eQ, eH, if_true, if_false, acK, acQ, acL, acN, acP, acO, acJ, acI, eA, dV, aB, dM, dO, cB, eB, eS, eE, dK, eF, fA, dJ, eJ, bP, dS, bE, dN, aL, aH, eL, aX, cI, eM, aE, eN, dE, aR, bF, eD, bB, bC, bJ, aO, aI, cF, fH, dY, cJ, cC, dA, cH, dT, bD, eK, bT, dF, bR, aT, bV, aC, bY, bQ, cA, bX, aY, aU, bA, bU, dL, cP, bO, aV, aJ, aM, bG, aF, dC, dW, aK, aN, aZ, aG, cY, aD, cL, bW, bH, aP, cM, bZ, aA, dD, cO, cU, cG, dI, cD, dG, dU, cQ, eC, eI, bN, aS, dZ, bS, aQ, bL, dH, cZ, cV, cN, cS, bK, bM, cX, dR, cR, dQ, dB, c4, n1]
  refine Dc o rfl (by simp) fun w1 o1 x1 s1 => ?_
  simp only [adA, adN] at o1
  have c5 := o1.cell (off := 5)
  simp only [acI, acJ] at c5
  unfold mY
  simp (disch := omega) only [eY, gN, dX, stepR_skip, fO, fW, fN, fZ, fX, fY, gQ, gG, eT, fT, fS, gE, fR, fL, fV, fQ, fU, gB, gC, fP, fC, gI, gA, fK, iR, iO, iP, iU, iM, iS, iQ, iT, iN, eP, Result.ok.injEq, Next.value.injEq, true_and, and_true, fI, fJ, gH, fM, gD, gR, acM, fE, fF, fG, fD, eZ, eU, fB, eX, eQ, eH, if_true, if_false, acK, acQ, acL, acN, acP, acO, acJ, acI, eA, dV, aB, dM, dO, cB, eB, eS, eE, dK, eF, fA, dJ, eJ, bP, dS, bE, dN, aL, aH, eL, aX, cI, eM, aE, eN, dE, aR, bF, eD, bB, bC, bJ, aO, aI, cF, fH, dY, cJ, cC, dA, cH, dT, bD, eK, bT, dF, bR, aT, bV, aC, bY, bQ, cA, bX, aY, aU, bA, bU, dL, cP, bO, aV, aJ, aM, bG, aF, dC, dW, aK, aN, aZ, aG, cY, aD, cL, bW, bH, aP, cM, bZ, aA, dD, cO, cU, cG, dI, cD, dG, dU, cQ, eC, eI, bN, aS, dZ, bS, aQ, bL, dH, cZ, cV, cN, cS, bK, bM, cX, dR, cR, dQ, dB, c5]
  rw [Bool.or_true]
  exact ⟨rfl, o1, x1⟩
 have n1 : (left == 0) = false := beq_eq_false_iff_ne.2 h0
 rw [n1, afO]
 by_cases h1 : 0 < left
 .have d1 : decide (0 < left) = true := by simpa using h1
  simp (disch := omega) only [eY, gN, dX, stepR_skip, fO, fW, fN, fZ, fX, fY, gQ, gG, eT, fT, fS, gE, fR, fL, fV, fQ, fU, gB, gC, fP, fC, gI, gA, fK, iR, iO, iP, iU, iM, iS, iQ, iT, iN, eP, Result.ok.injEq, Next.value.injEq, true_and, and_true, fI, fJ, gH, fM, gD, gR, acM, fE, fF, fG, fD, eZ, eU, fB, eX, eQ, eH, if_true, if_false, acK, acQ, acL, acN, acP, acO, acJ, acI, eA, dV, aB, dM, dO, cB, eB, eS, eE, dK, eF, fA, dJ, eJ, bP, dS, bE, dN, aL, aH, eL, aX, cI, eM, aE, eN, dE, aR, bF, eD, bB, bC, bJ, aO, aI, cF, fH, dY, cJ, cC, dA, cH, dT, bD, eK, bT, dF, bR, aT, bV, aC, bY, bQ, cA, bX, aY, aU, bA, bU, dL, cP, bO, aV, aJ, aM, bG, aF, dC, dW, aK, aN, aZ, aG, cY, aD, cL, bW, bH, aP, cM, bZ, aA, dD, cO, cU, cG, dI, cD, dG, dU, cQ, eC, eI, bN, aS, dZ, bS, aQ, bL, dH, cZ, cV, cN, cS, bK, bM, cX, dR, cR, dQ, dB, c4, n1, d1]
  refine HD o rfl (by simp) fun w1 o1 x1 s1 => ?_
  simp only [adA, adN] at o1
  have c5 := o1.cell (off := 5)
  simp only [acI, acJ] at c5
  unfold mY
  rw [if_pos h1]
  simp (disch := omega) only [eY, gN, dX, stepR_skip, fO, fW, fN, fZ, fX, fY, gQ, gG, eT, fT, fS, gE, fR, fL, fV, fQ, fU, gB, gC, fP, fC, gI, gA, fK, iR, iO, iP, iU, iM, iS, iQ, iT, iN, eP, Result.ok.injEq, Next.value.injEq, true_and, and_true, fI, fJ, gH, fM, gD, gR, acM, fE, fF, fG, fD, eZ, eU, fB, eX, eQ, eH, if_true, if_false, acK, acQ, acL, acN, acP, acO, acJ, acI, eA, dV, aB, dM, dO, cB, eB, eS, eE, dK, eF, fA, dJ, eJ, bP, dS, bE, dN, aL, aH, eL, aX, cI, eM, aE, eN, dE, aR, bF, eD, bB, bC, bJ, aO, aI, cF, fH, dY, cJ, cC, dA, cH, dT, bD, eK, bT, dF, bR, aT, bV, aC, bY, bQ, cA, bX, aY, aU, bA, bU, dL, cP, bO, aV, aJ, aM, bG, aF, dC, dW, aK, aN, aZ, aG, cY, aD, cL, bW, bH, aP, cM, bZ, aA, dD, cO, cU, cG, dI, cD, dG, dU, cQ, eC, eI, bN, aS, dZ, bS, aQ, bL, dH, cZ, cV, cN, cS, bK, bM, cX, dR, cR, dQ, dB, c5]
  exact ⟨o1, x1⟩
 .have d1 : decide (0 < left) = false := by simpa using h1
  have c5 := o.cell (off := 5)
  simp only [acI, acJ] at c5
  unfold mY
  rw [if_neg h1]
  simp (disch := omega) only [eY, gN, dX, stepR_skip, fO, fW, fN, fZ, fX, fY, gQ, gG, eT, fT, fS, gE, fR, fL, fV, fQ, fU, gB, gC, fP, fC, gI, gA, fK, iR, iO, iP, iU, iM, iS, iQ, iT, iN, eP, Result.ok.injEq, Next.value.injEq, true_and, and_true, fI, fJ, gH, fM, gD, gR, acM, fE, fF, fG, fD, eZ, eU, fB, eX, eQ, eH, if_true, if_false, acK, acQ, acL, acN, acP, acO, acJ, acI, eA, dV, aB, dM, dO, cB, eB, eS, eE, dK, eF, fA, dJ, eJ, bP, dS, bE, dN, aL, aH, eL, aX, cI, eM, aE, eN, dE, aR, bF, eD, bB, bC, bJ, aO, aI, cF, fH, dY, cJ, cC, dA, cH, dT, bD, eK, bT, dF, bR, aT, bV, aC, bY, bQ, cA, bX, aY, aU, bA, bU, dL, cP, bO, aV, aJ, aM, bG, aF, dC, dW, aK, aN, aZ, aG, cY, aD, cL, bW, bH, aP, cM, bZ, aA, dD, cO, cU, cG, dI, cD, dG, dU, cQ, eC, eI, bN, aS, dZ, bS, aQ, bL, dH, cZ, cV, cN, cS, bK, bM, cX, dR, cR, dQ, dB, c4, c5, n1, d1]
  exact ⟨o, gV.refl _ _⟩
def pW (S : jL) (o : NT) : jL × Int :=
 if LM S then ({ S with left := pO S.left, down := LM S }, 20)
 else ({ S with left := pO S.left, down := LM S, under := S.under ++ [o], seen := CV o S.seen }, 0)
theorem TW {p : Nat} {X D : Nat -> Prop} {S : jL} {o : NT} {va : Option Addr} {vc : Nat} {w : ahA} (h : mE w p X D S) (hd : EM w D (.slice va o.bytes.length vc) o.bytes) (hl : -1 <= S.left /\ S.left <= 9223372036854775807)
 (hs : iJ S.seen <= 1099511627776) (ha : o.at' <= 1099511627776) (hb : o.bytes.length <= 1099511627776) (hu : S.under.length <= 1000000) :
 gT pg oT #[dP p, .agg (MW o (.slice va o.bytes.length vc)).toArray] w (fun r w' => r = .int .i64 (pW S o).2 /\ A7 w p X D (pW S o).1 w') := by
 refine Kj ?_
 unfold JA Aj
 refine oM fun w1 o1 x1 s1 => ?_
 have o1 : jI w1 w.heap.size (MW o (.slice va o.bytes.length vc)) := o1
 obtain ⟨ms, mn, sv, ls, ln, cs, h1, h2, h3, h4, h5, h6, hXD, hDl, op, hms, hmn, hfs, hfn, hun, hop⟩ := h.new x1
 have h7 := fun b (hb : X b) => hDl b (hXD b hb)
 have hX0 : ∀ b, X b -> b < w.heap.size := by obtain ⟨_, _, _, _, _, _, _, _, _, _, _, _, q1, q2, _⟩ := h; exact fun b hb => q2 b (q1 b hb)
 refine (Uh op hl).mono ?_
 rintro r w2 ⟨rfl, op2, x2⟩
 have x2X : gV w1 w2 X := x2.mono fun b _ hb => hb ▸ h1
 have x2D : gV w1 w2 D := x2X.mono fun b _ hb => hXD b hb
 have x02 : gV w w2 X := (x1.mono fun _ _ h => h.elim).seq x2X
 have z2 := x2.size
 have hms2 := hms.ext x2 (fun h => h4 h.symm)
 have hmn2 := hmn.ext x2 (fun h => h5 h.symm)
 have hfs2 := hfs.ext x2D (fun b h => h)
 have hfn2 := hfn.ext x2D (fun b h => h)
 have hun2 := hun.ext x2 (fun b hb h => hb.2.1 h)
 have hop2 := hop.ext x2D (fun b h => h)
 have h72 : ∀ b, X b -> b < w2.heap.size := fun b hb => by have := h7 b hb; omega
 have hD2 : ∀ b, D b -> b < w2.heap.size := fun b hb => by have := hDl b hb; omega
 have hdn : (S.down || S.left == 0) = LM S := rfl
 rw [hdn] at *
 cases hD : LM S with
 | true =>
   have hE : pW S o = ({ S with left := pO S.left, down := LM S }, 20) := by unfold pW; rw [if_pos hD]
   rw [hE]
   simp (disch := omega) only [eY, gN, dX, stepR_skip, fO, fW, fN, fZ, fX, fY, gQ, gG, eT, fT, fS, gE, fR, fL, fV, fQ, fU, gB, gC, fP, fC, gI, gA, fK, iR, iO, iP, iU, iM, iS, iQ, iT, iN, eP, Result.ok.injEq, Next.value.injEq, true_and, and_true, fI, fJ, gH, fM, gD, gR, acM, fE, fF, fG, fD, eZ, eU, fB, eX, eQ, eH, if_true, if_false, acK, acQ, acL, acN, acP, acO, acJ, acI, eA, dV, aB, dM, dO, cB, eB, eS, eE, dK, eF, fA, dJ, eJ, bP, dS, bE, dN, aL, aH, eL, aX, cI, eM, aE, eN, dE, aR, bF, eD, bB, bC, bJ, aO, aI, cF, fH, dY, cJ, cC, dA, cH, dT, bD, eK, bT, dF, bR, aT, bV, aC, bY, bQ, cA, bX, aY, aU, bA, bU, dL, cP, bO, aV, aJ, aM, bG, aF, dC, dW, aK, aN, aZ, aG, cY, aD, cL, bW, bH, aP, cM, bZ, aA, dD, cO, cU, cG, dI, cD, dG, dU, cQ, eC, eI, bN, aS, dZ, bS, aQ, bL, dH, cZ, cV, cN, cS, bK, bM, cX, dR, cR, dQ, dB]
   exact ⟨X, D, ⟨ms, mn, sv, ls, ln, cs, h1, h2, h3, h4, h5, h6, hXD, hD2, op2, hms2, hmn2, hfs2, hfn2, hun2, hop2⟩, fun _ h => .inl h, fun _ h => h, x02⟩
 | false =>
   have hE : pW S o = ({ S with left := pO S.left, down := LM S, under := S.under ++ [o], seen := CV o S.seen }, 0) := by unfold pW; rw [if_neg (by rw [hD]; decide)]
   rw [hE]
   have hb3 : ¬ (w.heap.size = p) := fun h => by have := hX0 p h1; omega
   have o12 := kR (o1.ext x2 hb3)
   have l1 := pE (off := 0) o12 (by unfold MW; simp)
   have l1' : ((MW o (.slice va o.bytes.length vc)).drop 0).take 5 = MW o (.slice va o.bytes.length vc) := rfl
   rw [l1'] at l1
   have op2d := kR op2
   have q3 := op2d.cell (off := 3)
   simp only [acI, acJ] at q3
   simp (disch := omega) only [eY, gN, dX, stepR_skip, fO, fW, fN, fZ, fX, fY, gQ, gG, eT, fT, fS, gE, fR, fL, fV, fQ, fU, gB, gC, fP, fC, gI, gA, fK, iR, iO, iP, iU, iM, iS, iQ, iT, iN, eP, Result.ok.injEq, Next.value.injEq, true_and, and_true, fI, fJ, gH, fM, gD, gR, acM, fE, fF, fG, fD, eZ, eU, fB, eX, eQ, eH, if_true, if_false, acK, acQ, acL, acN, acP, acO, acJ, acI, eA, dV, aB, dM, dO, cB, eB, eS, eE, dK, eF, fA, dJ, eJ, bP, dS, bE, dN, aL, aH, eL, aX, cI, eM, aE, eN, dE, aR, bF, eD, bB, bC, bJ, aO, aI, cF, fH, dY, cJ, cC, dA, cH, dT, bD, eK, bT, dF, bR, aT, bV, aC, bY, bQ, cA, bX, aY, aU, bA, bU, dL, cP, bO, aV, aJ, aM, bG, aF, dC, dW, aK, aN, aZ, aG, cY, aD, cL, bW, bH, aP, cM, bZ, aA, dD, cO, cU, cG, dI, cD, dG, dU, cQ, eC, eI, bN, aS, dZ, bS, aQ, bL, dH, cZ, cV, cN, cS, bK, bM, cX, dR, cR, dQ, dB, q3, l1]
   refine Js (cells := (MW o (.slice va o.bytes.length vc)).toArray) (by decide) (by decide) (by kernel_rfl) fun w3 o3 x3 s3 => ?_
   have x3 : gV w2 w3 jN := (gV.dr _ _).seq x3
   have z3 := x3.size
   have s3 : w3.heap.size = w2.heap.size + 1 := s3
   have x03 : gV w w3 X := x02.trans x3 fun _ _ h => h.elim
   have op3 := op2.ext x3 (fun h => h)
   have q3 := op3.cell (off := 3)
   have q3d := (kR op3).cell (off := 3)
   simp only [acI, acJ] at q3 q3d
   have hu3 : Jv w3 (fun b => (X b /\ b ≠ p /\ b ≠ ms /\ b ≠ mn) ∨ w3.heap.size <= b) 5 sv S.under.length cs := Uk (hun2.ext x3 (fun b _ h => h)) fun b h => .inl h
   have o3 : jI w3 w2.heap.size (MW o (.slice va o.bytes.length vc)) := o3
   simp (disch := omega) only [eY, gN, dX, stepR_skip, fO, fW, fN, fZ, fX, fY, gQ, gG, eT, fT, fS, gE, fR, fL, fV, fQ, fU, gB, gC, fP, fC, gI, gA, fK, iR, iO, iP, iU, iM, iS, iQ, iT, iN, eP, Result.ok.injEq, Next.value.injEq, true_and, and_true, fI, fJ, gH, fM, gD, gR, acM, fE, fF, fG, fD, eZ, eU, fB, eX, eQ, eH, if_true, if_false, acK, acQ, acL, acN, acP, acO, acJ, acI, eA, dV, aB, dM, dO, cB, eB, eS, eE, dK, eF, fA, dJ, eJ, bP, dS, bE, dN, aL, aH, eL, aX, cI, eM, aE, eN, dE, aR, bF, eD, bB, bC, bJ, aO, aI, cF, fH, dY, cJ, cC, dA, cH, dT, bD, eK, bT, dF, bR, aT, bV, aC, bY, bQ, cA, bX, aY, aU, bA, bU, dL, cP, bO, aV, aJ, aM, bG, aF, dC, dW, aK, aN, aZ, aG, cY, aD, cL, bW, bH, aP, cM, bZ, aA, dD, cO, cU, cG, dI, cD, dG, dU, cQ, eC, eI, bN, aS, dZ, bS, aQ, bL, dH, cZ, cV, cN, cS, bK, bM, cX, dR, cR, dQ, dB, q3, q3d]
   refine Fk (m := 1) (news := MW o (.slice va o.bytes.length vc)) (i := Tryd.t88) Tryd.underlying62 Tryd.underlying62 QR rfl rfl rfl hu3 (o3.cl (off := 0) (n := 1) rfl (fun i hi => by rw [acQ])) (by unfold MW; simp [one]) (fun b hb => .inr hb) (by omega) (by rw [show Tryd.t88.bytes = 72 from rfl]; omega) (by decide) fun v4 w4 o4 x4 => ?_
   have z4 := x4.size
   have hp3 : p < w3.heap.size := op3.lt
   have hms3 := hms2.ext x3 (fun h => h)
   have hmn3 := hmn2.ext x3 (fun h => h)
   have hmsl := hms3.lt
   have hmnl := hmn3.lt
   have op4 := op3.ext x4 (by rintro (⟨_, h, _⟩ | h) <;> omega)
   have hms4 := hms3.ext x4 (by rintro (⟨_, _, h, _⟩ | h) <;> omega)
   have hmn4 := hmn3.ext x4 (by rintro (⟨_, _, _, h⟩ | h) <;> omega)
   obtain ⟨Y, hY⟩ : ∃ Y : Nat -> Prop, Y = fun b => X b ∨ (w3.heap.size <= b /\ b < w4.heap.size) := ⟨_, rfl⟩
   have hYX : ∀ b, X b -> Y b := fun b h => by rw [hY]; exact .inl h
   have hY3 : ∀ b, Y b -> X b ∨ w3.heap.size <= b := fun b h => by rw [hY] at h; rcases h with h | h; exact .inl h; exact .inr h.1
   have hY4 : ∀ b, Y b -> b < w4.heap.size := fun b h => by
    rw [hY] at h
    rcases h with h | h
    .have := h72 b h; omega
    .exact h.2
   obtain ⟨E, hE'⟩ : ∃ E : Nat -> Prop, E = fun b => D b ∨ (w3.heap.size <= b /\ b < w4.heap.size) := ⟨_, rfl⟩
   have hED : ∀ b, D b -> E b := fun b h => by rw [hE']; exact .inl h
   have hYE : ∀ b, Y b -> E b := fun b h => by
    rw [hY] at h; rw [hE']
    rcases h with h | h
    .exact .inl (hXD b h)
    .exact .inr h
   have hE3 : ∀ b, E b -> D b ∨ w3.heap.size <= b := fun b h => by rw [hE'] at h; rcases h with h | h; exact .inl h; exact .inr h.1
   have hE4 : ∀ b, E b -> b < w4.heap.size := fun b h => by
    rw [hE'] at h
    rcases h with h | h
    .have := hD2 b h; omega
    .exact h.2
   have dat4 : ∀ v b, EM w3 D v b -> EM w4 E v b := fun v b hd => by
    have h1 := (hd.sub (Y := fun b => D b ∨ w3.heap.size <= b) fun _ h => h).ext x4 (fun b h => by rcases h with h | h; exact .inl (hXD b h.1); exact .inr h)
    exact h1.sub fun b h => .inl (hE3 b h)
   have dat0 : ∀ v b, EM w2 D v b -> EM w4 E v b := fun v b hd => dat4 v b (hd.ext x3 fun _ h => h.elim)
   refine uH op4 (by obtain ⟨a, c, e⟩ := o4.len; rw [e] <;> rfl) (by simp) fun w5 op5 x5 s5 => ?_
   simp only [adA, adN] at op5
   have hne4 : p ≠ ms /\ p ≠ mn := ⟨h4, h5⟩
   have hms5 := hms4.ext x5 (fun h => h4 h.symm)
   have hmn5 := hmn4.ext x5 (fun h => h5 h.symm)
   have x5Y : gV w4 w5 E := x5.mono fun b _ h => by rw [h]; exact hYE _ (hYX _ h1)
   have dat5 : ∀ v b, EM w2 D v b -> EM w5 E v b := fun v b hd => (dat0 v b hd).ext x5Y fun _ h => h
   have o15 : jI w5 w.heap.size (MW o (.slice va o.bytes.length vc)) := by
    have h1 := (o1.ext x2 hb3).ext x3 (fun h => h)
    have h2 := h1.ext x4 (by rintro (⟨h, _⟩ | h); exact absurd (hX0 _ h) (by omega); omega)
    exact h2.ext x5 hb3
   have l5 := pE (off := 0) (kR o15) (by unfold MW; simp)
   rw [l1'] at l5
   have r2 := (kR op5).cell (off := 2)
   simp only [acI, acJ] at r2
   simp (disch := omega) only [eY, gN, dX, stepR_skip, fO, fW, fN, fZ, fX, fY, gQ, gG, eT, fT, fS, gE, fR, fL, fV, fQ, fU, gB, gC, fP, fC, gI, gA, fK, iR, iO, iP, iU, iM, iS, iQ, iT, iN, eP, Result.ok.injEq, Next.value.injEq, true_and, and_true, fI, fJ, gH, fM, gD, gR, acM, fE, fF, fG, fD, eZ, eU, fB, eX, eQ, eH, if_true, if_false, acK, acQ, acL, acN, acP, acO, acJ, acI, eA, dV, aB, dM, dO, cB, eB, eS, eE, dK, eF, fA, dJ, eJ, bP, dS, bE, dN, aL, aH, eL, aX, cI, eM, aE, eN, dE, aR, bF, eD, bB, bC, bJ, aO, aI, cF, fH, dY, cJ, cC, dA, cH, dT, bD, eK, bT, dF, bR, aT, bV, aC, bY, bQ, cA, bX, aY, aU, bA, bU, dL, cP, bO, aV, aJ, aM, bG, aF, dC, dW, aK, aN, aZ, aG, cY, aD, cL, bW, bH, aP, cM, bZ, aA, dD, cO, cU, cG, dI, cD, dG, dU, cQ, eC, eI, bN, aS, dZ, bS, aQ, bL, dH, cZ, cV, cN, cS, bK, bM, cX, dR, cR, dQ, dB, r2, l5]
   have hd5 : EM w5 E (.slice va o.bytes.length vc) o.bytes := dat5 _ _ ((hd.ext x1 fun _ h => h.elim).ext x2D fun _ h => h)
   have hE5 : ∀ b, E b -> b < w5.heap.size := fun b h => by rw [s5]; exact hE4 b h
   refine (ZO (X := E) (c := S.seen) (o := o) (hmn5.dr) (hYE _ (hYX _ h3)) hE5 ((hfn2.map dat5).ext (gV.dr _ jN) fun _ h => h.elim) (hd5.ext (gV.dr _ jN) fun _ h => h.elim) hs ha hb).mono ?_
   rintro r w6 ⟨rfl, ln', hmn6, hfn6, x6⟩
   have x6 : gV w5 w6 (fun b => b = mn) := (gV.dr _ _).seq x6
   have x6Y : gV w5 w6 E := x6.mono fun b _ h => by rw [h]; exact hYE _ (hYX _ h3)
   have z6 := x6.size
   have hou : Jv w4 (fun b => Y b /\ b ≠ p /\ b ≠ ms /\ b ≠ mn) 5 v4 (S.under.length + 1) (cs ++ MW o (.slice va o.bytes.length vc)) := Uk (OL o4) fun b h => by
    rw [hY]
    rcases h with ⟨h | h, h'⟩
    .exact ⟨.inl h.1, h.2⟩
    .exact ⟨.inr ⟨h, h'⟩, by omega, by omega, by omega⟩
   refine ⟨Y, E, ⟨ms, mn, v4, ls, ln', cs ++ MW o (.slice va o.bytes.length vc), hYX _ h1, hYX _ h2, hYX _ h3, h4, h5, h6, hYE, fun b h => by have := hE5 b h; omega, op5.ext x6 (fun h => h5 h), hms5.ext x6 (fun h => h6 h), hmn6, (hfs2.map dat5).ext x6Y fun _ h => h, hfn6, ?_, ?_⟩, fun b h => ?_, hED, ?_⟩
   .show Jv w6 _ 5 v4 (S.under ++ [o]).length _
    rw [acT]
    exact (hou.ext x5 (fun b h e => h.2.1 e)).ext x6 (fun b h e => h.2.2.2 e)
   .exact (Ot.snoc ⟨_, _, _, rfl⟩ hd5 (hop2.map dat5)).ext x6Y fun _ h => h
   .rcases hY3 b h with h | h
    .exact .inl h
    .exact .inr (by omega)
   .refine ((x03.trans x4 fun b hb h => ?_).trans x5 fun b hb h => by rw [h]; exact h1).trans x6 fun b hb h => by rw [h]; exact h3
    rcases h with h | h
    .exact h.1
    .omega
end Go.Proofs.YteelnmpbnaohpaaDoor
namespace Go.Proofs.YteelnmpbnaohpaaDoor
open Go Go.En
def abJ : Go.Shelf.Ren := ⟨fun x => if x = 5 then tY else if x = 7 then Rd else x, fun x => if x = 23 then 61 else if x = 25 then 9 else if x = 3 then 22 else if x = 4 then 4 else 20, fun x => x⟩
theorem aaX : SlLaysW.n5 pg abJ where
 mixed := Tryd.checked.mixed
 f5 := ⟨Tryd.f46.name, by kernel_rfl, by kernel_rfl⟩
 f7 := by kernel_rfl
 t4 := by kernel_rfl
 a4 := fun w => by kernel_rfl
 z4 := fun w => by kernel_rfl
 v4 := fun w => by kernel_rfl
 t20 := by kernel_rfl
 a20 := fun w => by kernel_rfl
 z20 := fun w => by kernel_rfl
 v20 := fun w => by kernel_rfl
 t23 := by kernel_rfl
 a23 := fun w => by kernel_rfl
 z23 := fun w => by kernel_rfl
 v23 := fun w => by kernel_rfl
theorem RN {m : Nat} {l : List (ByteArray × ahB)} {w : ahA} (hm : Mp w m Nl l) :
 gT pg tY #[.map (some m)] w (fun r w' => r = .map (some w.heap.size) /\ Mp w' w.heap.size Nl l /\ gV w w' jN /\ w'.heap.size = w.heap.size + 1) := by
 obtain ⟨es, c, hb, he, hg, hnd⟩ := hm
 refine ⟨_, _, AnyW.maps_Clone aaX m es c w hb, rfl, ⟨es, c, ?_, he, hg, hnd⟩, gV.alloc _ _ _, ?_⟩
 .show (w.heap.push _)[w.heap.size]? = _
  simp
 .show (w.heap.push _).size = _
  simp
end Go.Proofs.YteelnmpbnaohpaaDoor
namespace Go.Proofs.YteelnmpbnaohpaaDoor
open Go Go.En Go.Pu
set_option maxRecDepth 4000
def Jg (room : Int) : jL := ⟨room, [], [], [], -1, false⟩
theorem Zv {room : Int} {w : ahA} (h0 : 0 <= room) (h1 : room <= 16777216) : gT pg BQ #[.int .i64 room] w (fun r w' => ∃ p X, r = .tuple #[dP p, .int .i64 0] /\ mE w' p X X (Jg room) /\ (∀ b, X b -> w.heap.size <= b) /\ gV w w' jN) := by
 refine P8 ?_
 unfold SR JT
 have d1 : decide (room < 0) = false := by simp; omega
 have d2 : decide (16777216 < room) = false := by simp; omega
 simp (disch := omega) only [eY, gN, dX, stepR_skip, fO, fW, fN, fZ, fX, fY, gQ, gG, eT, fT, fS, gE, fR, fL, fV, fQ, fU, gB, gC, fP, fC, gI, gA, fK, iR, iO, iP, iU, iM, iS, iQ, iT, iN, eP, Result.ok.injEq, Next.value.injEq, true_and, and_true, fI, fJ, gH, fM, gD, gR, acM, fE, fF, fG, fD, eZ, eU, fB, eX, eQ, eH, if_true, if_false, acK, acQ, acL, acN, acP, acO, acJ, acI, eA, dV, aB, dM, dO, cB, eB, eS, eE, dK, eF, fA, dJ, eJ, bP, dS, bE, dN, aL, aH, eL, aX, cI, eM, aE, eN, dE, aR, bF, eD, bB, bC, bJ, aO, aI, cF, fH, dY, cJ, cC, dA, cH, dT, bD, eK, bT, dF, bR, aT, bV, aC, bY, bQ, cA, bX, aY, aU, bA, bU, dL, cP, bO, aV, aJ, aM, bG, aF, dC, dW, aK, aN, aZ, aG, cY, aD, cL, bW, bH, aP, cM, bZ, aA, dD, cO, cU, cG, dI, cD, dG, dU, cQ, eC, eI, bN, aS, dZ, bS, aQ, bL, dH, cZ, cV, cN, cS, bK, bM, cX, dR, cR, dQ, dB, d1, d2]
 refine KP fun w1 m1 x1 s1 => ?_
 refine KP fun w2 m2 x2 s2 => ?_
 simp (disch := omega) only [eY, gN, dX, stepR_skip, fO, fW, fN, fZ, fX, fY, gQ, gG, eT, fT, fS, gE, fR, fL, fV, fQ, fU, gB, gC, fP, fC, gI, gA, fK, iR, iO, iP, iU, iM, iS, iQ, iT, iN, eP, Result.ok.injEq, Next.value.injEq, true_and, and_true, fI, fJ, gH, fM, gD, gR, acM, fE, fF, fG, fD, eZ, eU, fB, eX, eQ, eH, if_true, if_false, acK, acQ, acL, acN, acP, acO, acJ, acI, eA, dV, aB, dM, dO, cB, eB, eS, eE, dK, eF, fA, dJ, eJ, bP, dS, bE, dN, aL, aH, eL, aX, cI, eM, aE, eN, dE, aR, bF, eD, bB, bC, bJ, aO, aI, cF, fH, dY, cJ, cC, dA, cH, dT, bD, eK, bT, dF, bR, aT, bV, aC, bY, bQ, cA, bX, aY, aU, bA, bU, dL, cP, bO, aV, aJ, aM, bG, aF, dC, dW, aK, aN, aZ, aG, cY, aD, cL, bW, bH, aP, cM, bZ, aA, dD, cO, cU, cG, dI, cD, dG, dU, cQ, eC, eI, bN, aS, dZ, bS, aQ, bL, dH, cZ, cV, cN, cS, bK, bM, cX, dR, cR, dQ, dB]
 refine oM fun w3 o3 x3 s3 => ?_
 have o3 : jI w3 w2.heap.size [.int .i64 room, .map (some w.heap.size), .map (some w1.heap.size), .slice none 0 0, .int .i64 (-1), .bool false] := o3
 refine ⟨w2.heap.size, fun b => w.heap.size <= b /\ b < w3.heap.size, rfl, ⟨w.heap.size, w1.heap.size, .slice none 0 0, [], [], [], ⟨by omega, by omega⟩, ⟨by omega, by omega⟩, ⟨by omega, by omega⟩, by omega, by omega, by omega, fun _ h => h, fun b h => h.2, o3, (m1.ext x2 (fun h => h)).ext x3 (fun h => h), m2.ext x3 (fun h => h), trivial, trivial, ⟨rfl, .inl ⟨rfl, rfl⟩⟩, rfl⟩, fun b h => h.1, (x1.seq x2).seq x3⟩
structure Yu (S : jL) : Prop where
 left : -1 <= S.left /\ S.left <= 9223372036854775807
 seen : iJ S.seen <= 1099511627776
 under : S.under.length <= 1000000
 room : 0 <= S.room /\ S.room <= 16777216
theorem EM.slice {w : ahA} {X : Nat -> Prop} {v : ahB} {b : List UInt8} (h : EM w X v b) : ∃ a c, v = .slice a b.length c := by
 obtain ⟨a, c, e, _⟩ := h.1.len
 rw [acR] at e
 exact ⟨a, c, e⟩
theorem Ac.dat {w w0 : ahA} {X : Nat -> Prop} {v : ahB} {l : List UInt8} (h : Ac w w0.heap.size 1 v l.length (l.map pG)) (hX : ∀ b, X b -> b < w0.heap.size) : EM w X v l := by
 refine ⟨h.sl, fun hi => ?_⟩
 rcases h.2 with ⟨rfl, _⟩ | ⟨b, c, rest, rfl, h2, _⟩
 .exact hi
 .unfold vO at hi
  split at hi
  .rename_i e
   simp only [Value.slice.injEq, adT] at e
   obtain ⟨rfl, _⟩ := e
   have hi : X b := hi
   have := hX _ hi
   omega
  .exact hi
theorem mE.lt {w : ahA} {p : Nat} {X D : Nat -> Prop} {S : jL} (h : mE w p X D S) : ∀ b, D b -> b < w.heap.size := by
 obtain ⟨_, _, _, _, _, _, _, _, _, _, _, _, _, h7, _⟩ := h; exact h7
def oD (S : jL) (name : ByteArray) : List UInt8 := (jC name S.seen).getD []
def Yn (S : jL) (name : ByteArray) (a : Int) (n : Nat) : Int :=
 if S.down then 20 else if Lw name = false ∨ a < 0 then 1 else if ((oD S name).length : Int) < a then 17
 else if S.room < iJ S.seen + max (a + n - (oD S name).length) 0 then 22 else 0
def Da (S : jL) (name : ByteArray) (a : Int) (l : List UInt8) : jL × Int :=
 if Yn S name a l.length = 0 then pW S ⟨0, name, ⟨#[]⟩, a.toNat, l⟩ else (S, Yn S name a l.length)
theorem MR {p : Nat} {X D : Nat -> Prop} {S : jL} {name : ByteArray} {a : Int} {bv : ahB} {l : List UInt8} {w : ahA} (h : mE w p X D S) (hB : Yu S) (hb : Bs w bv l) (hl : l.length <= 1000000000) (ha : a <= 9000000000000000000) (ha' : -9223372036854775808 <= a) :
 gT pg kY #[dP p, .string name, .int .i64 a, bv] w (fun r w' => r = .int .i64 (Da S name a l).2 /\ A7 w p X D (Da S name a l).1 w') := by
 refine JS ?_
 unfold HY yN
 obtain ⟨ba, bc, rfl, _⟩ := hb.len
 rw [acR] at hb
 rw [acR]
 obtain ⟨E, hE⟩ : ∃ E, Yn S name a l.length = E := ⟨_, rfl⟩
 have hW : ∀ e, E = e -> e ≠ 0 -> Da S name a l = (S, e) := fun e h1 h2 => by unfold Da; rw [hE, h1, if_neg h2]
 refine (Xw h).mono ?_
 rintro r w1 ⟨rfl, rfl⟩
 have hE0 := hE
 unfold Yn at hE
 by_cases hd : S.down = true
 .rw [if_pos hd] at hE
  rw [hW 20 hE.symm (by decide), if_pos hd]
  have n1 : ((20 : Int) != 0) = true := rfl
  simp (disch := omega) only [eY, gN, dX, stepR_skip, fO, fW, fN, fZ, fX, fY, gQ, gG, eT, fT, fS, gE, fR, fL, fV, fQ, fU, gB, gC, fP, fC, gI, gA, fK, iR, iO, iP, iU, iM, iS, iQ, iT, iN, eP, Result.ok.injEq, Next.value.injEq, true_and, and_true, fI, fJ, gH, fM, gD, gR, acM, fE, fF, fG, fD, eZ, eU, fB, eX, eQ, eH, if_true, if_false, acK, acQ, acL, acN, acP, acO, acJ, acI, eA, dV, aB, dM, dO, cB, eB, eS, eE, dK, eF, fA, dJ, eJ, bP, dS, bE, dN, aL, aH, eL, aX, cI, eM, aE, eN, dE, aR, bF, eD, bB, bC, bJ, aO, aI, cF, fH, dY, cJ, cC, dA, cH, dT, bD, eK, bT, dF, bR, aT, bV, aC, bY, bQ, cA, bX, aY, aU, bA, bU, dL, cP, bO, aV, aJ, aM, bG, aF, dC, dW, aK, aN, aZ, aG, cY, aD, cL, bW, bH, aP, cM, bZ, aA, dD, cO, cU, cG, dI, cD, dG, dU, cQ, eC, eI, bN, aS, dZ, bS, aQ, bL, dH, cZ, cV, cN, cS, bK, bM, cX, dR, cR, dQ, dB, n1]
  exact A7.refl h
 rw [if_neg hd] at hE
 rw [if_neg hd]
 have n1 : ((0 : Int) != 0) = false := rfl
 have h' := h
 obtain ⟨ms, mn, sv, ls, ln, cs, h1, h2, h3, h4, h5, h6, hXD, hDl, op, hms, hmn, hfs, hfn, hun, hop⟩ := h'
 have h7 : ∀ b, X b -> b < w1.heap.size := fun b hb => hDl b (hXD b hb)
 have c2 := op.cell (off := 2)
 have c0d := (kR op).cell (off := 0)
 have c2d := (kR op).cell (off := 2)
 simp only [acI, acJ] at c2 c0d c2d
 obtain ⟨oa, oc, ob, l0, hob⟩ : ∃ (oa : Option Addr) (oc : Nat) (ob : List UInt8), (Ay 61 (.map (some mn)) (.string name) false).run pg w1 = .ok (.value (.slice oa ob.length oc)) w1 /\ oD S name = ob := by
  have l0 := Pd hmn name
  unfold oD
  rcases hfn.get name with ⟨q1, q2⟩ | ⟨v, b, q1, q2, q3⟩
  .rw [q1] at l0
   exact ⟨none, 0, [], l0, by rw [q2] <;> rfl⟩
  .obtain ⟨a', c', rfl⟩ := EM.slice q3
   rw [q1] at l0
   exact ⟨a', c', b, l0, by rw [q2] <;> rfl⟩
 rw [hob] at hE
 have holdlen : ob.length <= 1099511627776 := by rw [<- hob]; have := BJ (k := name) (c := S.seen); have := hB.seen; unfold oD; omega
 simp (disch := omega) only [eY, gN, dX, stepR_skip, fO, fW, fN, fZ, fX, fY, gQ, gG, eT, fT, fS, gE, fR, fL, fV, fQ, fU, gB, gC, fP, fC, gI, gA, fK, iR, iO, iP, iU, iM, iS, iQ, iT, iN, eP, Result.ok.injEq, Next.value.injEq, true_and, and_true, fI, fJ, gH, fM, gD, gR, acM, fE, fF, fG, fD, eZ, eU, fB, eX, eQ, eH, if_true, if_false, acK, acQ, acL, acN, acP, acO, acJ, acI, eA, dV, aB, dM, dO, cB, eB, eS, eE, dK, eF, fA, dJ, eJ, bP, dS, bE, dN, aL, aH, eL, aX, cI, eM, aE, eN, dE, aR, bF, eD, bB, bC, bJ, aO, aI, cF, fH, dY, cJ, cC, dA, cH, dT, bD, eK, bT, dF, bR, aT, bV, aC, bY, bQ, cA, bX, aY, aU, bA, bU, dL, cP, bO, aV, aJ, aM, bG, aF, dC, dW, aK, aN, aZ, aG, cY, aD, cL, bW, bH, aP, cM, bZ, aA, dD, cO, cU, cG, dI, cD, dG, dU, cQ, eC, eI, bN, aS, dZ, bS, aQ, bL, dH, cZ, cV, cN, cS, bK, bM, cX, dR, cR, dQ, dB, n1, c2, l0]
 refine (Xf name _).mono ?_
 rintro r w2 ⟨rfl, hw⟩
 rw [hw]; clear hw w2
 by_cases hmay : Lw name = false
 .rw [if_pos (.inl hmay)] at hE
  rw [hW 1 hE.symm (by decide), hmay]
  simp (disch := omega) only [eY, gN, dX, stepR_skip, fO, fW, fN, fZ, fX, fY, gQ, gG, eT, fT, fS, gE, fR, fL, fV, fQ, fU, gB, gC, fP, fC, gI, gA, fK, iR, iO, iP, iU, iM, iS, iQ, iT, iN, eP, Result.ok.injEq, Next.value.injEq, true_and, and_true, fI, fJ, gH, fM, gD, gR, acM, fE, fF, fG, fD, eZ, eU, fB, eX, eQ, eH, if_true, if_false, acK, acQ, acL, acN, acP, acO, acJ, acI, eA, dV, aB, dM, dO, cB, eB, eS, eE, dK, eF, fA, dJ, eJ, bP, dS, bE, dN, aL, aH, eL, aX, cI, eM, aE, eN, dE, aR, bF, eD, bB, bC, bJ, aO, aI, cF, fH, dY, cJ, cC, dA, cH, dT, bD, eK, bT, dF, bR, aT, bV, aC, bY, bQ, cA, bX, aY, aU, bA, bU, dL, cP, bO, aV, aJ, aM, bG, aF, dC, dW, aK, aN, aZ, aG, cY, aD, cL, bW, bH, aP, cM, bZ, aA, dD, cO, cU, cG, dI, cD, dG, dU, cQ, eC, eI, bN, aS, dZ, bS, aQ, bL, dH, cZ, cV, cN, cS, bK, bM, cX, dR, cR, dQ, dB]
  exact A7.refl h
 have hmay : Lw name = true := by cases hq : Lw name with | true => rfl | false => exact absurd hq hmay
 rw [hmay] at hE ⊢
 by_cases ha0 : a < 0
 .have d1 : decide (a < 0) = true := by simpa using ha0
  rw [if_pos (.inr ha0)] at hE
  rw [hW 1 hE.symm (by decide)]
  simp (disch := omega) only [eY, gN, dX, stepR_skip, fO, fW, fN, fZ, fX, fY, gQ, gG, eT, fT, fS, gE, fR, fL, fV, fQ, fU, gB, gC, fP, fC, gI, gA, fK, iR, iO, iP, iU, iM, iS, iQ, iT, iN, eP, Result.ok.injEq, Next.value.injEq, true_and, and_true, fI, fJ, gH, fM, gD, gR, acM, fE, fF, fG, fD, eZ, eU, fB, eX, eQ, eH, if_true, if_false, acK, acQ, acL, acN, acP, acO, acJ, acI, eA, dV, aB, dM, dO, cB, eB, eS, eE, dK, eF, fA, dJ, eJ, bP, dS, bE, dN, aL, aH, eL, aX, cI, eM, aE, eN, dE, aR, bF, eD, bB, bC, bJ, aO, aI, cF, fH, dY, cJ, cC, dA, cH, dT, bD, eK, bT, dF, bR, aT, bV, aC, bY, bQ, cA, bX, aY, aU, bA, bU, dL, cP, bO, aV, aJ, aM, bG, aF, dC, dW, aK, aN, aZ, aG, cY, aD, cL, bW, bH, aP, cM, bZ, aA, dD, cO, cU, cG, dI, cD, dG, dU, cQ, eC, eI, bN, aS, dZ, bS, aQ, bL, dH, cZ, cV, cN, cS, bK, bM, cX, dR, cR, dQ, dB, d1]
  exact A7.refl h
 have d1 : decide (a < 0) = false := by simpa using ha0
 rw [if_neg (by rintro (h | h); cases h; exact ha0 h)] at hE
 by_cases ha1 : (ob.length : Int) < a
 .have d2 : decide ((ob.length : Int) < a) = true := by simpa using ha1
  rw [if_pos ha1] at hE
  rw [hW 17 hE.symm (by decide)]
  simp (disch := omega) only [eY, gN, dX, stepR_skip, fO, fW, fN, fZ, fX, fY, gQ, gG, eT, fT, fS, gE, fR, fL, fV, fQ, fU, gB, gC, fP, fC, gI, gA, fK, iR, iO, iP, iU, iM, iS, iQ, iT, iN, eP, Result.ok.injEq, Next.value.injEq, true_and, and_true, fI, fJ, gH, fM, gD, gR, acM, fE, fF, fG, fD, eZ, eU, fB, eX, eQ, eH, if_true, if_false, acK, acQ, acL, acN, acP, acO, acJ, acI, eA, dV, aB, dM, dO, cB, eB, eS, eE, dK, eF, fA, dJ, eJ, bP, dS, bE, dN, aL, aH, eL, aX, cI, eM, aE, eN, dE, aR, bF, eD, bB, bC, bJ, aO, aI, cF, fH, dY, cJ, cC, dA, cH, dT, bD, eK, bT, dF, bR, aT, bV, aC, bY, bQ, cA, bX, aY, aU, bA, bU, dL, cP, bO, aV, aJ, aM, bG, aF, dC, dW, aK, aN, aZ, aG, cY, aD, cL, bW, bH, aP, cM, bZ, aA, dD, cO, cU, cG, dI, cD, dG, dU, cQ, eC, eI, bN, aS, dZ, bS, aQ, bL, dH, cZ, cV, cN, cS, bK, bM, cX, dR, cR, dQ, dB, d1, d2]
  exact A7.refl h
 have d2 : decide ((ob.length : Int) < a) = false := by simpa using ha1
 rw [if_neg ha1] at hE
 have hbs := hB.seen
 have hbr := hB.room
 obtain ⟨k, rfl⟩ : ∃ k : Nat, a = k := ⟨a.toNat, by omega⟩
 simp (disch := omega) only [eY, gN, dX, stepR_skip, fO, fW, fN, fZ, fX, fY, gQ, gG, eT, fT, fS, gE, fR, fL, fV, fQ, fU, gB, gC, fP, fC, gI, gA, fK, iR, iO, iP, iU, iM, iS, iQ, iT, iN, eP, Result.ok.injEq, Next.value.injEq, true_and, and_true, fI, fJ, gH, fM, gD, gR, acM, fE, fF, fG, fD, eZ, eU, fB, eX, eQ, eH, if_true, if_false, acK, acQ, acL, acN, acP, acO, acJ, acI, eA, dV, aB, dM, dO, cB, eB, eS, eE, dK, eF, fA, dJ, eJ, bP, dS, bE, dN, aL, aH, eL, aX, cI, eM, aE, eN, dE, aR, bF, eD, bB, bC, bJ, aO, aI, cF, fH, dY, cJ, cC, dA, cH, dT, bD, eK, bT, dF, bR, aT, bV, aC, bY, bQ, cA, bX, aY, aU, bA, bU, dL, cP, bO, aV, aJ, aM, bG, aF, dC, dW, aK, aN, aZ, aG, cY, aD, cL, bW, bH, aP, cM, bZ, aA, dD, cO, cU, cG, dI, cD, dG, dU, cQ, eC, eI, bN, aS, dZ, bS, aQ, bL, dH, cZ, cV, cN, cS, bK, bM, cX, dR, cR, dQ, dB, d1, d2, c2d]
 refine (ZE (c := S.seen) hmn.dr (hfn.ext (gV.dr _ jN) fun _ h => h.elim) hbs).mono ?_
 rintro r w2 ⟨rfl, x2⟩
 have x2 : gV w1 w2 jN := (gV.dr _ _).seq x2
 have op2 := op.ext x2 (fun h => h)
 have r0 := op2.cell (off := 0)
 have r0d := (kR op2).cell (off := 0)
 simp only [acI, acJ] at r0 r0d
 have e1 : (k : Int) + (l.length : Int) = ((k + l.length : Nat) : Int) := by omega
 obtain ⟨q, hq⟩ : ∃ q : Nat, max (((k + l.length : Nat) : Int) - (ob.length : Int)) 0 = q := ⟨(max (((k + l.length : Nat) : Int) - (ob.length : Int)) 0).toNat, by omega⟩
 have hmax : (if (0 : Int) > ((k + l.length : Nat) : Int) - (ob.length : Int) then (0 : Int) else ((k + l.length : Nat) : Int) - (ob.length : Int)) = (q : Nat) := by
  split <;> omega
 have e2 : ((iJ S.seen : Nat) : Int) + (q : Int) = ((iJ S.seen + q : Nat) : Int) := by omega
 rw [e1, hq, e2] at hE
 by_cases hsp : S.room < ((iJ S.seen + q : Nat) : Int)
 .have d3 : decide (S.room < ((iJ S.seen + q : Nat) : Int)) = true := by simpa using hsp
  rw [if_pos hsp] at hE
  rw [hW 22 hE.symm (by decide)]
  simp (disch := omega) only [eY, gN, dX, stepR_skip, fO, fW, fN, fZ, fX, fY, gQ, gG, eT, fT, fS, gE, fR, fL, fV, fQ, fU, gB, gC, fP, fC, gI, gA, fK, iR, iO, iP, iU, iM, iS, iQ, iT, iN, eP, Result.ok.injEq, Next.value.injEq, true_and, and_true, fI, fJ, gH, fM, gD, gR, acM, fE, fF, fG, fD, eZ, eU, fB, eX, eQ, eH, if_true, if_false, acK, acQ, acL, acN, acP, acO, acJ, acI, eA, dV, aB, dM, dO, cB, eB, eS, eE, dK, eF, fA, dJ, eJ, bP, dS, bE, dN, aL, aH, eL, aX, cI, eM, aE, eN, dE, aR, bF, eD, bB, bC, bJ, aO, aI, cF, fH, dY, cJ, cC, dA, cH, dT, bD, eK, bT, dF, bR, aT, bV, aC, bY, bQ, cA, bX, aY, aU, bA, bU, dL, cP, bO, aV, aJ, aM, bG, aF, dC, dW, aK, aN, aZ, aG, cY, aD, cL, bW, bH, aP, cM, bZ, aA, dD, cO, cU, cG, dI, cD, dG, dU, cQ, eC, eI, bN, aS, dZ, bS, aQ, bL, dH, cZ, cV, cN, cS, bK, bM, cX, dR, cR, dQ, dB, d1, d2, r0, r0d, c0d, e1, hmax, e2, d3]
  exact ⟨X, D, h.new x2, fun _ h => .inl h, fun _ h => h, x2.mono fun _ _ h => h.elim⟩
 have d3 : decide (S.room < ((iJ S.seen + q : Nat) : Int)) = false := by simpa using hsp
 rw [if_neg hsp] at hE
 have hW0 : Da S name k l = pW S ⟨0, name, ⟨#[]⟩, k, l⟩ := by unfold Da; rw [hE0, <- hE, if_pos rfl, acM]
 rw [hW0]
 simp (disch := omega) only [eY, gN, dX, stepR_skip, fO, fW, fN, fZ, fX, fY, gQ, gG, eT, fT, fS, gE, fR, fL, fV, fQ, fU, gB, gC, fP, fC, gI, gA, fK, iR, iO, iP, iU, iM, iS, iQ, iT, iN, eP, Result.ok.injEq, Next.value.injEq, true_and, and_true, fI, fJ, gH, fM, gD, gR, acM, fE, fF, fG, fD, eZ, eU, fB, eX, eQ, eH, if_true, if_false, acK, acQ, acL, acN, acP, acO, acJ, acI, eA, dV, aB, dM, dO, cB, eB, eS, eE, dK, eF, fA, dJ, eJ, bP, dS, bE, dN, aL, aH, eL, aX, cI, eM, aE, eN, dE, aR, bF, eD, bB, bC, bJ, aO, aI, cF, fH, dY, cJ, cC, dA, cH, dT, bD, eK, bT, dF, bR, aT, bV, aC, bY, bQ, cA, bX, aY, aU, bA, bU, dL, cP, bO, aV, aJ, aM, bG, aF, dC, dW, aK, aN, aZ, aG, cY, aD, cL, bW, bH, aP, cM, bZ, aA, dD, cO, cU, cG, dI, cD, dG, dU, cQ, eC, eI, bN, aS, dZ, bS, aQ, bL, dH, cZ, cV, cN, cS, bK, bM, cX, dR, cR, dQ, dB, d1, d2, r0, r0d, c0d, e1, hmax, e2, d3]
 refine (OJ (hb.ext x2 (jG _)) hl).mono ?_
 rintro r w3 ⟨ho, x3⟩
 obtain ⟨va, vc, rfl⟩ := ho.len
 have h2' := h.new x2
 have hd3 : EM w3 D (.slice va l.length vc) l := Ac.dat ho fun b hb => mE.lt h2' b hb
 have opE : MW ⟨0, name, ⟨#[]⟩, k, l⟩ (.slice va l.length vc) = [.int .i64 0, .string name, .string ⟨#[]⟩, .int .i64 k, .slice va l.length vc] := rfl
 have hdn := TW (o := ⟨0, name, ⟨#[]⟩, k, l⟩) (h2'.new x3) hd3 hB.left hbs (show k <= 1099511627776 by omega) (show l.length <= 1099511627776 by omega) hB.under
 rw [opE] at hdn
 simp (disch := omega) only [eY, gN, dX, stepR_skip, fO, fW, fN, fZ, fX, fY, gQ, gG, eT, fT, fS, gE, fR, fL, fV, fQ, fU, gB, gC, fP, fC, gI, gA, fK, iR, iO, iP, iU, iM, iS, iQ, iT, iN, eP, Result.ok.injEq, Next.value.injEq, true_and, and_true, fI, fJ, gH, fM, gD, gR, acM, fE, fF, fG, fD, eZ, eU, fB, eX, eQ, eH, if_true, if_false, acK, acQ, acL, acN, acP, acO, acJ, acI, eA, dV, aB, dM, dO, cB, eB, eS, eE, dK, eF, fA, dJ, eJ, bP, dS, bE, dN, aL, aH, eL, aX, cI, eM, aE, eN, dE, aR, bF, eD, bB, bC, bJ, aO, aI, cF, fH, dY, cJ, cC, dA, cH, dT, bD, eK, bT, dF, bR, aT, bV, aC, bY, bQ, cA, bX, aY, aU, bA, bU, dL, cP, bO, aV, aJ, aM, bG, aF, dC, dW, aK, aN, aZ, aG, cY, aD, cL, bW, bH, aP, cM, bZ, aA, dD, cO, cU, cG, dI, cD, dG, dU, cQ, eC, eI, bN, aS, dZ, bS, aQ, bL, dH, cZ, cV, cN, cS, bK, bM, cX, dR, cR, dQ, dB]
 refine hdn.mono ?_
 rintro r w4 ⟨rfl, hp⟩
 exact ⟨rfl, A7.step ((x2.seq x3).mono fun _ _ h => h.elim) (fun _ h => .inl h) (fun _ h => h) hp⟩
theorem Rq {p : Nat} {X D : Nat -> Prop} {S : jL} {name : ByteArray} {w : ahA} (h : mE w p X D S) (hB : Yu S) (hsz : ∀ b, jC name S.seen = some b -> b.length <= 1000000000) :
 gT pg lU #[dP p, .string name] w (fun r w' => ((S.down = true /\ r = .tuple #[.slice none 0 0, .int .i64 20]) ∨ (S.down = false /\ jC name S.seen = none /\ r = .tuple #[.slice none 0 0, .int .i64 21]) ∨
  (S.down = false /\ ∃ b v, jC name S.seen = some b /\ r = .tuple #[v, .int .i64 0] /\ Ac w' w.heap.size 1 v b.length (b.map pG))) /\ gV w w' jN) := by
 refine Kh ?_
 obtain ⟨RR, hRR⟩ : ∃ RR : ahB -> ahA -> Prop, RR = fun r w' => ((S.down = true /\ r = .tuple #[.slice none 0 0, .int .i64 20]) ∨ (S.down = false /\ jC name S.seen = none /\ r = .tuple #[.slice none 0 0, .int .i64 21]) ∨
  (S.down = false /\ ∃ b v, jC name S.seen = some b /\ r = .tuple #[v, .int .i64 0] /\ Ac w' w.heap.size 1 v b.length (b.map pG))) /\ gV w w' jN := ⟨_, rfl⟩
 rw [<- hRR]
 unfold I4 Ag
 refine (Xw h).mono ?_
 rintro r w1 ⟨rfl, rfl⟩
 by_cases hd : S.down = true
 .rw [if_pos hd]
  have n1 : ((20 : Int) != 0) = true := rfl
  simp (disch := omega) only [eY, gN, dX, stepR_skip, fO, fW, fN, fZ, fX, fY, gQ, gG, eT, fT, fS, gE, fR, fL, fV, fQ, fU, gB, gC, fP, fC, gI, gA, fK, iR, iO, iP, iU, iM, iS, iQ, iT, iN, eP, Result.ok.injEq, Next.value.injEq, true_and, and_true, fI, fJ, gH, fM, gD, gR, acM, fE, fF, fG, fD, eZ, eU, fB, eX, eQ, eH, if_true, if_false, acK, acQ, acL, acN, acP, acO, acJ, acI, eA, dV, aB, dM, dO, cB, eB, eS, eE, dK, eF, fA, dJ, eJ, bP, dS, bE, dN, aL, aH, eL, aX, cI, eM, aE, eN, dE, aR, bF, eD, bB, bC, bJ, aO, aI, cF, fH, dY, cJ, cC, dA, cH, dT, bD, eK, bT, dF, bR, aT, bV, aC, bY, bQ, cA, bX, aY, aU, bA, bU, dL, cP, bO, aV, aJ, aM, bG, aF, dC, dW, aK, aN, aZ, aG, cY, aD, cL, bW, bH, aP, cM, bZ, aA, dD, cO, cU, cG, dI, cD, dG, dU, cQ, eC, eI, bN, aS, dZ, bS, aQ, bL, dH, cZ, cV, cN, cS, bK, bM, cX, dR, cR, dQ, dB, n1]
  rw [hRR]
  exact ⟨.inl ⟨hd, rfl⟩, gV.refl _ _⟩
 have hd' : S.down = false := by cases hq : S.down with | true => exact absurd hq hd | false => rfl
 rw [if_neg hd]
 have n1 : ((0 : Int) != 0) = false := rfl
 obtain ⟨ms, mn, sv, ls, ln, cs, h1, h2, h3, h4, h5, h6, hXD, hDl, op, hms, hmn, hfs, hfn, hun, hop⟩ := h
 have h7 := fun b (hb : X b) => hDl b (hXD b hb)
 have c2 := op.cell (off := 2)
 simp only [acI, acJ] at c2
 have l0 := BT hmn name
 rcases hfn.get name with ⟨q1, q2⟩ | ⟨v, b, q1, q2, q3⟩
 .rw [q1] at l0
  have l0 : (Ay 61 (.map (some mn)) (.string name) true).run pg w1 = .ok (.value (.tuple #[.slice none 0 0, .bool false])) w1 := l0
  simp (disch := omega) only [eY, gN, dX, stepR_skip, fO, fW, fN, fZ, fX, fY, gQ, gG, eT, fT, fS, gE, fR, fL, fV, fQ, fU, gB, gC, fP, fC, gI, gA, fK, iR, iO, iP, iU, iM, iS, iQ, iT, iN, eP, Result.ok.injEq, Next.value.injEq, true_and, and_true, fI, fJ, gH, fM, gD, gR, acM, fE, fF, fG, fD, eZ, eU, fB, eX, eQ, eH, if_true, if_false, acK, acQ, acL, acN, acP, acO, acJ, acI, eA, dV, aB, dM, dO, cB, eB, eS, eE, dK, eF, fA, dJ, eJ, bP, dS, bE, dN, aL, aH, eL, aX, cI, eM, aE, eN, dE, aR, bF, eD, bB, bC, bJ, aO, aI, cF, fH, dY, cJ, cC, dA, cH, dT, bD, eK, bT, dF, bR, aT, bV, aC, bY, bQ, cA, bX, aY, aU, bA, bU, dL, cP, bO, aV, aJ, aM, bG, aF, dC, dW, aK, aN, aZ, aG, cY, aD, cL, bW, bH, aP, cM, bZ, aA, dD, cO, cU, cG, dI, cD, dG, dU, cQ, eC, eI, bN, aS, dZ, bS, aQ, bL, dH, cZ, cV, cN, cS, bK, bM, cX, dR, cR, dQ, dB, n1, c2, l0]
  rw [hRR]
  exact ⟨.inr (.inl ⟨hd', q2, rfl⟩), gV.refl _ _⟩
 .obtain ⟨a', c', rfl⟩ := EM.slice q3
  rw [q1] at l0
  have l0 : (Ay 61 (.map (some mn)) (.string name) true).run pg w1 = .ok (.value (.tuple #[.slice a' b.length c', .bool true])) w1 := l0
  simp (disch := omega) only [eY, gN, dX, stepR_skip, fO, fW, fN, fZ, fX, fY, gQ, gG, eT, fT, fS, gE, fR, fL, fV, fQ, fU, gB, gC, fP, fC, gI, gA, fK, iR, iO, iP, iU, iM, iS, iQ, iT, iN, eP, Result.ok.injEq, Next.value.injEq, true_and, and_true, fI, fJ, gH, fM, gD, gR, acM, fE, fF, fG, fD, eZ, eU, fB, eX, eQ, eH, if_true, if_false, acK, acQ, acL, acN, acP, acO, acJ, acI, eA, dV, aB, dM, dO, cB, eB, eS, eE, dK, eF, fA, dJ, eJ, bP, dS, bE, dN, aL, aH, eL, aX, cI, eM, aE, eN, dE, aR, bF, eD, bB, bC, bJ, aO, aI, cF, fH, dY, cJ, cC, dA, cH, dT, bD, eK, bT, dF, bR, aT, bV, aC, bY, bQ, cA, bX, aY, aU, bA, bU, dL, cP, bO, aV, aJ, aM, bG, aF, dC, dW, aK, aN, aZ, aG, cY, aD, cL, bW, bH, aP, cM, bZ, aA, dD, cO, cU, cG, dI, cD, dG, dU, cQ, eC, eI, bN, aS, dZ, bS, aQ, bL, dH, cZ, cV, cN, cS, bK, bM, cX, dR, cR, dQ, dB, n1, c2, l0]
  refine (OJ q3.1 (hsz b q2)).mono ?_
  rintro r w2 ⟨ho, x2⟩
  rw [hRR]
  exact ⟨.inr (.inr ⟨hd', b, r, q2, rfl, ho⟩), x2⟩
def Vv (S : jL) (name : ByteArray) : jL × Int := if S.down then (S, 20) else if (jC name S.seen).isNone then (S, 21) else pW S ⟨2, name, ⟨#[]⟩, 0, []⟩
theorem U0 {p : Nat} {X D : Nat -> Prop} {S : jL} {name : ByteArray} {w : ahA} (h : mE w p X D S) (hB : Yu S) :
 gT pg sB #[dP p, .string name] w (fun r w' => r = .int .i64 (Vv S name).2 /\ A7 w p X D (Vv S name).1 w') := by
 refine IU ?_
 unfold Gk wO Vv
 refine (Xw h).mono ?_
 rintro r w1 ⟨rfl, rfl⟩
 by_cases hd : S.down = true
 .rw [if_pos hd, if_pos hd]
  have n1 : ((20 : Int) != 0) = true := rfl
  simp (disch := omega) only [eY, gN, dX, stepR_skip, fO, fW, fN, fZ, fX, fY, gQ, gG, eT, fT, fS, gE, fR, fL, fV, fQ, fU, gB, gC, fP, fC, gI, gA, fK, iR, iO, iP, iU, iM, iS, iQ, iT, iN, eP, Result.ok.injEq, Next.value.injEq, true_and, and_true, fI, fJ, gH, fM, gD, gR, acM, fE, fF, fG, fD, eZ, eU, fB, eX, eQ, eH, if_true, if_false, acK, acQ, acL, acN, acP, acO, acJ, acI, eA, dV, aB, dM, dO, cB, eB, eS, eE, dK, eF, fA, dJ, eJ, bP, dS, bE, dN, aL, aH, eL, aX, cI, eM, aE, eN, dE, aR, bF, eD, bB, bC, bJ, aO, aI, cF, fH, dY, cJ, cC, dA, cH, dT, bD, eK, bT, dF, bR, aT, bV, aC, bY, bQ, cA, bX, aY, aU, bA, bU, dL, cP, bO, aV, aJ, aM, bG, aF, dC, dW, aK, aN, aZ, aG, cY, aD, cL, bW, bH, aP, cM, bZ, aA, dD, cO, cU, cG, dI, cD, dG, dU, cQ, eC, eI, bN, aS, dZ, bS, aQ, bL, dH, cZ, cV, cN, cS, bK, bM, cX, dR, cR, dQ, dB, n1]
  exact A7.refl h
 rw [if_neg hd, if_neg hd]
 have n1 : ((0 : Int) != 0) = false := rfl
 have h' := h
 obtain ⟨ms, mn, sv, ls, ln, cs, h1, h2, h3, h4, h5, h6, hXD, hDl, op, hms, hmn, hfs, hfn, hun, hop⟩ := h'
 have h7 : ∀ b, X b -> b < w1.heap.size := fun b hb => hDl b (hXD b hb)
 have c2 := op.cell (off := 2)
 simp only [acI, acJ] at c2
 have l0 := BT hmn name
 rcases hfn.get name with ⟨q1, q2⟩ | ⟨v, b, q1, q2, q3⟩
 .rw [q1] at l0
  have l0 : (Ay 61 (.map (some mn)) (.string name) true).run pg w1 = .ok (.value (.tuple #[.slice none 0 0, .bool false])) w1 := l0
  rw [q2, if_pos (show (none : Option (List UInt8)).isNone = true from rfl)]
  simp (disch := omega) only [eY, gN, dX, stepR_skip, fO, fW, fN, fZ, fX, fY, gQ, gG, eT, fT, fS, gE, fR, fL, fV, fQ, fU, gB, gC, fP, fC, gI, gA, fK, iR, iO, iP, iU, iM, iS, iQ, iT, iN, eP, Result.ok.injEq, Next.value.injEq, true_and, and_true, fI, fJ, gH, fM, gD, gR, acM, fE, fF, fG, fD, eZ, eU, fB, eX, eQ, eH, if_true, if_false, acK, acQ, acL, acN, acP, acO, acJ, acI, eA, dV, aB, dM, dO, cB, eB, eS, eE, dK, eF, fA, dJ, eJ, bP, dS, bE, dN, aL, aH, eL, aX, cI, eM, aE, eN, dE, aR, bF, eD, bB, bC, bJ, aO, aI, cF, fH, dY, cJ, cC, dA, cH, dT, bD, eK, bT, dF, bR, aT, bV, aC, bY, bQ, cA, bX, aY, aU, bA, bU, dL, cP, bO, aV, aJ, aM, bG, aF, dC, dW, aK, aN, aZ, aG, cY, aD, cL, bW, bH, aP, cM, bZ, aA, dD, cO, cU, cG, dI, cD, dG, dU, cQ, eC, eI, bN, aS, dZ, bS, aQ, bL, dH, cZ, cV, cN, cS, bK, bM, cX, dR, cR, dQ, dB, n1, c2, l0]
  exact A7.refl h
 .obtain ⟨a', c', rfl⟩ := EM.slice q3
  rw [q1] at l0
  have l0 : (Ay 61 (.map (some mn)) (.string name) true).run pg w1 = .ok (.value (.tuple #[.slice a' b.length c', .bool true])) w1 := l0
  rw [q2, if_neg (show ¬ (some b).isNone = true by simp)]
  have hdn := TW (o := ⟨2, name, ⟨#[]⟩, 0, []⟩) (va := none) (vc := 0) h ⟨Sl.nil _, fun h => h⟩ hB.left hB.seen (show 0 <= _ by omega) (show 0 <= _ by omega) hB.under
  have opE : MW ⟨2, name, ⟨#[]⟩, 0, []⟩ (.slice none ([] : List UInt8).length 0) = [.int .i64 2, .string name, .string ⟨#[]⟩, .int .i64 0, .slice none 0 0] := rfl
  rw [opE] at hdn
  simp (disch := omega) only [eY, gN, dX, stepR_skip, fO, fW, fN, fZ, fX, fY, gQ, gG, eT, fT, fS, gE, fR, fL, fV, fQ, fU, gB, gC, fP, fC, gI, gA, fK, iR, iO, iP, iU, iM, iS, iQ, iT, iN, eP, Result.ok.injEq, Next.value.injEq, true_and, and_true, fI, fJ, gH, fM, gD, gR, acM, fE, fF, fG, fD, eZ, eU, fB, eX, eQ, eH, if_true, if_false, acK, acQ, acL, acN, acP, acO, acJ, acI, eA, dV, aB, dM, dO, cB, eB, eS, eE, dK, eF, fA, dJ, eJ, bP, dS, bE, dN, aL, aH, eL, aX, cI, eM, aE, eN, dE, aR, bF, eD, bB, bC, bJ, aO, aI, cF, fH, dY, cJ, cC, dA, cH, dT, bD, eK, bT, dF, bR, aT, bV, aC, bY, bQ, cA, bX, aY, aU, bA, bU, dL, cP, bO, aV, aJ, aM, bG, aF, dC, dW, aK, aN, aZ, aG, cY, aD, cL, bW, bH, aP, cM, bZ, aA, dD, cO, cU, cG, dI, cD, dG, dU, cQ, eC, eI, bN, aS, dZ, bS, aQ, bL, dH, cZ, cV, cN, cS, bK, bM, cX, dR, cR, dQ, dB, n1, c2, l0]
  exact hdn
def MX (S : jL) (old name : ByteArray) : jL × Int := if S.down then (S, 20) else if Lw old = false ∨ Lw name = false then (S, 1) else if (jC old S.seen).isNone then (S, 21) else pW S ⟨1, old, name, 0, []⟩
theorem Vc {p : Nat} {X D : Nat -> Prop} {S : jL} {old name : ByteArray} {w : ahA} (h : mE w p X D S) (hB : Yu S) :
 gT pg sL #[dP p, .string old, .string name] w (fun r w' => r = .int .i64 (MX S old name).2 /\ A7 w p X D (MX S old name).1 w') := by
 refine IA ?_
 unfold GH wN MX
 refine (Xw h).mono ?_
 rintro r w1 ⟨rfl, rfl⟩
 by_cases hd : S.down = true
 .rw [if_pos hd, if_pos hd]
  have n1 : ((20 : Int) != 0) = true := rfl
  simp (disch := omega) only [eY, gN, dX, stepR_skip, fO, fW, fN, fZ, fX, fY, gQ, gG, eT, fT, fS, gE, fR, fL, fV, fQ, fU, gB, gC, fP, fC, gI, gA, fK, iR, iO, iP, iU, iM, iS, iQ, iT, iN, eP, Result.ok.injEq, Next.value.injEq, true_and, and_true, fI, fJ, gH, fM, gD, gR, acM, fE, fF, fG, fD, eZ, eU, fB, eX, eQ, eH, if_true, if_false, acK, acQ, acL, acN, acP, acO, acJ, acI, eA, dV, aB, dM, dO, cB, eB, eS, eE, dK, eF, fA, dJ, eJ, bP, dS, bE, dN, aL, aH, eL, aX, cI, eM, aE, eN, dE, aR, bF, eD, bB, bC, bJ, aO, aI, cF, fH, dY, cJ, cC, dA, cH, dT, bD, eK, bT, dF, bR, aT, bV, aC, bY, bQ, cA, bX, aY, aU, bA, bU, dL, cP, bO, aV, aJ, aM, bG, aF, dC, dW, aK, aN, aZ, aG, cY, aD, cL, bW, bH, aP, cM, bZ, aA, dD, cO, cU, cG, dI, cD, dG, dU, cQ, eC, eI, bN, aS, dZ, bS, aQ, bL, dH, cZ, cV, cN, cS, bK, bM, cX, dR, cR, dQ, dB, n1]
  exact A7.refl h
 rw [if_neg hd, if_neg hd]
 have n1 : ((0 : Int) != 0) = false := rfl
 have h' := h
 obtain ⟨ms, mn, sv, ls, ln, cs, h1, h2, h3, h4, h5, h6, hXD, hDl, op, hms, hmn, hfs, hfn, hun, hop⟩ := h'
 have h7 : ∀ b, X b -> b < w1.heap.size := fun b hb => hDl b (hXD b hb)
 have c2 := op.cell (off := 2)
 simp only [acI, acJ] at c2
 simp (disch := omega) only [eY, gN, dX, stepR_skip, fO, fW, fN, fZ, fX, fY, gQ, gG, eT, fT, fS, gE, fR, fL, fV, fQ, fU, gB, gC, fP, fC, gI, gA, fK, iR, iO, iP, iU, iM, iS, iQ, iT, iN, eP, Result.ok.injEq, Next.value.injEq, true_and, and_true, fI, fJ, gH, fM, gD, gR, acM, fE, fF, fG, fD, eZ, eU, fB, eX, eQ, eH, if_true, if_false, acK, acQ, acL, acN, acP, acO, acJ, acI, eA, dV, aB, dM, dO, cB, eB, eS, eE, dK, eF, fA, dJ, eJ, bP, dS, bE, dN, aL, aH, eL, aX, cI, eM, aE, eN, dE, aR, bF, eD, bB, bC, bJ, aO, aI, cF, fH, dY, cJ, cC, dA, cH, dT, bD, eK, bT, dF, bR, aT, bV, aC, bY, bQ, cA, bX, aY, aU, bA, bU, dL, cP, bO, aV, aJ, aM, bG, aF, dC, dW, aK, aN, aZ, aG, cY, aD, cL, bW, bH, aP, cM, bZ, aA, dD, cO, cU, cG, dI, cD, dG, dU, cQ, eC, eI, bN, aS, dZ, bS, aQ, bL, dH, cZ, cV, cN, cS, bK, bM, cX, dR, cR, dQ, dB, n1]
 refine (Xf old _).mono ?_
 rintro r w2 ⟨rfl, hw⟩
 rw [hw]; clear hw w2
 cases hm1 : Lw old with
 | false =>
   rw [if_pos (.inl rfl)]
   simp (disch := omega) only [eY, gN, dX, stepR_skip, fO, fW, fN, fZ, fX, fY, gQ, gG, eT, fT, fS, gE, fR, fL, fV, fQ, fU, gB, gC, fP, fC, gI, gA, fK, iR, iO, iP, iU, iM, iS, iQ, iT, iN, eP, Result.ok.injEq, Next.value.injEq, true_and, and_true, fI, fJ, gH, fM, gD, gR, acM, fE, fF, fG, fD, eZ, eU, fB, eX, eQ, eH, if_true, if_false, acK, acQ, acL, acN, acP, acO, acJ, acI, eA, dV, aB, dM, dO, cB, eB, eS, eE, dK, eF, fA, dJ, eJ, bP, dS, bE, dN, aL, aH, eL, aX, cI, eM, aE, eN, dE, aR, bF, eD, bB, bC, bJ, aO, aI, cF, fH, dY, cJ, cC, dA, cH, dT, bD, eK, bT, dF, bR, aT, bV, aC, bY, bQ, cA, bX, aY, aU, bA, bU, dL, cP, bO, aV, aJ, aM, bG, aF, dC, dW, aK, aN, aZ, aG, cY, aD, cL, bW, bH, aP, cM, bZ, aA, dD, cO, cU, cG, dI, cD, dG, dU, cQ, eC, eI, bN, aS, dZ, bS, aQ, bL, dH, cZ, cV, cN, cS, bK, bM, cX, dR, cR, dQ, dB]
   exact A7.refl h
 | true =>
   simp (disch := omega) only [eY, gN, dX, stepR_skip, fO, fW, fN, fZ, fX, fY, gQ, gG, eT, fT, fS, gE, fR, fL, fV, fQ, fU, gB, gC, fP, fC, gI, gA, fK, iR, iO, iP, iU, iM, iS, iQ, iT, iN, eP, Result.ok.injEq, Next.value.injEq, true_and, and_true, fI, fJ, gH, fM, gD, gR, acM, fE, fF, fG, fD, eZ, eU, fB, eX, eQ, eH, if_true, if_false, acK, acQ, acL, acN, acP, acO, acJ, acI, eA, dV, aB, dM, dO, cB, eB, eS, eE, dK, eF, fA, dJ, eJ, bP, dS, bE, dN, aL, aH, eL, aX, cI, eM, aE, eN, dE, aR, bF, eD, bB, bC, bJ, aO, aI, cF, fH, dY, cJ, cC, dA, cH, dT, bD, eK, bT, dF, bR, aT, bV, aC, bY, bQ, cA, bX, aY, aU, bA, bU, dL, cP, bO, aV, aJ, aM, bG, aF, dC, dW, aK, aN, aZ, aG, cY, aD, cL, bW, bH, aP, cM, bZ, aA, dD, cO, cU, cG, dI, cD, dG, dU, cQ, eC, eI, bN, aS, dZ, bS, aQ, bL, dH, cZ, cV, cN, cS, bK, bM, cX, dR, cR, dQ, dB]
   refine (Xf name _).mono ?_
   rintro r w2 ⟨rfl, hw⟩
   rw [hw]; clear hw w2
   cases hm2 : Lw name with
   | false =>
     rw [if_pos (.inr rfl)]
     simp (disch := omega) only [eY, gN, dX, stepR_skip, fO, fW, fN, fZ, fX, fY, gQ, gG, eT, fT, fS, gE, fR, fL, fV, fQ, fU, gB, gC, fP, fC, gI, gA, fK, iR, iO, iP, iU, iM, iS, iQ, iT, iN, eP, Result.ok.injEq, Next.value.injEq, true_and, and_true, fI, fJ, gH, fM, gD, gR, acM, fE, fF, fG, fD, eZ, eU, fB, eX, eQ, eH, if_true, if_false, acK, acQ, acL, acN, acP, acO, acJ, acI, eA, dV, aB, dM, dO, cB, eB, eS, eE, dK, eF, fA, dJ, eJ, bP, dS, bE, dN, aL, aH, eL, aX, cI, eM, aE, eN, dE, aR, bF, eD, bB, bC, bJ, aO, aI, cF, fH, dY, cJ, cC, dA, cH, dT, bD, eK, bT, dF, bR, aT, bV, aC, bY, bQ, cA, bX, aY, aU, bA, bU, dL, cP, bO, aV, aJ, aM, bG, aF, dC, dW, aK, aN, aZ, aG, cY, aD, cL, bW, bH, aP, cM, bZ, aA, dD, cO, cU, cG, dI, cD, dG, dU, cQ, eC, eI, bN, aS, dZ, bS, aQ, bL, dH, cZ, cV, cN, cS, bK, bM, cX, dR, cR, dQ, dB]
     exact A7.refl h
   | true =>
     rw [if_neg (by simp)]
     have l0 := BT hmn old
     rcases hfn.get old with ⟨q1, q2⟩ | ⟨v, b, q1, q2, q3⟩
     .rw [q1] at l0
      have l0 : (Ay 61 (.map (some mn)) (.string old) true).run pg w1 = .ok (.value (.tuple #[.slice none 0 0, .bool false])) w1 := l0
      rw [q2, if_pos (show (none : Option (List UInt8)).isNone = true from rfl)]
      simp (disch := omega) only [eY, gN, dX, stepR_skip, fO, fW, fN, fZ, fX, fY, gQ, gG, eT, fT, fS, gE, fR, fL, fV, fQ, fU, gB, gC, fP, fC, gI, gA, fK, iR, iO, iP, iU, iM, iS, iQ, iT, iN, eP, Result.ok.injEq, Next.value.injEq, true_and, and_true, fI, fJ, gH, fM, gD, gR, acM, fE, fF, fG, fD, eZ, eU, fB, eX, eQ, eH, if_true, if_false, acK, acQ, acL, acN, acP, acO, acJ, acI, eA, dV, aB, dM, dO, cB, eB, eS, eE, dK, eF, fA, dJ, eJ, bP, dS, bE, dN, aL, aH, eL, aX, cI, eM, aE, eN, dE, aR, bF, eD, bB, bC, bJ, aO, aI, cF, fH, dY, cJ, cC, dA, cH, dT, bD, eK, bT, dF, bR, aT, bV, aC, bY, bQ, cA, bX, aY, aU, bA, bU, dL, cP, bO, aV, aJ, aM, bG, aF, dC, dW, aK, aN, aZ, aG, cY, aD, cL, bW, bH, aP, cM, bZ, aA, dD, cO, cU, cG, dI, cD, dG, dU, cQ, eC, eI, bN, aS, dZ, bS, aQ, bL, dH, cZ, cV, cN, cS, bK, bM, cX, dR, cR, dQ, dB, n1, c2, l0]
      exact A7.refl h
     .obtain ⟨a', c', rfl⟩ := EM.slice q3
      rw [q1] at l0
      have l0 : (Ay 61 (.map (some mn)) (.string old) true).run pg w1 = .ok (.value (.tuple #[.slice a' b.length c', .bool true])) w1 := l0
      rw [q2, if_neg (show ¬ (some b).isNone = true by simp)]
      have hdn := TW (o := ⟨1, old, name, 0, []⟩) (va := none) (vc := 0) h ⟨Sl.nil _, fun h => h⟩ hB.left hB.seen (show 0 <= _ by omega) (show 0 <= _ by omega) hB.under
      have opE : MW ⟨1, old, name, 0, []⟩ (.slice none ([] : List UInt8).length 0) = [.int .i64 1, .string old, .string name, .int .i64 0, .slice none 0 0] := rfl
      rw [opE] at hdn
      simp (disch := omega) only [eY, gN, dX, stepR_skip, fO, fW, fN, fZ, fX, fY, gQ, gG, eT, fT, fS, gE, fR, fL, fV, fQ, fU, gB, gC, fP, fC, gI, gA, fK, iR, iO, iP, iU, iM, iS, iQ, iT, iN, eP, Result.ok.injEq, Next.value.injEq, true_and, and_true, fI, fJ, gH, fM, gD, gR, acM, fE, fF, fG, fD, eZ, eU, fB, eX, eQ, eH, if_true, if_false, acK, acQ, acL, acN, acP, acO, acJ, acI, eA, dV, aB, dM, dO, cB, eB, eS, eE, dK, eF, fA, dJ, eJ, bP, dS, bE, dN, aL, aH, eL, aX, cI, eM, aE, eN, dE, aR, bF, eD, bB, bC, bJ, aO, aI, cF, fH, dY, cJ, cC, dA, cH, dT, bD, eK, bT, dF, bR, aT, bV, aC, bY, bQ, cA, bX, aY, aU, bA, bU, dL, cP, bO, aV, aJ, aM, bG, aF, dC, dW, aK, aN, aZ, aG, cY, aD, cL, bW, bH, aP, cM, bZ, aA, dD, cO, cU, cG, dI, cD, dG, dU, cQ, eC, eI, bN, aS, dZ, bS, aQ, bL, dH, cZ, cV, cN, cS, bK, bM, cX, dR, cR, dQ, dB, n1, c2, l0]
      exact hdn
theorem Y0 {p : Nat} {X D : Nat -> Prop} {S : jL} {a : Int} {w : ahA} (h : mE w p X D S) : gT pg rP #[dP p, .int .i64 a] w (fun r w' => r = .tuple #[] /\ A7 w p X D { S with left := max a (-1) } w') := by
 refine Km ?_
 unfold JR AH
 obtain ⟨ms, mn, sv, ls, ln, cs, h1, h2, h3, h4, h5, h6, hXD, hDl, op, hms, hmn, hfs, hfn, hun, hop⟩ := h
 have h7 := fun b (hb : X b) => hDl b (hXD b hb)
 have e1 : (if (-1 : Int) > a then (-1 : Int) else a) = max a (-1) := by split <;> omega
 simp (disch := omega) only [eY, gN, dX, stepR_skip, fO, fW, fN, fZ, fX, fY, gQ, gG, eT, fT, fS, gE, fR, fL, fV, fQ, fU, gB, gC, fP, fC, gI, gA, fK, iR, iO, iP, iU, iM, iS, iQ, iT, iN, eP, Result.ok.injEq, Next.value.injEq, true_and, and_true, fI, fJ, gH, fM, gD, gR, acM, fE, fF, fG, fD, eZ, eU, fB, eX, eQ, eH, if_true, if_false, acK, acQ, acL, acN, acP, acO, acJ, acI, eA, dV, aB, dM, dO, cB, eB, eS, eE, dK, eF, fA, dJ, eJ, bP, dS, bE, dN, aL, aH, eL, aX, cI, eM, aE, eN, dE, aR, bF, eD, bB, bC, bJ, aO, aI, cF, fH, dY, cJ, cC, dA, cH, dT, bD, eK, bT, dF, bR, aT, bV, aC, bY, bQ, cA, bX, aY, aU, bA, bU, dL, cP, bO, aV, aJ, aM, bG, aF, dC, dW, aK, aN, aZ, aG, cY, aD, cL, bW, bH, aP, cM, bZ, aA, dD, cO, cU, cG, dI, cD, dG, dU, cQ, eC, eI, bN, aS, dZ, bS, aQ, bL, dH, cZ, cV, cN, cS, bK, bM, cX, dR, cR, dQ, dB, e1]
 refine HD op rfl (by simp) fun w1 o1 x1 s1 => ?_
 simp only [adA, adN] at o1
 have xX : gV w w1 X := x1.mono fun b _ h => h ▸ h1
 have xD : gV w w1 D := xX.mono fun b _ h => hXD b h
 exact ⟨X, D, ⟨ms, mn, sv, ls, ln, cs, h1, h2, h3, h4, h5, h6, hXD, fun b hb => by have := hDl b hb; omega, o1, hms.ext x1 (fun h => h4 h.symm), hmn.ext x1 (fun h => h5 h.symm), hfs.ext xD fun _ h => h, hfn.ext xD fun _ h => h, hun.ext x1 (fun b hb h => hb.2.1 h), hop.ext xD fun _ h => h⟩, fun _ h => .inl h, fun _ h => h, xX⟩
def Ab (S : jL) : jL × Int :=
 if S.down then (S, 20) else if LM S then ({ S with left := pO S.left, down := LM S }, 20)
 else ({ S with left := pO S.left, down := LM S, sure := S.seen, under := [] }, 0)
theorem V6 {p : Nat} {X D : Nat -> Prop} {S : jL} {w : ahA} (h : mE w p X D S) (hB : Yu S) :
 gT pg jJ #[dP p] w (fun r w' => r = .int .i64 (Ab S).2 /\ A7 w p X D (Ab S).1 w') := by
 refine Kg ?_
 unfold I7 Ar Ab
 refine (Xw h).mono ?_
 rintro r w1 ⟨rfl, rfl⟩
 by_cases hd : S.down = true
 .rw [if_pos hd, if_pos hd]
  have n1 : ((20 : Int) != 0) = true := rfl
  simp (disch := omega) only [eY, gN, dX, stepR_skip, fO, fW, fN, fZ, fX, fY, gQ, gG, eT, fT, fS, gE, fR, fL, fV, fQ, fU, gB, gC, fP, fC, gI, gA, fK, iR, iO, iP, iU, iM, iS, iQ, iT, iN, eP, Result.ok.injEq, Next.value.injEq, true_and, and_true, fI, fJ, gH, fM, gD, gR, acM, fE, fF, fG, fD, eZ, eU, fB, eX, eQ, eH, if_true, if_false, acK, acQ, acL, acN, acP, acO, acJ, acI, eA, dV, aB, dM, dO, cB, eB, eS, eE, dK, eF, fA, dJ, eJ, bP, dS, bE, dN, aL, aH, eL, aX, cI, eM, aE, eN, dE, aR, bF, eD, bB, bC, bJ, aO, aI, cF, fH, dY, cJ, cC, dA, cH, dT, bD, eK, bT, dF, bR, aT, bV, aC, bY, bQ, cA, bX, aY, aU, bA, bU, dL, cP, bO, aV, aJ, aM, bG, aF, dC, dW, aK, aN, aZ, aG, cY, aD, cL, bW, bH, aP, cM, bZ, aA, dD, cO, cU, cG, dI, cD, dG, dU, cQ, eC, eI, bN, aS, dZ, bS, aQ, bL, dH, cZ, cV, cN, cS, bK, bM, cX, dR, cR, dQ, dB, n1]
  exact A7.refl h
 rw [if_neg hd, if_neg hd]
 have n1 : ((0 : Int) != 0) = false := rfl
 obtain ⟨ms, mn, sv, ls, ln, cs, h1, h2, h3, h4, h5, h6, hXD, hDl, op, hms, hmn, hfs, hfn, hun, hop⟩ := h
 have h7 := fun b (hb : X b) => hDl b (hXD b hb)
 simp (disch := omega) only [eY, gN, dX, stepR_skip, fO, fW, fN, fZ, fX, fY, gQ, gG, eT, fT, fS, gE, fR, fL, fV, fQ, fU, gB, gC, fP, fC, gI, gA, fK, iR, iO, iP, iU, iM, iS, iQ, iT, iN, eP, Result.ok.injEq, Next.value.injEq, true_and, and_true, fI, fJ, gH, fM, gD, gR, acM, fE, fF, fG, fD, eZ, eU, fB, eX, eQ, eH, if_true, if_false, acK, acQ, acL, acN, acP, acO, acJ, acI, eA, dV, aB, dM, dO, cB, eB, eS, eE, dK, eF, fA, dJ, eJ, bP, dS, bE, dN, aL, aH, eL, aX, cI, eM, aE, eN, dE, aR, bF, eD, bB, bC, bJ, aO, aI, cF, fH, dY, cJ, cC, dA, cH, dT, bD, eK, bT, dF, bR, aT, bV, aC, bY, bQ, cA, bX, aY, aU, bA, bU, dL, cP, bO, aV, aJ, aM, bG, aF, dC, dW, aK, aN, aZ, aG, cY, aD, cL, bW, bH, aP, cM, bZ, aA, dD, cO, cU, cG, dI, cD, dG, dU, cQ, eC, eI, bN, aS, dZ, bS, aQ, bL, dH, cZ, cV, cN, cS, bK, bM, cX, dR, cR, dQ, dB, n1]
 refine (Uh op hB.left).mono ?_
 rintro r w2 ⟨rfl, op2, x2⟩
 have hdn : (S.down || S.left == 0) = LM S := rfl
 rw [hdn] at op2 ⊢
 have xX : gV w1 w2 X := x2.mono fun b _ h => h ▸ h1
 have xD : gV w1 w2 D := xX.mono fun b _ h => hXD b h
 have z2 := x2.size
 have h72 : ∀ b, X b -> b < w2.heap.size := fun b hb => by have := h7 b hb; omega
 have hD2 : ∀ b, D b -> b < w2.heap.size := fun b hb => by have := hDl b hb; omega
 have hms2 := hms.ext x2 (fun h => h4 h.symm)
 have hmn2 := hmn.ext x2 (fun h => h5 h.symm)
 have hfs2 := hfs.ext xD fun _ h => h
 have hfn2 := hfn.ext xD fun _ h => h
 cases hD : LM S with
 | true =>
   rw [hD] at op2
   rw [if_pos rfl]
   simp (disch := omega) only [eY, gN, dX, stepR_skip, fO, fW, fN, fZ, fX, fY, gQ, gG, eT, fT, fS, gE, fR, fL, fV, fQ, fU, gB, gC, fP, fC, gI, gA, fK, iR, iO, iP, iU, iM, iS, iQ, iT, iN, eP, Result.ok.injEq, Next.value.injEq, true_and, and_true, fI, fJ, gH, fM, gD, gR, acM, fE, fF, fG, fD, eZ, eU, fB, eX, eQ, eH, if_true, if_false, acK, acQ, acL, acN, acP, acO, acJ, acI, eA, dV, aB, dM, dO, cB, eB, eS, eE, dK, eF, fA, dJ, eJ, bP, dS, bE, dN, aL, aH, eL, aX, cI, eM, aE, eN, dE, aR, bF, eD, bB, bC, bJ, aO, aI, cF, fH, dY, cJ, cC, dA, cH, dT, bD, eK, bT, dF, bR, aT, bV, aC, bY, bQ, cA, bX, aY, aU, bA, bU, dL, cP, bO, aV, aJ, aM, bG, aF, dC, dW, aK, aN, aZ, aG, cY, aD, cL, bW, bH, aP, cM, bZ, aA, dD, cO, cU, cG, dI, cD, dG, dU, cQ, eC, eI, bN, aS, dZ, bS, aQ, bL, dH, cZ, cV, cN, cS, bK, bM, cX, dR, cR, dQ, dB]
   exact ⟨X, D, ⟨ms, mn, sv, ls, ln, cs, h1, h2, h3, h4, h5, h6, hXD, hD2, op2, hms2, hmn2, hfs2, hfn2, hun.ext x2 (fun b hb h => hb.2.1 h), hop.ext xD fun _ h => h⟩, fun _ h => .inl h, fun _ h => h, xX⟩
 | false =>
   rw [hD] at op2
   rw [if_neg (by decide)]
   have c2 := op2.cell (off := 2)
   simp only [acI, acJ] at c2
   simp (disch := omega) only [eY, gN, dX, stepR_skip, fO, fW, fN, fZ, fX, fY, gQ, gG, eT, fT, fS, gE, fR, fL, fV, fQ, fU, gB, gC, fP, fC, gI, gA, fK, iR, iO, iP, iU, iM, iS, iQ, iT, iN, eP, Result.ok.injEq, Next.value.injEq, true_and, and_true, fI, fJ, gH, fM, gD, gR, acM, fE, fF, fG, fD, eZ, eU, fB, eX, eQ, eH, if_true, if_false, acK, acQ, acL, acN, acP, acO, acJ, acI, eA, dV, aB, dM, dO, cB, eB, eS, eE, dK, eF, fA, dJ, eJ, bP, dS, bE, dN, aL, aH, eL, aX, cI, eM, aE, eN, dE, aR, bF, eD, bB, bC, bJ, aO, aI, cF, fH, dY, cJ, cC, dA, cH, dT, bD, eK, bT, dF, bR, aT, bV, aC, bY, bQ, cA, bX, aY, aU, bA, bU, dL, cP, bO, aV, aJ, aM, bG, aF, dC, dW, aK, aN, aZ, aG, cY, aD, cL, bW, bH, aP, cM, bZ, aA, dD, cO, cU, cG, dI, cD, dG, dU, cQ, eC, eI, bN, aS, dZ, bS, aQ, bL, dH, cZ, cV, cN, cS, bK, bM, cX, dR, cR, dQ, dB, c2]
   refine (RN hmn2).mono ?_
   rintro r w3 ⟨rfl, hmc, x3, s3⟩
   have op3 := op2.ext x3 (fun h => h)
   refine KK op3 rfl (by simp) fun w4 op4 x4 s4 => ?_
   simp only [adA, adN] at op4
   refine uH op4 rfl (by simp) fun w5 op5 x5 s5 => ?_
   simp only [adA, adN] at op5
   have hp2 : p < w2.heap.size := op2.lt
   have hmn2l := hmn2.lt
   have x45 : gV w3 w5 (fun y => y = p) := x4.seq x5
   obtain ⟨Y, hY⟩ : ∃ Y : Nat -> Prop, Y = fun b => X b ∨ b = w2.heap.size := ⟨_, rfl⟩
   have hYX : ∀ b, X b -> Y b := fun b h => by rw [hY]; exact .inl h
   have hY2 : ∀ b, Y b -> X b ∨ w2.heap.size <= b := fun b h => by rw [hY] at h; rcases h with h | h; exact .inl h; exact .inr (by omega)
   obtain ⟨E, hE⟩ : ∃ E : Nat -> Prop, E = fun b => D b ∨ b = w2.heap.size := ⟨_, rfl⟩
   have hED : ∀ b, D b -> E b := fun b h => by rw [hE]; exact .inl h
   have hYE : ∀ b, Y b -> E b := fun b h => by rw [hY] at h; rw [hE]; rcases h with h | h; exact .inl (hXD b h); exact .inr h
   have hE2 : ∀ b, E b -> D b ∨ w2.heap.size <= b := fun b h => by rw [hE] at h; rcases h with h | h; exact .inl h; exact .inr (by omega)
   have x3Y : gV w2 w3 E := x3.mono fun _ _ h => h.elim
   have x45Y : gV w3 w5 E := x45.mono fun b _ h => by rw [h]; exact hED _ (hXD _ h1)
   have dat : ∀ v b, EM w2 D v b -> EM w5 E v b := fun v b hd => ((hd.sub hE2).ext x3Y fun _ h => h).ext x45Y fun _ h => h
   refine ⟨Y, E, ⟨w2.heap.size, mn, .slice none 0 0, ln, ln, [], hYX _ h1, by rw [hY]; exact .inr rfl, hYX _ h3, by omega, h5, by omega, hYE, fun b h => ?_, op5, hmc.ext x45 (by omega), (hmn2.ext x3 (fun h => h)).ext x45 (fun h => h5 h.symm), hfn2.map dat, hfn2.map dat, ⟨rfl, .inl ⟨rfl, rfl⟩⟩, rfl⟩, fun b h => ?_, hED, (xX.trans x3 fun _ _ h => h.elim).trans x45 fun b _ h => by rw [h]; exact h1⟩
   .rw [hE] at h
    rcases h with h | h
    .have := hD2 b h; omega
    .omega
   .rcases hY2 b h with h | h
    .exact .inl h
    .exact .inr (by omega)
end Go.Proofs.YteelnmpbnaohpaaDoor
