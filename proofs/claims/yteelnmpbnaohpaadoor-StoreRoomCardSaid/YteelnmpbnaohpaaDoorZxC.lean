/- Parts of the proof of StoreRoom: merged and given short names by a program of ours. -/
import Derived.WalkKit
import Derived.ProofKit
import Derived.OpenShut
import Derived.Laws.StructEq
import Derived.Shelf.SlMaps.Clone
import Derived.Test.YteelnmpbnaohpaaDoorZxB
set_option linter.unusedVariables false
set_option linter.unusedSimpArgs false
open Array renaming getElem?_setIfInBounds_ne → Z1, getElem?_eq_none → Z8, getD_eq_getD_getElem? → ZP, getElem?_eq_getElem → ZX, getElem?_setIfInBounds_self_of_lt → ZZ
open Bool renaming false_eq_true → ZF, not_false → ZJ, not_true → ZK, and_eq_true → ZR, or_eq_true → aaO, or_eq_false_iff → acG, or_false → acL, false_or → acV, and_eq_false_iff → adA
open Int renaming toNat_natCast → ZI
open List renaming set_cons_zero → Z0, nil_append → Z2, length_eq_zero_iff → Z3, append_assoc → Z4, length_replicate → Z6, length_cons → Z7, take_append_of_le_length → Z9, getElem?_cons_zero → ZD, getElem?_cons_succ → ZE, length_map → ZM, length_append → ZN, getElem?_eq_getElem → ZO, take_of_length_le → ZQ, getD_eq_getElem?_getD → ZS, map_cons → ZT, mem_cons_of_mem → ZV, length_drop → ZW, length_take → ZY, getElem?_append_left → aaB, drop_append_of_le_length → aaC, mem_cons → aaE, toList_toArray → aaG, set_cons_succ → aaI, mem_map → aaK, getElem?_eq_none → aaL, getElem?_append_right → aaM, map_append → aaP, append_nil → aaQ, map_congr_left → aaR, getElem?_map → aaS, mem_cons_self → aaU, eraseIdx_cons_succ → aaW, take_succ_eq_append_getElem → aaZ, mem_append → abA, getElem?_toArray → abB, set_append_right → abC, getElem?_take_of_lt → abD, drop_zero → abF, drop_of_length_le → abI, mem_append_left → abM, length_nil → abN, nodup_cons → abO, size_toArray → abP, getElem_mem → abR, map_drop → abW, getElem?_drop → acA, ext_getElem? → acC, mem_append_right → acE, drop_drop → acF, cons_append → acH, map_take → acJ, sum_cons → acK, take_add_one → acR, flatMap_cons → acS, getElem_map → acX, take_append_drop → acZ, mem_of_mem_take → adC
open Nat renaming zero_add → ZL, le_refl → ZU, min_eq_left → aaD, lt_or_ge → aaN, add_sub_cancel_left → aaX, mod_eq_of_lt → abE, mul_le_mul_left → abQ, lt_of_lt_of_le → abS, add_assoc → abY, mul_add → acM, mod_lt → acQ, sub_self → adD, pow_le_pow_right → adG
open Option renaming isNone_some → ZG, isNone_none → ZH, map_some → aaJ
open Option.some renaming injEq → aaA
open UInt8 renaming toNat_ofNat' → acB
namespace Go.Proofs.YteelnmpbnaohpaaDoor
open Go Go.En Go.Pu
set_option maxRecDepth 4000
abbrev u32 (x : Nat) : adI := .int .u32 (x : Int)
theorem Ed {l : List Nat} {i : Nat} (h : i < l.length) : (l.map u32)[i]? = some (u32 (l.getD i 0)) := by
 rw [aaS, ZO h, ZS, ZO h] <;> rfl
theorem Ks (l : List Nat) : ∀ y ∈ l.map u32, one y = true := fun y hy => by
 obtain ⟨z, -, rfl⟩ := aaK.1 hy; rfl
theorem Wj (n : Nat) : (List.replicate n 0).map u32 = List.replicate n (.int .u32 0) := by rw [List.map_replicate] <;> rfl
theorem TC {s : List Nat} {b : List UInt8} {w : adH} (hg : qL w) (hs : s.length = 8) (h32 : Cs s) (hb : b.length = 64) :
 gS pg uM #[.agg (s.map u32).toArray, .agg (b.map oZ).toArray] w (fun r w' => r = .agg ((JC s b).map u32).toArray /\ gT w w' jI) := by
 refine I9 ?_
 obtain ⟨hg0, hg1⟩ := hg.lt
 unfold IK wW xN
 refine oA fun w1 o1 x1 s1 => ?_
 refine oA fun w2 o2 x2 s2 => ?_
 refine KR fun w3 o3 x3 s3 => ?_
 refine Nm fun w4 o4 x4 s4 => ?_
 generalize hn : w.heap.size = n at *
 rw [s1] at o2
 rw [show w2.heap.size = n + 2 from by omega] at o3 ⊢
 rw [show w3.heap.size = n + 3 from by omega] at o4 ⊢
 rw [s1]
 have o1 : jF w4 n (s.map u32) := ((jF.ext (cs := s.map u32) o1 x2 (fun h => h)).ext x3 (fun h => h)).ext x4 (fun h => h)
 have o2 : jF w4 (n + 1) (b.map oZ) := (jF.ext (cs := b.map oZ) o2 x3 (fun h => h)).ext x4 (fun h => h)
 have o3 : jF w4 (n + 2) (List.replicate 8 (.int .u32 0)) := jF.ext (cs := List.replicate 8 (.int .u32 0)) o3 x4 (fun h => h)
 have o4 : jF w4 (n + 3) ((Sp b 0).map u32) := by
  rw [Sp, Wj]; exact o4
 have x04 : gT w w4 jI := ((x1.seq x2).seq x3).seq x4
 have z4 : w4.heap.size = n + 4 := by omega
 have lb := IA (off := 0) o2 (by rw [ZM]; omega)
 rw [abF, ZQ (by rw [ZM]; omega)] at lb
 unfold wM wR xO wK wZ
 simp (disch := omega) only [eY, gM, dX, stepR_skip, fO, gD, fN, gC, gI, fW, gR, fX, eU, fU, fS, gH, fP, fL, fT, fR, fV, gE, gG, fQ, fC, fY, gB, fK, iO, iJ, iH, iL, iI, iM, iK, iG, iN, eP, Result.ok.injEq, Next.value.injEq, true_and, and_true, fJ, fI, fZ, fM, gA, gQ, ZI, fE, fH, fG, fD, eZ, eT, fB, eX, eQ, eH, if_true, if_false, ZF, ZL, ZG, ZH, ZK, ZJ, ZE, ZD, eA, dW, aB, dI, dH, cG, eB, eS, eC, dO, eD, fA, dL, eN, bQ, dG, bG, dN, aK, aG, eJ, aY, cA, eK, aD, eM, dM, aS, bJ, eE, bH, bF, bC, aP, aM, cB, fF, dY, bZ, cH, dB, cD, dT, bE, eI, bY, dF, bP, aZ, bX, aC, bV, bR, cI, bW, bA, aT, aU, bT, dS, cR, bO, aV, aJ, aL, bD, aH, dC, dV, aI, aN, aX, aF, cX, aE, cL, bU, bB, aO, cM, cJ, aA, dR, cP, cQ, cF, dK, cC, dJ, dU, cV, eF, eL, bN, aR, dZ, bS, aQ, bL, dE, dA, cU, cO, cS, bM, bK, cY, dD, cN, dQ, cZ, lb]
 refine kF.rule (fun m (t : adI) w' => ∃ i : Nat, m = 64 - i /\ t = .int .i64 (i : Nat) /\ i <= 64 /\ jF w' (n + 3) ((Sp b i).map u32) /\ gT w4 w' (fun y => y = n + 3)) 64 ⟨0, rfl, rfl, by omega, o4, gT.refl _ _⟩ ?_
 rintro m t w5 ⟨i, rfl, rfl, hi, o5, x5⟩
 unfold rE
 have hl5 := Tc b i
 by_cases hlt : i < 64
 .have d1 : decide ((i : Int) < 64) = true := by simp; omega
  have hq : (i : Int).tdiv 4 = ((i / 4 : Nat) : Int) := by rw [Int.tdiv_eq_ediv_of_nonneg (by omega)]; omega
  have gb : (b.map oZ).toArray[i]? = some (.int .u8 ((b.getD i 0).toNat : Nat)) := by
   rw [abB, aaS, ZO (by omega), ZS, ZO (by omega)] <;> rfl
  have c5 := o5.cell (off := i / 4)
  rw [Ed (by omega)] at c5
  have hx := (RW b i).getD (i / 4)
  have e1 := QV ((Sp b i).getD (i / 4) 0) 8
  have m1 : min (8 : Int).toNat IntKind.u32.bits = 8 := rfl
  have e2 := SX (Eg ((Sp b i).getD (i / 4) 0 * 2 ^ 8)) (I3 (b.getD i 0))
  have hby := (b.getD i 0).toNat_lt
  simp (disch := omega) only [eY, gM, dX, stepR_skip, fO, gD, fN, gC, gI, fW, gR, fX, eU, fU, fS, gH, fP, fL, fT, fR, fV, gE, gG, fQ, fC, fY, gB, fK, iO, iJ, iH, iL, iI, iM, iK, iG, iN, eP, Result.ok.injEq, Next.value.injEq, true_and, and_true, fJ, fI, fZ, fM, gA, gQ, ZI, fE, fH, fG, fD, eZ, eT, fB, eX, eQ, eH, if_true, if_false, ZF, ZL, ZG, ZH, ZK, ZJ, ZE, ZD, eA, dW, aB, dI, dH, cG, eB, eS, eC, dO, eD, fA, dL, eN, bQ, dG, bG, dN, aK, aG, eJ, aY, cA, eK, aD, eM, dM, aS, bJ, eE, bH, bF, bC, aP, aM, cB, fF, dY, bZ, cH, dB, cD, dT, bE, eI, bY, dF, bP, aZ, bX, aC, bV, bR, cI, bW, bA, aT, aU, bT, dS, cR, bO, aV, aJ, aL, bD, aH, dC, dV, aI, aN, aX, aF, cX, aE, cL, bU, bB, aO, cM, cJ, aA, dR, cP, cQ, cF, dK, cC, dJ, dU, cV, eF, eL, bN, aR, dZ, bS, aQ, bL, dE, dA, cU, cO, cS, bM, bK, cY, dD, cN, dQ, cZ, d1, hq, gb, c5, m1, e1, e2]
  refine yJ o5 rfl (by rw [ZM]; omega) fun w6 o6 x6 s6 => ?_
  refine ⟨64 - (i + 1), by omega, i + 1, rfl, rfl, by omega, ?_, x5.seq x6⟩
  rw [Sp, List.map_set]
  exact o6
 have d1 : decide ((i : Int) < 64) = false := by simp; omega
 obtain rfl : i = 64 := by omega
 simp (disch := omega) only [eY, gM, dX, stepR_skip, fO, gD, fN, gC, gI, fW, gR, fX, eU, fU, fS, gH, fP, fL, fT, fR, fV, gE, gG, fQ, fC, fY, gB, fK, iO, iJ, iH, iL, iI, iM, iK, iG, iN, eP, Result.ok.injEq, Next.value.injEq, true_and, and_true, fJ, fI, fZ, fM, gA, gQ, ZI, fE, fH, fG, fD, eZ, eT, fB, eX, eQ, eH, if_true, if_false, ZF, ZL, ZG, ZH, ZK, ZJ, ZE, ZD, eA, dW, aB, dI, dH, cG, eB, eS, eC, dO, eD, fA, dL, eN, bQ, dG, bG, dN, aK, aG, eJ, aY, cA, eK, aD, eM, dM, aS, bJ, eE, bH, bF, bC, aP, aM, cB, fF, dY, bZ, cH, dB, cD, dT, bE, eI, bY, dF, bP, aZ, bX, aC, bV, bR, cI, bW, bA, aT, aU, bT, dS, cR, bO, aV, aJ, aL, bD, aH, dC, dV, aI, aN, aX, aF, cX, aE, cL, bU, bB, aO, cM, cJ, aA, dR, cP, cQ, cF, dK, cC, dJ, dU, cV, eF, eL, bN, aR, dZ, bS, aQ, bL, dE, dA, cU, cO, cS, bM, bK, cY, dD, cN, dQ, cZ, d1]
 clear lb
 unfold xE xL wP wS xJ
 simp (disch := omega) only [eY, gM, dX, stepR_skip, fO, gD, fN, gC, gI, fW, gR, fX, eU, fU, fS, gH, fP, fL, fT, fR, fV, gE, gG, fQ, fC, fY, gB, fK, iO, iJ, iH, iL, iI, iM, iK, iG, iN, eP, Result.ok.injEq, Next.value.injEq, true_and, and_true, fJ, fI, fZ, fM, gA, gQ, ZI, fE, fH, fG, fD, eZ, eT, fB, eX, eQ, eH, if_true, if_false, ZF, ZL, ZG, ZH, ZK, ZJ, ZE, ZD, eA, dW, aB, dI, dH, cG, eB, eS, eC, dO, eD, fA, dL, eN, bQ, dG, bG, dN, aK, aG, eJ, aY, cA, eK, aD, eM, dM, aS, bJ, eE, bH, bF, bC, aP, aM, cB, fF, dY, bZ, cH, dB, cD, dT, bE, eI, bY, dF, bP, aZ, bX, aC, bV, bR, cI, bW, bA, aT, aU, bT, dS, cR, bO, aV, aJ, aL, bD, aH, dC, dV, aI, aN, aX, aF, cX, aE, cL, bU, bB, aO, cM, cJ, aA, dR, cP, cQ, cF, dK, cC, dJ, dU, cV, eF, eL, bN, aR, dZ, bS, aQ, bL, dE, dA, cU, cO, cS, bM, bK, cY, dD, cN, dQ, cZ]
 obtain ⟨W0, hW0⟩ : ∃ W0, W0 = Sp b 64 := ⟨_, rfl⟩
 have hW0l : Cs W0 := hW0 ▸ RW b 64
 rw [<- hW0] at o5 hl5
 refine kF.rule (fun m (t : adI) w' => ∃ j : Nat, m = 48 - j /\ t = .int .i64 ((16 + j : Nat) : Int) /\ j <= 48 /\ jF w' (n + 3) ((TW W0 j).map u32) /\ gT w4 w' (fun y => y = n + 3)) 48 ⟨0, rfl, rfl, by omega, o5, x5⟩ ?_
 clear o5 x5
 rintro m t w5 ⟨j, rfl, rfl, hj, o5, x5⟩
 unfold rC
 have hl6 : (TW W0 j).length = 64 := by rw [Tj]; exact hl5
 by_cases hlt : j < 48
 .have d1 : decide (((16 + j : Nat) : Int) < 64) = true := by simp; omega
  have q1 : ((16 + j : Nat) : Int) - 16 = ((j : Nat) : Int) := by omega
  have q2 : ((16 + j : Nat) : Int) - 15 = ((j + 1 : Nat) : Int) := by omega
  have q3 : ((16 + j : Nat) : Int) - 7 = ((j + 9 : Nat) : Int) := by omega
  have q4 : ((16 + j : Nat) : Int) - 2 = ((j + 14 : Nat) : Int) := by omega
  have q5 : ((16 + j : Nat) : Int) + 1 = ((16 + (j + 1) : Nat) : Int) := by omega
  have od := kL o5
  have c1 := o5.cell (off := j)
  have c2 := o5.cell (off := j + 1)
  have c3 := o5.cell (off := j + 9)
  have c4 := o5.cell (off := j + 14)
  have d1' := od.cell (off := j)
  have d2' := od.cell (off := j + 1)
  have d3' := od.cell (off := j + 9)
  have d4' := od.cell (off := j + 14)
  rw [Ed (by omega)] at c1 c2 c3 c4 d1' d2' d3' d4'
  have hl := VZ hW0l j
  have h1 := hl.getD j
  have h2 := hl.getD (j + 1)
  have h4 := hl.getD (j + 14)
  have f1 := Nv
  simp (disch := omega) only [eY, gM, dX, stepR_skip, fO, gD, fN, gC, gI, fW, gR, fX, eU, fU, fS, gH, fP, fL, fT, fR, fV, gE, gG, fQ, fC, fY, gB, fK, iO, iJ, iH, iL, iI, iM, iK, iG, iN, eP, Result.ok.injEq, Next.value.injEq, true_and, and_true, fJ, fI, fZ, fM, gA, gQ, ZI, fE, fH, fG, fD, eZ, eT, fB, eX, eQ, eH, if_true, if_false, ZF, ZL, ZG, ZH, ZK, ZJ, ZE, ZD, eA, dW, aB, dI, dH, cG, eB, eS, eC, dO, eD, fA, dL, eN, bQ, dG, bG, dN, aK, aG, eJ, aY, cA, eK, aD, eM, dM, aS, bJ, eE, bH, bF, bC, aP, aM, cB, fF, dY, bZ, cH, dB, cD, dT, bE, eI, bY, dF, bP, aZ, bX, aC, bV, bR, cI, bW, bA, aT, aU, bT, dS, cR, bO, aV, aJ, aL, bD, aH, dC, dV, aI, aN, aX, aF, cX, aE, cL, bU, bB, aO, cM, cJ, aA, dR, cP, cQ, cF, dK, cC, dJ, dU, cV, eF, eL, bN, aR, dZ, bS, aQ, bL, dE, dA, cU, cO, cS, bM, bK, cY, dD, cN, dQ, cZ, d1, q1, q2, q3, q4, d1', d2', d3', d4', c1, c2, c3, c4]
  refine (Pt h2 ⟨by decide, by decide⟩ ⟨by decide, by decide⟩ (by decide) _).mono ?_
  rintro r w6 ⟨rfl, x6⟩
  have o6 := od.ext x6 (fun h => h)
  have p1 := o6.cell (off := j)
  have p3 := o6.cell (off := j + 9)
  have p4 := o6.cell (off := j + 14)
  rw [Ed (by omega)] at p1 p3 p4
  simp (disch := omega) only [eY, gM, dX, stepR_skip, fO, gD, fN, gC, gI, fW, gR, fX, eU, fU, fS, gH, fP, fL, fT, fR, fV, gE, gG, fQ, fC, fY, gB, fK, iO, iJ, iH, iL, iI, iM, iK, iG, iN, eP, Result.ok.injEq, Next.value.injEq, true_and, and_true, fJ, fI, fZ, fM, gA, gQ, ZI, fE, fH, fG, fD, eZ, eT, fB, eX, eQ, eH, if_true, if_false, ZF, ZL, ZG, ZH, ZK, ZJ, ZE, ZD, eA, dW, aB, dI, dH, cG, eB, eS, eC, dO, eD, fA, dL, eN, bQ, dG, bG, dN, aK, aG, eJ, aY, cA, eK, aD, eM, dM, aS, bJ, eE, bH, bF, bC, aP, aM, cB, fF, dY, bZ, cH, dB, cD, dT, bE, eI, bY, dF, bP, aZ, bX, aC, bV, bR, cI, bW, bA, aT, aU, bT, dS, cR, bO, aV, aJ, aL, bD, aH, dC, dV, aI, aN, aX, aF, cX, aE, cL, bU, bB, aO, cM, cJ, aA, dR, cP, cQ, cF, dK, cC, dJ, dU, cV, eF, eL, bN, aR, dZ, bS, aQ, bL, dE, dA, cU, cO, cS, bM, bK, cY, dD, cN, dQ, cZ, d1, q1, q2, q3, q4, d1', d2', d3', d4', c1, c2, c3, c4, p1, p3, p4, f1]
  refine (Pt h4 ⟨by decide, by decide⟩ ⟨by decide, by decide⟩ (by decide) _).mono ?_
  rintro r w7 ⟨rfl, x7⟩
  have o7 := o6.ext x7 (fun h => h)
  have r1 := o7.cell (off := j)
  have r3 := o7.cell (off := j + 9)
  have r4 := o7.cell (off := j + 14)
  rw [Ed (by omega)] at r1 r3 r4
  simp (disch := omega) only [eY, gM, dX, stepR_skip, fO, gD, fN, gC, gI, fW, gR, fX, eU, fU, fS, gH, fP, fL, fT, fR, fV, gE, gG, fQ, fC, fY, gB, fK, iO, iJ, iH, iL, iI, iM, iK, iG, iN, eP, Result.ok.injEq, Next.value.injEq, true_and, and_true, fJ, fI, fZ, fM, gA, gQ, ZI, fE, fH, fG, fD, eZ, eT, fB, eX, eQ, eH, if_true, if_false, ZF, ZL, ZG, ZH, ZK, ZJ, ZE, ZD, eA, dW, aB, dI, dH, cG, eB, eS, eC, dO, eD, fA, dL, eN, bQ, dG, bG, dN, aK, aG, eJ, aY, cA, eK, aD, eM, dM, aS, bJ, eE, bH, bF, bC, aP, aM, cB, fF, dY, bZ, cH, dB, cD, dT, bE, eI, bY, dF, bP, aZ, bX, aC, bV, bR, cI, bW, bA, aT, aU, bT, dS, cR, bO, aV, aJ, aL, bD, aH, dC, dV, aI, aN, aX, aF, cX, aE, cL, bU, bB, aO, cM, cJ, aA, dR, cP, cQ, cF, dK, cC, dJ, dU, cV, eF, eL, bN, aR, dZ, bS, aQ, bL, dE, dA, cU, cO, cS, bM, bK, cY, dD, cN, dQ, cZ, q1, q2, q3, q4, q5, r1, r3, r4, f1]
  refine yJ o7 rfl (by rw [ZM]; omega) fun w8 o8 x8 s8 => ?_
  refine ⟨48 - (j + 1), by omega, j + 1, rfl, rfl, by omega, ?_, x5.seq ((((gT.dr _ jI).seq x6).seq x7).mono (fun _ _ h => h.elim) |>.seq x8)⟩
  rw [TW, List.map_set]
  exact o8
 have d1 : decide (((16 + j : Nat) : Int) < 64) = false := by simp; omega
 obtain rfl : j = 48 := by omega
 simp (disch := omega) only [eY, gM, dX, stepR_skip, fO, gD, fN, gC, gI, fW, gR, fX, eU, fU, fS, gH, fP, fL, fT, fR, fV, gE, gG, fQ, fC, fY, gB, fK, iO, iJ, iH, iL, iI, iM, iK, iG, iN, eP, Result.ok.injEq, Next.value.injEq, true_and, and_true, fJ, fI, fZ, fM, gA, gQ, ZI, fE, fH, fG, fD, eZ, eT, fB, eX, eQ, eH, if_true, if_false, ZF, ZL, ZG, ZH, ZK, ZJ, ZE, ZD, eA, dW, aB, dI, dH, cG, eB, eS, eC, dO, eD, fA, dL, eN, bQ, dG, bG, dN, aK, aG, eJ, aY, cA, eK, aD, eM, dM, aS, bJ, eE, bH, bF, bC, aP, aM, cB, fF, dY, bZ, cH, dB, cD, dT, bE, eI, bY, dF, bP, aZ, bX, aC, bV, bR, cI, bW, bA, aT, aU, bT, dS, cR, bO, aV, aJ, aL, bD, aH, dC, dV, aI, aN, aX, aF, cX, aE, cL, bU, bB, aO, cM, cJ, aA, dR, cP, cQ, cF, dK, cC, dJ, dU, cV, eF, eL, bN, aR, dZ, bS, aQ, bL, dE, dA, cU, cO, cS, bM, bK, cY, dD, cN, dQ, cZ, d1]
 obtain ⟨W, hW⟩ : ∃ W, W = TW W0 48 := ⟨_, rfl⟩
 have hwith : JC s b = Bn (wE W s 64) s 8 := by rw [hW, hW0] <;> rfl
 rw [<- hW] at o5 hl6
 have x05 : gT w w5 jI := x04.trans x5 fun y hy h => by omega
 have a1 := o1.ext x5 (by omega)
 have a3 := o3.ext x5 (by omega)
 have z5 := x5.size
 clear d1 hlt hj hW hW0 hW0l hl5 x5 o1 o2 o3 o4 x04
 unfold xH xW
 have ls := Ez (off := 0) a1 (by rw [ZM]; omega)
 rw [abF, ZQ (by rw [ZM]; omega)] at ls
 simp (disch := omega) only [eY, gM, dX, stepR_skip, fO, gD, fN, gC, gI, fW, gR, fX, eU, fU, fS, gH, fP, fL, fT, fR, fV, gE, gG, fQ, fC, fY, gB, fK, iO, iJ, iH, iL, iI, iM, iK, iG, iN, eP, Result.ok.injEq, Next.value.injEq, true_and, and_true, fJ, fI, fZ, fM, gA, gQ, ZI, fE, fH, fG, fD, eZ, eT, fB, eX, eQ, eH, if_true, if_false, ZF, ZL, ZG, ZH, ZK, ZJ, ZE, ZD, eA, dW, aB, dI, dH, cG, eB, eS, eC, dO, eD, fA, dL, eN, bQ, dG, bG, dN, aK, aG, eJ, aY, cA, eK, aD, eM, dM, aS, bJ, eE, bH, bF, bC, aP, aM, cB, fF, dY, bZ, cH, dB, cD, dT, bE, eI, bY, dF, bP, aZ, bX, aC, bV, bR, cI, bW, bA, aT, aU, bT, dS, cR, bO, aV, aJ, aL, bD, aH, dC, dV, aI, aN, aX, aF, cX, aE, cL, bU, bB, aO, cM, cJ, aA, dR, cP, cQ, cF, dK, cC, dJ, dU, cV, eF, eL, bN, aR, dZ, bS, aQ, bL, dE, dA, cU, cO, cS, bM, bK, cY, dD, cN, dQ, cZ, ls]
 refine KR fun w6 o6 x6 s6 => ?_
 have a1 := a1.ext x6 (fun h => h)
 have a3 := a3.ext x6 (fun h => h)
 have aW := o5.ext x6 (fun h => h)
 obtain ⟨v, hv⟩ : ∃ v, v = w5.heap.size := ⟨_, rfl⟩
 rw [<- hv] at o6 ⊢
 refine ER o6 (by simp [hs]) (fun y hy => Ks s y (by simpa using hy)) (by simp) fun w7 o7 x7 s7 => ?_
 have hset : mZ [(.int .u32 0), (.int .u32 0), (.int .u32 0), (.int .u32 0), (.int .u32 0), (.int .u32 0), (.int .u32 0), (.int .u32 0)] 0 (s.map u32).toArray.toList = s.map u32 := by
  rw [aaG]
  have := oE (s.map u32) [] [(.int .u32 0), (.int .u32 0), (.int .u32 0), (.int .u32 0), (.int .u32 0), (.int .u32 0), (.int .u32 0), (.int .u32 0)] (by rw [ZM, hs]; decide)
  rw [Z2, Z2, abN, ZM, hs] at this
  rw [this]; simp
 rw [hset] at o7
 have x07 : gT w w7 jI := (x05.seq x6).trans x7 fun y hy h => by omega
 have a1 := a1.ext x7 (by omega)
 have a3 := a3.ext x7 (by omega)
 have aW := aW.ext x7 (by omega)
 have hg7 := hg.ext x07
 have z7 : w7.heap.size = v + 1 := by omega
 have hvn : n + 4 <= v := by omega
 clear o5 o6 x6 x7 s6 s7 x05 hset ls
 unfold xR xF wT xG Ab
 simp (disch := omega) only [eY, gM, dX, stepR_skip, fO, gD, fN, gC, gI, fW, gR, fX, eU, fU, fS, gH, fP, fL, fT, fR, fV, gE, gG, fQ, fC, fY, gB, fK, iO, iJ, iH, iL, iI, iM, iK, iG, iN, eP, Result.ok.injEq, Next.value.injEq, true_and, and_true, fJ, fI, fZ, fM, gA, gQ, ZI, fE, fH, fG, fD, eZ, eT, fB, eX, eQ, eH, if_true, if_false, ZF, ZL, ZG, ZH, ZK, ZJ, ZE, ZD, eA, dW, aB, dI, dH, cG, eB, eS, eC, dO, eD, fA, dL, eN, bQ, dG, bG, dN, aK, aG, eJ, aY, cA, eK, aD, eM, dM, aS, bJ, eE, bH, bF, bC, aP, aM, cB, fF, dY, bZ, cH, dB, cD, dT, bE, eI, bY, dF, bP, aZ, bX, aC, bV, bR, cI, bW, bA, aT, aU, bT, dS, cR, bO, aV, aJ, aL, bD, aH, dC, dV, aI, aN, aX, aF, cX, aE, cL, bU, bB, aO, cM, cJ, aA, dR, cP, cQ, cF, dK, cC, dJ, dU, cV, eF, eL, bN, aR, dZ, bS, aQ, bL, dE, dA, cU, cO, cS, bM, bK, cY, dD, cN, dQ, cZ]
 refine kF.rule (fun m (t : adI) w' => ∃ i : Nat, m = 64 - i /\ t = .int .i64 (i : Nat) /\ i <= 64 /\ jF w' v ((wE W s i).map u32) /\ gT w7 w' (fun y => y = v)) 64 ⟨0, rfl, rfl, by omega, o7, gT.refl _ _⟩ ?_
 clear o7
 rintro m t w8 ⟨i, rfl, rfl, hi, o8, x8⟩
 unfold sU
 have hl8 : (wE W s i).length = 8 := Mh hs i
 have hlt8 := JU (W := W) h32 i
 by_cases hlt : i < 64
 .have d1 : decide ((i : Int) < 64) = true := by simp; omega
  have hnext : wE W s (i + 1) = RM (wE W s i) (kN.getD i 0) (W.getD i 0) := rfl
  generalize wE W s i = V at *
  have cW : ∀ {w' : adH}, gT w7 w' (fun y => y = v) -> w'.cell? ⟨n + 3, i, none⟩ = some (u32 (W.getD i 0)) := fun {w'} x => by
   rw [(aW.ext x (by omega)).cell, Ed (by omega)]
  have cK : ∀ {w' : adH}, gT w7 w' (fun y => y = v) -> w'.cell? ⟨0, i, none⟩ = some (u32 (kN.getD i 0)) := fun {w'} x => FO (hg7.sh i hlt) x (by omega)
  obtain ⟨v0, v1, v2, v3, v4, v5, v6, v7, rfl⟩ : ∃ v0 v1 v2 v3 v4 v5 v6 v7, V = [v0, v1, v2, v3, v4, v5, v6, v7] := by
   match V, hl8 with
   | [a, b, c, d, e, f, g, h], _ => exact ⟨a, b, c, d, e, f, g, h, rfl⟩
  have b0 : v0 < tE := hlt8 _ (by simp)
  have b1 : v1 < tE := hlt8 _ (by simp)
  have b2 : v2 < tE := hlt8 _ (by simp)
  have b4 : v4 < tE := hlt8 _ (by simp)
  have b5 : v5 < tE := hlt8 _ (by simp)
  have b6 : v6 < tE := hlt8 _ (by simp)
  have q1 := kL o8
  have q2 := kL q1
  have q3 := kL q2
  have y2 : gT w7 (dr (dr w8)) (fun y => y = v) := (x8.seq (gT.dr _ _)).seq (gT.dr _ _)
  have kk := cK y2
  have ww := cW y2
  obtain ⟨K, hK⟩ : ∃ K, K = kN.getD i 0 := ⟨_, rfl⟩
  obtain ⟨Wi, hWi⟩ : ∃ Wi, Wi = W.getD i 0 := ⟨_, rfl⟩
  rw [<- hK] at kk hnext
  rw [<- hWi] at ww hnext
  obtain ⟨one, hone⟩ : ∃ one, one = XP [v0, v1, v2, v3, v4, v5, v6, v7] K Wi := ⟨_, rfl⟩
  obtain ⟨two, htwo⟩ : ∃ two, two = YC [v0, v1, v2, v3, v4, v5, v6, v7] := ⟨_, rfl⟩
  have hnext : wE W s (i + 1) = [(one + two) % tE, v0, v1, v2, (v3 + one) % tE, v4, v5, v6] := by rw [hnext, hone, htwo] <;> rfl
  have hone : one = ((((v7 + Px v4 6 11 25) % tE + ((v4 &&& v5) ^^^ ((4294967295 ^^^ v4) &&& v6))) % tE + K) % tE + Wi) % tE := hone
  have htwo : two = (Px v0 2 13 22 + ((v0 &&& v1) ^^^ (v0 &&& v2) ^^^ (v1 &&& v2))) % tE := htwo
  have c10 := q1.cell (off := 0)
  have c14 := q1.cell (off := 4)
  have c27 := q2.cell (off := 7)
  have c25 := q2.cell (off := 5)
  have c26 := q2.cell (off := 6)
  have c31 := q3.cell (off := 1)
  have c32 := q3.cell (off := 2)
  simp only [ZT, List.map_nil, ZD, ZE] at c10 c14 c27 c25 c26 c31 c32
  have t0 : (0 : Int).toNat = 0 := rfl
  have t1 : (1 : Int).toNat = 1 := rfl
  have t2 : (2 : Int).toNat = 2 := rfl
  have t4 : (4 : Int).toNat = 4 := rfl
  have t5 : (5 : Int).toNat = 5 := rfl
  have t6 : (6 : Int).toNat = 6 := rfl
  have t7 : (7 : Int).toNat = 7 := rfl
  have g1 : IntKind.u32.signed = false := rfl
  have g2 : IntKind.u32.max = 4294967295 := rfl
  have e1 := Fw b4 b5
  have n4 : 4294967295 ^^^ v4 < tE := H0 (by decide) b4
  have e2 : Qh .u32 (4294967295 : Int) (v4 : Int) = ((4294967295 ^^^ v4 : Nat) : Int) := tU (a := 4294967295) (by decide) b4
  have e3 := Fw n4 b6
  have e4 := tU (JT v4 b5) (JT (4294967295 ^^^ v4) b6)
  have e5 := Fw b0 b1
  have e6 := Fw b0 b2
  have e7 := Fw b1 b2
  have e8 := tU (JT v0 b1) (JT v0 b2)
  have e9 := tU (H0 (JT v0 b1) (JT v0 b2)) (JT v1 b2)
  have f1 := Nv
  simp (disch := omega) only [eY, gM, dX, stepR_skip, fO, gD, fN, gC, gI, fW, gR, fX, eU, fU, fS, gH, fP, fL, fT, fR, fV, gE, gG, fQ, fC, fY, gB, fK, iO, iJ, iH, iL, iI, iM, iK, iG, iN, eP, Result.ok.injEq, Next.value.injEq, true_and, and_true, fJ, fI, fZ, fM, gA, gQ, ZI, fE, fH, fG, fD, eZ, eT, fB, eX, eQ, eH, if_true, if_false, ZF, ZL, ZG, ZH, ZK, ZJ, ZE, ZD, eA, dW, aB, dI, dH, cG, eB, eS, eC, dO, eD, fA, dL, eN, bQ, dG, bG, dN, aK, aG, eJ, aY, cA, eK, aD, eM, dM, aS, bJ, eE, bH, bF, bC, aP, aM, cB, fF, dY, bZ, cH, dB, cD, dT, bE, eI, bY, dF, bP, aZ, bX, aC, bV, bR, cI, bW, bA, aT, aU, bT, dS, cR, bO, aV, aJ, aL, bD, aH, dC, dV, aI, aN, aX, aF, cX, aE, cL, bU, bB, aO, cM, cJ, aA, dR, cP, cQ, cF, dK, cC, dJ, dU, cV, eF, eL, bN, aR, dZ, bS, aQ, bL, dE, dA, cU, cO, cS, bM, bK, cY, dD, cN, dQ, cZ, d1, c10, c14, c27, c25, c26, c31, c32, t0, t1, t2, t4, t5, t6, t7]
  refine (Rd b4 ⟨by decide, by decide⟩ ⟨by decide, by decide⟩ ⟨by decide, by decide⟩ _).mono ?_
  rintro r w9 ⟨rfl, hw⟩
  rw [hw]; clear hw w9
  simp (disch := omega) only [eY, gM, dX, stepR_skip, fO, gD, fN, gC, gI, fW, gR, fX, eU, fU, fS, gH, fP, fL, fT, fR, fV, gE, gG, fQ, fC, fY, gB, fK, iO, iJ, iH, iL, iI, iM, iK, iG, iN, eP, Result.ok.injEq, Next.value.injEq, true_and, and_true, fJ, fI, fZ, fM, gA, gQ, ZI, fE, fH, fG, fD, eZ, eT, fB, eX, eQ, eH, if_true, if_false, ZF, ZL, ZG, ZH, ZK, ZJ, ZE, ZD, eA, dW, aB, dI, dH, cG, eB, eS, eC, dO, eD, fA, dL, eN, bQ, dG, bG, dN, aK, aG, eJ, aY, cA, eK, aD, eM, dM, aS, bJ, eE, bH, bF, bC, aP, aM, cB, fF, dY, bZ, cH, dB, cD, dT, bE, eI, bY, dF, bP, aZ, bX, aC, bV, bR, cI, bW, bA, aT, aU, bT, dS, cR, bO, aV, aJ, aL, bD, aH, dC, dV, aI, aN, aX, aF, cX, aE, cL, bU, bB, aO, cM, cJ, aA, dR, cP, cQ, cF, dK, cC, dJ, dU, cV, eF, eL, bN, aR, dZ, bS, aQ, bL, dE, dA, cU, cO, cS, bM, bK, cY, dD, cN, dQ, cZ, c10, c14, c27, c25, c26, c31, c32, t0, t1, t2, t4, t5, t6, t7, g1, g2, e1, e2, e3, e4, f1, kk, ww]
  rw [<- hone]
  refine (Rd b0 ⟨by decide, by decide⟩ ⟨by decide, by decide⟩ ⟨by decide, by decide⟩ _).mono ?_
  rintro r w9 ⟨rfl, hw⟩
  rw [hw]; clear hw w9
  have sh1 : BS ⟨v, 0, none⟩ 8 1 1 = ⟨v, 0 + 1, none⟩ := JR (by omega)
  have sh0 : BS ⟨v, 0, none⟩ 8 0 1 = ⟨v, 0 + 0, none⟩ := JR (by omega)
  simp (disch := omega) only [eY, gM, dX, stepR_skip, fO, gD, fN, gC, gI, fW, gR, fX, eU, fU, fS, gH, fP, fL, fT, fR, fV, gE, gG, fQ, fC, fY, gB, fK, iO, iJ, iH, iL, iI, iM, iK, iG, iN, eP, Result.ok.injEq, Next.value.injEq, true_and, and_true, fJ, fI, fZ, fM, gA, gQ, ZI, fE, fH, fG, fD, eZ, eT, fB, eX, eQ, eH, if_true, if_false, ZF, ZL, ZG, ZH, ZK, ZJ, ZE, ZD, eA, dW, aB, dI, dH, cG, eB, eS, eC, dO, eD, fA, dL, eN, bQ, dG, bG, dN, aK, aG, eJ, aY, cA, eK, aD, eM, dM, aS, bJ, eE, bH, bF, bC, aP, aM, cB, fF, dY, bZ, cH, dB, cD, dT, bE, eI, bY, dF, bP, aZ, bX, aC, bV, bR, cI, bW, bA, aT, aU, bT, dS, cR, bO, aV, aJ, aL, bD, aH, dC, dV, aI, aN, aX, aF, cX, aE, cL, bU, bB, aO, cM, cJ, aA, dR, cP, cQ, cF, dK, cC, dJ, dU, cV, eF, eL, bN, aR, dZ, bS, aQ, bL, dE, dA, cU, cO, cS, bM, bK, cY, dD, cN, dQ, cZ, c31, c32, t0, t1, t2, t7, e5, e6, e7, e8, e9, f1, sh1, sh0]
  rw [<- htwo]
  have q4 := kL q3
  have src : Sl (dr (dr (dr (dr w8)))) (.slice (some ⟨v, 0, none⟩) (7 - 0) (8 - 0)) ([v0, v1, v2, v3, v4, v5, v6].map u32) := by
   refine ⟨_, _, _, rfl, rfl, by omega, fun _ => ⟨_, _, rfl, fun k hk => ?_⟩⟩
   rw [ZL, q4.cell]
   have hk : k < 7 := hk
   match k, hk with
   | 0, _ => rfl
   | 1, _ => rfl
   | 2, _ => rfl
   | 3, _ => rfl
   | 4, _ => rfl
   | 5, _ => rfl
   | 6, _ => rfl
  refine Qp (off := 1) q4 (by simp) src (Ks _) fun w9 o9 x9 s9 => ?_
  have o9 : jF w9 v ([v0, v0, v1, v2, v3, v4, v5, v6].map u32) := o9
  have c4 := o9.cell (off := 4)
  simp only [ZT, List.map_nil, ZD, ZE] at c4
  simp (disch := omega) only [eY, gM, dX, stepR_skip, fO, gD, fN, gC, gI, fW, gR, fX, eU, fU, fS, gH, fP, fL, fT, fR, fV, gE, gG, fQ, fC, fY, gB, fK, iO, iJ, iH, iL, iI, iM, iK, iG, iN, eP, Result.ok.injEq, Next.value.injEq, true_and, and_true, fJ, fI, fZ, fM, gA, gQ, ZI, fE, fH, fG, fD, eZ, eT, fB, eX, eQ, eH, if_true, if_false, ZF, ZL, ZG, ZH, ZK, ZJ, ZE, ZD, eA, dW, aB, dI, dH, cG, eB, eS, eC, dO, eD, fA, dL, eN, bQ, dG, bG, dN, aK, aG, eJ, aY, cA, eK, aD, eM, dM, aS, bJ, eE, bH, bF, bC, aP, aM, cB, fF, dY, bZ, cH, dB, cD, dT, bE, eI, bY, dF, bP, aZ, bX, aC, bV, bR, cI, bW, bA, aT, aU, bT, dS, cR, bO, aV, aJ, aL, bD, aH, dC, dV, aI, aN, aX, aF, cX, aE, cL, bU, bB, aO, cM, cJ, aA, dR, cP, cQ, cF, dK, cC, dJ, dU, cV, eF, eL, bN, aR, dZ, bS, aQ, bL, dE, dA, cU, cO, cS, bM, bK, cY, dD, cN, dQ, cZ, c4, f1]
  refine yJ o9 rfl (by simp) fun w10 o10 x10 s10 => ?_
  refine yJ o10 rfl (by simp) fun w11 o11 x11 s11 => ?_
  refine ⟨64 - (i + 1), by omega, i + 1, rfl, rfl, by omega, ?_, ((((((x8.seq (gT.dr _ _)).seq (gT.dr _ _)).seq (gT.dr _ _)).seq (gT.dr _ _)).seq x9).seq x10).seq x11⟩
  rw [hnext]
  exact o11
 have d1 : decide ((i : Int) < 64) = false := by simp; omega
 obtain rfl : i = 64 := by omega
 simp (disch := omega) only [eY, gM, dX, stepR_skip, fO, gD, fN, gC, gI, fW, gR, fX, eU, fU, fS, gH, fP, fL, fT, fR, fV, gE, gG, fQ, fC, fY, gB, fK, iO, iJ, iH, iL, iI, iM, iK, iG, iN, eP, Result.ok.injEq, Next.value.injEq, true_and, and_true, fJ, fI, fZ, fM, gA, gQ, ZI, fE, fH, fG, fD, eZ, eT, fB, eX, eQ, eH, if_true, if_false, ZF, ZL, ZG, ZH, ZK, ZJ, ZE, ZD, eA, dW, aB, dI, dH, cG, eB, eS, eC, dO, eD, fA, dL, eN, bQ, dG, bG, dN, aK, aG, eJ, aY, cA, eK, aD, eM, dM, aS, bJ, eE, bH, bF, bC, aP, aM, cB, fF, dY, bZ, cH, dB, cD, dT, bE, eI, bY, dF, bP, aZ, bX, aC, bV, bR, cI, bW, bA, aT, aU, bT, dS, cR, bO, aV, aJ, aL, bD, aH, dC, dV, aI, aN, aX, aF, cX, aE, cL, bU, bB, aO, cM, cJ, aA, dR, cP, cQ, cF, dK, cC, dJ, dU, cV, eF, eL, bN, aR, dZ, bS, aQ, bL, dE, dA, cU, cO, cS, bM, bK, cY, dD, cN, dQ, cZ, d1]
 obtain ⟨V, hV⟩ : ∃ V, V = wE W s 64 := ⟨_, rfl⟩
 rw [<- hV] at o8 hl8 hlt8 hwith
 unfold yO zX zV zU zJ
 simp (disch := omega) only [eY, gM, dX, stepR_skip, fO, gD, fN, gC, gI, fW, gR, fX, eU, fU, fS, gH, fP, fL, fT, fR, fV, gE, gG, fQ, fC, fY, gB, fK, iO, iJ, iH, iL, iI, iM, iK, iG, iN, eP, Result.ok.injEq, Next.value.injEq, true_and, and_true, fJ, fI, fZ, fM, gA, gQ, ZI, fE, fH, fG, fD, eZ, eT, fB, eX, eQ, eH, if_true, if_false, ZF, ZL, ZG, ZH, ZK, ZJ, ZE, ZD, eA, dW, aB, dI, dH, cG, eB, eS, eC, dO, eD, fA, dL, eN, bQ, dG, bG, dN, aK, aG, eJ, aY, cA, eK, aD, eM, dM, aS, bJ, eE, bH, bF, bC, aP, aM, cB, fF, dY, bZ, cH, dB, cD, dT, bE, eI, bY, dF, bP, aZ, bX, aC, bV, bR, cI, bW, bA, aT, aU, bT, dS, cR, bO, aV, aJ, aL, bD, aH, dC, dV, aI, aN, aX, aF, cX, aE, cL, bU, bB, aO, cM, cJ, aA, dR, cP, cQ, cF, dK, cC, dJ, dU, cV, eF, eL, bN, aR, dZ, bS, aQ, bL, dE, dA, cU, cO, cS, bM, bK, cY, dD, cN, dQ, cZ]
 refine kF.rule (fun m (t : adI) w' => ∃ i : Nat, m = 8 - i /\ t = .int .i64 (i : Nat) /\ i <= 8 /\ jF w' v ((Bn V s i).map u32) /\ gT w7 w' (fun y => y = v)) 8 ⟨0, rfl, rfl, by omega, by rw [Sy]; exact o8, x8⟩ ?_
 clear o8 x8
 rintro m t w8 ⟨i, rfl, rfl, hi, o8, x8⟩
 unfold sR
 have hl9 : (Bn V s i).length = 8 := by rw [L1, hl8]
 by_cases hlt : i < 8
 .have d1 : decide ((i : Int) < 8) = true := by simp; omega
  have e1 : jF w8 n (s.map u32) := a1.ext x8 (by omega)
  have q1 := kL o8
  have q2 := kL e1
  have c1 := o8.cell (off := i)
  have c2 := e1.cell (off := i)
  have c1' := q1.cell (off := i)
  have c2' := q2.cell (off := i)
  rw [Ed (by omega), T3 (by omega)] at c1 c1'
  rw [Ed (by omega)] at c2 c2'
  have f1 := Nv
  simp (disch := omega) only [eY, gM, dX, stepR_skip, fO, gD, fN, gC, gI, fW, gR, fX, eU, fU, fS, gH, fP, fL, fT, fR, fV, gE, gG, fQ, fC, fY, gB, fK, iO, iJ, iH, iL, iI, iM, iK, iG, iN, eP, Result.ok.injEq, Next.value.injEq, true_and, and_true, fJ, fI, fZ, fM, gA, gQ, ZI, fE, fH, fG, fD, eZ, eT, fB, eX, eQ, eH, if_true, if_false, ZF, ZL, ZG, ZH, ZK, ZJ, ZE, ZD, eA, dW, aB, dI, dH, cG, eB, eS, eC, dO, eD, fA, dL, eN, bQ, dG, bG, dN, aK, aG, eJ, aY, cA, eK, aD, eM, dM, aS, bJ, eE, bH, bF, bC, aP, aM, cB, fF, dY, bZ, cH, dB, cD, dT, bE, eI, bY, dF, bP, aZ, bX, aC, bV, bR, cI, bW, bA, aT, aU, bT, dS, cR, bO, aV, aJ, aL, bD, aH, dC, dV, aI, aN, aX, aF, cX, aE, cL, bU, bB, aO, cM, cJ, aA, dR, cP, cQ, cF, dK, cC, dJ, dU, cV, eF, eL, bN, aR, dZ, bS, aQ, bL, dE, dA, cU, cO, cS, bM, bK, cY, dD, cN, dQ, cZ, d1, c1, c2, c1', c2', f1]
  refine yJ (by first | exact q1 | exact o8) rfl (by rw [ZM]; omega) fun w9 o9 x9 s9 => ?_
  refine ⟨8 - (i + 1), by omega, i + 1, rfl, rfl, by omega, ?_, by first | exact (x8.seq (gT.dr _ _)).seq x9 | exact x8.seq x9⟩
  rw [<- Ut (by omega), List.map_set]
  exact o9
 have d1 : decide ((i : Int) < 8) = false := by simp; omega
 obtain rfl : i = 8 := by omega
 simp (disch := omega) only [eY, gM, dX, stepR_skip, fO, gD, fN, gC, gI, fW, gR, fX, eU, fU, fS, gH, fP, fL, fT, fR, fV, gE, gG, fQ, fC, fY, gB, fK, iO, iJ, iH, iL, iI, iM, iK, iG, iN, eP, Result.ok.injEq, Next.value.injEq, true_and, and_true, fJ, fI, fZ, fM, gA, gQ, ZI, fE, fH, fG, fD, eZ, eT, fB, eX, eQ, eH, if_true, if_false, ZF, ZL, ZG, ZH, ZK, ZJ, ZE, ZD, eA, dW, aB, dI, dH, cG, eB, eS, eC, dO, eD, fA, dL, eN, bQ, dG, bG, dN, aK, aG, eJ, aY, cA, eK, aD, eM, dM, aS, bJ, eE, bH, bF, bC, aP, aM, cB, fF, dY, bZ, cH, dB, cD, dT, bE, eI, bY, dF, bP, aZ, bX, aC, bV, bR, cI, bW, bA, aT, aU, bT, dS, cR, bO, aV, aJ, aL, bD, aH, dC, dV, aI, aN, aX, aF, cX, aE, cL, bU, bB, aO, cM, cJ, aA, dR, cP, cQ, cF, dK, cC, dJ, dU, cV, eF, eL, bN, aR, dZ, bS, aQ, bL, dE, dA, cU, cO, cS, bM, bK, cY, dD, cN, dQ, cZ, d1]
 unfold sW
 rw [<- hwith] at o8 hl9
 have lv := Ez (off := 0) o8 (by rw [ZM]; omega)
 rw [abF, ZQ (by rw [ZM]; omega)] at lv
 have a3 := a3.ext x8 (by omega)
 simp (disch := omega) only [eY, gM, dX, stepR_skip, fO, gD, fN, gC, gI, fW, gR, fX, eU, fU, fS, gH, fP, fL, fT, fR, fV, gE, gG, fQ, fC, fY, gB, fK, iO, iJ, iH, iL, iI, iM, iK, iG, iN, eP, Result.ok.injEq, Next.value.injEq, true_and, and_true, fJ, fI, fZ, fM, gA, gQ, ZI, fE, fH, fG, fD, eZ, eT, fB, eX, eQ, eH, if_true, if_false, ZF, ZL, ZG, ZH, ZK, ZJ, ZE, ZD, eA, dW, aB, dI, dH, cG, eB, eS, eC, dO, eD, fA, dL, eN, bQ, dG, bG, dN, aK, aG, eJ, aY, cA, eK, aD, eM, dM, aS, bJ, eE, bH, bF, bC, aP, aM, cB, fF, dY, bZ, cH, dB, cD, dT, bE, eI, bY, dF, bP, aZ, bX, aC, bV, bR, cI, bW, bA, aT, aU, bT, dS, cR, bO, aV, aJ, aL, bD, aH, dC, dV, aI, aN, aX, aF, cX, aE, cL, bU, bB, aO, cM, cJ, aA, dR, cP, cQ, cF, dK, cC, dJ, dU, cV, eF, eL, bN, aR, dZ, bS, aQ, bL, dE, dA, cU, cO, cS, bM, bK, cY, dD, cN, dQ, cZ, lv]
 refine ER a3 (by simp [hl9]) (fun y hy => Ks _ y (by simpa using hy)) (by simp) fun w9 o9 x9 s9 => ?_
 have hset : mZ (List.replicate 8 (Value.int .u32 0)) 0 ((JC s b).map u32).toArray.toList = (JC s b).map u32 := by
  rw [aaG]
  have := oE ((JC s b).map u32) [] (List.replicate 8 (Value.int .u32 0)) (by rw [ZM, hl9]; decide)
  rw [Z2, Z2, abN, ZM, hl9] at this
  rw [this]; simp
 rw [hset] at o9
 refine OR o9 (by rw [ZM]; omega) ?_
 rw [abF, ZQ (by rw [ZM]; omega)]
 exact ⟨rfl, (x07.trans x8 fun y hy h => by omega).trans x9 fun y hy h => by omega⟩
def JW (vs : List Nat) (kept : List UInt8) (n all : Nat) : List adI := vs.map u32 ++ (kept.map oZ ++ [.int .i64 (n : Int), .int .u64 (all : Int)])
theorem zI {vs : List Nat} {kept : List UInt8} {n all : Nat} (h1 : vs.length = 8) (h2 : kept.length = 64) : (JW vs kept n all).length = 74 := by simp [JW, h1, h2]
theorem YS {vs : List Nat} {kept : List UInt8} {n all : Nat} (i : Nat) (h : i < vs.length) : (JW vs kept n all)[i]? = some (u32 (vs.getD i 0)) := by
 unfold JW; rw [aaB (by simpa using h), Ed h]
theorem Tk {vs : List Nat} {kept : List UInt8} {n all : Nat} (h1 : vs.length = 8) (h2 : kept.length = 64) : (JW vs kept n all)[72]? = some (.int .i64 (n : Int)) := by
 unfold JW
 rw [aaM (by simp [h1]), ZM, h1, aaM (by simp [h2]), ZM, h2] <;> rfl
theorem Tb {vs : List Nat} {kept : List UInt8} {n all : Nat} (h1 : vs.length = 8) (h2 : kept.length = 64) : (JW vs kept n all)[73]? = some (.int .u64 (all : Int)) := by
 unfold JW
 rw [aaM (by simp [h1]), ZM, h1, aaM (by simp [h2]), ZM, h2] <;> rfl
theorem PH {vs : List Nat} {kept : List UInt8} {n all : Nat} (h1 : vs.length = 8) (h2 : kept.length = 64) (m : Nat) : (JW vs kept n all).set 72 (.int .i64 (m : Int)) = JW vs kept m all := by
 unfold JW
 rw [abC _ _ (by simp [h1]), ZM, h1, abC _ _ (by simp [h2]), ZM, h2] <;> rfl
theorem QH {vs : List Nat} {kept : List UInt8} {n all : Nat} (h1 : vs.length = 8) (h2 : kept.length = 64) (m : Nat) : (JW vs kept n all).set 73 (.int .u64 (m : Int)) = JW vs kept n m := by
 unfold JW
 rw [abC _ _ (by simp [h1]), ZM, h1, abC _ _ (by simp [h2]), ZM, h2] <;> rfl
theorem YQ {vs : List Nat} {kept : List UInt8} {n all : Nat} (h1 : vs.length = 8) : ((JW vs kept n all).drop 0).take 8 = vs.map u32 := by
 unfold JW
 rw [abF, Z9 (by rw [ZM]; omega), ZQ (by rw [ZM]; omega)]
theorem V0 {vs : List Nat} {kept : List UInt8} {n all : Nat} (h1 : vs.length = 8) (h2 : kept.length = 64) : ((JW vs kept n all).drop 8).take 64 = kept.map oZ := by
 unfold JW
 rw [aaC (by rw [ZM]; omega), abI (by rw [ZM]; omega), Z2, Z9 (by rw [ZM]; omega), ZQ (by rw [ZM]; omega)]
theorem TK {vs us : List Nat} {kept : List UInt8} {n all : Nat} (h1 : vs.length = 8) (h3 : us.length = 8) : mZ (JW vs kept n all) 0 (us.map u32) = JW us kept n all := by
 unfold JW
 have := oE (us.map u32) [] (vs.map u32 ++ (kept.map oZ ++ [.int .i64 (n : Int), .int .u64 (all : Int)])) (by rw [ZN, ZM, ZM]; omega)
 rw [Z2, Z2, abN, ZM] at this
 rw [this, aaC (by rw [ZM]; omega), abI (by rw [ZM]; omega), Z2]
def Yj (l : List UInt8) (o : Nat) (x : List UInt8) : List UInt8 := l.take o ++ x ++ l.drop (o + x.length)
theorem WA {l : List UInt8} {o : Nat} {x : List UInt8} (h : o + x.length <= l.length) : (Yj l o x).length = l.length := by
 simp [Yj]; omega
theorem WQ {vs : List Nat} {kept : List UInt8} {n all o : Nat} {x : List UInt8} (h1 : vs.length = 8) (h : o + x.length <= kept.length) : mZ (JW vs kept n all) (8 + o) (x.map oZ) = JW vs (Yj kept o x) n all := by
 have e : JW vs kept n all = (vs.map u32 ++ (kept.take o).map oZ) ++ ((kept.drop o).map oZ ++ [.int .i64 (n : Int), .int .u64 (all : Int)]) := by
  unfold JW
  rw [Z4, <- Z4 (List.map oZ (kept.take o)), <- aaP, acZ]
 have := oE (x.map oZ) (vs.map u32 ++ (kept.take o).map oZ) ((kept.drop o).map oZ ++ [.int .i64 (n : Int), .int .u64 (all : Int)]) (by rw [ZN, ZM, ZM, ZW]; omega)
 rw [ZN, ZM, ZM, ZY, aaD (by omega), h1] at this
 rw [e, this]
 unfold JW Yj
 rw [ZM, aaC (by rw [ZM, ZW]; omega), <- abW, acF, aaP, aaP]
 simp only [Z4]
def yU (w : adH) (b : Nat) (L : List UInt8) (all : Nat) : Prop :=
 ∃ kept, kept.length = 64 /\ kept.take (L.length % 64) = L.drop (64 * (L.length / 64)) /\ jF w b (JW (II (L.length / 64) L) kept (L.length % 64) all)
theorem yU.ext {w w' : adH} {b all : Nat} {L : List UInt8} {M : Nat -> Prop} (h : yU w b L all) (x : gT w w' M) (hM : ¬ M b) : yU w' b L all := by
 obtain ⟨kept, h1, h2, h3⟩ := h
 exact ⟨kept, h1, h2, h3.ext x hM⟩
theorem yU.lt {w : adH} {b all : Nat} {L : List UInt8} (h : yU w b L all) : b < w.heap.size := by
 obtain ⟨kept, h1, h2, h3⟩ := h
 exact h3.lt
theorem Vp (w : adH) : gS pg I5 #[] w (fun v w' => v = .pointer (some ⟨w.heap.size, 0, none⟩) /\ yU w' w.heap.size [] 0 /\ gT w w' jI /\ w'.heap.size = w.heap.size + 1) := by
 refine Qn ?_
 unfold SY J4
 simp (disch := omega) only [eY, gM, dX, stepR_skip, fO, gD, fN, gC, gI, fW, gR, fX, eU, fU, fS, gH, fP, fL, fT, fR, fV, gE, gG, fQ, fC, fY, gB, fK, iO, iJ, iH, iL, iI, iM, iK, iG, iN, eP, Result.ok.injEq, Next.value.injEq, true_and, and_true, fJ, fI, fZ, fM, gA, gQ, ZI, fE, fH, fG, fD, eZ, eT, fB, eX, eQ, eH, if_true, if_false, ZF, ZL, ZG, ZH, ZK, ZJ, ZE, ZD, eA, dW, aB, dI, dH, cG, eB, eS, eC, dO, eD, fA, dL, eN, bQ, dG, bG, dN, aK, aG, eJ, aY, cA, eK, aD, eM, dM, aS, bJ, eE, bH, bF, bC, aP, aM, cB, fF, dY, bZ, cH, dB, cD, dT, bE, eI, bY, dF, bP, aZ, bX, aC, bV, bR, cI, bW, bA, aT, aU, bT, dS, cR, bO, aV, aJ, aL, bD, aH, dC, dV, aI, aN, aX, aF, cX, aE, cL, bU, bB, aO, cM, cJ, aA, dR, cP, cQ, cF, dK, cC, dJ, dU, cV, eF, eL, bN, aR, dZ, bS, aQ, bL, dE, dA, cU, cO, cS, bM, bK, cY, dD, cN, dQ, cZ]
 refine oA fun w1 o1 x1 s1 => ⟨rfl, ⟨List.replicate 64 0, rfl, rfl, ?_⟩, x1, s1⟩
 exact o1
theorem OD {w0 : adH} {b all : Nat} {L l : List UInt8} {R : adH -> Prop} (hg : qL w0) (hb0 : 0 ≠ b /\ 1 ≠ b) (hlen : L.length + l.length <= 1099511627776)
 (hR : ∀ w', yU w' b (L ++ l) all -> gT w0 w' (fun x => x = b) -> R w') {v : adI} {w : adH}
 (h : yU w b L all) (hv : Bs w v l) (hb : ¬ vM v (fun x => x = b)) (hx : gT w0 w (fun x => x = b)) :
 tA R (.pointer (some ⟨b, 0, none⟩)) v w := by
 unfold tA
 refine kF.rule (fun n t w' => ∃ m : Nat, m <= l.length /\ n = l.length - m /\ Bs w' t (l.drop m) /\ ¬ vM t (fun x => x = b) /\ yU w' b (L ++ l.take m) all /\ gT w0 w' (fun x => x = b)) l.length
  ⟨0, by omega, rfl, hv, hb, by simpa using h, hx⟩ ?_
 clear h hv hb hx
 rintro n t w' ⟨m, hm, rfl, hv, hb, ⟨kept, h2, hk, ho⟩, hx⟩
 have hv' := hv
 obtain ⟨a, n, c, rfl, hn, hc, hcell⟩ := hv'
 rw [ZM, ZW] at hn
 unfold sY
 by_cases hlt : m < l.length
 .obtain ⟨b', o', rfl, hcell'⟩ := hcell (by omega)
  have hd : decide ((0 : Int) < (n : Int)) = true := by simp; omega
  have hM : (L ++ l.take m).length = L.length + m := by simp; omega
  rw [hM] at hk ho
  obtain ⟨q, hq⟩ : ∃ q, q = (L.length + m) / 64 := ⟨_, rfl⟩
  obtain ⟨r, hr⟩ : ∃ r, r = (L.length + m) % 64 := ⟨_, rfl⟩
  rw [<- hq, <- hr] at hk ho
  have hqr : L.length + m = 64 * q + r /\ r < 64 := by omega
  have h1 : (II q (L ++ l.take m)).length = 8 := Bj _ _
  have hod := kL ho
  have c72 := hod.cell (off := 72)
  rw [Tk h1 h2] at c72
  have sh := JR (b := b) (o := 8) (show r ≠ 64 by omega)
  have hvd : Bs (dr w') (.slice (some ⟨b', o', none⟩) n c) (l.drop m) := hv.ext (gT.dr w' jI) (by unfold vM jI; split <;> simp)
  simp (disch := omega) only [eY, gM, dX, stepR_skip, fO, gD, fN, gC, gI, fW, gR, fX, eU, fU, fS, gH, fP, fL, fT, fR, fV, gE, gG, fQ, fC, fY, gB, fK, iO, iJ, iH, iL, iI, iM, iK, iG, iN, eP, Result.ok.injEq, Next.value.injEq, true_and, and_true, fJ, fI, fZ, fM, gA, gQ, ZI, fE, fH, fG, fD, eZ, eT, fB, eX, eQ, eH, if_true, if_false, ZF, ZL, ZG, ZH, ZK, ZJ, ZE, ZD, eA, dW, aB, dI, dH, cG, eB, eS, eC, dO, eD, fA, dL, eN, bQ, dG, bG, dN, aK, aG, eJ, aY, cA, eK, aD, eM, dM, aS, bJ, eE, bH, bF, bC, aP, aM, cB, fF, dY, bZ, cH, dB, cD, dT, bE, eI, bY, dF, bP, aZ, bX, aC, bV, bR, cI, bW, bA, aT, aU, bT, dS, cR, bO, aV, aJ, aL, bD, aH, dC, dV, aI, aN, aX, aF, cX, aE, cL, bU, bB, aO, cM, cJ, aA, dR, cP, cQ, cF, dK, cC, dJ, dU, cV, eF, eL, bN, aR, dZ, bS, aQ, bL, dE, dA, cU, cO, cS, bM, bK, cY, dD, cN, dQ, cZ, hd, c72, sh]
  refine Em hod (by rw [zI h1 h2]; omega) hvd (EU _) fun w1 o1 x1 s1 => ?_
  obtain ⟨u, hu⟩ : ∃ u, u = min n (64 - r) := ⟨_, rfl⟩
  have hlm : (List.map oZ (l.drop m)).length = n := by rw [ZM, ZW, hn]
  rw [hlm] at o1 ⊢
  rw [<- hu] at o1 ⊢
  have hu1 : u <= n /\ u <= 64 - r /\ (u = n ∨ u = 64 - r) := by omega
  have hul : ((l.drop m).take u).length = u := by rw [ZY, ZW]; omega
  rw [<- acJ, WQ h1 (by omega)] at o1
  obtain ⟨kept1, hk1⟩ : ∃ x, x = Yj kept r ((l.drop m).take u) := ⟨_, rfl⟩
  rw [<- hk1] at o1
  have h21 : kept1.length = 64 := by rw [hk1, WA (by omega)]; exact h2
  have c1 := o1.cell (off := 72)
  rw [Tk h1 h21] at c1
  have e1 : (r : Int) + (u : Int) = ((r + u : Nat) : Int) := by omega
  simp (disch := omega) only [eY, gM, dX, stepR_skip, fO, gD, fN, gC, gI, fW, gR, fX, eU, fU, fS, gH, fP, fL, fT, fR, fV, gE, gG, fQ, fC, fY, gB, fK, iO, iJ, iH, iL, iI, iM, iK, iG, iN, eP, Result.ok.injEq, Next.value.injEq, true_and, and_true, fJ, fI, fZ, fM, gA, gQ, ZI, fE, fH, fG, fD, eZ, eT, fB, eX, eQ, eH, if_true, if_false, ZF, ZL, ZG, ZH, ZK, ZJ, ZE, ZD, eA, dW, aB, dI, dH, cG, eB, eS, eC, dO, eD, fA, dL, eN, bQ, dG, bG, dN, aK, aG, eJ, aY, cA, eK, aD, eM, dM, aS, bJ, eE, bH, bF, bC, aP, aM, cB, fF, dY, bZ, cH, dB, cD, dT, bE, eI, bY, dF, bP, aZ, bX, aC, bV, bR, cI, bW, bA, aT, aU, bT, dS, cR, bO, aV, aJ, aL, bD, aH, dC, dV, aI, aN, aX, aF, cX, aE, cL, bU, bB, aO, cM, cJ, aA, dR, cP, cQ, cF, dK, cC, dJ, dU, cV, eF, eL, bN, aR, dZ, bS, aQ, bL, dE, dA, cU, cO, cS, bM, bK, cY, dD, cN, dQ, cZ, c1, e1]
  refine J3 o1 rfl (by rw [zI h1 h21]; omega) fun w2 o2 x2 s2 => ?_
  rw [PH h1 h21] at o2
  have hx2 : gT w' w2 (fun x => x = b) := ((gT.dr w' _).seq x1).seq x2
  have hv2 := hv.ext hx2 hb
  have hv3 := hv2.drop hu1.1
  have hb3 := TY (k := u) hb (by omega) (n - u)
  rw [<- abW, acF] at hv3
  have hM2 : L ++ l.take (m + u) = (L ++ l.take m) ++ (l.drop m).take u := by rw [Z4, List.take_add]
  have hacc : II q (L ++ l.take (m + u)) = II q (L ++ l.take m) := by rw [hM2]; exact Mj _ _ _ (by omega)
  have hlen2 : (L ++ l.take (m + u)).length = L.length + (m + u) := by simp; omega
  have hkeep : kept1.take (r + u) = (L ++ l.take (m + u)).drop (64 * q) := by
   rw [hk1, hM2, aaC (by omega), <- hk]
   unfold Yj
   rw [Z9 (by simp; omega), ZQ (by simp; omega)]
  rw [<- hacc] at o2
  have h11 := Bj q (L ++ l.take (m + u))
  have c2 := o2.cell (off := 72)
  rw [Tk h11 h21] at c2
  by_cases hfull : r + u = 64
  .have he : (((r + u : Nat) : Int) == 64) = true := by rw [hfull] <;> rfl
   have od := kL o2
   have ls := Ez (off := 0) od (by rw [zI h11 h21]; omega)
   have lk := IA (off := 8) od (by rw [zI h11 h21]; omega)
   rw [YQ h11] at ls
   rw [V0 h11 h21] at lk
   simp (disch := omega) only [eY, gM, dX, stepR_skip, fO, gD, fN, gC, gI, fW, gR, fX, eU, fU, fS, gH, fP, fL, fT, fR, fV, gE, gG, fQ, fC, fY, gB, fK, iO, iJ, iH, iL, iI, iM, iK, iG, iN, eP, Result.ok.injEq, Next.value.injEq, true_and, and_true, fJ, fI, fZ, fM, gA, gQ, ZI, fE, fH, fG, fD, eZ, eT, fB, eX, eQ, eH, if_true, if_false, ZF, ZL, ZG, ZH, ZK, ZJ, ZE, ZD, eA, dW, aB, dI, dH, cG, eB, eS, eC, dO, eD, fA, dL, eN, bQ, dG, bG, dN, aK, aG, eJ, aY, cA, eK, aD, eM, dM, aS, bJ, eE, bH, bF, bC, aP, aM, cB, fF, dY, bZ, cH, dB, cD, dT, bE, eI, bY, dF, bP, aZ, bX, aC, bV, bR, cI, bW, bA, aT, aU, bT, dS, cR, bO, aV, aJ, aL, bD, aH, dC, dV, aI, aN, aX, aF, cX, aE, cL, bU, bB, aO, cM, cJ, aA, dR, cP, cQ, cF, dK, cC, dJ, dU, cV, eF, eL, bN, aR, dZ, bS, aQ, bL, dE, dA, cU, cO, cS, bM, bK, cY, dD, cN, dQ, cZ, c2, he, ls, lk]
   rw [hfull] at hkeep
   refine (TC (hg.extM ((hx.seq hx2).seq (gT.dr _ _)) hb0.1 hb0.2) h11 (PM _ _) h21).mono ?_
   rintro r' w3 ⟨rfl, x3⟩
   have o3 := od.ext x3 (fun h => h)
   have h13 := PG kept1 h11
   refine ER o3 (by simp [h13]) (fun y hy => Ks _ y (by simpa using hy)) (by rw [zI h11 h21]; omega) fun w4 o4 x4 s4 => ?_
   rw [aaG, TK h11 h13] at o4
   refine J3 o4 rfl (by rw [zI h13 h21]; omega) fun w5 o5 x5 s5 => ?_
   have o5 : jF w5 b ((JW (JC (II q (L ++ l.take (m + u))) kept1) kept1 (r + u) all).set 72 (.int .i64 ((0 : Nat) : Int))) := o5
   rw [PH h13 h21] at o5
   have hx4 : gT w2 w5 (fun x => x = b) := (((gT.dr w2 _).seq (x3.mono fun _ _ h => h.elim)).seq x4).seq x5
   have hkk : kept1 = (L ++ l.take (m + u)).drop (64 * q) := by rw [<- hkeep, ZQ (by omega)]
   refine ⟨l.length - (m + u), by omega, m + u, by omega, rfl, hv3.ext hx4 hb3, hb3, ⟨kept1, h21, ?_, ?_⟩, (hx.seq hx2).seq hx4⟩
   .have z : (L ++ l.take (m + u)).drop (64 * ((L.length + (m + u)) / 64)) = [] := List.drop_eq_nil_of_le (by rw [hlen2]; omega)
    have z1 : (L.length + (m + u)) % 64 = 0 := by omega
    rw [hlen2, z, z1] <;> rfl
   .have z1 : (L.length + (m + u)) % 64 = 0 := by omega
    have z2 : (L.length + (m + u)) / 64 = q + 1 := by omega
    have z3 : kept1.take 64 = kept1 := ZQ (by omega)
    rw [hlen2, z1, z2, II, <- hkk, z3]
    exact o5
  .have he : (((r + u : Nat) : Int) == 64) = false := by rw [beq_eq_false_iff_ne]; omega
   simp (disch := omega) only [eY, gM, dX, stepR_skip, fO, gD, fN, gC, gI, fW, gR, fX, eU, fU, fS, gH, fP, fL, fT, fR, fV, gE, gG, fQ, fC, fY, gB, fK, iO, iJ, iH, iL, iI, iM, iK, iG, iN, eP, Result.ok.injEq, Next.value.injEq, true_and, and_true, fJ, fI, fZ, fM, gA, gQ, ZI, fE, fH, fG, fD, eZ, eT, fB, eX, eQ, eH, if_true, if_false, ZF, ZL, ZG, ZH, ZK, ZJ, ZE, ZD, eA, dW, aB, dI, dH, cG, eB, eS, eC, dO, eD, fA, dL, eN, bQ, dG, bG, dN, aK, aG, eJ, aY, cA, eK, aD, eM, dM, aS, bJ, eE, bH, bF, bC, aP, aM, cB, fF, dY, bZ, cH, dB, cD, dT, bE, eI, bY, dF, bP, aZ, bX, aC, bV, bR, cI, bW, bA, aT, aU, bT, dS, cR, bO, aV, aJ, aL, bD, aH, dC, dV, aI, aN, aX, aF, cX, aE, cL, bU, bB, aO, cM, cJ, aA, dR, cP, cQ, cF, dK, cC, dJ, dU, cV, eF, eL, bN, aR, dZ, bS, aQ, bL, dE, dA, cU, cO, cS, bM, bK, cY, dD, cN, dQ, cZ, c2, he]
   refine ⟨l.length - (m + u), by omega, m + u, by omega, rfl, hv3, hb3, ⟨kept1, h21, ?_, ?_⟩, hx.seq hx2⟩
   .rw [hlen2, show (L.length + (m + u)) % 64 = r + u from by omega, show (L.length + (m + u)) / 64 = q from by omega]; exact hkeep
   .rw [hlen2, show (L.length + (m + u)) % 64 = r + u from by omega, show (L.length + (m + u)) / 64 = q from by omega]; exact o2
 .have hd : decide ((0 : Int) < (n : Int)) = false := by simp; omega
  have e : l.take m = l := ZQ (by omega)
  rw [e] at hk ho
  simp (disch := omega) only [eY, gM, dX, stepR_skip, fO, gD, fN, gC, gI, fW, gR, fX, eU, fU, fS, gH, fP, fL, fT, fR, fV, gE, gG, fQ, fC, fY, gB, fK, iO, iJ, iH, iL, iI, iM, iK, iG, iN, eP, Result.ok.injEq, Next.value.injEq, true_and, and_true, fJ, fI, fZ, fM, gA, gQ, ZI, fE, fH, fG, fD, eZ, eT, fB, eX, eQ, eH, if_true, if_false, ZF, ZL, ZG, ZH, ZK, ZJ, ZE, ZD, eA, dW, aB, dI, dH, cG, eB, eS, eC, dO, eD, fA, dL, eN, bQ, dG, bG, dN, aK, aG, eJ, aY, cA, eK, aD, eM, dM, aS, bJ, eE, bH, bF, bC, aP, aM, cB, fF, dY, bZ, cH, dB, cD, dT, bE, eI, bY, dF, bP, aZ, bX, aC, bV, bR, cI, bW, bA, aT, aU, bT, dS, cR, bO, aV, aJ, aL, bD, aH, dC, dV, aI, aN, aX, aF, cX, aE, cL, bU, bB, aO, cM, cJ, aA, dR, cP, cQ, cF, dK, cC, dJ, dU, cV, eF, eL, bN, aR, dZ, bS, aQ, bL, dE, dA, cU, cO, cS, bM, bK, cY, dD, cN, dQ, cZ, hd]
  exact hR _ ⟨kept, h2, hk, ho⟩ hx
theorem Ot {b all : Nat} {L l : List UInt8} {v : adI} {w : adH} (hg : qL w) (hb0 : 0 ≠ b /\ 1 ≠ b) (hlen : L.length + l.length <= 1099511627776) (hall : all + l.length <= 1099511627776) (h : yU w b L all) (hv : Bs w v l) (hb : ¬ vM v (fun x => x = b)) :
 gS pg lU #[.pointer (some ⟨b, 0, none⟩), v] w (fun r w' => r = .tuple #[] /\ yU w' b (L ++ l) (all + l.length) /\ gT w w' (fun x => x = b)) := by
 refine Jg ?_
 unfold IV yZ zC
 obtain ⟨kept, h2, hk, ho⟩ := h
 have h1 := Bj (L.length / 64) L
 obtain ⟨va, vc, rfl, _⟩ := hv.len
 rw [ZM] at hv hb ⊢
 have c73 := ho.cell (off := 73)
 rw [Tb h1 h2] at c73
 have e1 : (all : Int) + (l.length : Int) = ((all + l.length : Nat) : Int) := by omega
 simp (disch := omega) only [eY, gM, dX, stepR_skip, fO, gD, fN, gC, gI, fW, gR, fX, eU, fU, fS, gH, fP, fL, fT, fR, fV, gE, gG, fQ, fC, fY, gB, fK, iO, iJ, iH, iL, iI, iM, iK, iG, iN, eP, Result.ok.injEq, Next.value.injEq, true_and, and_true, fJ, fI, fZ, fM, gA, gQ, ZI, fE, fH, fG, fD, eZ, eT, fB, eX, eQ, eH, if_true, if_false, ZF, ZL, ZG, ZH, ZK, ZJ, ZE, ZD, eA, dW, aB, dI, dH, cG, eB, eS, eC, dO, eD, fA, dL, eN, bQ, dG, bG, dN, aK, aG, eJ, aY, cA, eK, aD, eM, dM, aS, bJ, eE, bH, bF, bC, aP, aM, cB, fF, dY, bZ, cH, dB, cD, dT, bE, eI, bY, dF, bP, aZ, bX, aC, bV, bR, cI, bW, bA, aT, aU, bT, dS, cR, bO, aV, aJ, aL, bD, aH, dC, dV, aI, aN, aX, aF, cX, aE, cL, bU, bB, aO, cM, cJ, aA, dR, cP, cQ, cF, dK, cC, dJ, dU, cV, eF, eL, bN, aR, dZ, bS, aQ, bL, dE, dA, cU, cO, cS, bM, bK, cY, dD, cN, dQ, cZ, c73, e1]
 refine I4 ho rfl (by rw [zI h1 h2]; omega) fun w1 o1 x1 s1 => ?_
 rw [QH h1 h2] at o1
 unfold Ad
 exact OD hg hb0 hlen (fun w' h' x' => ⟨h', x'⟩) ⟨kept, h2, hk, o1⟩ (hv.ext x1 hb) hb x1
end Go.Proofs.YteelnmpbnaohpaaDoor
namespace Go.En
open Go
theorem Im.ext {w w' : adH} {S M : Nat -> Prop} {sz n : Nat} {v : adI} {l : List adI} (h : Im w S sz v n l) (hx : gT w w' M) (hM : ∀ b, S b -> ¬ M b) : Im w' S sz v n l := by
 refine ⟨h.1, ?_⟩
 rcases h.2 with h2 | ⟨b, c, rest, h1, h2, h3, h4, h5⟩
 .exact .inl h2
 .exact .inr ⟨b, c, rest, h1, h2, h3.ext hx (hM b h2), h4, h5⟩
theorem yK.ne {w : adH} {base p sz n : Nat} {v : adI} {l : List adI} (h : yK w base sz v n l) (hp : w.heap.size <= p) : Im w (fun b => base <= b /\ b ≠ p) sz v n l := by
 refine ⟨h.1, ?_⟩
 rcases h.2 with h2 | ⟨b, c, rest, h1, h2, h3, h4, h5⟩
 .exact .inl h2
 .have := h3.lt
  exact .inr ⟨b, c, rest, h1, ⟨h2, by omega⟩, h3, h4, h5⟩
theorem Im.len {w : adH} {S : Nat -> Prop} {sz n : Nat} {v : adI} {l : List adI} (h : Im w S sz v n l) : ∃ a c, v = .slice a n c := by
 rcases h.2 with ⟨h1, rfl⟩ | ⟨b, c, rest, h1, _⟩
 .exact ⟨_, _, h1⟩
 .exact ⟨_, _, h1⟩
end Go.En
namespace Go.Proofs.YteelnmpbnaohpaaDoor
open Go Go.En Go.Pu
set_option maxRecDepth 4000
theorem X8 {w : adH} {b : Nat} {x : UInt8} (o : jF w b [.int .u8 (x.toNat : Nat)]) : Bs w (.slice (some ⟨b, 0, none⟩) 1 1) [x] := jF.bs (l := [x]) (off := 0) (c := 1) o (by simp) fun i hi => by
 have hi : i < 1 := hi
 obtain rfl : i = 0 := by omega
 rfl
theorem Ok {w : adH} {b all : Nat} {L : List UInt8} {x : Nat} (hx : x < 256) {K : adI -> adH -> Prop} (hg : qL w) (hb0 : 0 ≠ b /\ 1 ≠ b) (hlen : L.length + 1 <= 1099511627776) (hall : all + 1 <= 1099511627776) (h : yU w b L all)
 (hK : ∀ w', yU w' b (L ++ [UInt8.ofNat x]) (all + 1) -> gT w w' (fun y => y = b) -> K (.tuple #[]) w') :
 eY pg (iC 22 1 [(0, .int .u8 (x : Nat))]) w fun t w => gS pg lU #[.pointer (some ⟨b, 0, none⟩), t] w K := by
 refine Ee (cells := #[.int .u8 (x : Nat)]) (by decide) (by decide) (by kernel_rfl) fun w1 o1 x1 s1 => ?_
 have hbl := h.lt
 have hxx : (UInt8.ofNat x).toNat = x := by rw [acB]; omega
 have o1 : jF w1 w.heap.size [.int .u8 ((UInt8.ofNat x).toNat : Nat)] := by rw [hxx]; exact o1
 refine (Ot (hg.ext x1) hb0 (l := [UInt8.ofNat x]) hlen hall (h.ext x1 (fun h => h)) (X8 o1) (fun hi => ?_)).mono ?_
 .have hi : w.heap.size = b := hi
  omega
 rintro r w2 ⟨rfl, h2, x2⟩
 exact hK w2 h2 ((x1.mono fun _ _ h => h.elim).seq x2)
theorem Gu (xs cs : List adI) (h : cs.length = xs.length) : mZ cs 0 xs = xs := by
 have := oE xs [] cs (by omega)
 rw [Z2, abI (by omega), aaQ, Z2] at this
 exact this
theorem XK (n k : Nat) (hk : k <= (119 - n % 64) % 64) : ((n + 1 + k) % 64 = 56) ↔ k = (119 - n % 64) % 64 := by omega
theorem Vy {b : Nat} {L : List UInt8} {w : adH} (hg : qL w) (hlen : L.length <= 1000000000) (h : yU w b L L.length) :
 gS pg yW #[.pointer (some ⟨b, 0, none⟩)] w (fun r w' => r = .agg ((Q7 L).map oZ).toArray /\ gT w w' jI) := by
 refine Ls ?_
 obtain ⟨RR, hRR⟩ : ∃ RR : adI -> adH -> Prop, RR = fun r w' => r = .agg ((Q7 L).map oZ).toArray /\ gT w w' jI := ⟨_, rfl⟩
 rw [<- hRR]
 unfold KV AR AV
 obtain ⟨hg0, hg1⟩ := hg.lt
 have hbl := h.lt
 refine Gc fun w1 o1 x1 s1 => ?_
 obtain ⟨p, hp⟩ : ∃ p, p = w.heap.size := ⟨_, rfl⟩
 rw [<- hp] at o1 ⊢
 have o1 : jF w1 p (List.replicate 32 (.int .u8 0)) := o1
 obtain ⟨kept, h2, hk, ho⟩ := h.ext x1 (fun h => h)
 have h1 := Bj (L.length / 64) L
 have la := P8 (off := 0) ho (by rw [zI h1 h2]; omega)
 rw [abF, ZQ (by rw [zI h1 h2]; omega)] at la
 simp (disch := omega) only [eY, gM, dX, stepR_skip, fO, gD, fN, gC, gI, fW, gR, fX, eU, fU, fS, gH, fP, fL, fT, fR, fV, gE, gG, fQ, fC, fY, gB, fK, iO, iJ, iH, iL, iI, iM, iK, iG, iN, eP, Result.ok.injEq, Next.value.injEq, true_and, and_true, fJ, fI, fZ, fM, gA, gQ, ZI, fE, fH, fG, fD, eZ, eT, fB, eX, eQ, eH, if_true, if_false, ZF, ZL, ZG, ZH, ZK, ZJ, ZE, ZD, eA, dW, aB, dI, dH, cG, eB, eS, eC, dO, eD, fA, dL, eN, bQ, dG, bG, dN, aK, aG, eJ, aY, cA, eK, aD, eM, dM, aS, bJ, eE, bH, bF, bC, aP, aM, cB, fF, dY, bZ, cH, dB, cD, dT, bE, eI, bY, dF, bP, aZ, bX, aC, bV, bR, cI, bW, bA, aT, aU, bT, dS, cR, bO, aV, aJ, aL, bD, aH, dC, dV, aI, aN, aX, aF, cX, aE, cL, bU, bB, aO, cM, cJ, aA, dR, cP, cQ, cF, dK, cC, dJ, dU, cV, eF, eL, bN, aR, dZ, bS, aQ, bL, dE, dA, cU, cO, cS, bM, bK, cY, dD, cN, dQ, cZ, la]
 refine QD fun w2 o2 x2 s2 => ?_
 obtain ⟨q, hq⟩ : ∃ q, q = w1.heap.size := ⟨_, rfl⟩
 rw [<- hq] at o2 ⊢
 have hone : ∀ y ∈ (JW (II (L.length / 64) L) kept (L.length % 64) L.length).toArray.toList, one y = true := fun y hy => by
  rw [aaG] at hy
  unfold JW at hy
  rcases abA.1 hy with h | h
  .exact Ks _ y h
  .rcases abA.1 h with h | h
   .obtain ⟨z, -, rfl⟩ := aaK.1 h; rfl
   .simp only [aaE, List.not_mem_nil, or_false] at h
    rcases h with rfl | rfl <;> rfl
 refine Qj o2 (by rw [abP, zI h1 h2]) hone (by simp) fun w3 o3 x3 s3 => ?_
 have o3 : jF w3 q (JW (II (L.length / 64) L) kept (L.length % 64) L.length) := by
  rw [aaG, Gu _ _ (by rw [zI h1 h2] <;> rfl)] at o3
  exact o3
 have z1 : w1.heap.size = p + 1 := by omega
 have hqp : q = p + 1 := by omega
 have x03 : gT w w3 jI := (x1.seq x2).trans x3 fun y hy h => by omega
 have hS3 : yU w3 q L L.length := ⟨kept, h2, hk, o3⟩
 have r3 := (o1.ext x2 (fun h => h)).ext x3 (show ¬ p = q by omega)
 have bh3 : yU w3 b L L.length := h.ext x03 (fun h => h)
 have hb0 : 0 ≠ q /\ 1 ≠ q := ⟨by omega, by omega⟩
 clear o1 o2 o3 x1 x2 x3 s1 s2 s3 la hone ho
 have keep : ∀ {w' : adH} {x : adI}, gT w3 w' (fun y => y = q) -> qL w' /\ jF w' p (List.replicate 32 (.int .u8 0)) /\ yU w' b L L.length /\ gT w w' jI := fun {w' x} hx =>
  ⟨hg.ext (x03.trans hx fun y hy h => by omega), r3.ext hx (by omega), bh3.ext hx (by omega), x03.trans hx fun y hy h => by omega⟩
 refine Ok (x := 128) (by decide) (hg.ext x03) hb0 (by omega) (by omega) hS3 fun w4 h4 x4 => ?_
 unfold AN AK AQ
 obtain ⟨z, hz⟩ : ∃ z, z = (119 - L.length % 64) % 64 := ⟨_, rfl⟩
 refine kF.rule (fun m (t : Unit) w' => ∃ (k all : Nat), m = z - k /\ k <= z /\ all = L.length + 1 + k /\ yU w' q (L ++ [128] ++ List.replicate k 0) all /\ gT w3 w' (fun y => y = q)) z ⟨0, _, rfl, by omega, rfl, by simpa using h4, x4⟩ ?_
 clear h4 x4
 rintro m _ w5 ⟨k, all, rfl, hkz, rfl, h5, x5⟩
 unfold uL
 have hlk : (L ++ [128] ++ List.replicate k (0 : UInt8)).length = L.length + 1 + k := by simp; omega
 have c72 : w5.cell? ⟨q, 72, none⟩ = some (.int .i64 (((L.length + 1 + k) % 64 : Nat) : Int)) := by
  obtain ⟨kp, g2, gk, go⟩ := h5
  rw [go.cell, Tk (Bj _ _) g2, hlk]
 obtain ⟨hg5, r5, bh5, x05⟩ := keep (x := undef) x5
 by_cases hlt : k < z
 .have d1 : ((((L.length + 1 + k) % 64 : Nat) : Int) != 56) = true := by
   rw [bne_iff_ne]
   have := XK L.length k (by omega)
   omega
  simp (disch := omega) only [eY, gM, dX, stepR_skip, fO, gD, fN, gC, gI, fW, gR, fX, eU, fU, fS, gH, fP, fL, fT, fR, fV, gE, gG, fQ, fC, fY, gB, fK, iO, iJ, iH, iL, iI, iM, iK, iG, iN, eP, Result.ok.injEq, Next.value.injEq, true_and, and_true, fJ, fI, fZ, fM, gA, gQ, ZI, fE, fH, fG, fD, eZ, eT, fB, eX, eQ, eH, if_true, if_false, ZF, ZL, ZG, ZH, ZK, ZJ, ZE, ZD, eA, dW, aB, dI, dH, cG, eB, eS, eC, dO, eD, fA, dL, eN, bQ, dG, bG, dN, aK, aG, eJ, aY, cA, eK, aD, eM, dM, aS, bJ, eE, bH, bF, bC, aP, aM, cB, fF, dY, bZ, cH, dB, cD, dT, bE, eI, bY, dF, bP, aZ, bX, aC, bV, bR, cI, bW, bA, aT, aU, bT, dS, cR, bO, aV, aJ, aL, bD, aH, dC, dV, aI, aN, aX, aF, cX, aE, cL, bU, bB, aO, cM, cJ, aA, dR, cP, cQ, cF, dK, cC, dJ, dU, cV, eF, eL, bN, aR, dZ, bS, aQ, bL, dE, dA, cU, cO, cS, bM, bK, cY, dD, cN, dQ, cZ, c72, d1]
  refine Ok (x := 0) (by decide) hg5 hb0 (by rw [hlk]; omega) (by omega) h5 fun w6 h6 x6 => ?_
  refine ⟨z - (k + 1), by omega, k + 1, L.length + 1 + (k + 1), rfl, by omega, rfl, ?_, x5.seq x6⟩
  rw [List.replicate_succ', <- Z4]
  exact h6
 have d1 : ((((L.length + 1 + k) % 64 : Nat) : Int) != 56) = false := by
  rw [bne_eq_false_iff_eq]
  have := (XK L.length k (by omega)).2 (by omega)
  omega
 obtain rfl : k = z := by omega
 simp (disch := omega) only [eY, gM, dX, stepR_skip, fO, gD, fN, gC, gI, fW, gR, fX, eU, fU, fS, gH, fP, fL, fT, fR, fV, gE, gG, fQ, fC, fY, gB, fK, iO, iJ, iH, iL, iI, iM, iK, iG, iN, eP, Result.ok.injEq, Next.value.injEq, true_and, and_true, fJ, fI, fZ, fM, gA, gQ, ZI, fE, fH, fG, fD, eZ, eT, fB, eX, eQ, eH, if_true, if_false, ZF, ZL, ZG, ZH, ZK, ZJ, ZE, ZD, eA, dW, aB, dI, dH, cG, eB, eS, eC, dO, eD, fA, dL, eN, bQ, dG, bG, dN, aK, aG, eJ, aY, cA, eK, aD, eM, dM, aS, bJ, eE, bH, bF, bC, aP, aM, cB, fF, dY, bZ, cH, dB, cD, dT, bE, eI, bY, dF, bP, aZ, bX, aC, bV, bR, cI, bW, bA, aT, aU, bT, dS, cR, bO, aV, aJ, aL, bD, aH, dC, dV, aI, aN, aX, aF, cX, aE, cL, bU, bB, aO, cM, cJ, aA, dR, cP, cQ, cF, dK, cC, dJ, dU, cV, eF, eL, bN, aR, dZ, bS, aQ, bL, dE, dA, cU, cO, cS, bM, bK, cY, dD, cN, dQ, cZ, c72, d1]
 obtain ⟨B, hB⟩ : ∃ B, B = L ++ [128] ++ List.replicate k (0 : UInt8) := ⟨_, rfl⟩
 rw [<- hB] at h5 hlk
 unfold AT AL AG AI AO
 refine kF.rule (fun m (t : adI) w' => ∃ (j : Nat), m = 8 - j /\ j <= 8 /\ t = .int .i64 (56 - 8 * (j : Int)) /\ yU w' q (B ++ Wc (8 * L.length) j) (L.length + 1 + k + j) /\ gT w3 w' (fun y => y = q)) 8 ⟨0, rfl, by omega, rfl, by simpa [Wc] using h5, x5⟩ ?_
 clear c72 d1 h5 x5 hg5 r5 bh5 x05 hlt
 rintro m t w6 ⟨j, rfl, hj, rfl, h6, x6⟩
 unfold uQ
 obtain ⟨hg6, r6, bh6, x06⟩ := keep (x := undef) x6
 by_cases hlt : j < 8
 .have d1 : decide ((0 : Int) <= 56 - 8 * (j : Int)) = true := by simp; omega
  have c73 : w6.cell? ⟨b, 73, none⟩ = some (.int .u64 (L.length : Nat)) := by
   obtain ⟨kp, g2, gk, go⟩ := bh6
   rw [go.cell, Tb (Bj _ _) g2]
  have e1 : (8 : Int) * (L.length : Int) = ((8 * L.length : Nat) : Int) := by omega
  have e2 : (56 - 8 * (j : Int)).toNat = 56 - 8 * j := by omega
  have b64 : IntKind.u64.bits = 64 := rfl
  have m1 : min (56 - 8 * j) IntKind.u64.bits = 56 - 8 * j := by rw [b64]; omega
  have e3 := Nn (8 * L.length) (56 - 8 * j)
  have e4 : IntKind.u8.wrap ((8 * L.length / 2 ^ (56 - 8 * j) : Nat) : Int) = ((8 * L.length / 2 ^ (56 - 8 * j) % 256 : Nat) : Int) := by
   generalize 8 * L.length / 2 ^ (56 - 8 * j) = y
   rw [show IntKind.u8.wrap (y : Int) = (y : Int) % 256 from rfl]; omega
  have e5 : 56 - 8 * (j : Int) - 8 = 56 - 8 * ((j + 1 : Nat) : Int) := by omega
  have hBl : (B ++ Wc (8 * L.length) j).length = L.length + 1 + k + j := by rw [ZN, hlk, SR]
  simp (disch := omega) only [eY, gM, dX, stepR_skip, fO, gD, fN, gC, gI, fW, gR, fX, eU, fU, fS, gH, fP, fL, fT, fR, fV, gE, gG, fQ, fC, fY, gB, fK, iO, iJ, iH, iL, iI, iM, iK, iG, iN, eP, Result.ok.injEq, Next.value.injEq, true_and, and_true, fJ, fI, fZ, fM, gA, gQ, ZI, fE, fH, fG, fD, eZ, eT, fB, eX, eQ, eH, if_true, if_false, ZF, ZL, ZG, ZH, ZK, ZJ, ZE, ZD, eA, dW, aB, dI, dH, cG, eB, eS, eC, dO, eD, fA, dL, eN, bQ, dG, bG, dN, aK, aG, eJ, aY, cA, eK, aD, eM, dM, aS, bJ, eE, bH, bF, bC, aP, aM, cB, fF, dY, bZ, cH, dB, cD, dT, bE, eI, bY, dF, bP, aZ, bX, aC, bV, bR, cI, bW, bA, aT, aU, bT, dS, cR, bO, aV, aJ, aL, bD, aH, dC, dV, aI, aN, aX, aF, cX, aE, cL, bU, bB, aO, cM, cJ, aA, dR, cP, cQ, cF, dK, cC, dJ, dU, cV, eF, eL, bN, aR, dZ, bS, aQ, bL, dE, dA, cU, cO, cS, bM, bK, cY, dD, cN, dQ, cZ, d1, c73, e1, e2, m1, e3, e4, e5]
  refine Ok (x := 8 * L.length / 2 ^ (56 - 8 * j) % 256) (acQ _ (by decide)) hg6 hb0 (by rw [hBl]; omega) (by omega) h6 fun w7 h7 x7 => ?_
  refine ⟨8 - (j + 1), by omega, j + 1, rfl, by omega, rfl, ?_, x6.seq x7⟩
  rw [VF, <- Z4]
  exact h7
 have d1 : decide ((0 : Int) <= 56 - 8 * (j : Int)) = false := by simp; omega
 obtain rfl : j = 8 := by omega
 simp (disch := omega) only [eY, gM, dX, stepR_skip, fO, gD, fN, gC, gI, fW, gR, fX, eU, fU, fS, gH, fP, fL, fT, fR, fV, gE, gG, fQ, fC, fY, gB, fK, iO, iJ, iH, iL, iI, iM, iK, iG, iN, eP, Result.ok.injEq, Next.value.injEq, true_and, and_true, fJ, fI, fZ, fM, gA, gQ, ZI, fE, fH, fG, fD, eZ, eT, fB, eX, eQ, eH, if_true, if_false, ZF, ZL, ZG, ZH, ZK, ZJ, ZE, ZD, eA, dW, aB, dI, dH, cG, eB, eS, eC, dO, eD, fA, dL, eN, bQ, dG, bG, dN, aK, aG, eJ, aY, cA, eK, aD, eM, dM, aS, bJ, eE, bH, bF, bC, aP, aM, cB, fF, dY, bZ, cH, dB, cD, dT, bE, eI, bY, dF, bP, aZ, bX, aC, bV, bR, cI, bW, bA, aT, aU, bT, dS, cR, bO, aV, aJ, aL, bD, aH, dC, dV, aI, aN, aX, aF, cX, aE, cL, bU, bB, aO, cM, cJ, aA, dR, cP, cQ, cF, dK, cC, dJ, dU, cV, eF, eL, bN, aR, dZ, bS, aQ, bL, dE, dA, cU, cO, cS, bM, bK, cY, dD, cN, dQ, cZ, d1]
 have hpad : B ++ Wc (8 * L.length) 8 = Tz L := by rw [hB, hz] <;> rfl
 rw [hpad] at h6
 have hpl : (Tz L).length % 64 = 0 := by
  rw [<- hpad, ZN, hlk, SR]
  have := (XK L.length k (by omega)).2 hz
  omega
 obtain ⟨st, hst⟩ : ∃ st, st = II ((Tz L).length / 64) (Tz L) := ⟨_, rfl⟩
 have hstl : st.length = 8 := by rw [hst]; exact Bj _ _
 have hst32 : Cs st := by rw [hst]; exact PM _ _
 have hsha : Q7 L = OM st 32 := by rw [hst] <;> rfl
 obtain ⟨kp, g2, gk, go⟩ := h6
 rw [<- hst] at go
 clear d1 hlt hj hpad gk bh6 hg6
 unfold BY B4
 refine Gc fun w7 o7 x7 s7 => ?_
 have o7 : jF w7 w6.heap.size (List.replicate 32 (.int .u8 0)) := o7
 obtain ⟨u, hu⟩ : ∃ u, u = w6.heap.size := ⟨_, rfl⟩
 rw [<- hu] at o7 ⊢
 have q7 := go.ext x7 (fun h => h)
 have r7 := r6.ext x7 (fun h => h)
 have x07 := x06.seq x7
 have hql := go.lt
 have hpl2 := r6.lt
 clear x6 x06 go r6 x7
 unfold BK BZ B2 BQ B3
 refine kF.rule (fun m (t : adI) w' => ∃ (i : Nat), m = 32 - i /\ i <= 32 /\ t = .int .i64 (i : Nat) /\ jF w' u ((OM st i).map oZ ++ List.replicate (32 - i) (.int .u8 0)) /\ gT w7 w' (fun y => y = u)) 32 ⟨0, rfl, by omega, rfl, o7, gT.refl _ _⟩ ?_
 clear o7
 rintro m t w8 ⟨i, rfl, hi, rfl, o8, x8⟩
 unfold wB
 have q8 := q7.ext x8 (show ¬ q = u by omega)
 by_cases hlt : i < 32
 .have d1 : decide ((i : Int) < 32) = true := by simp; omega
  have e1 : (i : Int).tdiv 4 = ((i / 4 : Nat) : Int) := by rw [Int.tdiv_eq_ediv_of_nonneg (by omega)]; omega
  have e2 : (i : Int).tmod 4 = ((i % 4 : Nat) : Int) := by rw [Int.tmod_eq_emod_of_nonneg (by omega)]; omega
  have e3 : (24 : Int) - ((i % 4 : Nat) : Int) * 8 = ((24 - i % 4 * 8 : Nat) : Int) := by omega
  have c8 := q8.cell (off := i / 4)
  rw [YS _ (by omega)] at c8
  have b32 : IntKind.u32.bits = 32 := rfl
  have m1 : min (24 - i % 4 * 8) IntKind.u32.bits = 24 - i % 4 * 8 := by rw [b32]; omega
  have e4 := Nn (st.getD (i / 4) 0) (24 - i % 4 * 8)
  obtain ⟨y, hy⟩ : ∃ y, y = UInt8.ofNat (st.getD (i / 4) 0 / 2 ^ (24 - i % 4 * 8) % 256) := ⟨_, rfl⟩
  have e5 : IntKind.u8.wrap ((st.getD (i / 4) 0 / 2 ^ (24 - i % 4 * 8) : Nat) : Int) = ((y.toNat : Nat) : Int) := by
   rw [hy, acB]
   generalize st.getD (i / 4) 0 / 2 ^ (24 - i % 4 * 8) = z
   rw [show IntKind.u8.wrap (z : Int) = (z : Int) % 256 from rfl]; omega
  simp (disch := omega) only [eY, gM, dX, stepR_skip, fO, gD, fN, gC, gI, fW, gR, fX, eU, fU, fS, gH, fP, fL, fT, fR, fV, gE, gG, fQ, fC, fY, gB, fK, iO, iJ, iH, iL, iI, iM, iK, iG, iN, eP, Result.ok.injEq, Next.value.injEq, true_and, and_true, fJ, fI, fZ, fM, gA, gQ, ZI, fE, fH, fG, fD, eZ, eT, fB, eX, eQ, eH, if_true, if_false, ZF, ZL, ZG, ZH, ZK, ZJ, ZE, ZD, eA, dW, aB, dI, dH, cG, eB, eS, eC, dO, eD, fA, dL, eN, bQ, dG, bG, dN, aK, aG, eJ, aY, cA, eK, aD, eM, dM, aS, bJ, eE, bH, bF, bC, aP, aM, cB, fF, dY, bZ, cH, dB, cD, dT, bE, eI, bY, dF, bP, aZ, bX, aC, bV, bR, cI, bW, bA, aT, aU, bT, dS, cR, bO, aV, aJ, aL, bD, aH, dC, dV, aI, aN, aX, aF, cX, aE, cL, bU, bB, aO, cM, cJ, aA, dR, cP, cQ, cF, dK, cC, dJ, dU, cV, eF, eL, bN, aR, dZ, bS, aQ, bL, dE, dA, cU, cO, cS, bM, bK, cY, dD, cN, dQ, cZ, d1, e1, e2, e3, c8, m1, e4, e5]
  refine Vf o8 rfl (by rw [ZN, ZM, KB, Z6]; omega) fun w9 o9 x9 s9 => ?_
  refine ⟨32 - (i + 1), by omega, i + 1, rfl, by omega, rfl, ?_, x8.seq x9⟩
  have e6 : ((OM st i).map oZ ++ List.replicate (32 - i) (Value.int .u8 0)).set i (.int .u8 (y.toNat : Nat)) = (OM st (i + 1)).map oZ ++ List.replicate (32 - (i + 1)) (.int .u8 0) := by
   rw [abC _ _ (by rw [ZM, KB]; omega), ZM, KB, adD, show 32 - i = (32 - (i + 1)) + 1 from by omega, List.replicate_succ, Z0, Uc, <- hy, aaP, Z4]
   rfl
  rw [e6] at o9
  exact o9
 have d1 : decide ((i : Int) < 32) = false := by simp; omega
 obtain rfl : i = 32 := by omega
 simp (disch := omega) only [eY, gM, dX, stepR_skip, fO, gD, fN, gC, gI, fW, gR, fX, eU, fU, fS, gH, fP, fL, fT, fR, fV, gE, gG, fQ, fC, fY, gB, fK, iO, iJ, iH, iL, iI, iM, iK, iG, iN, eP, Result.ok.injEq, Next.value.injEq, true_and, and_true, fJ, fI, fZ, fM, gA, gQ, ZI, fE, fH, fG, fD, eZ, eT, fB, eX, eQ, eH, if_true, if_false, ZF, ZL, ZG, ZH, ZK, ZJ, ZE, ZD, eA, dW, aB, dI, dH, cG, eB, eS, eC, dO, eD, fA, dL, eN, bQ, dG, bG, dN, aK, aG, eJ, aY, cA, eK, aD, eM, dM, aS, bJ, eE, bH, bF, bC, aP, aM, cB, fF, dY, bZ, cH, dB, cD, dT, bE, eI, bY, dF, bP, aZ, bX, aC, bV, bR, cI, bW, bA, aT, aU, bT, dS, cR, bO, aV, aJ, aL, bD, aH, dC, dV, aI, aN, aX, aF, cX, aE, cL, bU, bB, aO, cM, cJ, aA, dR, cP, cQ, cF, dK, cC, dJ, dU, cV, eF, eL, bN, aR, dZ, bS, aQ, bL, dE, dA, cU, cO, cS, bM, bK, cY, dD, cN, dQ, cZ, d1]
 rw [<- hsha, adD, List.replicate_zero, aaQ] at o8
 have hl32 : ((Q7 L).map oZ).length = 32 := by rw [ZM, yR]
 unfold wH
 have lo := QJ (off := 0) o8 (by omega)
 rw [abF, ZQ (by omega)] at lo
 have r8 := r7.ext x8 (show ¬ p = u by omega)
 simp (disch := omega) only [eY, gM, dX, stepR_skip, fO, gD, fN, gC, gI, fW, gR, fX, eU, fU, fS, gH, fP, fL, fT, fR, fV, gE, gG, fQ, fC, fY, gB, fK, iO, iJ, iH, iL, iI, iM, iK, iG, iN, eP, Result.ok.injEq, Next.value.injEq, true_and, and_true, fJ, fI, fZ, fM, gA, gQ, ZI, fE, fH, fG, fD, eZ, eT, fB, eX, eQ, eH, if_true, if_false, ZF, ZL, ZG, ZH, ZK, ZJ, ZE, ZD, eA, dW, aB, dI, dH, cG, eB, eS, eC, dO, eD, fA, dL, eN, bQ, dG, bG, dN, aK, aG, eJ, aY, cA, eK, aD, eM, dM, aS, bJ, eE, bH, bF, bC, aP, aM, cB, fF, dY, bZ, cH, dB, cD, dT, bE, eI, bY, dF, bP, aZ, bX, aC, bV, bR, cI, bW, bA, aT, aU, bT, dS, cR, bO, aV, aJ, aL, bD, aH, dC, dV, aI, aN, aX, aF, cX, aE, cL, bU, bB, aO, cM, cJ, aA, dR, cP, cQ, cF, dK, cC, dJ, dU, cV, eF, eL, bN, aR, dZ, bS, aQ, bL, dE, dA, cU, cO, cS, bM, bK, cY, dD, cN, dQ, cZ, lo]
 refine H3 r8 (by rw [abP, hl32]) (fun y hy => EU _ y (by simpa using hy)) (by simp) fun w9 o9 x9 s9 => ?_
 rw [aaG, Gu _ _ (by rw [hl32]; simp)] at o9
 refine Ir o9 (by omega) ?_
 rw [abF, ZQ (by omega), hRR]
 exact ⟨rfl, (x07.trans x8 fun y hy h => by omega).trans x9 fun y hy h => by omega⟩
theorem WE {l : List UInt8} {v : adI} {w : adH} (hg : qL w) (hv : Bs w v l) (hl : l.length <= 1000000000) :
 gS pg H8 #[v] w (fun r w' => r = .agg ((Q7 l).map oZ).toArray /\ gT w w' jI) := by
 refine Rc ?_
 unfold UF LG
 refine Gc fun w1 o1 x1 s1 => ?_
 have o1 : jF w1 w.heap.size (List.replicate 32 (.int .u8 0)) := o1
 obtain ⟨hg0, hg1⟩ := hg.lt
 refine (Vp w1).mono ?_
 rintro r w2 ⟨rfl, h2, x2, s2⟩
 have hv2 := hv.ext (x1.seq x2) (jA _)
 have hnb : ¬ vM v (fun y => y = w1.heap.size) := fun h => hv.old (yV h fun b hb => by omega)
 refine (Ot (L := []) (l := l) (hg.ext (x1.seq x2)) ⟨by omega, by omega⟩ (by simp; omega) (by omega) h2 hv2 hnb).mono ?_
 rintro r w3 ⟨rfl, h3, x3⟩
 rw [Z2, ZL] at h3
 have x03 : gT w w3 jI := (x1.seq x2).trans x3 fun y hy h => by omega
 refine (Vy (hg.ext x03) hl h3).mono ?_
 rintro r w4 ⟨rfl, x4⟩
 have hl32 : ((Q7 l).map oZ).length = 32 := by rw [ZM, yR]
 have r4 := ((o1.ext x2 (fun h => h)).ext x3 (by omega)).ext x4 (fun h => h)
 refine H3 r4 (by rw [abP, hl32]) (fun y hy => EU _ y (by simpa using hy)) (by simp) fun w5 o5 x5 s5 => ?_
 rw [aaG, Gu _ _ (by rw [hl32]; simp)] at o5
 refine Ir o5 (by omega) ?_
 rw [abF, ZQ (by omega)]
 exact ⟨rfl, (x03.seq x4).trans x5 fun y hy h => by omega⟩
end Go.Proofs.YteelnmpbnaohpaaDoor
namespace Go.Pu
section
variable {κ β : Type} [DecidableEq κ]
def iV (k : κ) : List (κ × β) -> Option β
 | [] => none
 | p :: r => if k = p.1 then some p.2 else iV k r
def pC (k : κ) (v : β) : List (κ × β) -> List (κ × β)
 | [] => [(k, v)]
 | p :: r => if k = p.1 then (k, v) :: r else p :: pC k v r
def Cm (k : κ) : List (κ × β) -> List (κ × β)
 | [] => []
 | p :: r => if k = p.1 then r else p :: Cm k r
theorem Ny (k j : κ) (v : β) : ∀ l : List (κ × β), iV j (pC k v l) = if j = k then some v else iV j l := by
 intro l
 induction l with
 | nil => simp only [pC, iV]
 | cons p r ih =>
   simp only [pC]
   by_cases h : k = p.1
   .rw [if_pos h]
    simp only [iV]
    by_cases hj : j = k
    .rw [if_pos hj, if_pos hj]
    .rw [if_neg hj, if_neg hj, if_neg (fun e => hj (e.trans h.symm))]
   .rw [if_neg h]
    simp only [iV, ih]
    by_cases hj : j = p.1
    .rw [if_pos hj, if_pos hj, if_neg (fun e => h (e.symm.trans hj))]
    .rw [if_neg hj, if_neg hj]
theorem O8 {k : κ} : ∀ {l : List (κ × β)}, k ∉ l.map (·.1) -> iV k l = none
 | [], _ => rfl
 | p :: r, h => by
   rw [ZT, aaE, not_or] at h
   rw [iV, if_neg h.1, O8 h.2]
theorem Rg {k j : κ} : ∀ {l : List (κ × β)}, (l.map (·.1)).Nodup -> iV j (Cm k l) = if j = k then none else iV j l
 | [], _ => by simp [Cm, iV]
 | p :: r, h => by
   rw [ZT, abO] at h
   simp only [Cm]
   by_cases hk : k = p.1
   .rw [if_pos hk]
    simp only [iV]
    by_cases hj : j = k
    .rw [if_pos hj, hj, hk, O8 h.1]
    .rw [if_neg hj, if_neg (fun e => hj (e.trans hk.symm))]
   .rw [if_neg hk]
    simp only [iV, Rg h.2]
    by_cases hj : j = p.1
    .rw [if_pos hj, if_pos hj, if_neg (fun e => hk (e.symm.trans hj))]
    .rw [if_neg hj, if_neg hj]
theorem Pm {k : κ} {v : β} {x : κ} : ∀ {l : List (κ × β)}, x ∈ (pC k v l).map (·.1) -> x = k ∨ x ∈ l.map (·.1)
 | [], h => by simp [pC] at h; exact .inl h
 | p :: r, h => by
   simp only [pC] at h
   split at h
   .rename_i e
    rw [ZT, aaE] at h
    rcases h with h | h
    .exact .inl h
    .exact .inr (by rw [ZT]; exact ZV _ h)
   .rw [ZT, aaE] at h
    rcases h with h | h
    .exact .inr (by rw [ZT, h]; exact aaU)
    .rcases Pm h with h | h
     .exact .inl h
     .exact .inr (by rw [ZT]; exact ZV _ h)
theorem DE {k : κ} {v : β} : ∀ {l : List (κ × β)}, (l.map (·.1)).Nodup -> ((pC k v l).map (·.1)).Nodup
 | [], _ => by simp [pC]
 | p :: r, h => by
   rw [ZT, abO] at h
   simp only [pC]
   split
   .rename_i e
    rw [ZT, abO]
    exact ⟨fun hm => h.1 (e ▸ hm), h.2⟩
   .rename_i e
    rw [ZT, abO]
    refine ⟨fun hm => ?_, DE h.2⟩
    rcases Pm hm with h1 | h1
    .exact e h1.symm
    .exact h.1 h1
end
abbrev rO := List (ByteArray × List UInt8)
def iE (c : rO) : Nat := (c.map fun p => p.2.length).sum
theorem rP (k : ByteArray) (b : List UInt8) : ∀ c : rO, iE (pC k b c) + ((iV k c).getD []).length = iE c + b.length
 | [] => by simp [pC, iV, iE]
 | p :: r => by
   have ih := rP k b r
   simp only [pC, iV]
   split
   .simp [iE]; omega
   .unfold iE at *
    rw [ZT, ZT, acK, acK]; omega
theorem FM (k : ByteArray) : ∀ c : rO, iE (Cm k c) + ((iV k c).getD []).length = iE c
 | [] => by simp [Cm, iV, iE]
 | p :: r => by
   have ih := FM k r
   simp only [Cm, iV]
   split
   .simp [iE]; omega
   .unfold iE at *
    rw [ZT, ZT, acK, acK]; omega
theorem RN {c : rO} {j : Nat} (h : j < c.length) : iE (c.eraseIdx j) + c[j].2.length = iE c := by
 induction c generalizing j with
 | nil => simp at h
 | cons p r ih =>
   cases j with
   | zero => simp [iE]; omega
   | succ j =>
     have := ih (j := j) (by simpa using h)
     unfold iE at *
     rw [aaW, ZT, ZT, acK, acK, List.getElem_cons_succ]; omega
theorem AH {k : ByteArray} {c : rO} : ((iV k c).getD []).length <= iE c := by have := FM k c; omega
structure Qr where
 kind : Nat
 name : ByteArray
 other : ByteArray
 at' : Nat
 bytes : List UInt8
def over (old : List UInt8) (a : Nat) (b : List UInt8) : List UInt8 := (old ++ List.replicate (max old.length (a + b.length) - old.length) 0).take a ++ b ++ (old ++ List.replicate (max old.length (a + b.length) - old.length) 0).drop (a + b.length)
theorem Ep (old : List UInt8) (a : Nat) (b : List UInt8) : (over old a b).length = max old.length (a + b.length) := by
 unfold over
 simp only [ZN, ZY, ZW, Z6]; omega
def MB (o : Qr) (c : rO) : rO :=
 if o.kind = 0 then pC o.name (over ((iV o.name c).getD []) o.at' o.bytes) c
 else if o.kind = 1 then match iV o.name c with
  | none => c
  | some old => pC o.other old (Cm o.name c)
 else if o.kind = 2 then Cm o.name c else c
def EH : List UInt8 -> Nat
 | [] => 0
 | c :: l => c.toNat + 256 * EH l
theorem F9 : ∀ l : List UInt8, EH l < 256 ^ l.length
 | [] => by simp [EH]
 | c :: l => by
   have := F9 l
   have hc := c.toNat_lt
   rw [EH, Z7, Nat.pow_succ]; omega
theorem O9 (c : UInt8) : ∀ l : List UInt8, EH (l ++ [c]) = EH l + 256 ^ l.length * c.toNat
 | [] => by simp [EH]
 | d :: l => by
   rw [acH, EH, O9 c l, EH, Z7, Nat.pow_succ, acM, abY, Nat.mul_comm (256 ^ l.length) 256, Nat.mul_assoc]
theorem SE (i : Nat) : 256 ^ i = 2 ^ (8 * i) := by rw [Nat.pow_mul]
theorem Wq (l : List UInt8) (c : UInt8) : EH l ||| (c.toNat * 2 ^ (8 * l.length)) = EH (l ++ [c]) := by
 have := F9 l
 rw [SE] at this
 rw [XS this, O9, SE]
def AX (x : Nat) : Nat -> List UInt8
 | 0 => []
 | n + 1 => UInt8.ofNat (x % 256) :: AX (x / 256) n
theorem lB : ∀ (n x : Nat), (AX x n).length = n
 | 0, _ => rfl
 | n + 1, x => by rw [AX, Z7, lB n]
theorem L8 : ∀ (n x : Nat), EH (AX x n) = x % 256 ^ n
 | 0, x => by simp [AX, EH, Nat.mod_one]
 | n + 1, x => by
   rw [AX, EH, L8 n, Nat.pow_succ, Nat.mul_comm (256 ^ n) 256, Nat.mod_mul]
   have : (UInt8.ofNat (x % 256)).toNat = x % 256 := by
    rw [acB]; omega
   rw [this]
theorem O2 : ∀ (n x : Nat), AX x (n + 1) = AX x n ++ [UInt8.ofNat (x / 256 ^ n % 256)]
 | 0, x => by simp [AX]
 | n + 1, x => by
   rw [AX, O2 n (x / 256), AX, acH, Nat.div_div_eq_div_mul, Nat.pow_succ, Nat.mul_comm (256 ^ n) 256]
section
variable (cf : List UInt8 -> Nat)
def Kh (k v : Nat) : List UInt8 := AX k 1 ++ AX v 8
def sJ (k v : Nat) : List UInt8 := Kh k v ++ AX (cf (Kh k v)) 4
theorem pR (k v : Nat) : (sJ cf k v).length = 13 := by
 unfold sJ Kh
 rw [ZN, ZN, lB, lB, lB]
def Wb (p : List UInt8) : Nat := EH (p.take 1)
def Va (p : List UInt8) : Nat := if p.length < 9 then 0 else EH ((p.drop 1).take 8)
def Jx (p : List UInt8) : Bool := (Wb p == 1 || Wb p == 2) && sJ cf (Wb p) (Va p) == p
def HC : Nat -> List UInt8 -> List (Nat × Nat)
 | 0, _ => []
 | n + 1, b => if b = [] then [] else if Jx cf (b.take 13) then (Wb (b.take 13), Va (b.take 13)) :: HC n (b.drop 13) else []
def mM (b : List UInt8) : List (Nat × Nat) := HC cf b.length b
def nI (l : List (Nat × Nat)) : List UInt8 := (l.map fun r => sJ cf r.1 r.2).flatten
theorem mQ : ∀ l : List (Nat × Nat), (nI cf l).length = 13 * l.length
 | [] => rfl
 | r :: l => by
   have := mQ l
   unfold nI at *
   rw [ZT, List.flatten_cons, ZN, pR, this, Z7]; omega
theorem L5 {p : List UInt8} (h : Jx cf p = true) : p.length = 13 := by
 unfold Jx at h
 simp only [ZR, beq_iff_eq] at h
 rw [<- h.2, pR]
theorem QI {k : Nat} (v : Nat) (hk : k < 256) : Wb (sJ cf k v) = k := by
 have e : (sJ cf k v).take 1 = AX k 1 := by
  unfold sJ Kh
  rw [Z4, Z9 (by rw [lB]; omega), ZQ (by rw [lB]; omega)]
 unfold Wb
 rw [e, L8]; omega
theorem Q4 (k : Nat) {v : Nat} (hv : v < 2 ^ 64) : Va (sJ cf k v) = v := by
 have e : ((sJ cf k v).drop 1).take 8 = AX v 8 := by
  unfold sJ Kh
  rw [Z4, aaC (by rw [lB]; omega), abI (by rw [lB]; omega), Z2,
    Z9 (by rw [lB]; omega), ZQ (by rw [lB]; omega)]
 unfold Va
 rw [if_neg (by rw [pR]; omega), e, L8]
 exact abE (by omega)
def Uz (r : Nat × Nat) : Prop := (r.1 = 1 ∨ r.1 = 2) /\ r.2 < 2 ^ 64
theorem Si {k v : Nat} (h : Uz (k, v)) : Jx cf (sJ cf k v) = true := by
 obtain ⟨hk, hv⟩ := h
 have hk : k = 1 ∨ k = 2 := hk
 unfold Jx
 rw [QI cf v (by omega), Q4 cf k hv]
 simp; omega
theorem PV : ∀ (n : Nat) (b : List UInt8), ∀ r ∈ HC cf n b, Uz r
 | 0, b, r, h => by simp [HC] at h
 | n + 1, b, r, h => by
   rw [HC] at h
   split at h
   .simp at h
   .split at h
    .rename_i hg
     rcases aaE.1 h with rfl | h
     .have hl := L5 cf hg
      unfold Jx at hg
      simp only [ZR, aaO, beq_iff_eq] at hg
      refine ⟨hg.1, ?_⟩
      show Va _ < _
      unfold Va
      split
      .omega
      .have := F9 (((b.take 13).drop 1).take 8)
       refine abS this ?_
       rw [show (2 : Nat) ^ 64 = 256 ^ 8 from by decide]
       exact adG (by omega) (by rw [ZY]; omega)
     .exact PV n _ r h
    .simp at h
theorem NY : ∀ (n : Nat) (b : List UInt8), 13 * (HC cf n b).length <= b.length
 | 0, b => by simp [HC]
 | n + 1, b => by
   rw [HC]
   split
   .simp
   .split
    .rename_i hg
     have := NY n (b.drop 13)
     have hl := L5 cf hg
     rw [ZY] at hl
     rw [ZW] at this
     rw [Z7]; omega
    .simp
theorem O4 : ∀ (l : List (Nat × Nat)) (n : Nat), (∀ r ∈ l, Uz r) -> 13 * l.length <= n -> HC cf n (nI cf l) = l
 | [], n, _, _ => by cases n <;> simp [HC, nI]
 | r :: l, 0, _, h => by simp at h
 | r :: l, n + 1, hl, h => by
   have e : nI cf (r :: l) = sJ cf r.1 r.2 ++ nI cf l := rfl
   have h13 := pR cf r.1 r.2
   have h1 : (nI cf (r :: l)).take 13 = sJ cf r.1 r.2 := by rw [e, Z9 (by omega), ZQ (by omega)]
   have h2 : (nI cf (r :: l)).drop 13 = nI cf l := by rw [e, aaC (by omega), abI (by omega), Z2]
   have hne : nI cf (r :: l) ≠ [] := fun h => by have := congrArg List.length h; rw [mQ] at this; simp at this
   have ho : Uz r := hl r aaU
   rw [Z7] at h
   rw [HC, if_neg hne, h1, h2, Si cf ho, if_pos rfl, QI cf _ (by have := ho.1; omega), Q4 cf _ ho.2, O4 l n (fun r hr => hl r (ZV _ hr)) (by omega)]
theorem TN {l : List (Nat × Nat)} (hl : ∀ r ∈ l, Uz r) : mM cf (nI cf l) = l := O4 cf l _ hl (by rw [mQ]; omega)
theorem Sc (l : List (Nat × Nat)) (r : Nat × Nat) : nI cf (l ++ [r]) = nI cf l ++ sJ cf r.1 r.2 := by
 unfold nI
 rw [aaP, List.flatten_append]
 simp
end
def kS (k : Nat) : List (Nat × Nat) -> Nat
 | [] => 0
 | r :: l => if r.1 = k then max r.2 (kS k l) else kS k l
theorem NA (k : Nat) (r : Nat × Nat) : ∀ l, kS k (l ++ [r]) = if r.1 = k then max r.2 (kS k l) else kS k l
 | [] => rfl
 | s :: l => by
   rw [acH, kS, NA k r l, kS]
   split <;> split <;> omega
theorem RL {k : Nat} : ∀ {l : List (Nat × Nat)}, (∀ r ∈ l, Uz r) -> kS k l < 2 ^ 64
 | [], _ => by unfold kS; omega
 | r :: l, h => by
   have h1 := RL (k := k) (l := l) fun r hr => h r (ZV _ hr)
   have h2 := (h r aaU).2
   rw [kS]
   split <;> omega
def nC (L k : Nat) : Nat := if 0 < L % k then L / k + 1 else L / k
theorem A9 {L k i : Nat} (hk : 0 < k) : i < nC L k ↔ k * i < L := by
 unfold nC
 have h1 := Nat.div_add_mod L k
 have h2 := acQ L hk
 generalize L / k = q at *
 generalize L % k = r at *
 split
 .constructor
  .intro h
   have : k * i <= k * q := abQ _ (by omega)
   omega
  .intro h
   by_cases h3 : i < q + 1
   .exact h3
   .have : k * (q + 1) <= k * i := abQ _ (by omega)
    rw [acM] at this; omega
 .constructor
  .intro h
   have : k * (i + 1) <= k * q := abQ _ (by omega)
   rw [acM] at this; omega
  .intro h
   by_cases h3 : i < q
   .exact h3
   .have : k * q <= k * i := abQ _ (by omega)
    omega
theorem Nf {L k : Nat} (hk : 0 < k) : nC L k <= L := by
 by_cases h : nC L k = 0
 .omega
 .have := (A9 (i := nC L k - 1) (L := L) hk).1 (by omega)
  have h2 : 1 * (nC L k - 1) <= k * (nC L k - 1) := Nat.mul_le_mul_right _ hk
  omega
def Jo (L k i : Nat) : Nat := min (L - k * i) k
def uK (L k i : Nat) (b : List UInt8) : List UInt8 := (b.drop (k * i)).take (Jo L k i)
theorem M9 {L k i j : Nat} {b : List UInt8} : (uK L k i b)[j]? = if j < Jo L k i then b[k * i + j]? else none := by
 unfold uK
 rw [List.getElem?_take]
 split
 .rw [acA]
 .rfl
theorem Ga {L k i : Nat} {b : List UInt8} (h : b.length = L) : (uK L k i b).length = Jo L k i := by
 unfold uK Jo
 rw [ZY, ZW]; omega
theorem XL {L k i : Nat} {b f : List UInt8} (h : ∀ j, j < Jo L k i -> b[k * i + j]? = f[k * i + j]?) : uK L k i b = uK L k i f := by
 apply acC
 intro j
 rw [M9, M9]
 split
 .exact h j (by assumption)
 .rfl
theorem WY {L k i j : Nat} {b f : List UInt8} (h : uK L k i b = uK L k i f) (hj : j < Jo L k i) : b[k * i + j]? = f[k * i + j]? := by
 have := congrArg (fun l => l[j]?) h
 simp only [M9, if_pos hj] at this
 exact this
theorem Un {L k : Nat} {b f : List UInt8} (hk : 0 < k) (hb : b.length = L) (hf : f.length = L) (h : ∀ i, i < nC L k -> uK L k i b = uK L k i f) : b = f := by
 apply acC
 intro j
 by_cases hj : j < L
 .have h1 := Nat.div_add_mod j k
  have h2 := acQ j hk
  have h3 := WY (h (j / k) ((A9 hk).2 (by omega))) (j := j % k) (by unfold Jo; omega)
  rw [h1] at h3
  exact h3
 .rw [aaL (by omega), aaL (by omega)]
theorem Wu {old b : List UInt8} {a : Nat} (h : a + b.length <= old.length) : over old a b = old.take a ++ b ++ old.drop (a + b.length) := by
 unfold over
 rw [show max old.length (a + b.length) - old.length = 0 from by omega, List.replicate_zero, aaQ]
theorem Rk {old b : List UInt8} {a j : Nat} (h : a + b.length <= old.length) : (over old a b)[j]? = if a <= j /\ j < a + b.length then b[j - a]? else old[j]? := by
 rw [Wu h]
 by_cases h1 : j < a
 .rw [if_neg (by omega), Z4, aaB (by rw [ZY]; omega), abD h1]
 .by_cases h2 : j < a + b.length
  .rw [if_pos ⟨by omega, h2⟩, Z4, aaM (by rw [ZY]; omega), ZY, aaD (by omega), aaB (by omega)]
  .rw [if_neg (by omega), aaM (by rw [ZN, ZY]; omega), ZN, ZY, aaD (by omega), acA]
   congr 1; omega
theorem Gk {L k i : Nat} (h : k * i < L) : k * i + Jo L k i <= L := by unfold Jo; omega
theorem OT {L k i : Nat} {P f : List UInt8} (hP : P.length = L) (hf : f.length = L) (hi : k * i < L) : uK L k i (over P (k * i) (uK L k i f)) = uK L k i f := by
 have hl := Ga (k := k) (i := i) hf
 have he := Gk hi
 apply acC
 intro j
 rw [M9]
 by_cases h : j < Jo L k i
 .rw [if_pos h, Rk (by omega), if_pos (by omega), show k * i + j - k * i = j from by omega]
 .rw [if_neg h, aaL (by omega)]
theorem Oz {L k i i' : Nat} {P f : List UInt8} (hP : P.length = L) (hf : f.length = L) (hi : k * i < L) (hne : i' ≠ i) : uK L k i' (over P (k * i) (uK L k i f)) = uK L k i' P := by
 have hl := Ga (k := k) (i := i) hf
 have he := Gk hi
 apply XL
 intro j hj
 rw [Rk (by omega), if_neg]
 intro h
 have hs : j < k := by unfold Jo at hj; omega
 have hs2 : Jo L k i <= k := by unfold Jo; omega
 rcases Nat.lt_or_gt_of_ne hne with h1 | h1
 .have : k * (i' + 1) <= k * i := abQ _ h1
  rw [acM] at this; omega
 .have : k * (i + 1) <= k * i' := abQ _ h1
  rw [acM] at this; omega
theorem UU (n : Nat) : over [] 0 (List.replicate n 0) = List.replicate n 0 := by
 unfold over
 simp
theorem Rl {old b : List UInt8} : over old old.length b = old ++ b := by
 unfold over
 rw [show max old.length (old.length + b.length) - old.length = b.length from by omega, Z9 (ZU _), ZQ (ZU _), abI (by rw [ZN, Z6]; omega), aaQ]
end Go.Pu
namespace Go.En
open Go Go.ChangeShapes Go.WideShapes Go.ChangeAt Go.RowKit
theorem OJ {H : Type} {enc : TypeId × adI -> H} {P : Program} (hl : laidOutB P = true) {W W' : adH} (hb : Below W.heap.size W W') : ∀ (ts : List TypeId) (vs : List adI) (ds : List (DataW H)) (ps : List MemPlace),
 (ts.all fun t => P.readableRec t && decide (t < P.types.size)) = true -> DataW.TrodAll enc P W 0 (fun _ => true) true ts vs ds ps -> (∀ x ∈ ps, x.block < W.heap.size) →
 DataW.TrodAll enc P W' 0 (fun b => decide (b < W.heap.size)) true ts vs ds ps := by
 intro ts
 induction ts with
 | nil =>
   intro vs ds ps _ h _
   cases vs <;> cases ds <;> simp [DataW.TrodAll] at h ⊢
   exact h
 | cons t ts ih =>
   intro vs ds ps hr h hlt
   cases vs with
   | nil => simp [DataW.TrodAll] at h
   | cons v vs =>
     cases ds with
     | nil => simp [DataW.TrodAll] at h
     | cons d ds =>
       obtain ⟨p, q, h1, h2, rfl⟩ := h
       rw [List.all_cons, ZR, ZR, decide_eq_true_eq] at hr
       exact ⟨p, q, Below.trod hl hr.1.1 hr.1.2 h1 hb (fun x hx => hlt x (abM _ hx)), ih _ _ _ hr.2 h2 (fun x hx => hlt x (acE _ hx)), rfl⟩
theorem UP {H : Type} {enc : TypeId × adI -> H} {P : Program} {f : Func} {s : ChangeSpec} {apart fresh handsOn : Bool} {tb : TypeId} {W W' : adH} {args : Array adI} {ds gs : List (DataW H)} {before : List MemPlace}
 (hl : laidOutB P = true) (hr : (f.params.toList.all fun t => P.readableRec t && decide (t < P.types.size)) = true) (hres : f.resultTypes = #[tb]) (hbool : P.underlying tb = some .bool)
 (hW : DataW.Whole enc P f.params.toList s.vars apart W args.toList ds gs before) (hvars : s.vars = []) (h1 : (s.fn H (ds ++ gs)).results = [.lit (.bool true)]) (h2 : (s.fn H (ds ++ gs)).args = ds) (h3 : (s.fn H (ds ++ gs)).vars = [])
 (hx : gT W W' jI) : s.post enc P f apart fresh handsOn false W args (.bool true) W' := by
 have hb := hx.below
 have hlt : ∀ x ∈ before, x.block < W.heap.size := fun x hx => hW.lt x hx
 have hW' := hW
 obtain ⟨p, q, hA, hV, rfl, _, _⟩ := hW
 rw [hvars] at hV
 obtain ⟨_, rfl⟩ := trodVars_none hV
 rw [aaQ] at hW' hlt
 refine ⟨ds, gs, p, [], p, [], hW', ?_, ?_, ?_, hb.frame _, fun h => by cases h⟩
 .rw [h1, hres]
  exact trodAll_cons_mk (shut_bool hbool _) trodAll_mk0
 .rw [h2]; exact OJ hl hb _ _ _ _ hr hA hlt
 .rw [h3, hvars] <;> rfl
theorem SW {H : Type} {enc : TypeId × adI -> H} {P : Program} {W : adH} {base b0 : Nat} {r : Reach} {sp : Nat -> Bool} {hd : Bool} {t e : TypeId} {k : IntKind} {v : adI} {d : DataW H} {ps : List MemPlace} (ht : P.underlying t = some (.slice e)) (he : P.underlying e = some (.int k)) (hc : P.cellsOf e = 1)
 (hval : Value.okWide P W r b0 t v) (h : DataW.Trod enc P W base sp hd t v d ps) :
 ∃ zs : List Int, Sl W v (zs.map (Value.int k)) /\ zs.length <= 9223372036854775807 /\ ∀ z ∈ zs, (Lit.int k z).wf = true := by
 obtain ⟨a0, len, cap, rfl⟩ := okWide_slice ht hval
 obtain ⟨fuel, hf⟩ := h
 rcases open_ints ht he hc hf with ⟨hcs, -⟩ | ⟨a, len', cap', zs, hcs, _, hl, hm, hz, -, hcell, hwz⟩
 .have : Value.slice a0 len cap = .slice none 0 0 := by simpa [Value.cells] using hcs
  cases this
  exact ⟨[], ⟨none, 0, 0, rfl, rfl, ZU _, fun h => absurd h (by simp)⟩, by simp, by simp⟩
 .have : Value.slice a0 len cap = .slice (some a) len' cap' := by simpa [Value.cells] using hcs
  cases this
  unfold maxLen at hm
  have hle : len <= zs.length := by rw [hz]; split <;> omega
  refine ⟨zs.take len, ⟨some a, len, cap, rfl, by rw [ZM, ZY]; omega, hl, fun h0 => ?_⟩, by rw [ZY]; omega, fun z hz => hwz z (adC hz)⟩
  obtain ⟨b, off, spot⟩ := a
  have hs : spot = none := by
   have h0 := hcell 0 (by omega)
   unfold World.cell? at h0
   split at h0
   .cases spot
    .rfl
    .simp [Addr.add] at h0
   .cases h0
  subst hs
  refine ⟨b, off, rfl, fun i hi => ?_⟩
  rw [<- BM, hcell i (by omega), aaS, abD hi, ZS, ZO (by omega)]
  rfl
theorem Qw (zs : List Int) (h : ∀ z ∈ zs, (Lit.int .u8 z).wf = true) : ∃ l : List UInt8, zs.map (Value.int .u8) = l.map oZ /\ l.length = zs.length := by
 refine ⟨zs.map fun z => UInt8.ofNat z.toNat, ?_, by simp⟩
 rw [List.map_map]
 refine aaR fun z hz => ?_
 have := h z hz
 have hx : 0 <= z /\ z <= 255 := by simpa [Lit.wf, IntKind.min, IntKind.max, IntKind.signed, IntKind.bits] using this
 show _ = oZ (UInt8.ofNat z.toNat)
 unfold oZ
 rw [acB]
 congr 1
 omega
end Go.En
namespace Go.Proofs.YteelnmpbnaohpaaDoor
open Go Go.En Go.Pu
set_option maxRecDepth 4000
theorem PU {L k : Nat} {w : adH} (hL : L <= 1000000000000) (h1 : 1 <= k) (h2 : k <= 65536) :
 gS pg rQ #[.int .u64 (L : Nat), .int .i64 (k : Nat)] w (fun r w' => r = (if 1024 < nC L k then .tuple #[.int .i64 0, .int .i64 12] else .tuple #[.int .i64 (nC L k : Nat), .int .i64 0]) /\ w' = w) := by
 refine LY ?_
 unfold MA Dx Dz
 have d1 : decide ((k : Int) < 1) = false := by simp; omega
 have d2 : decide ((65536 : Int) < (k : Int)) = false := by simp; omega
 have e1 : (L : Int).tdiv (k : Int) = ((L / k : Nat) : Int) := rfl
 have e2 : (L : Int).tmod (k : Int) = ((L % k : Nat) : Int) := rfl
 have hq : L / k <= L := Nat.div_le_self _ _
 have hm := acQ L (show 0 < k by omega)
 have hc : nC L k = if 0 < L % k then L / k + 1 else L / k := rfl
 generalize L / k = q at *
 generalize L % k = r at *
 by_cases hr : 0 < r
 .rw [if_pos hr] at hc
  have d3 : decide ((0 : Int) < (r : Int)) = true := by simp only [decide_eq_true_eq]; omega
  have e3 : (q : Int) + 1 = ((q + 1 : Nat) : Int) := by omega
  rw [hc]
  by_cases hb : 1024 < q + 1
  .have d4 : decide ((1024 : Int) < ((q + 1 : Nat) : Int)) = true := by simp only [decide_eq_true_eq]; omega
   rw [if_pos hb]
   unfold oJ
   simp (disch := omega) only [eY, gM, dX, stepR_skip, fO, gD, fN, gC, gI, fW, gR, fX, eU, fU, fS, gH, fP, fL, fT, fR, fV, gE, gG, fQ, fC, fY, gB, fK, iO, iJ, iH, iL, iI, iM, iK, iG, iN, eP, Result.ok.injEq, Next.value.injEq, true_and, and_true, fJ, fI, fZ, fM, gA, gQ, ZI, fE, fH, fG, fD, eZ, eT, fB, eX, eQ, eH, if_true, if_false, ZF, ZL, ZG, ZH, ZK, ZJ, ZE, ZD, eA, dW, aB, dI, dH, cG, eB, eS, eC, dO, eD, fA, dL, eN, bQ, dG, bG, dN, aK, aG, eJ, aY, cA, eK, aD, eM, dM, aS, bJ, eE, bH, bF, bC, aP, aM, cB, fF, dY, bZ, cH, dB, cD, dT, bE, eI, bY, dF, bP, aZ, bX, aC, bV, bR, cI, bW, bA, aT, aU, bT, dS, cR, bO, aV, aJ, aL, bD, aH, dC, dV, aI, aN, aX, aF, cX, aE, cL, bU, bB, aO, cM, cJ, aA, dR, cP, cQ, cF, dK, cC, dJ, dU, cV, eF, eL, bN, aR, dZ, bS, aQ, bL, dE, dA, cU, cO, cS, bM, bK, cY, dD, cN, dQ, cZ, d1, d2, e1, e2, d3, e3, d4]
  .have d4 : decide ((1024 : Int) < ((q + 1 : Nat) : Int)) = false := by simp only [decide_eq_false_iff_not]; omega
   rw [if_neg hb]
   unfold oJ
   simp (disch := omega) only [eY, gM, dX, stepR_skip, fO, gD, fN, gC, gI, fW, gR, fX, eU, fU, fS, gH, fP, fL, fT, fR, fV, gE, gG, fQ, fC, fY, gB, fK, iO, iJ, iH, iL, iI, iM, iK, iG, iN, eP, Result.ok.injEq, Next.value.injEq, true_and, and_true, fJ, fI, fZ, fM, gA, gQ, ZI, fE, fH, fG, fD, eZ, eT, fB, eX, eQ, eH, if_true, if_false, ZF, ZL, ZG, ZH, ZK, ZJ, ZE, ZD, eA, dW, aB, dI, dH, cG, eB, eS, eC, dO, eD, fA, dL, eN, bQ, dG, bG, dN, aK, aG, eJ, aY, cA, eK, aD, eM, dM, aS, bJ, eE, bH, bF, bC, aP, aM, cB, fF, dY, bZ, cH, dB, cD, dT, bE, eI, bY, dF, bP, aZ, bX, aC, bV, bR, cI, bW, bA, aT, aU, bT, dS, cR, bO, aV, aJ, aL, bD, aH, dC, dV, aI, aN, aX, aF, cX, aE, cL, bU, bB, aO, cM, cJ, aA, dR, cP, cQ, cF, dK, cC, dJ, dU, cV, eF, eL, bN, aR, dZ, bS, aQ, bL, dE, dA, cU, cO, cS, bM, bK, cY, dD, cN, dQ, cZ, d1, d2, e1, e2, d3, e3, d4]
 .rw [if_neg hr] at hc
  have d3 : decide ((0 : Int) < (r : Int)) = false := by simp only [decide_eq_false_iff_not]; omega
  rw [hc]
  by_cases hb : 1024 < q
  .have d4 : decide ((1024 : Int) < (q : Int)) = true := by simp only [decide_eq_true_eq]; omega
   rw [if_pos hb]
   unfold oJ
   simp (disch := omega) only [eY, gM, dX, stepR_skip, fO, gD, fN, gC, gI, fW, gR, fX, eU, fU, fS, gH, fP, fL, fT, fR, fV, gE, gG, fQ, fC, fY, gB, fK, iO, iJ, iH, iL, iI, iM, iK, iG, iN, eP, Result.ok.injEq, Next.value.injEq, true_and, and_true, fJ, fI, fZ, fM, gA, gQ, ZI, fE, fH, fG, fD, eZ, eT, fB, eX, eQ, eH, if_true, if_false, ZF, ZL, ZG, ZH, ZK, ZJ, ZE, ZD, eA, dW, aB, dI, dH, cG, eB, eS, eC, dO, eD, fA, dL, eN, bQ, dG, bG, dN, aK, aG, eJ, aY, cA, eK, aD, eM, dM, aS, bJ, eE, bH, bF, bC, aP, aM, cB, fF, dY, bZ, cH, dB, cD, dT, bE, eI, bY, dF, bP, aZ, bX, aC, bV, bR, cI, bW, bA, aT, aU, bT, dS, cR, bO, aV, aJ, aL, bD, aH, dC, dV, aI, aN, aX, aF, cX, aE, cL, bU, bB, aO, cM, cJ, aA, dR, cP, cQ, cF, dK, cC, dJ, dU, cV, eF, eL, bN, aR, dZ, bS, aQ, bL, dE, dA, cU, cO, cS, bM, bK, cY, dD, cN, dQ, cZ, d1, d2, e1, e2, d3, d4]
  .have d4 : decide ((1024 : Int) < (q : Int)) = false := by simp only [decide_eq_false_iff_not]; omega
   rw [if_neg hb]
   unfold oJ
   simp (disch := omega) only [eY, gM, dX, stepR_skip, fO, gD, fN, gC, gI, fW, gR, fX, eU, fU, fS, gH, fP, fL, fT, fR, fV, gE, gG, fQ, fC, fY, gB, fK, iO, iJ, iH, iL, iI, iM, iK, iG, iN, eP, Result.ok.injEq, Next.value.injEq, true_and, and_true, fJ, fI, fZ, fM, gA, gQ, ZI, fE, fH, fG, fD, eZ, eT, fB, eX, eQ, eH, if_true, if_false, ZF, ZL, ZG, ZH, ZK, ZJ, ZE, ZD, eA, dW, aB, dI, dH, cG, eB, eS, eC, dO, eD, fA, dL, eN, bQ, dG, bG, dN, aK, aG, eJ, aY, cA, eK, aD, eM, dM, aS, bJ, eE, bH, bF, bC, aP, aM, cB, fF, dY, bZ, cH, dB, cD, dT, bE, eI, bY, dF, bP, aZ, bX, aC, bV, bR, cI, bW, bA, aT, aU, bT, dS, cR, bO, aV, aJ, aL, bD, aH, dC, dV, aI, aN, aX, aF, cX, aE, cL, bU, bB, aO, cM, cJ, aA, dR, cP, cQ, cF, dK, cC, dJ, dU, cV, eF, eL, bN, aR, dZ, bS, aQ, bL, dE, dA, cU, cO, cS, bM, bK, cY, dD, cN, dQ, cZ, d1, d2, e1, e2, d3, d4]
theorem Nl {L k i : Nat} {w : adH} (hL : L <= 1000000000000) (h1 : 1 <= k) (h2 : k <= 65536) (hn : nC L k <= 1024) (hi : i < nC L k) :
 gS pg pI #[.int .u64 (L : Nat), .int .i64 (k : Nat), .int .i64 (i : Nat)] w (fun r w' => r = .tuple #[.int .u64 ((k * i : Nat) : Int), .int .i64 (Jo L k i : Nat), .int .i64 0] /\ w' = w) := by
 refine MV ?_
 unfold Ob EK
 refine (PU hL h1 h2).mono ?_
 rintro r w1 ⟨rfl, hw⟩
 rw [hw]; clear hw w1
 rw [if_neg (by omega)]
 have n0 : ((0 : Int) != 0) = false := rfl
 have d1 : decide ((i : Int) < 0) = false := by simp
 have d2 : decide (((nC L k : Nat) : Int) <= (i : Int)) = false := by simp; omega
 have hlt := (A9 (L := L) (k := k) (i := i) (by omega)).1 hi
 have e1 : (k : Int) * (i : Int) = ((k * i : Nat) : Int) := by simp
 obtain ⟨q, hq⟩ : ∃ q, q = k * i := ⟨_, rfl⟩
 have e2 : (L : Int) - ((q : Nat) : Int) = ((L - q : Nat) : Int) := by omega
 have e3 : (if ((k : Nat) : Int) < ((L - q : Nat) : Int) then ((k : Nat) : Int) else ((L - q : Nat) : Int)) = ((Jo L k i : Nat) : Int) := by
  unfold Jo
  rw [<- hq]
  split <;> omega
 rw [<- hq] at e1 hlt ⊢
 simp (disch := omega) only [eY, gM, dX, stepR_skip, fO, gD, fN, gC, gI, fW, gR, fX, eU, fU, fS, gH, fP, fL, fT, fR, fV, gE, gG, fQ, fC, fY, gB, fK, iO, iJ, iH, iL, iI, iM, iK, iG, iN, eP, Result.ok.injEq, Next.value.injEq, true_and, and_true, fJ, fI, fZ, fM, gA, gQ, ZI, fE, fH, fG, fD, eZ, eT, fB, eX, eQ, eH, if_true, if_false, ZF, ZL, ZG, ZH, ZK, ZJ, ZE, ZD, eA, dW, aB, dI, dH, cG, eB, eS, eC, dO, eD, fA, dL, eN, bQ, dG, bG, dN, aK, aG, eJ, aY, cA, eK, aD, eM, dM, aS, bJ, eE, bH, bF, bC, aP, aM, cB, fF, dY, bZ, cH, dB, cD, dT, bE, eI, bY, dF, bP, aZ, bX, aC, bV, bR, cI, bW, bA, aT, aU, bT, dS, cR, bO, aV, aJ, aL, bD, aH, dC, dV, aI, aN, aX, aF, cX, aE, cL, bU, bB, aO, cM, cJ, aA, dR, cP, cQ, cF, dK, cC, dJ, dU, cV, eF, eL, bN, aR, dZ, bS, aQ, bL, dE, dA, cU, cO, cS, bM, bK, cY, dD, cN, dQ, cZ, n0, d1, d2, e1, e2, e3]
theorem QB {w : adH} {v : adI} {l : List Bool} (h : Sl w v (l.map Value.bool)) {i : Nat} (hi : i < l.length) : ∃ a o c, v = .slice (some ⟨a, o, none⟩) l.length c /\ w.cell? ⟨a, o + i, none⟩ = some (.bool (l.getD i false)) := by
 obtain ⟨a, n, c, rfl, hn, hc, hh⟩ := h
 rw [ZM] at hn
 obtain ⟨b, off, rfl, h2⟩ := hh (by omega)
 have := h2 i (by omega)
 rw [aaS, ZO hi] at this
 refine ⟨b, off, c, by rw [hn], ?_⟩
 rw [this, ZS, ZO hi] <;> rfl
theorem ON {l : List Bool} {i : Nat} (hi : i < l.length) : (l.take (i + 1)).contains false = ((l.take i).contains false || !(l.getD i false)) := by
 rw [aaZ hi, ZS, ZO hi]
 rw [List.contains_append]
 cases l[i] <;> simp
theorem OB {v : adI} {l : List Bool} {w : adH} (h : Sl w v (l.map Value.bool)) (hl : l.length <= 1000000000) :
 gS pg yE #[v] w (fun r w' => r = .bool (!l.contains false) /\ w' = w) := by
 refine NN ?_
 unfold Pw GH
 refine DR ?_
 unfold Bp qO
 refine Gq ?_
 unfold Eo tT uE tF tR uH tJ tV
 obtain ⟨va, vc, rfl, _⟩ := h.len
 rw [ZM] at h ⊢
 simp (disch := omega) only [eY, gM, dX, stepR_skip, fO, gD, fN, gC, gI, fW, gR, fX, eU, fU, fS, gH, fP, fL, fT, fR, fV, gE, gG, fQ, fC, fY, gB, fK, iO, iJ, iH, iL, iI, iM, iK, iG, iN, eP, Result.ok.injEq, Next.value.injEq, true_and, and_true, fJ, fI, fZ, fM, gA, gQ, ZI, fE, fH, fG, fD, eZ, eT, fB, eX, eQ, eH, if_true, if_false, ZF, ZL, ZG, ZH, ZK, ZJ, ZE, ZD, eA, dW, aB, dI, dH, cG, eB, eS, eC, dO, eD, fA, dL, eN, bQ, dG, bG, dN, aK, aG, eJ, aY, cA, eK, aD, eM, dM, aS, bJ, eE, bH, bF, bC, aP, aM, cB, fF, dY, bZ, cH, dB, cD, dT, bE, eI, bY, dF, bP, aZ, bX, aC, bV, bR, cI, bW, bA, aT, aU, bT, dS, cR, bO, aV, aJ, aL, bD, aH, dC, dV, aI, aN, aX, aF, cX, aE, cL, bU, bB, aO, cM, cJ, aA, dR, cP, cQ, cF, dK, cC, dJ, dU, cV, eF, eL, bN, aR, dZ, bS, aQ, bL, dE, dA, cU, cO, cS, bM, bK, cY, dD, cN, dQ, cZ]
 refine kF.rule (fun m (t : adI) w' => ∃ i : Nat, m = l.length - i /\ i <= l.length /\ t = .int .i64 (i : Nat) /\ (l.take i).contains false = false /\ w' = w) l.length ⟨0, rfl, by omega, rfl, rfl, rfl⟩ ?_
 rintro m t w' ⟨i, rfl, hi, rfl, hc, hw⟩
 rw [hw]; clear hw w'
 unfold pG
 by_cases hlt : i < l.length
 .have d1 : decide ((i : Int) < (l.length : Int)) = true := by simp; omega
  obtain ⟨a, o, c, hv, hcell⟩ := QB h hlt
  cases hv
  have ht := ON hlt
  rw [hc, acV] at ht
  cases hb : l.getD i false with
  | true =>
    rw [hb] at hcell ht
    have e : (false == true) = false := rfl
    simp (disch := omega) only [eY, gM, dX, stepR_skip, fO, gD, fN, gC, gI, fW, gR, fX, eU, fU, fS, gH, fP, fL, fT, fR, fV, gE, gG, fQ, fC, fY, gB, fK, iO, iJ, iH, iL, iI, iM, iK, iG, iN, eP, Result.ok.injEq, Next.value.injEq, true_and, and_true, fJ, fI, fZ, fM, gA, gQ, ZI, fE, fH, fG, fD, eZ, eT, fB, eX, eQ, eH, if_true, if_false, ZF, ZL, ZG, ZH, ZK, ZJ, ZE, ZD, eA, dW, aB, dI, dH, cG, eB, eS, eC, dO, eD, fA, dL, eN, bQ, dG, bG, dN, aK, aG, eJ, aY, cA, eK, aD, eM, dM, aS, bJ, eE, bH, bF, bC, aP, aM, cB, fF, dY, bZ, cH, dB, cD, dT, bE, eI, bY, dF, bP, aZ, bX, aC, bV, bR, cI, bW, bA, aT, aU, bT, dS, cR, bO, aV, aJ, aL, bD, aH, dC, dV, aI, aN, aX, aF, cX, aE, cL, bU, bB, aO, cM, cJ, aA, dR, cP, cQ, cF, dK, cC, dJ, dU, cV, eF, eL, bN, aR, dZ, bS, aQ, bL, dE, dA, cU, cO, cS, bM, bK, cY, dD, cN, dQ, cZ, d1, hcell, e]
    exact ⟨l.length - (i + 1), by omega, i + 1, rfl, by omega, rfl, ht⟩
  | false =>
    rw [hb] at hcell ht
    have e : (false == false) = true := rfl
    have d2 : decide ((0 : Int) <= (i : Int)) = true := by simp
    have hall : l.contains false = true := by
     have hm : false ∈ l.take (i + 1) := by simpa using ht
     simpa using adC hm
    rw [hall]
    simp (disch := omega) only [eY, gM, dX, stepR_skip, fO, gD, fN, gC, gI, fW, gR, fX, eU, fU, fS, gH, fP, fL, fT, fR, fV, gE, gG, fQ, fC, fY, gB, fK, iO, iJ, iH, iL, iI, iM, iK, iG, iN, eP, Result.ok.injEq, Next.value.injEq, true_and, and_true, fJ, fI, fZ, fM, gA, gQ, ZI, fE, fH, fG, fD, eZ, eT, fB, eX, eQ, eH, if_true, if_false, ZF, ZL, ZG, ZH, ZK, ZJ, ZE, ZD, eA, dW, aB, dI, dH, cG, eB, eS, eC, dO, eD, fA, dL, eN, bQ, dG, bG, dN, aK, aG, eJ, aY, cA, eK, aD, eM, dM, aS, bJ, eE, bH, bF, bC, aP, aM, cB, fF, dY, bZ, cH, dB, cD, dT, bE, eI, bY, dF, bP, aZ, bX, aC, bV, bR, cI, bW, bA, aT, aU, bT, dS, cR, bO, aV, aJ, aL, bD, aH, dC, dV, aI, aN, aX, aF, cX, aE, cL, bU, bB, aO, cM, cJ, aA, dR, cP, cQ, cF, dK, cC, dJ, dU, cV, eF, eL, bN, aR, dZ, bS, aQ, bL, dE, dA, cU, cO, cS, bM, bK, cY, dD, cN, dQ, cZ, d1, hcell, e, d2]
 .have d1 : decide ((i : Int) < (l.length : Int)) = false := by simp; omega
  rw [ZQ (by omega)] at hc
  rw [hc]
  unfold pF
  have d2 : decide ((0 : Int) <= -1) = false := rfl
  simp (disch := omega) only [eY, gM, dX, stepR_skip, fO, gD, fN, gC, gI, fW, gR, fX, eU, fU, fS, gH, fP, fL, fT, fR, fV, gE, gG, fQ, fC, fY, gB, fK, iO, iJ, iH, iL, iI, iM, iK, iG, iN, eP, Result.ok.injEq, Next.value.injEq, true_and, and_true, fJ, fI, fZ, fM, gA, gQ, ZI, fE, fH, fG, fD, eZ, eT, fB, eX, eQ, eH, if_true, if_false, ZF, ZL, ZG, ZH, ZK, ZJ, ZE, ZD, eA, dW, aB, dI, dH, cG, eB, eS, eC, dO, eD, fA, dL, eN, bQ, dG, bG, dN, aK, aG, eJ, aY, cA, eK, aD, eM, dM, aS, bJ, eE, bH, bF, bC, aP, aM, cB, fF, dY, bZ, cH, dB, cD, dT, bE, eI, bY, dF, bP, aZ, bX, aC, bV, bR, cI, bW, bA, aT, aU, bT, dS, cR, bO, aV, aJ, aL, bD, aH, dC, dV, aI, aN, aX, aF, cX, aE, cL, bU, bB, aO, cM, cJ, aA, dR, cP, cQ, cF, dK, cC, dJ, dU, cV, eF, eL, bN, aR, dZ, bS, aQ, bL, dE, dA, cU, cO, cS, bM, bK, cY, dD, cN, dQ, cZ, d1, d2]
theorem Ul {v u : adI} {l m : List UInt8} {w : adH} (h : Bs w v l) (hu : Bs w u m) (hl : l.length <= 1000000000) (hm : m.length <= 1000000000) :
 gS pg pY #[v, u] w (fun r w' => r = .bool (l == m) /\ gT w w' jI) := by
 refine GD ?_
 obtain ⟨RR, hRR⟩ : ∃ RR : adI -> adH -> Prop, RR = fun r w' => r = .bool (l == m) /\ gT w w' jI := ⟨_, rfl⟩
 rw [<- hRR]
 unfold D7 tH tW
 obtain ⟨va, vc, rfl, _⟩ := h.len
 obtain ⟨ua, uc, rfl, _⟩ := hu.len
 rw [ZM] at h ⊢
 rw [ZM] at hu ⊢
 by_cases hne : l.length = m.length
 rotate_left
 .have d1 : (((l.length : Nat) : Int) != ((m.length : Nat) : Int)) = true := by rw [bne_iff_ne]; omega
  have e : (l == m) = false := beq_eq_false_iff_ne.2 fun e => hne (by rw [e])
  simp (disch := omega) only [eY, gM, dX, stepR_skip, fO, gD, fN, gC, gI, fW, gR, fX, eU, fU, fS, gH, fP, fL, fT, fR, fV, gE, gG, fQ, fC, fY, gB, fK, iO, iJ, iH, iL, iI, iM, iK, iG, iN, eP, Result.ok.injEq, Next.value.injEq, true_and, and_true, fJ, fI, fZ, fM, gA, gQ, ZI, fE, fH, fG, fD, eZ, eT, fB, eX, eQ, eH, if_true, if_false, ZF, ZL, ZG, ZH, ZK, ZJ, ZE, ZD, eA, dW, aB, dI, dH, cG, eB, eS, eC, dO, eD, fA, dL, eN, bQ, dG, bG, dN, aK, aG, eJ, aY, cA, eK, aD, eM, dM, aS, bJ, eE, bH, bF, bC, aP, aM, cB, fF, dY, bZ, cH, dB, cD, dT, bE, eI, bY, dF, bP, aZ, bX, aC, bV, bR, cI, bW, bA, aT, aU, bT, dS, cR, bO, aV, aJ, aL, bD, aH, dC, dV, aI, aN, aX, aF, cX, aE, cL, bU, bB, aO, cM, cJ, aA, dR, cP, cQ, cF, dK, cC, dJ, dU, cV, eF, eL, bN, aR, dZ, bS, aQ, bL, dE, dA, cU, cO, cS, bM, bK, cY, dD, cN, dQ, cZ, d1]
  rw [hRR]
  exact ⟨by rw [e], gT.refl _ _⟩
 have d1 : (((l.length : Nat) : Int) != ((m.length : Nat) : Int)) = false := by rw [bne_eq_false_iff_eq]; omega
 simp (disch := omega) only [eY, gM, dX, stepR_skip, fO, gD, fN, gC, gI, fW, gR, fX, eU, fU, fS, gH, fP, fL, fT, fR, fV, gE, gG, fQ, fC, fY, gB, fK, iO, iJ, iH, iL, iI, iM, iK, iG, iN, eP, Result.ok.injEq, Next.value.injEq, true_and, and_true, fJ, fI, fZ, fM, gA, gQ, ZI, fE, fH, fG, fD, eZ, eT, fB, eX, eQ, eH, if_true, if_false, ZF, ZL, ZG, ZH, ZK, ZJ, ZE, ZD, eA, dW, aB, dI, dH, cG, eB, eS, eC, dO, eD, fA, dL, eN, bQ, dG, bG, dN, aK, aG, eJ, aY, cA, eK, aD, eM, dM, aS, bJ, eE, bH, bF, bC, aP, aM, cB, fF, dY, bZ, cH, dB, cD, dT, bE, eI, bY, dF, bP, aZ, bX, aC, bV, bR, cI, bW, bA, aT, aU, bT, dS, cR, bO, aV, aJ, aL, bD, aH, dC, dV, aI, aN, aX, aF, cX, aE, cL, bU, bB, aO, cM, cJ, aA, dR, cP, cQ, cF, dK, cC, dJ, dU, cV, eF, eL, bN, aR, dZ, bS, aQ, bL, dE, dA, cU, cO, cS, bM, bK, cY, dD, cN, dQ, cZ, d1]
 unfold tG tZ tY tL uA
 simp (disch := omega) only [eY, gM, dX, stepR_skip, fO, gD, fN, gC, gI, fW, gR, fX, eU, fU, fS, gH, fP, fL, fT, fR, fV, gE, gG, fQ, fC, fY, gB, fK, iO, iJ, iH, iL, iI, iM, iK, iG, iN, eP, Result.ok.injEq, Next.value.injEq, true_and, and_true, fJ, fI, fZ, fM, gA, gQ, ZI, fE, fH, fG, fD, eZ, eT, fB, eX, eQ, eH, if_true, if_false, ZF, ZL, ZG, ZH, ZK, ZJ, ZE, ZD, eA, dW, aB, dI, dH, cG, eB, eS, eC, dO, eD, fA, dL, eN, bQ, dG, bG, dN, aK, aG, eJ, aY, cA, eK, aD, eM, dM, aS, bJ, eE, bH, bF, bC, aP, aM, cB, fF, dY, bZ, cH, dB, cD, dT, bE, eI, bY, dF, bP, aZ, bX, aC, bV, bR, cI, bW, bA, aT, aU, bT, dS, cR, bO, aV, aJ, aL, bD, aH, dC, dV, aI, aN, aX, aF, cX, aE, cL, bU, bB, aO, cM, cJ, aA, dR, cP, cQ, cF, dK, cC, dJ, dU, cV, eF, eL, bN, aR, dZ, bS, aQ, bL, dE, dA, cU, cO, cS, bM, bK, cY, dD, cN, dQ, cZ]
 refine kF.rule (fun n (t : adI) w' => ∃ i : Nat, n = l.length - i /\ i <= l.length /\ t = .int .i64 (i : Nat) /\ l.take i = m.take i /\ gT w w' jI) l.length ⟨0, rfl, by omega, rfl, rfl, gT.refl _ _⟩ ?_
 rintro n t w' ⟨i, rfl, hi, rfl, hc, x'⟩
 unfold pO
 by_cases hlt : i < l.length
 .have d2 : decide ((i : Int) < (l.length : Int)) = true := by simp; omega
  have xd : gT w (dr w') jI := x'.seq (gT.dr _ _)
  have cell : ∀ {w' : adH}, gT w w' jI -> ∃ b off b' off', va = some ⟨b, off, none⟩ /\ ua = some ⟨b', off', none⟩ /\ w'.cell? ⟨b, off + i, none⟩ = some (.int .u8 ((l[i]'hlt).toNat : Nat)) /\ w'.cell? ⟨b', off' + i, none⟩ = some (.int .u8 ((m[i]'(by omega)).toNat : Nat)) := fun {w'} x => by
   obtain ⟨b, off, c', hv, hc', hcell⟩ := (h.ext x (jA _)).openV (by rw [ZM]; omega)
   obtain ⟨b', off', c'', hv', hc'', hcell'⟩ := (hu.ext x (jA _)).openV (by rw [ZM]; omega)
   have g1 := hcell i (by rw [ZM]; exact hlt)
   have g2 := hcell' i (by rw [ZM]; omega)
   rw [acX] at g1 g2
   rw [ZM] at hv hv'
   cases hv
   cases hv'
   exact ⟨_, _, _, _, rfl, rfl, g1, g2⟩
  obtain ⟨b, off, b', off', rfl, rfl, g1, g2⟩ := cell x'
  obtain ⟨_, _, _, _, e1, e2, g1', g2'⟩ := cell xd
  cases e1
  cases e2
  by_cases hq : l[i]'hlt = m[i]'(by omega)
  .have d3 : ((((l[i]'hlt).toNat : Nat) : Int) != (((m[i]'(by omega)).toNat : Nat) : Int)) = false := by rw [hq]; simp
   simp (disch := omega) only [eY, gM, dX, stepR_skip, fO, gD, fN, gC, gI, fW, gR, fX, eU, fU, fS, gH, fP, fL, fT, fR, fV, gE, gG, fQ, fC, fY, gB, fK, iO, iJ, iH, iL, iI, iM, iK, iG, iN, eP, Result.ok.injEq, Next.value.injEq, true_and, and_true, fJ, fI, fZ, fM, gA, gQ, ZI, fE, fH, fG, fD, eZ, eT, fB, eX, eQ, eH, if_true, if_false, ZF, ZL, ZG, ZH, ZK, ZJ, ZE, ZD, eA, dW, aB, dI, dH, cG, eB, eS, eC, dO, eD, fA, dL, eN, bQ, dG, bG, dN, aK, aG, eJ, aY, cA, eK, aD, eM, dM, aS, bJ, eE, bH, bF, bC, aP, aM, cB, fF, dY, bZ, cH, dB, cD, dT, bE, eI, bY, dF, bP, aZ, bX, aC, bV, bR, cI, bW, bA, aT, aU, bT, dS, cR, bO, aV, aJ, aL, bD, aH, dC, dV, aI, aN, aX, aF, cX, aE, cL, bU, bB, aO, cM, cJ, aA, dR, cP, cQ, cF, dK, cC, dJ, dU, cV, eF, eL, bN, aR, dZ, bS, aQ, bL, dE, dA, cU, cO, cS, bM, bK, cY, dD, cN, dQ, cZ, d2, g1, g2, g1', g2', d3]
   refine ⟨l.length - (i + 1), by omega, i + 1, rfl, by omega, rfl, ?_, xd⟩
   rw [aaZ hlt, aaZ (by omega), hc, hq]
  .have d3 : ((((l[i]'hlt).toNat : Nat) : Int) != (((m[i]'(by omega)).toNat : Nat) : Int)) = true := by
    rw [bne_iff_ne]
    intro he
    exact hq (UInt8.toNat_inj.1 (by exact_mod_cast he))
   have e : (l == m) = false := beq_eq_false_iff_ne.2 fun e => hq (by subst e; rfl)
   simp (disch := omega) only [eY, gM, dX, stepR_skip, fO, gD, fN, gC, gI, fW, gR, fX, eU, fU, fS, gH, fP, fL, fT, fR, fV, gE, gG, fQ, fC, fY, gB, fK, iO, iJ, iH, iL, iI, iM, iK, iG, iN, eP, Result.ok.injEq, Next.value.injEq, true_and, and_true, fJ, fI, fZ, fM, gA, gQ, ZI, fE, fH, fG, fD, eZ, eT, fB, eX, eQ, eH, if_true, if_false, ZF, ZL, ZG, ZH, ZK, ZJ, ZE, ZD, eA, dW, aB, dI, dH, cG, eB, eS, eC, dO, eD, fA, dL, eN, bQ, dG, bG, dN, aK, aG, eJ, aY, cA, eK, aD, eM, dM, aS, bJ, eE, bH, bF, bC, aP, aM, cB, fF, dY, bZ, cH, dB, cD, dT, bE, eI, bY, dF, bP, aZ, bX, aC, bV, bR, cI, bW, bA, aT, aU, bT, dS, cR, bO, aV, aJ, aL, bD, aH, dC, dV, aI, aN, aX, aF, cX, aE, cL, bU, bB, aO, cM, cJ, aA, dR, cP, cQ, cF, dK, cC, dJ, dU, cV, eF, eL, bN, aR, dZ, bS, aQ, bL, dE, dA, cU, cO, cS, bM, bK, cY, dD, cN, dQ, cZ, d2, g1, g2, g1', g2', d3]
   rw [hRR]
   exact ⟨by rw [e], xd⟩
 .have d2 : decide ((i : Int) < (l.length : Int)) = false := by simp; omega
  rw [ZQ (by omega), ZQ (by omega)] at hc
  unfold pL
  simp (disch := omega) only [eY, gM, dX, stepR_skip, fO, gD, fN, gC, gI, fW, gR, fX, eU, fU, fS, gH, fP, fL, fT, fR, fV, gE, gG, fQ, fC, fY, gB, fK, iO, iJ, iH, iL, iI, iM, iK, iG, iN, eP, Result.ok.injEq, Next.value.injEq, true_and, and_true, fJ, fI, fZ, fM, gA, gQ, ZI, fE, fH, fG, fD, eZ, eT, fB, eX, eQ, eH, if_true, if_false, ZF, ZL, ZG, ZH, ZK, ZJ, ZE, ZD, eA, dW, aB, dI, dH, cG, eB, eS, eC, dO, eD, fA, dL, eN, bQ, dG, bG, dN, aK, aG, eJ, aY, cA, eK, aD, eM, dM, aS, bJ, eE, bH, bF, bC, aP, aM, cB, fF, dY, bZ, cH, dB, cD, dT, bE, eI, bY, dF, bP, aZ, bX, aC, bV, bR, cI, bW, bA, aT, aU, bT, dS, cR, bO, aV, aJ, aL, bD, aH, dC, dV, aI, aN, aX, aF, cX, aE, cL, bU, bB, aO, cM, cJ, aA, dR, cP, cQ, cF, dK, cC, dJ, dU, cV, eF, eL, bN, aR, dZ, bS, aQ, bL, dE, dA, cU, cO, cS, bM, bK, cY, dD, cN, dQ, cZ, d2]
  rw [hRR]
  exact ⟨by rw [hc]; simp, x'⟩
end Go.Proofs.YteelnmpbnaohpaaDoor
namespace Go.En
open Go
section
variable {P : Program} {w : adH} {t e : TypeId}
theorem IY {i : TypeInfo} (hu : P.underlying t = some (.slice e)) (hi : P.info? e = some i)
 {K : adI -> adH -> Prop} (hk : ∀ w', jF w' w.heap.size [] -> gT w w' jI -> w'.heap.size = w.heap.size + 1 -> K (.slice (some ⟨w.heap.size, 0, none⟩) 0 0) w') :
 eY P (iC t 0 []) w K := by
 have : (iC t 0 []).run P w = .ok (.value (.slice (some ⟨w.heap.size, 0, none⟩) 0 0)) (w.alloc (.cells ([] : List adI).toArray e)) := by
  unfold iC; rw [mY]
  have h1 : ¬ (0 > 2 ^ 24) := by omega
  have e : ∀ f : Nat -> adI, Array.map f (Array.range 0) = #[] := fun f => by simp
  simp only [Instr.buildSlice, underlying, pure_bind, Sem.run_bind, run_program, Result.andThen_ok, hu, Sem.run_pure, kA hi, Nat.zero_mul, h1, if_false, if_true, newRow, run_newObj, Instr.fill, e]
  rfl
 unfold eY
 rw [this]
 exact hk _ (jF.alloc _ _ _) (gT.alloc _ _ _) (by simp)
def At (v : adI) (b : Nat) : Prop := ∀ M : Nat -> Prop, ¬ M b -> ¬ vM v M
theorem At.nil (c b : Nat) (a : Option Addr) : At (.slice a 0 c) b := fun M h => by unfold vM; split <;> simp_all
theorem At.at (b o n c : Nat) : At (.slice (some ⟨b, o, none⟩) n c) b := fun M h => by
 unfold vM; split
 .rename_i x m _ e
  obtain ⟨rfl, _⟩ : (⟨b, o, none⟩ : Addr) = x /\ _ := by simpa using e
  exact h
 .simp
theorem yK.at' {w : adH} {base sz n : Nat} {v : adI} {l : List adI} (h : yK w base sz v n l) (hb : base < w.heap.size) : ∃ b, base <= b /\ b < w.heap.size /\ At v b := by
 rcases h.2 with ⟨rfl, rfl⟩ | ⟨b, c, rest, rfl, h2, h3, h4, h5⟩
 .exact ⟨base, ZU _, hb, At.nil _ _ _⟩
 .exact ⟨b, h2, h3.lt, At.at _ _ _ _⟩
end
end Go.En
namespace Go.Proofs.YteelnmpbnaohpaaDoor
open Go Go.En Go.Pu
set_option maxRecDepth 4000
theorem VA (a b : Nat) : ((a : Int)).fdiv (b : Int) = ((a / b : Nat) : Int) := by rw [Int.fdiv_eq_ediv_of_nonneg _ (by omega)] <;> rfl
theorem WK (x j : Nat) (hj : j <= 64) : ((x : Int)).fdiv (2 ^ (min (j : Nat) IntKind.u64.bits)) = ((x / 2 ^ j : Nat) : Int) := by
 have e : min j IntKind.u64.bits = j := by simp only [IntKind.bits]; omega
 rw [e, <- VA]; simp
theorem M5 {v : adI} {l : List UInt8} {w : adH} (h : Bs w v l) (hl : l.length <= 1000000000) :
 gS pg kR #[v] w (fun r w' => yK w' w.heap.size 1 r l.length (l.map oZ) /\ gT w w' jI) := by
 refine DU ?_
 have h1 := h
 obtain ⟨a, n, c, rfl, hn, hc, hh⟩ := h
 rw [ZM] at hn
 unfold Bi qG
 cases a with
 | none =>
   have h0 : l = [] := by
    cases l with
    | nil => rfl
    | cons x l => obtain ⟨b, off, h, _⟩ := hh (by simp at hn; omega); cases h
   subst h0
   simp (disch := omega) only [eY, dC, ZH, dX, eQ]
   exact ⟨yK.nil _ _ _, gT.refl _ _⟩
 | some x =>
   simp (disch := omega) only [eY, dC, ZG, dX, eH]
   refine IY Tryd.underlying22 Ie fun w1 o1 x1 s1 => ?_
   have hcl1 := (h1.ext x1 (jA _)).cl
   rw [ZM] at hcl1
   have hos : yK w1 w.heap.size 1 (.slice (some ⟨w.heap.size, 0, none⟩) 0 0) 0 [] := ⟨rfl, .inr ⟨_, 0, [], rfl, ZU _, o1, rfl, ZU _⟩⟩
   refine BE hos hcl1 (EU _) x1.size (by omega) fun v3 w3 o3 x3 => ?_
   rw [ZL, Z2] at o3
   exact ⟨o3, x1.trans x3 fun b hb h => Nat.not_le_of_lt hb h⟩
def X9 (v : adI) (lo hi : Nat) : Prop := ∀ M : Nat -> Prop, (∀ b, lo <= b -> b < hi -> ¬ M b) -> ¬ vM v M
theorem yK.atI {w : adH} {base sz n : Nat} {v : adI} {l : List adI} (h : yK w base sz v n l) : X9 v base w.heap.size := by
 intro M hM
 rcases h.2 with ⟨rfl, rfl⟩ | ⟨b, c, rest, rfl, h2, h3, h4, h5⟩
 .exact fun h => h
 .exact At.at b 0 n c M (hM b h2 h3.lt)
def Za (w : adH) (lo hi : Nat) (l : List UInt8) (st : Nat) : Prop := ∃ v, jF w hi [v, .int .i64 st] /\ Bs w v l /\ X9 v lo hi
theorem Za.ext {w w' : adH} {lo hi st : Nat} {l : List UInt8} {M : Nat -> Prop} (h : Za w lo hi l st) (hx : gT w w' M) (hM : ∀ b, lo <= b -> b <= hi -> ¬ M b) (hlh : lo <= hi) : Za w' lo hi l st := by
 obtain ⟨v, h1, h2, h3⟩ := h
 exact ⟨v, h1.ext hx (hM _ hlh (ZU _)), h2.ext hx (h3 M fun b hb hh => hM b hb (by omega)), h3⟩
theorem X9.sub {a : Option Addr} {n c m c' k sz lo hi : Nat} (h : X9 (.slice a n c) lo hi) (hm : m <= n) : X9 (.slice (jO a c k sz) m c') lo hi := by
 intro M hM hin
 cases m with
 | zero => unfold vM at hin; split at hin <;> simp_all
 | succ m =>
   obtain ⟨n', rfl⟩ : ∃ n', n = n' + 1 := ⟨n - 1, by omega⟩
   have h1 := h M hM
   cases a with
   | none => unfold jO at hin; split at hin <;> exact hin
   | some x =>
     unfold jO at hin
     have h2 : M x.block := by
      split at hin
      .exact hin
      .rw [aaJ] at hin
       have e : (x.add (k * sz)).block = x.block := by unfold Addr.add; split <;> rfl
       have h3 : M (x.add (k * sz)).block := hin
       rwa [e] at h3
     exact h1 h2
def TQ (v : adI) (S : Nat -> Prop) : Prop := ∀ M : Nat -> Prop, (∀ b, S b -> ¬ M b) -> ¬ vM v M
theorem X9.toS {v : adI} {lo hi : Nat} {S : Nat -> Prop} (h : X9 v lo hi) (hS : ∀ b, lo <= b -> b < hi -> S b) : TQ v S := fun M hM => h M fun b h1 h2 => hM b (hS b h1 h2)
theorem TQ.mono {v : adI} {S T : Nat -> Prop} (h : TQ v S) (hT : ∀ b, S b -> T b) : TQ v T := fun M hM => h M fun b hb => hM b (hT b hb)
theorem TQ.nil (S : Nat -> Prop) : TQ (.slice none 0 0) S := fun M _ h => h
theorem TQ.sub {a : Option Addr} {n c m c' k mx sz : Nat} {S : Nat -> Prop} (h : TQ (.slice a n c) S) (hm : m <= n) : TQ (.slice (jO a mx k sz) m c') S := by
 intro M hM hin
 cases m with
 | zero => unfold vM at hin; split at hin <;> simp_all
 | succ m =>
   obtain ⟨n', rfl⟩ : ∃ n', n = n' + 1 := ⟨n - 1, by omega⟩
   have h1 := h M hM
   cases a with
   | none => unfold jO at hin; split at hin <;> exact hin
   | some x =>
     unfold jO at hin
     have h2 : M x.block := by
      split at hin
      .exact hin
      .rw [aaJ] at hin
       have e : (x.add (k * sz)).block = x.block := by unfold Addr.add; split <;> rfl
       have h3 : M (x.add (k * sz)).block := hin
       rwa [e] at h3
     exact h1 h2
theorem YD {w : adH} {a : Option Addr} {n c : Nat} {l : List adI} (h : Sl w (.slice a n c) l) {k : Nat} (hk : k <= n) : Sl w (.slice (jO a k 0 1) (k - 0) (k - 0)) (l.take k) := by
 obtain ⟨a', n', c', e, hn, hc, h⟩ := h
 cases e
 refine ⟨_, _, _, rfl, by rw [ZY]; omega, ZU _, fun h0 => ?_⟩
 obtain ⟨b, off, rfl, h2⟩ := h (by omega)
 have hs : jO (some ⟨b, off, none⟩) k 0 1 = some ⟨b, off + 0 * 1, none⟩ := by unfold jO; rw [if_neg (by omega)] <;> rfl
 refine ⟨b, off, by rw [hs]; simp, fun i hi => ?_⟩
 rw [abD (by omega)]
 exact h2 i (by omega)
def TE (w : adH) (lo hi p : Nat) (l : List UInt8) (e : Int) : Prop := lo <= p /\ p < hi /\ ∃ v, jF w p [v, .int .i64 e] /\ Bs w v l /\ TQ v (fun b => lo <= b /\ b < hi /\ b ≠ p)
theorem TE.ext {w w' : adH} {lo hi p : Nat} {l : List UInt8} {e : Int} {M : Nat -> Prop} (h : TE w lo hi p l e) (x : gT w w' M) (hM : ∀ b, lo <= b -> b < hi -> ¬ M b) : TE w' lo hi p l e := by
 obtain ⟨h0, h0', v, h1, h2, h3⟩ := h
 exact ⟨h0, h0', v, h1.ext x (hM _ h0 h0'), h2.ext x (h3 M fun b hb => hM b hb.1 hb.2.1), h3⟩
theorem TE.lt {w : adH} {lo hi p : Nat} {l : List UInt8} {e : Int} (h : TE w lo hi p l e) : p < w.heap.size := by
 obtain ⟨_, _, v, h1, _⟩ := h; exact h1.lt
theorem TE.up {w : adH} {lo hi hi' p : Nat} {l : List UInt8} {e : Int} (h : TE w lo hi p l e) (hh : hi <= hi') : TE w lo hi' p l e := by
 obtain ⟨h0, h0', v, h1, h2, h3⟩ := h
 exact ⟨h0, by omega, v, h1, h2, h3.mono fun b hb => ⟨hb.1, by omega, hb.2.2⟩⟩
theorem QW {v : adI} {l : List UInt8} {w : adH} (h : Bs w v l) (hl : l.length <= 1000000000) :
 gS pg qZ #[v] w (fun r w' => ∃ p, r = .pointer (some ⟨p, 0, none⟩) /\ TE w' w.heap.size w'.heap.size p l 0 /\ gT w w' jI) := by
 refine HA ?_
 unfold FC vG
 refine (M5 h hl).mono ?_
 rintro r w1 ⟨ho, x1⟩
 have hat := yK.atI ho
 have hs := ho.sl
 obtain ⟨va, vc, rfl⟩ := ho.len
 simp (disch := omega) only [eY, bN, dX]
 refine oA fun w2 o2 x2 s2 => ?_
 have o2 : jF w2 w1.heap.size [.slice va l.length vc, .int .i64 0] := o2
 have hz := o2.lt
 exact ⟨w1.heap.size, rfl, ⟨x1.size, hz, _, o2, hs.ext x2 (jA _), hat.toS fun b h1 h2 => ⟨h1, by omega, by omega⟩⟩, x1.seq x2⟩
def Qq (l : List UInt8) (e : Int) (n : Nat) : List UInt8 × List UInt8 × Int := if e ≠ 0 then ([], l, e) else if l.length < n then ([], l, 10) else (l.take n, l.drop n, 0)
theorem VX {lo hi p n : Nat} {l : List UInt8} {e : Int} {w : adH} (h : TE w lo hi p l e) (hl : l.length <= 1000000000) (hn : n <= 1000000000) :
 gS pg pP #[.pointer (some ⟨p, 0, none⟩), .int .i64 n, .bool true] w (fun r w' => Bs w' r (Qq l e n).1 /\ TQ r (fun b => lo <= b /\ b < hi /\ b ≠ p) /\ TE w' lo hi p (Qq l e n).2.1 (Qq l e n).2.2 /\ gT w w' (fun y => y = p)) := by
 refine FY ?_
 unfold DL sI
 have h' := h
 obtain ⟨h0, h0', v, o, hb, hat⟩ := h'
 obtain ⟨va, vc, rfl, hvc⟩ := hb.len
 rw [ZM] at hb hat o hvc
 have c0 := o.cell (off := 0)
 have c1 := o.cell (off := 1)
 simp only [ZD, ZE] at c0 c1
 by_cases he : e = 0
 rotate_left
 .have n1 : (e != 0) = true := by simpa using he
  have ht : Qq l e n = ([], l, e) := by unfold Qq; rw [if_pos he]
  rw [ht]
  simp (disch := omega) only [eY, fK, fQ, ZK, dX, bM, ZL, bK, dY, eH, dT, c1, eP, fP, n1, eQ]
  exact ⟨Sl.nil _, TQ.nil _, h, gT.refl _ _⟩
 subst he
 have n1 : ((0 : Int) != 0) = false := rfl
 by_cases hsh : l.length < n
 .have d1 : decide ((l.length : Int) < (n : Int)) = true := by simp; omega
  have ht : Qq l 0 n = ([], l, 10) := by unfold Qq; rw [if_neg (by decide), if_pos hsh]
  rw [ht]
  simp (disch := omega) only [eY, fK, fQ, ZK, dX, bM, ZL, bK, dY, eH, dT, c1, eP, fP, n1, c0, eA, fR, d1, eQ]
  refine Co o rfl (by simp) fun w1 o1 x1 s1 => ?_
  simp only [Z0, aaI] at o1
  exact ⟨Sl.nil _, TQ.nil _, ⟨h0, h0', _, o1, hb.ext x1 (hat _ fun b hb => hb.2.2), hat⟩, x1⟩
 .have d1 : decide ((l.length : Int) < (n : Int)) = false := by simp; omega
  have ht : Qq l 0 n = (l.take n, l.drop n, 0) := by unfold Qq; rw [if_neg (by decide), if_neg hsh]
  rw [ht]
  simp (disch := omega) only [eY, fK, fQ, ZK, dX, bM, ZL, bK, dY, eH, dT, c1, eP, fP, n1, c0, eA, fR, d1, cY, ZI, cX]
  refine Mv o rfl (by simp [one]) fun w1 o1 x1 s1 => ?_
  simp only [Z0, aaI] at o1
  have hbn : Bs w (.slice (jO va n 0 1) (n - 0) (n - 0)) (l.take n) := by
   have := YD hb (k := n) (by omega)
   rwa [<- acJ] at this
  have hbd : Bs w (.slice (jO va vc n 1) (l.length - n) (vc - n)) (l.drop n) := by
   have := hb.drop' (k := n) (by omega)
   rwa [<- abW] at this
  have hn1 := hat.sub (mx := n) (k := 0) (sz := 1) (m := n - 0) (c' := n - 0) (by omega)
  have hn2 := hat.sub (mx := vc) (k := n) (sz := 1) (m := l.length - n) (c' := vc - n) (by omega)
  exact ⟨hbn.ext x1 (hn1 _ fun b hb => hb.2.2), hn1, ⟨h0, h0', _, o1, hbd.ext x1 (hn2 _ fun b hb => hb.2.2), hn2⟩, x1⟩
theorem NH {lo hi p n : Nat} {l : List UInt8} {e : Int} {w : adH} (h : TE w lo hi p l e) (hl : l.length <= 1000000000) (hn : 1 <= n /\ n <= 8) :
 gS pg mD #[.pointer (some ⟨p, 0, none⟩), .int .i64 n] w (fun r w' => r = .int .u64 (EH (Qq l e n).1 : Nat) /\ TE w' lo hi p (Qq l e n).2.1 (Qq l e n).2.2 /\ gT w w' (fun y => y = p)) := by
 refine DV ?_
 unfold Be qP qX qJ qT qK
 have d1 : decide ((1 : Int) <= (n : Int)) = true := by simp; omega
 have d2 : decide ((n : Int) <= 8) = true := by simp; omega
 simp (disch := omega) only [eY, aR, ZG, fV, d1, dX, fE, fC, if_true, eZ, fT, d2, eH]
 refine (VX h hl (by omega)).mono ?_
 rintro r w1 ⟨hb, hat, hr, x1⟩
 obtain ⟨t, ht⟩ : ∃ t, t = (Qq l e n).1 := ⟨_, rfl⟩
 have htl : t.length <= 8 := by
  rw [ht]; unfold Qq
  split
  .simp
  .split
   .simp
   .simp; omega
 rw [<- ht] at hb ⊢
 obtain ⟨va, vc, rfl, hvc⟩ := hb.len
 rw [ZM] at hb hvc hat
 simp (disch := omega) only [ZM, eA, dX]
 unfold qW qS
 refine kF.rule (fun m s w' => ∃ i : Nat, m = t.length - i /\ i <= t.length /\ s = (.int .u64 (EH (t.take i) : Nat), .int .i64 i) /\ w' = w1) t.length ⟨0, rfl, by omega, rfl, rfl⟩ ?_
 rintro m s w2 ⟨i, rfl, hi, rfl, hw⟩
 rw [hw]; clear hw w2
 unfold nL
 by_cases hlt : i < t.length
 .have d3 : decide ((i : Int) < (t.length : Int)) = true := by simp; omega
  obtain ⟨c, hc⟩ : ∃ c, c = t[i]'hlt := ⟨_, rfl⟩
  have htk : t.take (i + 1) = t.take i ++ [c] := by rw [acR, ZO hlt, <- hc] <;> rfl
  have hor := Wq (t.take i) c
  rw [<- htk, ZY, aaD (by omega)] at hor
  have hcl : c.toNat < 256 := UInt8.toNat_lt c
  obtain ⟨b, off, c', hv, hcc, hcell⟩ := hb.openV (by rw [ZM]; omega)
  have g1 := hcell i (by rw [ZM]; exact hlt)
  rw [ZM] at hv
  cases hv
  rw [acX, <- hc] at g1
  simp only [oZ] at g1
  generalize c.toNat = cx at *
  have hp : 2 ^ (8 * i) <= 2 ^ 56 := adG (by omega) (by omega)
  have hm : cx * 2 ^ (8 * i) <= 255 * 2 ^ 56 := Nat.mul_le_mul (by omega) hp
  have hb0 := F9 (t.take i)
  have hb1 := F9 (t.take (i + 1))
  rw [ZY, aaD (by omega)] at hb0 hb1
  have hq : 256 ^ i <= 256 ^ 7 := adG (by omega) (by omega)
  have e0 : ((8 : Int) * (i : Int)) = ((8 * i : Nat) : Int) := by omega
  have e5 : IntKind.u64.wrap ((cx : Int) * 2 ^ (min (8 * i) IntKind.u64.bits)) = ((cx * 2 ^ (8 * i) : Nat) : Int) := by
   rw [show min (8 * i) IntKind.u64.bits = 8 * i from aaD (by have : IntKind.u64.bits = 64 := rfl
                                                              omega)]
   have e : (cx : Int) * 2 ^ (8 * i) = ((cx * 2 ^ (8 * i) : Nat) : Int) := by simp
   rw [e]
   exact fI (by omega) (by omega)
  have e6 := WG (a := EH (t.take i)) (b := cx * 2 ^ (8 * i)) (by omega) (by omega)
  rw [hor] at e6
  have e7 : IntKind.u64.wrap (cx : Int) = (cx : Int) := fI (by omega) (by omega)
  simp (disch := omega) only [eY, fL, d3, eB, ZI, fN, e0, fJ, fO, dX, dZ, fI, eS, g1, eP, cM, e7, fU, e5, gR, e6, and_true, eQ]
  exact ⟨t.length - (i + 1), by omega, i + 1, rfl, by omega, rfl⟩
 .have d3 : decide ((i : Int) < (t.length : Int)) = false := by simp; omega
  obtain rfl : i = t.length := by omega
  simp (disch := omega) only [eY, fL, d3, fN, fJ, fO, dX, dZ, fI, eH]
  unfold nD
  rw [List.take_length]
  exact ⟨rfl, hr, x1⟩
end Go.Proofs.YteelnmpbnaohpaaDoor
namespace Go.Pu
open Go Go.En
structure Y6 (B : List Bool) (l : List UInt8) : Prop where
 len : l.length = (B.length + 7) / 8
 bits : Xu l = B ++ List.replicate (8 * l.length - B.length) false
end Go.Pu
namespace Go.Proofs.YteelnmpbnaohpaaDoor
open Go Go.En Go.Pu
set_option maxRecDepth 4000
theorem vE {w w' : adH} {S M : Nat -> Prop} {sz n : Nat} {v : adI} {l : List adI} (h : Im w S sz v n l) (hx : gT w w' M) (hM : ∀ b, S b -> ¬ M b) : Im w' S sz v n l := by
 refine ⟨h.1, ?_⟩
 rcases h.2 with h2 | ⟨b, c, rest, h1, h2, h3, h4, h5⟩
 .exact .inl h2
 .exact .inr ⟨b, c, rest, h1, h2, h3.ext hx (hM b h2), h4, h5⟩
def Wr (w : adH) (lo p : Nat) (B : List Bool) : Prop := lo <= p /\ ∃ v bytes, jF w p [v, .int .i64 B.length] /\ Im w (fun b => lo <= b /\ b ≠ p) 1 v bytes.length (bytes.map oZ) /\ Y6 B bytes
theorem Wr.ext {w w' : adH} {lo p : Nat} {B : List Bool} {M : Nat -> Prop} (h : Wr w lo p B) (hx : gT w w' M) (hM : ∀ b, lo <= b -> ¬ M b) : Wr w' lo p B := by
 obtain ⟨h0, v, bytes, h1, h2, h3⟩ := h
 exact ⟨h0, v, bytes, h1.ext hx (hM _ h0), vE h2 hx fun b hb => hM b hb.1, h3⟩
def Cw (w : adH) (p : Nat) (S : Nat -> Prop) (l : List UInt8) : Prop := ¬ S p /\ ∃ v, jF w p [v] /\ Im w S 1 v l.length (l.map oZ)
theorem Cw.ext {w w' : adH} {p : Nat} {S M : Nat -> Prop} {l : List UInt8} (h : Cw w p S l) (x : gT w w' M) (hp : ¬ M p) (hM : ∀ b, S b -> ¬ M b) : Cw w' p S l := by
 obtain ⟨h0, v, h1, h2⟩ := h
 exact ⟨h0, v, h1.ext x hp, vE h2 x hM⟩
theorem Cw.lt {w : adH} {p : Nat} {S : Nat -> Prop} {l : List UInt8} (h : Cw w p S l) : p < w.heap.size := by
 obtain ⟨_, v, h1, _⟩ := h; exact h1.lt
theorem DJ {w : adH} {S : Nat -> Prop} {sz n : Nat} {v : adI} {l : List adI} (o3 : Im w S sz v n l) : ∃ a c, v = .slice a n c := by
 rcases o3.2 with ⟨rfl, rfl⟩ | ⟨b, c, rest, rfl, _⟩
 .exact ⟨_, _, rfl⟩
 .exact ⟨_, _, rfl⟩
theorem LN {w : adH} {S : Nat -> Prop} {n : Nat} {v : adI} {l : List adI} (o3 : Im w S 1 v n l) : Sl w v l := by
 have : yK w 0 1 v n l := ⟨o3.1, by
  rcases o3.2 with h | ⟨b, c, rest, g1, g2, g3⟩
  .exact .inl h
  .exact .inr ⟨b, c, rest, g1, by omega, g3⟩⟩
 exact this.sl
theorem Sd (w : adH) : gS pg rA #[] w (fun r w' => r = .pointer (some ⟨w.heap.size, 0, none⟩) /\ w.heap.size < w'.heap.size /\ Cw w' w.heap.size (fun b => w.heap.size < b) [] /\ gT w w' jI) := by
 refine HP ?_
 unfold Fh vP
 simp (disch := omega) only [eY, bS, dX]
 refine oA fun w1 o1 x1 s1 => ?_
 simp only [Value.cells] at o1
 exact ⟨rfl, by omega, ⟨by omega, _, o1, ⟨rfl, .inl ⟨rfl, rfl⟩⟩⟩, x1⟩
theorem Ij {p x n : Nat} {S : Nat -> Prop} {l : List UInt8} {w : adH} (h : Cw w p S l) (hS : ∀ b, w.heap.size <= b -> S b) (hx : x < 2 ^ 64) (hn : 1 <= n /\ n <= 8) (hl : l.length <= 100000000) :
 gS pg lF #[.pointer (some ⟨p, 0, none⟩), .int .u64 x, .int .i64 n] w (fun r w' => r = .tuple #[] /\ Cw w' p S (l ++ AX x n) /\ gT w w' (fun y => y = p ∨ S y)) := by
 refine DW ?_
 unfold BF qI qM
 have d1 : decide ((n : Int) < 1) = false := by simp; omega
 have d2 : decide ((8 : Int) < (n : Int)) = false := by simp; omega
 simp (disch := omega) only [eY, aQ, ZG, true_and, dX, fD, fC, ZF, if_false, eZ, fL, d1, fR, d2, eH]
 unfold qU qQ
 refine kF.rule (fun m (t : adI) w' => ∃ i : Nat, m = n - i /\ t = .int .i64 i /\ i <= n /\ Cw w' p S (l ++ AX x i) /\ gT w w' (fun y => y = p ∨ S y)) n
  ⟨0, rfl, rfl, by omega, by rw [AX, aaQ]; exact h, gT.refl _ _⟩ ?_
 rintro m t w1 ⟨i, rfl, rfl, hi, hw, x1⟩
 unfold nF
 by_cases hlt : i < n
 .have d3 : decide ((i : Int) < (n : Int)) = true := by simp; omega
  have e0 : ((8 : Int) * (i : Int)) = ((8 * i : Nat) : Int) := by omega
  have e1 : (x : Int).fdiv (2 ^ (min (8 * i) IntKind.u64.bits)) = ((x / 256 ^ i : Nat) : Int) := by
   rw [SE]; exact WK x (8 * i) (by omega)
  have e2 : IntKind.u8.wrap ((x / 256 ^ i : Nat) : Int) = (((UInt8.ofNat (x / 256 ^ i % 256)).toNat : Nat) : Int) := by
   rw [acB]
   generalize x / 256 ^ i = y
   rw [show IntKind.u8.wrap (y : Int) = (y : Int) % 256 from rfl]
   omega
  obtain ⟨c, hc⟩ : ∃ c, c = UInt8.ofNat (x / 256 ^ i % 256) := ⟨_, rfl⟩
  rw [<- hc] at e2
  obtain ⟨h0, v0, o, os⟩ := hw
  obtain ⟨va, vc, rfl⟩ := DJ os
  have c0 := o.cell (off := 0)
  simp only [ZD, ZE] at c0
  have lp := o.lt
  have hsz := x1.size
  have hpl := lB i x
  rw [ZN, hpl] at os
  rw [ZN, hpl] at c0
  simp (disch := omega) only [eY, fL, d3, fK, fN, e0, fJ, fO, dX, bL, dZ, fI, fS, ZI, e1, cL, e2, dY, c0, eP, eQ]
  refine Ee (cells := #[.int .u8 c.toNat]) (by decide) (by decide) (by kernel_rfl) fun w2 o2 x2 s2 => ?_
  refine Ek (m := 1) (news := [oZ c]) (i := Tryd.t5) Tryd.underlying22 Tryd.underlying22 Ie rfl rfl rfl (vE os x2 (fun _ _ h => h)) (o2.cl (off := 0) (l := [oZ c]) (n := 1) rfl (fun i hi => by rw [ZL] <;> rfl)) (by simp [one, oZ]) (fun b hb => hS b (by omega)) (by omega) (by rw [show Tryd.t5.bytes = 1 from rfl]; omega) (by decide) fun v3 w3 o3 x3 => ?_
  have x13 : gT w1 w3 S := (x2.mono fun _ _ h => h.elim).seq x3
  have op3 := o.ext x13 h0
  obtain ⟨a3, c3, rfl⟩ := DJ o3
  refine Mv op3 rfl (by simp) fun w4 o4 x4 s4 => ?_
  simp only [Z0, aaI] at o4
  have x14 : gT w1 w4 (fun y => y = p ∨ S y) := (x13.mono fun y _ h => .inr h).seq (x4.mono fun y _ h => .inl h)
  refine ⟨n - (i + 1), by omega, i + 1, rfl, rfl, by omega, ⟨h0, _, o4, ?_⟩, x1.seq x14⟩
  have := vE o3 x4 (fun b hb h => h0 (h ▸ hb))
  rw [O2, <- hc, <- Z4, aaP, ZN, ZN, lB]
  exact this
 .have d3 : decide ((i : Int) < (n : Int)) = false := by simp; omega
  obtain rfl : i = n := by omega
  simp (disch := omega) only [eY, fL, d3, fK, fN, fJ, fO, dX, bL, dZ, fI, fS, cL, dY, eH]
  exact ⟨hw, x1⟩
theorem Rw {p : Nat} {S : Nat -> Prop} {l : List UInt8} {w : adH} (h : Cw w p S l) (hl : l.length <= 1000000000) :
 gS pg nQ #[.pointer (some ⟨p, 0, none⟩)] w (fun r w' => yK w' w.heap.size 1 r l.length (l.map oZ) /\ gT w w' jI) := by
 refine Gx ?_
 unfold D4 tO
 obtain ⟨h0, v0, o, os⟩ := h
 obtain ⟨va, vc, rfl⟩ := DJ os
 have c0 := o.cell (off := 0)
 simp only [ZD, ZE] at c0
 simp (disch := omega) only [eY, aQ, ZG, fK, dX, bL, dY, c0, eP, eH]
 exact M5 (LN os) hl
end Go.Proofs.YteelnmpbnaohpaaDoor
namespace Go.Proofs.YteelnmpbnaohpaaDoor
open Go Go.En
set_option maxRecDepth 4000
theorem Wm (l : List UInt8) : ∀ y ∈ l.map oZ, one y = true := fun y hy => by
 obtain ⟨z, -, rfl⟩ := aaK.1 hy; rfl
end Go.Proofs.YteelnmpbnaohpaaDoor
namespace Go.Proofs.YteelnmpbnaohpaaDoor
open Go Go.En Go.Pu
set_option maxRecDepth 4000
abbrev UJ (k v : Nat) : adI := .agg #[.int .u8 (k : Int), .int .u64 (v : Int)]
abbrev AZ (r : Nat × Nat) : List adI := [.int .u8 (r.1 : Int), .int .u64 (r.2 : Int)]
theorem Q3 {k v : Nat} {w : adH} (hg : qL w) (hk : k < 256) (hv : v < 2 ^ 64) :
 gS pg zM #[UJ k v] w (fun r w' => (if k = 1 ∨ k = 2 then ∃ b, r = .tuple #[b, .int .i64 0] /\ yK w' w.heap.size 1 b 13 ((sJ gZ k v).map oZ) else r = .tuple #[.slice none 0 0, .int .i64 1]) /\ gT w w' jI) := by
 refine MT ?_
 obtain ⟨RR, hRR⟩ : ∃ RR : adI -> adH -> Prop, RR = fun r w' => (if k = 1 ∨ k = 2 then ∃ b, r = .tuple #[b, .int .i64 0] /\ yK w' w.heap.size 1 b 13 ((sJ gZ k v).map oZ) else r = .tuple #[.slice none 0 0, .int .i64 1]) /\ gT w w' jI := ⟨_, rfl⟩
 rw [<- hRR]
 unfold Om EY
 refine oA fun w1 o1 x1 s1 => ?_
 have o1 : jF w1 w.heap.size (AZ (k, v)) := o1
 have c0 := o1.cell (off := 0)
 have c1 := o1.cell (off := 1)
 simp only [ZD, ZE] at c0 c1
 by_cases h1 : k < 1
 .have d1 : decide ((k : Int) < 1) = true := by simp; omega
  simp (disch := omega) only [eY, gM, dX, stepR_skip, fO, gD, fN, gC, gI, fW, gR, fX, eU, fU, fS, gH, fP, fL, fT, fR, fV, gE, gG, fQ, fC, fY, gB, fK, iO, iJ, iH, iL, iI, iM, iK, iG, iN, eP, Result.ok.injEq, Next.value.injEq, true_and, and_true, fJ, fI, fZ, fM, gA, gQ, ZI, fE, fH, fG, fD, eZ, eT, fB, eX, eQ, eH, if_true, if_false, ZF, ZL, ZG, ZH, ZK, ZJ, ZE, ZD, eA, dW, aB, dI, dH, cG, eB, eS, eC, dO, eD, fA, dL, eN, bQ, dG, bG, dN, aK, aG, eJ, aY, cA, eK, aD, eM, dM, aS, bJ, eE, bH, bF, bC, aP, aM, cB, fF, dY, bZ, cH, dB, cD, dT, bE, eI, bY, dF, bP, aZ, bX, aC, bV, bR, cI, bW, bA, aT, aU, bT, dS, cR, bO, aV, aJ, aL, bD, aH, dC, dV, aI, aN, aX, aF, cX, aE, cL, bU, bB, aO, cM, cJ, aA, dR, cP, cQ, cF, dK, cC, dJ, dU, cV, eF, eL, bN, aR, dZ, bS, aQ, bL, dE, dA, cU, cO, cS, bM, bK, cY, dD, cN, dQ, cZ, c0, d1]
  rw [hRR]
  refine ⟨?_, x1⟩
  rw [if_neg (by omega)]
 have d1 : decide ((k : Int) < 1) = false := by simp; omega
 by_cases h2 : 2 < k
 .have d2 : decide ((2 : Int) < (k : Int)) = true := by simp; omega
  simp (disch := omega) only [eY, gM, dX, stepR_skip, fO, gD, fN, gC, gI, fW, gR, fX, eU, fU, fS, gH, fP, fL, fT, fR, fV, gE, gG, fQ, fC, fY, gB, fK, iO, iJ, iH, iL, iI, iM, iK, iG, iN, eP, Result.ok.injEq, Next.value.injEq, true_and, and_true, fJ, fI, fZ, fM, gA, gQ, ZI, fE, fH, fG, fD, eZ, eT, fB, eX, eQ, eH, if_true, if_false, ZF, ZL, ZG, ZH, ZK, ZJ, ZE, ZD, eA, dW, aB, dI, dH, cG, eB, eS, eC, dO, eD, fA, dL, eN, bQ, dG, bG, dN, aK, aG, eJ, aY, cA, eK, aD, eM, dM, aS, bJ, eE, bH, bF, bC, aP, aM, cB, fF, dY, bZ, cH, dB, cD, dT, bE, eI, bY, dF, bP, aZ, bX, aC, bV, bR, cI, bW, bA, aT, aU, bT, dS, cR, bO, aV, aJ, aL, bD, aH, dC, dV, aI, aN, aX, aF, cX, aE, cL, bU, bB, aO, cM, cJ, aA, dR, cP, cQ, cF, dK, cC, dJ, dU, cV, eF, eL, bN, aR, dZ, bS, aQ, bL, dE, dA, cU, cO, cS, bM, bK, cY, dD, cN, dQ, cZ, c0, d1, d2]
  rw [hRR]
  refine ⟨?_, x1⟩
  rw [if_neg (by omega)]
 have d2 : decide ((2 : Int) < (k : Int)) = false := by simp; omega
 have e1 : IntKind.u64.wrap (k : Int) = (k : Int) := fI (by omega) (by omega)
 simp (disch := omega) only [eY, gM, dX, stepR_skip, fO, gD, fN, gC, gI, fW, gR, fX, eU, fU, fS, gH, fP, fL, fT, fR, fV, gE, gG, fQ, fC, fY, gB, fK, iO, iJ, iH, iL, iI, iM, iK, iG, iN, eP, Result.ok.injEq, Next.value.injEq, true_and, and_true, fJ, fI, fZ, fM, gA, gQ, ZI, fE, fH, fG, fD, eZ, eT, fB, eX, eQ, eH, if_true, if_false, ZF, ZL, ZG, ZH, ZK, ZJ, ZE, ZD, eA, dW, aB, dI, dH, cG, eB, eS, eC, dO, eD, fA, dL, eN, bQ, dG, bG, dN, aK, aG, eJ, aY, cA, eK, aD, eM, dM, aS, bJ, eE, bH, bF, bC, aP, aM, cB, fF, dY, bZ, cH, dB, cD, dT, bE, eI, bY, dF, bP, aZ, bX, aC, bV, bR, cI, bW, bA, aT, aU, bT, dS, cR, bO, aV, aJ, aL, bD, aH, dC, dV, aI, aN, aX, aF, cX, aE, cL, bU, bB, aO, cM, cJ, aA, dR, cP, cQ, cF, dK, cC, dJ, dU, cV, eF, eL, bN, aR, dZ, bS, aQ, bL, dE, dA, cU, cO, cS, bM, bK, cY, dD, cN, dQ, cZ, c0, d1, d2]
 refine (Sd w1).mono ?_
 rintro r w2 ⟨rfl, s2, h2', x2⟩
 have p2 : w2.cell? ⟨w.heap.size, 0, none⟩ = _ := (o1.ext x2 (fun h => h)).cell (off := 0)
 simp only [ZD, ZE] at p2
 simp (disch := omega) only [eY, gM, dX, stepR_skip, fO, gD, fN, gC, gI, fW, gR, fX, eU, fU, fS, gH, fP, fL, fT, fR, fV, gE, gG, fQ, fC, fY, gB, fK, iO, iJ, iH, iL, iI, iM, iK, iG, iN, eP, Result.ok.injEq, Next.value.injEq, true_and, and_true, fJ, fI, fZ, fM, gA, gQ, ZI, fE, fH, fG, fD, eZ, eT, fB, eX, eQ, eH, if_true, if_false, ZF, ZL, ZG, ZH, ZK, ZJ, ZE, ZD, eA, dW, aB, dI, dH, cG, eB, eS, eC, dO, eD, fA, dL, eN, bQ, dG, bG, dN, aK, aG, eJ, aY, cA, eK, aD, eM, dM, aS, bJ, eE, bH, bF, bC, aP, aM, cB, fF, dY, bZ, cH, dB, cD, dT, bE, eI, bY, dF, bP, aZ, bX, aC, bV, bR, cI, bW, bA, aT, aU, bT, dS, cR, bO, aV, aJ, aL, bD, aH, dC, dV, aI, aN, aX, aF, cX, aE, cL, bU, bB, aO, cM, cJ, aA, dR, cP, cQ, cF, dK, cC, dJ, dU, cV, eF, eL, bN, aR, dZ, bS, aQ, bL, dE, dA, cU, cO, cS, bM, bK, cY, dD, cN, dQ, cZ, p2, e1]
 refine (Ij (x := k) (n := 1) h2' (fun b hb => by omega) (by omega) ⟨by omega, by omega⟩ (by simp)).mono ?_
 rintro r w3 ⟨rfl, h3, x3⟩
 have z3 := x3.size
 have o3 := (o1.ext x2 (fun h => h)).ext x3 (by omega)
 have p3 := o3.cell (off := 1)
 simp only [ZD, ZE] at p3
 simp (disch := omega) only [eY, gM, dX, stepR_skip, fO, gD, fN, gC, gI, fW, gR, fX, eU, fU, fS, gH, fP, fL, fT, fR, fV, gE, gG, fQ, fC, fY, gB, fK, iO, iJ, iH, iL, iI, iM, iK, iG, iN, eP, Result.ok.injEq, Next.value.injEq, true_and, and_true, fJ, fI, fZ, fM, gA, gQ, ZI, fE, fH, fG, fD, eZ, eT, fB, eX, eQ, eH, if_true, if_false, ZF, ZL, ZG, ZH, ZK, ZJ, ZE, ZD, eA, dW, aB, dI, dH, cG, eB, eS, eC, dO, eD, fA, dL, eN, bQ, dG, bG, dN, aK, aG, eJ, aY, cA, eK, aD, eM, dM, aS, bJ, eE, bH, bF, bC, aP, aM, cB, fF, dY, bZ, cH, dB, cD, dT, bE, eI, bY, dF, bP, aZ, bX, aC, bV, bR, cI, bW, bA, aT, aU, bT, dS, cR, bO, aV, aJ, aL, bD, aH, dC, dV, aI, aN, aX, aF, cX, aE, cL, bU, bB, aO, cM, cJ, aA, dR, cP, cQ, cF, dK, cC, dJ, dU, cV, eF, eL, bN, aR, dZ, bS, aQ, bL, dE, dA, cU, cO, cS, bM, bK, cY, dD, cN, dQ, cZ, p3]
 refine (Ij (x := v) (n := 8) h3 (fun b hb => by omega) hv ⟨by omega, by omega⟩ (by simp [lB])).mono ?_
 rintro r w4 ⟨rfl, h4, x4⟩
 have z4 := x4.size
 have hH : [] ++ AX k 1 ++ AX v 8 = Kh k v := rfl
 rw [hH] at h4
 have hHl : (Kh k v).length = 9 := by unfold Kh; rw [ZN, lB, lB]
 have x14 : gT w1 w4 jI := (x2.trans x3 fun y hy h => by omega).trans x4 fun y hy h => by omega
 refine (Rw h4 (by omega)).mono ?_
 rintro r w5 ⟨ho5, x5⟩
 refine (WR (l := Kh k v) (hg.ext ((x1.seq x14).seq x5)) ho5.sl (by omega)).mono ?_
 rintro r w6 ⟨rfl, x6⟩
 have hcr := Xe (Kh k v)
 have hM : tE = 4294967296 := rfl
 have e2 : IntKind.u64.wrap ((gZ (Kh k v) : Nat) : Int) = ((gZ (Kh k v) : Nat) : Int) := fI (by omega) (by omega)
 have h6 := (h4.ext x5 (fun h => h) (fun _ _ h => h)).ext x6 (fun h => h) (fun _ _ h => h)
 have z5 := x5.size
 have z6 := x6.size
 simp (disch := omega) only [eY, gM, dX, stepR_skip, fO, gD, fN, gC, gI, fW, gR, fX, eU, fU, fS, gH, fP, fL, fT, fR, fV, gE, gG, fQ, fC, fY, gB, fK, iO, iJ, iH, iL, iI, iM, iK, iG, iN, eP, Result.ok.injEq, Next.value.injEq, true_and, and_true, fJ, fI, fZ, fM, gA, gQ, ZI, fE, fH, fG, fD, eZ, eT, fB, eX, eQ, eH, if_true, if_false, ZF, ZL, ZG, ZH, ZK, ZJ, ZE, ZD, eA, dW, aB, dI, dH, cG, eB, eS, eC, dO, eD, fA, dL, eN, bQ, dG, bG, dN, aK, aG, eJ, aY, cA, eK, aD, eM, dM, aS, bJ, eE, bH, bF, bC, aP, aM, cB, fF, dY, bZ, cH, dB, cD, dT, bE, eI, bY, dF, bP, aZ, bX, aC, bV, bR, cI, bW, bA, aT, aU, bT, dS, cR, bO, aV, aJ, aL, bD, aH, dC, dV, aI, aN, aX, aF, cX, aE, cL, bU, bB, aO, cM, cJ, aA, dR, cP, cQ, cF, dK, cC, dJ, dU, cV, eF, eL, bN, aR, dZ, bS, aQ, bL, dE, dA, cU, cO, cS, bM, bK, cY, dD, cN, dQ, cZ, e2]
 refine (Ij (x := gZ (Kh k v)) (n := 4) h6 (fun b hb => by omega) (by omega) ⟨by omega, by omega⟩ (by omega)).mono ?_
 rintro r w7 ⟨rfl, h7, x7⟩
 have z7 := x7.size
 have hR : Kh k v ++ AX (gZ (Kh k v)) 4 = sJ gZ k v := rfl
 rw [hR] at h7
 have h13 := pR gZ k v
 refine (Rw h7 (by omega)).mono ?_
 rintro r w8 ⟨ho8, x8⟩
 have x17 : gT w1 w7 jI := ((x14.seq x5).seq x6).trans x7 fun y hy h => by omega
 rw [h13] at ho8
 rw [hRR]
 refine ⟨?_, (x1.seq x17).seq x8⟩
 rw [if_pos (by omega)]
 refine ⟨r, rfl, ho8.1, ?_⟩
 rcases ho8.2 with h | ⟨b, c, rest, g1, g2, g3⟩
 .exact .inl h
 .exact .inr ⟨b, c, rest, g1, by have := x1.size; have := x17.size; omega, g3⟩
theorem Ss {k : Nat} {l : List (Nat × Nat)} {i : Nat} (h : i < l.length) : kS k (l.take (i + 1)) = if l[i].1 = k then max l[i].2 (kS k (l.take i)) else kS k (l.take i) := by
 rw [aaZ h, NA]
theorem Pq {l : List (Nat × Nat)} {i : Nat} (h : i < l.length) : ((l.flatMap AZ).drop (i * 2)).take 2 = AZ l[i] := by
 induction l generalizing i with
 | nil => simp at h
 | cons a l ih =>
   cases i with
   | zero => rfl
   | succ i =>
     rw [acS, show (i + 1) * 2 = 2 + i * 2 from by omega, <- acF]
     have : ((AZ a ++ l.flatMap AZ).drop 2) = l.flatMap AZ := rfl
     rw [this, ih (by simpa using h)] <;> rfl
theorem Kt (l : List (Nat × Nat)) : (l.flatMap AZ).length = l.length * 2 := by
 induction l with
 | nil => rfl
 | cons a l ih =>
   rw [acS, ZN, ih, Z7]
   simp only [Z7, abN]; omega
theorem TP {v : adI} {l : List (Nat × Nat)} {k : Nat} {w : adH} (hv : ∃ S, Im w S 2 v l.length (l.flatMap AZ)) (hl : l.length <= 100000000) (ho : ∀ r ∈ l, r.1 < 256 /\ r.2 < 2 ^ 64) (hk : k < 256) :
 gS pg A8 #[v, .int .u8 (k : Nat)] w (fun r w' => (∃ t, r = .tuple #[.int .u64 (kS k l : Nat), .bool t]) /\ gT w w' jI) := by
 refine LF ?_
 obtain ⟨S, hs⟩ := hv
 unfold My BP B6 Dh Dl CM C4 CS
 obtain ⟨a, c, rfl⟩ := DJ hs
 simp (disch := omega) only [eY, gM, dX, stepR_skip, fO, gD, fN, gC, gI, fW, gR, fX, eU, fU, fS, gH, fP, fL, fT, fR, fV, gE, gG, fQ, fC, fY, gB, fK, iO, iJ, iH, iL, iI, iM, iK, iG, iN, eP, Result.ok.injEq, Next.value.injEq, true_and, and_true, fJ, fI, fZ, fM, gA, gQ, ZI, fE, fH, fG, fD, eZ, eT, fB, eX, eQ, eH, if_true, if_false, ZF, ZL, ZG, ZH, ZK, ZJ, ZE, ZD, eA, dW, aB, dI, dH, cG, eB, eS, eC, dO, eD, fA, dL, eN, bQ, dG, bG, dN, aK, aG, eJ, aY, cA, eK, aD, eM, dM, aS, bJ, eE, bH, bF, bC, aP, aM, cB, fF, dY, bZ, cH, dB, cD, dT, bE, eI, bY, dF, bP, aZ, bX, aC, bV, bR, cI, bW, bA, aT, aU, bT, dS, cR, bO, aV, aJ, aL, bD, aH, dC, dV, aI, aN, aX, aF, cX, aE, cL, bU, bB, aO, cM, cJ, aA, dR, cP, cQ, cF, dK, cC, dJ, dU, cV, eF, eL, bN, aR, dZ, bS, aQ, bL, dE, dA, cU, cO, cS, bM, bK, cY, dD, cN, dQ, cZ]
 refine kF.rule (fun m (t : adI × adI × adI) w' => ∃ (i : Nat) (tb : Bool), m = l.length - i /\ i <= l.length /\ t = (.int .u64 (kS k (l.take i) : Nat), .bool tb, .int .i64 (i : Nat)) /\ gT w w' jI) l.length ⟨0, false, rfl, by omega, rfl, gT.refl _ _⟩ ?_
 rintro m t w1 ⟨i, tb, rfl, hi, rfl, x1⟩
 unfold yX C7
 by_cases hlt : i < l.length
 .have d1 : decide ((i : Int) < (l.length : Int)) = true := by simp; omega
  obtain ⟨h1, h2⟩ := ho _ (abR hlt)
  rcases (hs.ext x1 (fun _ _ h => h)).2 with ⟨_, h0⟩ | ⟨b, c', rest, hv, hb, ob, hbl, hbc⟩
  .omega
  cases hv
  have l1 := tB (off := i * 2) ob (by rw [ZN, Kt]; omega)
  rw [aaC (by rw [Kt]; omega), Z9 (by rw [ZW, Kt]; omega), Pq hlt] at l1
  have hlast := Ss (k := k) hlt
  obtain ⟨M, hM⟩ : ∃ M, M = kS k (l.take i) := ⟨_, rfl⟩
  rw [<- hM] at hlast ⊢
  simp (disch := omega) only [eY, gM, dX, stepR_skip, fO, gD, fN, gC, gI, fW, gR, fX, eU, fU, fS, gH, fP, fL, fT, fR, fV, gE, gG, fQ, fC, fY, gB, fK, iO, iJ, iH, iL, iI, iM, iK, iG, iN, eP, Result.ok.injEq, Next.value.injEq, true_and, and_true, fJ, fI, fZ, fM, gA, gQ, ZI, fE, fH, fG, fD, eZ, eT, fB, eX, eQ, eH, if_true, if_false, ZF, ZL, ZG, ZH, ZK, ZJ, ZE, ZD, eA, dW, aB, dI, dH, cG, eB, eS, eC, dO, eD, fA, dL, eN, bQ, dG, bG, dN, aK, aG, eJ, aY, cA, eK, aD, eM, dM, aS, bJ, eE, bH, bF, bC, aP, aM, cB, fF, dY, bZ, cH, dB, cD, dT, bE, eI, bY, dF, bP, aZ, bX, aC, bV, bR, cI, bW, bA, aT, aU, bT, dS, cR, bO, aV, aJ, aL, bD, aH, dC, dV, aI, aN, aX, aF, cX, aE, cL, bU, bB, aO, cM, cJ, aA, dR, cP, cQ, cF, dK, cC, dJ, dU, cV, eF, eL, bN, aR, dZ, bS, aQ, bL, dE, dA, cU, cO, cS, bM, bK, cY, dD, cN, dQ, cZ, d1, l1]
  refine A5 fun w2 o2 x2 s2 => ?_
  refine Ah o2 rfl (by simp [one]) (by decide) fun w3 o3 x3 s3 => ?_
  have x13 : gT w w3 jI := (x1.seq x2).trans x3 fun y hy h => by have := x1.size; omega
  have o3 : jF w3 w1.heap.size (AZ l[i]) := o3
  have c0 := o3.cell (off := 0)
  have c1 := o3.cell (off := 1)
  simp only [ZD, ZE] at c0 c1
  have e3 : (if (((l[i]'hlt).2 : Nat) : Int) > (M : Int) then (((l[i]'hlt).2 : Nat) : Int) else (M : Int)) = ((max (l[i]'hlt).2 M : Nat) : Int) := by split <;> omega
  by_cases hq : (l[i]'hlt).1 = k
  .have n1 : ((((l[i]'hlt).1 : Nat) : Int) == (k : Int)) = true := by rw [hq]; simp
   rw [if_pos hq] at hlast
   unfold tI
   simp (disch := omega) only [eY, gM, dX, stepR_skip, fO, gD, fN, gC, gI, fW, gR, fX, eU, fU, fS, gH, fP, fL, fT, fR, fV, gE, gG, fQ, fC, fY, gB, fK, iO, iJ, iH, iL, iI, iM, iK, iG, iN, eP, Result.ok.injEq, Next.value.injEq, true_and, and_true, fJ, fI, fZ, fM, gA, gQ, ZI, fE, fH, fG, fD, eZ, eT, fB, eX, eQ, eH, if_true, if_false, ZF, ZL, ZG, ZH, ZK, ZJ, ZE, ZD, eA, dW, aB, dI, dH, cG, eB, eS, eC, dO, eD, fA, dL, eN, bQ, dG, bG, dN, aK, aG, eJ, aY, cA, eK, aD, eM, dM, aS, bJ, eE, bH, bF, bC, aP, aM, cB, fF, dY, bZ, cH, dB, cD, dT, bE, eI, bY, dF, bP, aZ, bX, aC, bV, bR, cI, bW, bA, aT, aU, bT, dS, cR, bO, aV, aJ, aL, bD, aH, dC, dV, aI, aN, aX, aF, cX, aE, cL, bU, bB, aO, cM, cJ, aA, dR, cP, cQ, cF, dK, cC, dJ, dU, cV, eF, eL, bN, aR, dZ, bS, aQ, bL, dE, dA, cU, cO, cS, bM, bK, cY, dD, cN, dQ, cZ, c0, c1, n1, e3]
   exact ⟨l.length - (i + 1), by omega, i + 1, true, rfl, by omega, by rw [hlast] <;> rfl, x13⟩
  .have n1 : ((((l[i]'hlt).1 : Nat) : Int) == (k : Int)) = false := by rw [beq_eq_false_iff_ne]; omega
   rw [if_neg hq] at hlast
   unfold tI
   simp (disch := omega) only [eY, gM, dX, stepR_skip, fO, gD, fN, gC, gI, fW, gR, fX, eU, fU, fS, gH, fP, fL, fT, fR, fV, gE, gG, fQ, fC, fY, gB, fK, iO, iJ, iH, iL, iI, iM, iK, iG, iN, eP, Result.ok.injEq, Next.value.injEq, true_and, and_true, fJ, fI, fZ, fM, gA, gQ, ZI, fE, fH, fG, fD, eZ, eT, fB, eX, eQ, eH, if_true, if_false, ZF, ZL, ZG, ZH, ZK, ZJ, ZE, ZD, eA, dW, aB, dI, dH, cG, eB, eS, eC, dO, eD, fA, dL, eN, bQ, dG, bG, dN, aK, aG, eJ, aY, cA, eK, aD, eM, dM, aS, bJ, eE, bH, bF, bC, aP, aM, cB, fF, dY, bZ, cH, dB, cD, dT, bE, eI, bY, dF, bP, aZ, bX, aC, bV, bR, cI, bW, bA, aT, aU, bT, dS, cR, bO, aV, aJ, aL, bD, aH, dC, dV, aI, aN, aX, aF, cX, aE, cL, bU, bB, aO, cM, cJ, aA, dR, cP, cQ, cF, dK, cC, dJ, dU, cV, eF, eL, bN, aR, dZ, bS, aQ, bL, dE, dA, cU, cO, cS, bM, bK, cY, dD, cN, dQ, cZ, c0, c1, n1, e3]
   exact ⟨l.length - (i + 1), by omega, i + 1, tb, rfl, by omega, by rw [hlast] <;> rfl, x13⟩
 .have d1 : decide ((i : Int) < (l.length : Int)) = false := by simp; omega
  unfold zL
  rw [ZQ (by omega)]
  simp (disch := omega) only [eY, gM, dX, stepR_skip, fO, gD, fN, gC, gI, fW, gR, fX, eU, fU, fS, gH, fP, fL, fT, fR, fV, gE, gG, fQ, fC, fY, gB, fK, iO, iJ, iH, iL, iI, iM, iK, iG, iN, eP, Result.ok.injEq, Next.value.injEq, true_and, and_true, fJ, fI, fZ, fM, gA, gQ, ZI, fE, fH, fG, fD, eZ, eT, fB, eX, eQ, eH, if_true, if_false, ZF, ZL, ZG, ZH, ZK, ZJ, ZE, ZD, eA, dW, aB, dI, dH, cG, eB, eS, eC, dO, eD, fA, dL, eN, bQ, dG, bG, dN, aK, aG, eJ, aY, cA, eK, aD, eM, dM, aS, bJ, eE, bH, bF, bC, aP, aM, cB, fF, dY, bZ, cH, dB, cD, dT, bE, eI, bY, dF, bP, aZ, bX, aC, bV, bR, cI, bW, bA, aT, aU, bT, dS, cR, bO, aV, aJ, aL, bD, aH, dC, dV, aI, aN, aX, aF, cX, aE, cL, bU, bB, aO, cM, cJ, aA, dR, cP, cQ, cF, dK, cC, dJ, dU, cV, eF, eL, bN, aR, dZ, bS, aQ, bL, dE, dA, cU, cO, cS, bM, bK, cY, dD, cN, dQ, cZ, d1]
  exact ⟨⟨tb, rfl⟩, x1⟩
theorem V3 {v : adI} {l : List UInt8} {w : adH} (hg : qL w) (hv : Bs w v l) (hl : l.length <= 100000000) :
 gS pg vR #[v] w (fun r w' => r = .agg ((gV l).map oZ).toArray /\ gT w w' jI) := by
 refine LP ?_
 unfold ML CE
 refine Gc fun w1 o1 x1 s1 => ?_
 have o1 : jF w1 w.heap.size (List.replicate 32 (.int .u8 0)) := o1
 refine Ee (cells := #[.int .u8 0]) (by decide) (by decide) (by kernel_rfl) fun w2 o2 x2 s2 => ?_
 have o2 : jF w2 w1.heap.size [.int .u8 0] := o2
 have hos : yK w2 w1.heap.size 1 (.slice (some ⟨w1.heap.size, 0, none⟩) 1 1) 1 [.int .u8 0] := ⟨rfl, .inr ⟨_, 1, [], rfl, ZU _, o2, rfl, ZU _⟩⟩
 have hcl := (hv.ext (x1.seq x2) (jA _)).cl
 rw [ZM] at hcl
 refine BE hos hcl (Wm _) (by omega) (by omega) fun v3 w3 o3 x3 => ?_
 have o3 : yK w3 w1.heap.size 1 v3 (1 + l.length) ((0 :: l).map oZ) := o3
 have z3 := x3.size
 have x03 : gT w w3 jI := (x1.seq x2).trans x3 fun y hy h => by omega
 have z0 : w1.heap.size = w.heap.size + 1 := s1
 refine (WE (l := 0 :: l) (hg.ext x03) o3.sl (by simp; omega)).mono ?_
 rintro r w4 ⟨rfl, x4⟩
 have r4 := ((o1.ext x2 (fun h => h)).ext x3 (by omega)).ext x4 (fun h => h)
 have hl32 : ((gV l).map oZ).length = 32 := by rw [ZM]; exact yR _
 refine H3 r4 (by rw [abP]; exact hl32) (fun y hy => EU _ y (by simpa using hy)) (by simp) fun w5 o5 x5 s5 => ?_
 rw [aaG, Gu _ _ (by rw [ZM, yR]; simp)] at o5
 refine Ir o5 (by rw [ZM]; have := yR (0 :: l); omega) ?_
 rw [abF, ZQ (by rw [ZM]; have := yR (0 :: l); omega)]
 exact ⟨rfl, (x03.seq x4).trans x5 fun y hy h => by omega⟩
end Go.Proofs.YteelnmpbnaohpaaDoor
namespace Go.En
open Go
section
variable {P : Program}
theorem RH {a : Array adI} {t x : Nat} {v : adI} (h : t < a.size) : Jm (a.setIfInBounds t v) x = if x = t then v else Jm a x := by
 unfold Jm
 rw [ZP, ZP]
 by_cases hx : x = t
 .subst hx; rw [ZZ h, if_pos rfl] <;> rfl
 .rw [Z1 (fun e => hx e.symm), if_neg hx]
theorem T1 {N x : Nat} {g : Env} (h : x < N) : Jm (tmpsOf N g) x = g x := by
 unfold Jm tmpsOf
 rw [ZP, ZX (by simpa using h)]
 simp
theorem WC {f : FuncId} {fn : Func} (hf : P.funcs[f]? = some fn) (hb : fn.body.isSome = true) (hn : (fn.name == "runtime.NumGoroutine") = false) (cap : Array adI) (args : List adI) (w : adH) :
 (xQ (.func (.func f) #[] cap) args).run P w = .ok (.enter f (args.toArray ++ cap)) w := by
 unfold xQ Deferred.ofValue
 simp only [pure_bind, invoke, Array.empty_append]
 exact F7 hf hb hn _ _
def NK (r : Loop) (args : List adI) : Array adI := (r.params.zip args.toArray).foldl (fun tmps (t, a) => tmps.setIfInBounds t a) r.tmps
theorem WI {r : Loop} {a : Tmp} {t : Array adI} (hp : r.params = #[a]) (ht : r.tmps = t) (x : adI) : NK r [x] = t.setIfInBounds a x := by
 unfold NK; rw [hp, ht]; simp
theorem SV {l : Nat} {r : Loop} {args : List adI} {w : adH} (h : w.heap[l]? = some (.loop r)) (hs : args.length = r.params.size) :
 (xQ (DC l) args).run P w = .ok (.round l r.fn (NK r args) r.assign r.body) w := by
 unfold xQ DC Deferred.ofValue
 simp only [pure_bind, invoke, Array.empty_append]
 exact run_yield h (by simpa using hs)
theorem U6 {f fi : FuncId} {fn : Func} {gf : Operand} {ps : Array Tmp} {ZC bd : Code} {Q : Exit -> Env -> adH -> Prop} {g : Env} {w : adH} {cap : Array adI}
 (hm : noMark (g DS) = true) (he : ev g gf = .func (.func fi) #[] cap) (hf : P.funcs[fi]? = some fn) (hb : fn.body.isSome = true) (hn : (fn.name == "runtime.NumGoroutine") = false)
 (h : gS P fi (#[DC (w.heap.size + 1)] ++ cap) (UB f (L7 P f) ps ZC bd g w) fun _ w3 => Vz (w.heap.size + 1) Q (put g (some DS) (.pointer (some ⟨w.heap.size, 0, none⟩))) w3) :
 RF P f gf ps ZC bd Q g w := by
 unfold RF
 rw [hm]
 simp only
 rw [he, WC hf hb hn]
 exact h
theorem gT.putObj (w : adH) (l : Nat) (o : Obj) : gT w (w.putObj l o) (fun y => y = l) :=
 ⟨rfl, rfl, rfl, by simp, fun b hb hM => World.putObj_heap_other hM⟩
theorem BW {w w' : adH} {l : Nat} {o : Obj} {M : Nat -> Prop} (h : w.heap[l]? = some o) (hx : gT w w' M) (hM : ¬ M l) : w'.heap[l]? = some o := by
 have : l < w.heap.size := by
  rcases aaN l w.heap.size with h' | h'
  .exact h'
  .rw [Z8 h'] at h; cases h
 rw [hx.keep l this hM]; exact h
theorem U1 {w : adH} {l : Nat} {o : Obj} (h : w.heap[l]? = some o) : l < w.heap.size := by
 rcases aaN l w.heap.size with h' | h'
 .exact h'
 .rw [Z8 h'] at h; cases h
theorem TD (f : FuncId) (N : Nat) (ps : Array Tmp) (ZC bd : Code) (g : Env) (w : adH) :
 gT w (UB f N ps ZC bd g w) jI /\ (UB f N ps ZC bd g w).heap.size = w.heap.size + 2 /\ (UB f N ps ZC bd g w).heap[w.heap.size]? = some (.deferred (some [])) /\
  (UB f N ps ZC bd g w).heap[w.heap.size + 1]? = some (.loop { state := .ready, pending := none, fn := f, tmps := tmpsOf N g, params := ps, assign := ZC, body := bd, defers := w.heap.size }) := by
 unfold UB
 have x1 := gT.alloc w (.deferred (some [])) jI
 have h1 := World.alloc_heap_new w (.deferred (some []))
 have z1 : (w.alloc (.deferred (some []))).heap.size = w.heap.size + 1 := by simp
 generalize w.alloc (.deferred (some [])) = w1 at *
 refine ⟨x1.seq (gT.alloc w1 _ jI), by simp [z1], BW h1 (gT.alloc w1 _ jI) (fun h => h), ?_⟩
 have := World.alloc_heap_new w1 (.loop { state := .ready, pending := none, fn := f, tmps := tmpsOf N g, params := ps, assign := ZC, body := bd, defers := w.heap.size })
 rw [z1] at this
 exact this
theorem TJ {l : Nat} {r : Loop} {w : adH} {K : adH -> Prop} (h : w.heap[l]? = some (.loop r)) (hr : r.state = .ready)
 (hk : ∀ w', w'.heap[l]? = some (.loop { r with state := .busy }) -> gT w w' (fun y => y = l) -> w'.heap.size = w.heap.size -> K w') : Zf l w K :=
 ⟨r, h, hr, hk _ (World.putObj_heap_same (U1 h)) (gT.putObj _ _ _) (by simp)⟩
theorem Oi {l : Nat} {r : Loop} {j : Option Code} {w : adH} {R : adI -> adH -> Prop} (h : w.heap[l]? = some (.loop r))
 (hk : ∀ w', w'.heap[l]? = some (.loop { r with state := Zm j, pending := j }) -> gT w w' (fun y => y = l) -> w'.heap.size = w.heap.size -> R (.bool j.isNone) w') : Q8 l j R w :=
 ⟨r, h, hk _ (World.putObj_heap_same (U1 h)) (gT.putObj _ _ _) (by simp)⟩
theorem MF {l : Nat} {r : Loop} {w : adH} {Q : Exit -> Env -> adH -> Prop} {g : Env} (h : w.heap[l]? = some (.loop r)) (hb : r.state ≠ .busy)
 (hk : ∀ w', gT w w' (fun y => y = l) -> w'.heap.size = w.heap.size -> Yc Q g r.pending w') : Vz l Q g w :=
 ⟨r, h, hb, hk _ (gT.putObj _ _ _) (by simp)⟩
theorem Sn {b : Nat} {w : adH} {K : adH -> Prop} (h : w.heap[b]? = some (.deferred (some []))) (hk : ∀ w', gT w w' (fun y => y = b) -> w'.heap.size = w.heap.size -> K w') :
 Ci (.pointer (some ⟨b, 0, none⟩)) w K := ⟨h, hk _ (gT.putObj _ _ _) (by simp)⟩
theorem LW {f : FuncId} (first captured : List adI) (w : adH) : (Iu (.func f) first captured).run P w = .ok (.value (.func (.func f) first.toArray captured.toArray)) w := by
 unfold Iu V Instr.makeFunc
 simp [Sem.run_bind, Sem.run_pure]
end
end Go.En
namespace Go.En
open Go
theorem Rr {P : Program} {w : adH} {t e : TypeId} {k k' k'' : IntKind} {lo hi mx : Int} {i : TypeInfo} (hu : P.underlying t = some (.slice e)) (hi' : P.info? e = some i) (x : Option Addr) (n c : Nat) (h0 : 0 <= lo) (h0' : lo <= hi) (h1 : hi <= mx) (h2 : mx <= c) :
 (lL t (.slice x n c) (some (.int k lo)) (some (.int k' hi)) (some (.int k'' mx))).run P w = .ok (.value (.slice (jO x mx.toNat lo.toNat i.size) (hi.toNat - lo.toNat) (mx.toNat - lo.toNat))) w := by
 have h3 : (0 : Int) <= mx := by omega
 have h4 : hi <= (mx.toNat : Int) := by omega
 have h5 : (0 : Int) <= hi := by omega
 have h6 : lo <= (hi.toNat : Int) := by omega
 simp only [lL, mY, Instr.sliceAt, underlying, hu, Sem.run_bind, run_program, Result.andThen_ok, Sem.run_pure, Instr.slice, Instr.sliceBounds, pure_bind, rR h3 h2, rR h5 h4, rR h0 h6, kA hi', jO]
theorem XX {w : adH} {a : Option Addr} {n c : Nat} {l : List adI} (h : Sl w (.slice a n c) l) {i j : Nat} (hij : i < j) (hj : j <= n) : Sl w (.slice (jO a j i 1) (j - i) (j - i)) ((l.drop i).take (j - i)) := by
 obtain ⟨a', n', c', e, hn, hc, h⟩ := h
 cases e
 refine ⟨_, _, _, rfl, by rw [ZY, ZW]; omega, ZU _, fun h0 => ?_⟩
 obtain ⟨b, off, rfl, h2⟩ := h (by omega)
 have hs : jO (some ⟨b, off, none⟩) j i 1 = some ⟨b, off + i, none⟩ := by unfold jO; rw [if_neg (by omega), aaJ]; unfold Addr.add; simp
 refine ⟨b, off + i, hs, fun q hq => ?_⟩
 rw [abD (by omega), acA, abY]
 exact h2 (i + q) (by omega)
theorem Wx {a : Option Addr} {n c i j : Nat} {M : Nat -> Prop} (hij : i < j) (hj : j <= n) (h : vM (.slice (jO a j i 1) (j - i) (j - i)) M) : vM (.slice a n c) M := by
 obtain ⟨n', rfl⟩ : ∃ n', n = n' + 1 := ⟨n - 1, by omega⟩
 obtain ⟨d, hd⟩ : ∃ d, j - i = d + 1 := ⟨j - i - 1, by omega⟩
 rw [hd] at h
 cases a with
 | none => unfold jO at h; rw [if_neg (by omega)] at h; exact h
 | some x =>
   have hs : jO (some x) j i 1 = some (x.add (i * 1)) := by unfold jO; rw [if_neg (by omega)] <;> rfl
   rw [hs] at h
   have e : (x.add (i * 1)).block = x.block := by unfold Addr.add; split <;> rfl
   have h3 : M (x.add (i * 1)).block := h
   rw [e] at h3
   exact h3
end Go.En
namespace Go.Proofs.YteelnmpbnaohpaaDoor
open Go Go.En Go.Pu
set_option maxRecDepth 4000
set_option linter.unusedSimpArgs false
set_option linter.unusedVariables false
theorem Xa {l : List UInt8} {v : adI} {box bn lp : Nat} {r0 : Loop} {w : adH} (I : Nat -> adH -> Prop) (S : adH -> Prop)
 (hI : ∀ i W, I i W -> jF W box [v] /\ jF W bn [.int .i64 13] /\ Bs W v l /\ W.heap[lp]? = some (.loop r0)) (hD : ∀ i W, I i W -> I i (dr W)) (hp : r0.params.size = 1) (hl : l.length <= 1000000000) (h0 : I 0 w)
 (hs : ∀ i W pv, i < l.length -> I i W -> Bs W pv ((l.drop i).take 13) -> (∀ M : Nat -> Prop, vM pv M -> vM v M) -> Pa pg lp r0.fn (NK r0 [pv]) r0.assign r0.body W (fun b W' => (b = .bool true /\ I (i + 13) W') ∨ (b = .bool false /\ S W'))) :
 gS pg mC #[DC lp, .pointer (some ⟨box, 0, none⟩), .pointer (some ⟨bn, 0, none⟩)] w (fun r W => r = .tuple #[] /\ ((∃ i, l.length <= i /\ I i W) ∨ S W)) := by
 refine DZ ?_
 obtain ⟨RR, hRR⟩ : ∃ RR : adI -> adH -> Prop, RR = fun r W => r = .tuple #[] /\ ((∃ i, l.length <= i /\ I i W) ∨ S W) := ⟨_, rfl⟩
 rw [<- hRR]
 unfold Bz qN qC qB qE
 simp (disch := omega) only [eY, gM, dX, stepR_skip, fO, gD, fN, gC, gI, fW, gR, fX, eU, fU, fS, gH, fP, fL, fT, fR, fV, gE, gG, fQ, fC, fY, gB, fK, iO, iJ, iH, iL, iI, iM, iK, iG, iN, eP, Result.ok.injEq, Next.value.injEq, true_and, and_true, fJ, fI, fZ, fM, gA, gQ, ZI, fE, fH, fG, fD, eZ, eT, fB, eX, eQ, eH, if_true, if_false, ZF, ZL, ZG, ZH, ZK, ZJ, ZE, ZD, eA, dW, aB, dI, dH, cG, eB, eS, eC, dO, eD, fA, dL, eN, bQ, dG, bG, dN, aK, aG, eJ, aY, cA, eK, aD, eM, dM, aS, bJ, eE, bH, bF, bC, aP, aM, cB, fF, dY, bZ, cH, dB, cD, dT, bE, eI, bY, dF, bP, aZ, bX, aC, bV, bR, cI, bW, bA, aT, aU, bT, dS, cR, bO, aV, aJ, aL, bD, aH, dC, dV, aI, aN, aX, aF, cX, aE, cL, bU, bB, aO, cM, cJ, aA, dR, cP, cQ, cF, dK, cC, dJ, dU, cV, eF, eL, bN, aR, dZ, bS, aQ, bL, dE, dA, cU, cO, cS, bM, bK, cY, dD, cN, dQ, cZ]
 refine kF.rule (fun m (t : adI) w' => ∃ i : Nat, m = l.length - i /\ t = .int .i64 (i : Nat) /\ i <= l.length + 13 /\ I i w') l.length ⟨0, rfl, rfl, by omega, h0⟩ ?_
 rintro m t w1 ⟨i, rfl, rfl, hi, hIw⟩
 obtain ⟨o, on, hb, hlp⟩ := hI _ _ hIw
 obtain ⟨a, c, rfl, hc⟩ := hb.len
 rw [ZM] at hb hc o
 have c1 := o.cell (off := 0)
 have c1d := (kL o).cell (off := 0)
 have c2 := on.cell (off := 0)
 have c2d := (kL on).cell (off := 0)
 simp only [ZD] at c1 c1d c2 c2d
 unfold nG
 by_cases hlt : i < l.length
 .have d1 : decide ((i : Int) < (l.length : Int)) = true := by simp; omega
  obtain ⟨q, hq⟩ : ∃ q, q = min 13 (l.length - i) := ⟨_, rfl⟩
  have e1 : ((l.length - i : Nat) : Int) = ((l.length - i : Nat) : Int) := rfl
  have e2 : (if ((l.length - i : Nat) : Int) < (13 : Int) then ((l.length - i : Nat) : Int) else (13 : Int)) = (q : Int) := by split <;> omega
  have e3 : (i : Int) + (q : Int) = ((i + q : Nat) : Int) := by omega
  have l1 := fun w => Rr (P := pg) (w := w) (k := .i64) (k' := .i64) (k'' := .i64) (lo := (i : Int)) (hi := ((i + q : Nat) : Int)) (mx := ((i + q : Nat) : Int)) Tryd.underlying22 Ie a l.length c (by omega) (by omega) (by omega) (by omega)
  rw [ZM] at hI hs
  obtain ⟨pv, hpv⟩ : ∃ pv, pv = Value.slice (jO a (i + q) i 1) (i + q - i) (i + q - i) := ⟨_, rfl⟩
  have l1 : ∀ w, (lL 22 (.slice a l.length c) (some (.int .i64 (i : Nat))) (some (.int .i64 ((i + q : Nat) : Int))) (some (.int .i64 ((i + q : Nat) : Int)))).run pg w = .ok (.value pv) w := fun w => by rw [hpv]; exact l1 w
  have hpb : Bs w1 pv ((l.drop i).take 13) := by
   have := XX hb (i := i) (j := i + q) (by omega) (by omega)
   rw [<- abW, <- acJ] at this
   rw [hpv]
   have e : (l.drop i).take 13 = (l.drop i).take (i + q - i) := by
    rw [hq]
    by_cases h13 : 13 <= l.length - i
    .rw [aaD h13, aaX]
    .rw [Nat.min_eq_right (by omega), ZQ (by rw [ZW]; omega), ZQ (by rw [ZW]; omega)]
   rw [e]; exact this
  have hpn : ∀ M : Nat -> Prop, vM pv M -> vM (.slice a l.length c) M := fun M h => Wx (i := i) (j := i + q) (by omega) (by omega) (by rw [hpv] at h; exact h)
  have qd : (dr w1).heap[lp]? = some (.loop r0) := hlp
  have q1 := SV (P := pg) (args := [pv]) hlp (by rw [hp] <;> rfl)
  have q1d := SV (P := pg) (args := [pv]) qd (by rw [hp] <;> rfl)
  simp (disch := omega) only [eY, gM, dX, stepR_skip, fO, gD, fN, gC, gI, fW, gR, fX, eU, fU, fS, gH, fP, fL, fT, fR, fV, gE, gG, fQ, fC, fY, gB, fK, iO, iJ, iH, iL, iI, iM, iK, iG, iN, eP, Result.ok.injEq, Next.value.injEq, true_and, and_true, fJ, fI, fZ, fM, gA, gQ, ZI, fE, fH, fG, fD, eZ, eT, fB, eX, eQ, eH, if_true, if_false, ZF, ZL, ZG, ZH, ZK, ZJ, ZE, ZD, eA, dW, aB, dI, dH, cG, eB, eS, eC, dO, eD, fA, dL, eN, bQ, dG, bG, dN, aK, aG, eJ, aY, cA, eK, aD, eM, dM, aS, bJ, eE, bH, bF, bC, aP, aM, cB, fF, dY, bZ, cH, dB, cD, dT, bE, eI, bY, dF, bP, aZ, bX, aC, bV, bR, cI, bW, bA, aT, aU, bT, dS, cR, bO, aV, aJ, aL, bD, aH, dC, dV, aI, aN, aX, aF, cX, aE, cL, bU, bB, aO, cM, cJ, aA, dR, cP, cQ, cF, dK, cC, dJ, dU, cV, eF, eL, bN, aR, dZ, bS, aQ, bL, dE, dA, cU, cO, cS, bM, bK, cY, dD, cN, dQ, cZ, d1, c1, c1d, c2d, e2, e3, l1, q1, q1d, Qx]
  obtain ⟨b', w2, hret, hR⟩ := hs i (dr w1) pv hlt (hD _ _ hIw) (hpb.ext (gT.dr _ jI) (jA _)) hpn
  refine ⟨b', w2, hret, ?_⟩
  rcases hR with ⟨rfl, hI2⟩ | ⟨rfl, hS⟩
  .obtain ⟨_, on2, _, _⟩ := hI _ _ hI2
   have c3 := on2.cell (off := 0)
   simp only [ZD] at c3
   have e4 : (i : Int) + 13 = ((i + 13 : Nat) : Int) := by omega
   simp (disch := omega) only [eY, gM, dX, stepR_skip, fO, gD, fN, gC, gI, fW, gR, fX, eU, fU, fS, gH, fP, fL, fT, fR, fV, gE, gG, fQ, fC, fY, gB, fK, iO, iJ, iH, iL, iI, iM, iK, iG, iN, eP, Result.ok.injEq, Next.value.injEq, true_and, and_true, fJ, fI, fZ, fM, gA, gQ, ZI, fE, fH, fG, fD, eZ, eT, fB, eX, eQ, eH, if_true, if_false, ZF, ZL, ZG, ZH, ZK, ZJ, ZE, ZD, eA, dW, aB, dI, dH, cG, eB, eS, eC, dO, eD, fA, dL, eN, bQ, dG, bG, dN, aK, aG, eJ, aY, cA, eK, aD, eM, dM, aS, bJ, eE, bH, bF, bC, aP, aM, cB, fF, dY, bZ, cH, dB, cD, dT, bE, eI, bY, dF, bP, aZ, bX, aC, bV, bR, cI, bW, bA, aT, aU, bT, dS, cR, bO, aV, aJ, aL, bD, aH, dC, dV, aI, aN, aX, aF, cX, aE, cL, bU, bB, aO, cM, cJ, aA, dR, cP, cQ, cF, dK, cC, dJ, dU, cV, eF, eL, bN, aR, dZ, bS, aQ, bL, dE, dA, cU, cO, cS, bM, bK, cY, dD, cN, dQ, cZ, c3, e4]
   exact ⟨l.length - (i + 13), by omega, i + 13, rfl, rfl, by omega, hI2⟩
  .simp (disch := omega) only [eY, gM, dX, stepR_skip, fO, gD, fN, gC, gI, fW, gR, fX, eU, fU, fS, gH, fP, fL, fT, fR, fV, gE, gG, fQ, fC, fY, gB, fK, iO, iJ, iH, iL, iI, iM, iK, iG, iN, eP, Result.ok.injEq, Next.value.injEq, true_and, and_true, fJ, fI, fZ, fM, gA, gQ, ZI, fE, fH, fG, fD, eZ, eT, fB, eX, eQ, eH, if_true, if_false, ZF, ZL, ZG, ZH, ZK, ZJ, ZE, ZD, eA, dW, aB, dI, dH, cG, eB, eS, eC, dO, eD, fA, dL, eN, bQ, dG, bG, dN, aK, aG, eJ, aY, cA, eK, aD, eM, dM, aS, bJ, eE, bH, bF, bC, aP, aM, cB, fF, dY, bZ, cH, dB, cD, dT, bE, eI, bY, dF, bP, aZ, bX, aC, bV, bR, cI, bW, bA, aT, aU, bT, dS, cR, bO, aV, aJ, aL, bD, aH, dC, dV, aI, aN, aX, aF, cX, aE, cL, bU, bB, aO, cM, cJ, aA, dR, cP, cQ, cF, dK, cC, dJ, dU, cV, eF, eL, bN, aR, dZ, bS, aQ, bL, dE, dA, cU, cO, cS, bM, bK, cY, dD, cN, dQ, cZ]
   rw [hRR]
   exact ⟨rfl, .inr hS⟩
 .have d1 : decide ((i : Int) < (l.length : Int)) = false := by simp; omega
  simp (disch := omega) only [eY, gM, dX, stepR_skip, fO, gD, fN, gC, gI, fW, gR, fX, eU, fU, fS, gH, fP, fL, fT, fR, fV, gE, gG, fQ, fC, fY, gB, fK, iO, iJ, iH, iL, iI, iM, iK, iG, iN, eP, Result.ok.injEq, Next.value.injEq, true_and, and_true, fJ, fI, fZ, fM, gA, gQ, ZI, fE, fH, fG, fD, eZ, eT, fB, eX, eQ, eH, if_true, if_false, ZF, ZL, ZG, ZH, ZK, ZJ, ZE, ZD, eA, dW, aB, dI, dH, cG, eB, eS, eC, dO, eD, fA, dL, eN, bQ, dG, bG, dN, aK, aG, eJ, aY, cA, eK, aD, eM, dM, aS, bJ, eE, bH, bF, bC, aP, aM, cB, fF, dY, bZ, cH, dB, cD, dT, bE, eI, bY, dF, bP, aZ, bX, aC, bV, bR, cI, bW, bA, aT, aU, bT, dS, cR, bO, aV, aJ, aL, bD, aH, dC, dV, aI, aN, aX, aF, cX, aE, cL, bU, bB, aO, cM, cJ, aA, dR, cP, cQ, cF, dK, cC, dJ, dU, cV, eF, eL, bN, aR, dZ, bS, aQ, bL, dE, dA, cU, cO, cS, bM, bK, cY, dD, cN, dQ, cZ, c1, d1]
  rw [hRR]
  exact ⟨rfl, .inl ⟨i, by omega, hIw⟩⟩
end Go.Proofs.YteelnmpbnaohpaaDoor
namespace Go.Proofs.YteelnmpbnaohpaaDoor
open Go Go.En Go.Pu
set_option maxRecDepth 4000
theorem Wl {ox oy : Operand} (a b a' b' : Int) (w : adH) : (gO .eql 77 ox oy (.agg #[.int .u8 a, .int .u64 b]) (.agg #[.int .u8 a', .int .u64 b'])).run pg w = .ok (.value (.bool (a == a' && b == b'))) w := by
 have a3 : ∀ w, (isAgg 24).run pg w = .ok false w := fun w => by kernel_rfl
 have a5 : ∀ w, (isAgg 5).run pg w = .ok false w := fun w => by kernel_rfl
 have u3 := Tryd.underlying24
 have u5 := Tryd.underlying5
 have g0 : pg.eqGuardType pg.depth 77 = false := by kernel_rfl
 have g1 : pg.underlying 77 = some (.struct (pg.fieldsOf 77)) := by kernel_rfl
 have g2 : pg.stoodInHeld 77 = false := by kernel_rfl
 unfold gO
 simp only [BN, mY, Sem.run_bind, run_eqGuard_agg w .eql 77 ox oy _ _ g0, Result.andThen_ok, run_eql_struct]
 rw [run_equalIn_agg w 9999 77 _ _ g1 g2]
 simp only [Program.fieldsOf, Tryd.underlying77, Op.eqFields]
 simp [part, a3, a5, run_equalIn_int w 9998 24 _ _ _ _ u3, run_equalIn_int w 9998 5 _ _ _ _ u5]
 by_cases h1 : a = a' <;> by_cases h2 : b = b' <;> simp [h1, h2]
theorem Mg (cf : List UInt8 -> Nat) : ∀ (n m : Nat) (b : List UInt8), b.length <= n -> b.length <= m -> HC cf n b = HC cf m b
 | 0, m, b, h, _ => by
   have : b = [] := Z3.1 (by omega)
   subst this
   cases m <;> simp [HC]
 | n + 1, 0, b, _, h => by
   have : b = [] := Z3.1 (by omega)
   subst this
   simp [HC]
 | n + 1, m + 1, b, h, h' => by
   rw [HC, HC]
   by_cases hb : b = []
   .rw [if_pos hb, if_pos hb]
   .have hl : 0 < b.length := List.length_pos_iff.2 hb
    rw [if_neg hb, if_neg hb, Mg cf n m (b.drop 13) (by rw [ZW]; omega) (by rw [ZW]; omega)]
theorem TU {cf : List UInt8 -> Nat} {b : List UInt8} (h : b ≠ []) : mM cf b = if Jx cf (b.take 13) then (Wb (b.take 13), Va (b.take 13)) :: mM cf (b.drop 13) else [] := by
 have hl : 0 < b.length := List.length_pos_iff.2 h
 unfold mM
 rw [Mg cf b.length (b.length - 1 + 1) b (ZU _) (by omega), HC, if_neg h, Mg cf (b.length - 1) (b.drop 13).length (b.drop 13) (by rw [ZW]; omega) (ZU _)]
theorem ZA {p : List UInt8} (h : 0 < p.length) : Qq p 0 1 = (p.take 1, p.drop 1, 0) := by
 unfold Qq; rw [if_neg (by decide), if_neg (by omega)]
theorem ZB {p : List UInt8} : EH (Qq (p.drop 1) 0 8).1 = Va p := by
 unfold Qq Va
 rw [if_neg (by decide), ZW]
 by_cases h : p.length < 9
 .rw [if_pos (by omega), if_pos h] <;> rfl
 .rw [if_neg (by omega), if_neg h]
theorem VO : Ve gX = #[13] := by kernel_rfl
theorem XT : L7 pg kV = 46 := by kernel_rfl
def Xv (w : adH) (base : Nat) (o : adI) (R : List (Nat × Nat)) : Prop := Im w (fun b => base <= b) 2 o R.length (R.flatMap AZ)
theorem TI {l : List UInt8} {v : adI} {w : adH} (hg : qL w) (hb : Bs w v l) (hl : l.length <= 100000000) :
 gS pg kV #[v] w (fun r w' => ∃ o, r = .tuple #[o, .int .i64 ((13 * (mM gZ l).length : Nat) : Int)] /\ Xv w' w.heap.size o (mM gZ l) /\ gT w w' jI) := by
 refine LD ?_
 obtain ⟨RR, hRR⟩ : ∃ RR : adI -> adH -> Prop, RR = fun r w' => ∃ o, r = .tuple #[o, .int .i64 ((13 * (mM gZ l).length : Nat) : Int)] /\ Xv w' w.heap.size o (mM gZ l) /\ gT w w' jI := ⟨_, rfl⟩
 rw [<- hRR]
 unfold Mw BT BX DD Ig CP
 refine Js fun w1 o1 x1 s1 => ?_
 refine XC fun w2 o2 x2 s2 => ?_
 refine J3 o2 rfl (by simp) fun w3 o3 x3 s3 => ?_
 simp only [Z0] at o3
 unfold CI Dt C6
 refine GC ?_
 unfold Er tX tK
 obtain ⟨va, vn, vc, hv, -⟩ := id hb
 subst hv
 refine oA fun w4 o4 x4 s4 => ?_
 simp only [Value.cells] at o4
 refine oA fun w5 o5 x5 s5 => ?_
 simp only [Value.cells] at o5
 have c5 := o5.cell (off := 0)
 simp only [ZD] at c5
 have d5 : decide ((13 : Int) < 1) = false := rfl
 have q1 := fun w => LW (P := pg) (f := mC) [] [.pointer (some ⟨w3.heap.size, 0, none⟩), .pointer (some ⟨w4.heap.size, 0, none⟩)] w
 unfold pK
 simp (disch := omega) only [eY, gM, dX, stepR_skip, fO, gD, fN, gC, gI, fW, gR, fX, eU, fU, fS, gH, fP, fL, fT, fR, fV, gE, gG, fQ, fC, fY, gB, fK, iO, iJ, iH, iL, iI, iM, iK, iG, iN, eP, Result.ok.injEq, Next.value.injEq, true_and, and_true, fJ, fI, fZ, fM, gA, gQ, ZI, fE, fH, fG, fD, eZ, eT, fB, eX, eQ, eH, if_true, if_false, ZF, ZL, ZG, ZH, ZK, ZJ, ZE, ZD, eA, dW, aB, dI, dH, cG, eB, eS, eC, dO, eD, fA, dL, eN, bQ, dG, bG, dN, aK, aG, eJ, aY, cA, eK, aD, eM, dM, aS, bJ, eE, bH, bF, bC, aP, aM, cB, fF, dY, bZ, cH, dB, cD, dT, bE, eI, bY, dF, bP, aZ, bX, aC, bV, bR, cI, bW, bA, aT, aU, bT, dS, cR, bO, aV, aJ, aL, bD, aH, dC, dV, aI, aN, aX, aF, cX, aE, cL, bU, bB, aO, cM, cJ, aA, dR, cP, cQ, cF, dK, cC, dJ, dU, cV, eF, eL, bN, aR, dZ, bS, aQ, bL, dE, dA, cU, cO, cS, bM, bK, cY, dD, cN, dQ, cZ, c5, d5, q1]
 unfold CV Dj
 intro g g4 g5 g12 gm
 generalize hn0 : w.heap.size = n0 at *
 have e1 : w1.heap.size = n0 + 1 := by omega
 have e3 : w3.heap.size = n0 + 2 := by omega
 have e4 : w4.heap.size = n0 + 3 := by omega
 have e5 : w5.heap.size = n0 + 4 := by omega
 rw [e1] at o2 o3 x3 g5
 rw [e3] at o4 g12
 rw [e4] at o5 g12
 have x03 : gT w w3 jI := (x1.seq x2).trans x3 fun y hy h => by omega
 have x05 : gT w w5 jI := (x03.seq x4).seq x5
 have b1 : jF w5 n0 [.slice none 0 0] := (((o1.ext x2 (fun h => h)).ext x3 (by omega)).ext x4 (fun h => h)).ext x5 (fun h => h)
 have b2 : jF w5 (n0 + 1) [.int .i64 0] := (o3.ext x4 (fun h => h)).ext x5 (fun h => h)
 have b3 : jF w5 (n0 + 2) [.slice va vn vc] := o4.ext x5 (fun h => h)
 refine U6 (fi := mC) (cap := #[.pointer (some ⟨n0 + 2, 0, none⟩), .pointer (some ⟨n0 + 3, 0, none⟩)]) (by show noMark (g 1000003) = true; rw [gm] <;> rfl) g12 Tryd.func67 (by kernel_rfl) (by kernel_rfl) ?_
 obtain ⟨x8, s8, d8, l8⟩ := TD kV (L7 pg kV) (Ve gX) (Uh gX) (Sv gX) g w5
 rw [e5] at s8 d8 l8 ⊢
 generalize UB kV (L7 pg kV) (Ve gX) (Uh gX) (Sv gX) g w5 = w8 at *
 obtain ⟨r0, hr0⟩ : ∃ r0 : Loop, r0 = { state := .ready, pending := none, fn := kV, tmps := tmpsOf (L7 pg kV) g, params := Ve gX, assign := Uh gX, body := Sv gX, defers := n0 + 4 } := ⟨_, rfl⟩
 rw [<- hr0] at l8
 have x08 : gT w w8 jI := x05.seq x8
 let M : Nat -> Prop := fun y => y = n0 + 5 ∨ y = n0 ∨ y = n0 + 1 ∨ n0 + 5 < y
 let Q : Nat -> adH -> List (Nat × Nat) -> Prop := fun base W R => ∃ ov, gT w8 W M /\ jF W n0 [ov] /\ jF W (n0 + 1) [.int .i64 ((13 * R.length : Nat) : Int)] /\ Im W (fun b => n0 + 5 < b) 2 ov R.length (R.flatMap AZ)
 let I : Nat -> adH -> Prop := fun i W => ∃ R, mM gZ l = R ++ mM gZ (l.drop i) /\ W.heap[n0 + 5]? = some (.loop r0) /\ R.length <= i /\ Q n0 W R
 let S : adH -> Prop := fun W => W.heap[n0 + 5]? = some (.loop { r0 with state := .done, pending := some (.exit 0) }) /\ Q n0 W (mM gZ l)
 have hQd : ∀ {W R}, Q n0 W R -> Q n0 (dr W) R := fun {W R} ⟨ov, h1, h2, h3, h4⟩ => ⟨ov, h1.seq (gT.dr _ _), h2.ext (gT.dr _ jI) (fun h => h), h3.ext (gT.dr _ jI) (fun h => h), h4.ext (gT.dr _ jI) (fun _ _ h => h)⟩
 have hmain := Xa (l := l) (v := .slice va vn vc) (box := n0 + 2) (bn := n0 + 3) (lp := n0 + 5) (r0 := r0) (w := w8) I S ?hI ?hD ?hp (by omega) ?h0 ?hs
 case hI =>
  rintro i W ⟨R, hR, hlp, hRl, ov, hx, q1, q2, q3⟩
  exact ⟨(b3.ext x8 (fun h => h)).ext hx (by omega), (o5.ext x8 (fun h => h)).ext hx (by omega), hb.ext (x08.trans hx fun y hy h => by omega) (jA _), hlp⟩
 case hD =>
  rintro i W ⟨R, hR, hlp, hRl, hq⟩
  exact ⟨R, hR, hlp, hRl, hQd hq⟩
 case hp => rw [hr0, VO] <;> rfl
 case h0 => exact ⟨[], rfl, l8, ZU _, _, gT.refl _ _, b1.ext x8 (fun h => h), b2.ext x8 (fun h => h), ⟨rfl, .inl ⟨rfl, rfl⟩⟩⟩
 case hs =>
  rintro i W pv hi ⟨R, hR, hlp, hRl, ov, hx, q1, q2, q3⟩ hpb hpn
  have zW := hx.size
  have y08 : gT w W jI := x08.trans hx fun y hy h => by omega
  have hT : NK r0 [pv] = (tmpsOf 46 g).setIfInBounds 13 pv := WI (by rw [hr0]; exact VO) (by rw [hr0]; simp only; rw [XT]) _
  have hE : ∀ {x : Nat} {u v : adI}, x < 13 -> g x = u -> Jm ((tmpsOf 46 g).setIfInBounds 13 v) x = u := fun {x u v} h1 h2 => by
   rw [RH (by simp [tmpsOf]), if_neg (by omega), T1 (by omega), h2]
  have hE13 : ∀ {v : adI}, Jm ((tmpsOf 46 g).setIfInBounds 13 v) 13 = v := fun {v} => by
   rw [RH (by simp [tmpsOf]), if_pos rfl]
  rw [hT]
  subst hr0
  refine Lj (by simp [tmpsOf]) ?_
  rw [hE (by omega) g4, hE (by omega) g5, hE13]
  unfold G7 yP
  refine TJ hlp rfl fun W1 l1 y1 z1 => ?_
  obtain ⟨p, hp⟩ : ∃ p, p = (l.drop i).take 13 := ⟨_, rfl⟩
  rw [<- hp] at hpb
  have hpl : p.length = min 13 (l.length - i) := by rw [hp, ZY, ZW]
  have hne : l.drop i ≠ [] := fun h => by have := congrArg List.length h; rw [ZW] at this; simp at this; omega
  have hstep := TU (cf := gZ) hne
  rw [<- hp, acF] at hstep
  have y01 : gT w W1 jI := y08.trans y1 fun y hy h => by omega
  have hpv0 : ∀ {N : Nat -> Prop}, (∀ y, N y -> n0 <= y) -> ¬ vM pv N := fun {N} hN h => hb.old (yV (hpn _ h) fun y hy => by rw [hn0]; exact hN y hy)
  have hp1 : Bs W1 pv p := hpb.ext y1 (hpv0 fun y hy => by omega)
  have q1 := q1.ext y1 (by omega)
  have q2 := q2.ext y1 (by omega)
  have q3 := q3.ext y1 (fun b hb h => by omega)
  unfold sQ
  refine (QW hp1 (by omega)).mono ?_
  rintro r W2 ⟨pr, rfl, hr2, y2⟩
  refine (NH (n := 1) hr2 (by omega) ⟨by omega, by omega⟩).mono ?_
  rintro r W3 ⟨rfl, hr3, y3⟩
  have tk := ZA (p := p) (by omega)
  rw [tk] at hr3 ⊢
  have hk1 : EH (p.take 1) = Wb p := rfl
  have hk256 : Wb p < 256 := by
   have := F9 (p.take 1)
   rw [ZY, aaD (by omega)] at this
   rw [<- hk1]; simpa using this
  rw [hk1]
  obtain ⟨K, hK⟩ : ∃ K, K = Wb p := ⟨_, rfl⟩
  rw [<- hK] at hk256 ⊢
  have e6 : IntKind.u8.wrap (K : Int) = (K : Int) := gQ (by omega) (by omega)
  simp (disch := omega) only [eY, gM, dX, stepR_skip, fO, gD, fN, gC, gI, fW, gR, fX, eU, fU, fS, gH, fP, fL, fT, fR, fV, gE, gG, fQ, fC, fY, gB, fK, iO, iJ, iH, iL, iI, iM, iK, iG, iN, eP, Result.ok.injEq, Next.value.injEq, true_and, and_true, fJ, fI, fZ, fM, gA, gQ, ZI, fE, fH, fG, fD, eZ, eT, fB, eX, eQ, eH, if_true, if_false, ZF, ZL, ZG, ZH, ZK, ZJ, ZE, ZD, eA, dW, aB, dI, dH, cG, eB, eS, eC, dO, eD, fA, dL, eN, bQ, dG, bG, dN, aK, aG, eJ, aY, cA, eK, aD, eM, dM, aS, bJ, eE, bH, bF, bC, aP, aM, cB, fF, dY, bZ, cH, dB, cD, dT, bE, eI, bY, dF, bP, aZ, bX, aC, bV, bR, cI, bW, bA, aT, aU, bT, dS, cR, bO, aV, aJ, aL, bD, aH, dC, dV, aI, aN, aX, aF, cX, aE, cL, bU, bB, aO, cM, cJ, aA, dR, cP, cQ, cF, dK, cC, dJ, dU, cV, eF, eL, bN, aR, dZ, bS, aQ, bL, dE, dA, cU, cO, cS, bM, bK, cY, dD, cN, dQ, cZ, e6]
  refine (NH (n := 8) hr3 (by rw [ZW]; omega) ⟨by omega, by omega⟩).mono ?_
  rintro r W4 ⟨rfl, hr4, y4⟩
  rw [ZB]
  obtain ⟨V, hV⟩ : ∃ V, V = Va p := ⟨_, rfl⟩
  have hV64 : V < 2 ^ 64 := by
   rw [hV]
   unfold Va
   split
   .omega
   .have := F9 ((p.drop 1).take 8)
    rw [ZY, ZW, aaD (by omega)] at this
    omega
  rw [<- hV]
  obtain ⟨hr0a, hr0b, _⟩ := hr2
  have zW1 := y1.size
  have zW2 := y2.size
  have zW3 := y3.size
  have zW4 := y4.size
  have y14 : gT W1 W4 jI := (y2.trans y3 fun y hy h => by omega).trans y4 fun y hy h => by omega
  simp (disch := omega) only [eY, gM, dX, stepR_skip, fO, gD, fN, gC, gI, fW, gR, fX, eU, fU, fS, gH, fP, fL, fT, fR, fV, gE, gG, fQ, fC, fY, gB, fK, iO, iJ, iH, iL, iI, iM, iK, iG, iN, eP, Result.ok.injEq, Next.value.injEq, true_and, and_true, fJ, fI, fZ, fM, gA, gQ, ZI, fE, fH, fG, fD, eZ, eT, fB, eX, eQ, eH, if_true, if_false, ZF, ZL, ZG, ZH, ZK, ZJ, ZE, ZD, eA, dW, aB, dI, dH, cG, eB, eS, eC, dO, eD, fA, dL, eN, bQ, dG, bG, dN, aK, aG, eJ, aY, cA, eK, aD, eM, dM, aS, bJ, eE, bH, bF, bC, aP, aM, cB, fF, dY, bZ, cH, dB, cD, dT, bE, eI, bY, dF, bP, aZ, bX, aC, bV, bR, cI, bW, bA, aT, aU, bT, dS, cR, bO, aV, aJ, aL, bD, aH, dC, dV, aI, aN, aX, aF, cX, aE, cL, bU, bB, aO, cM, cJ, aA, dR, cP, cQ, cF, dK, cC, dJ, dU, cV, eF, eL, bN, aR, dZ, bS, aQ, bL, dE, dA, cU, cO, cS, bM, bK, cY, dD, cN, dQ, cZ]
  refine A5 fun W5 o5 y5 z5 => ?_
  refine Ah o5 rfl (by simp [one]) (by decide) fun W6 o6 y6 z6 => ?_
  obtain ⟨pc, hpc⟩ : ∃ pc, pc = W4.heap.size := ⟨_, rfl⟩
  rw [<- hpc] at o6 y6 ⊢
  have o6 : jF W6 pc (AZ (K, V)) := o6
  have y16 : gT W1 W6 jI := (y14.seq y5).trans y6 fun y hy h => by omega
  have y06 : gT w W6 jI := y01.seq y16
  have lr := tB (off := 0) o6 (by simp)
  have lr : (gJ 77 (.pointer (some ⟨pc, 0, none⟩))).run pg W6 = .ok (.value (UJ K V)) W6 := lr
  have hz := fun ox oy => Wl (ox := ox) (oy := oy) (K : Int) (V : Int) 0 0 W6
  have q1 := q1.ext y16 (fun h => h)
  have q2 := q2.ext y16 (fun h => h)
  have q3 := q3.ext y16 (fun _ _ h => h)
  have l6 := BW l1 y16 (fun h => h)
  have x86 : gT w8 W6 M := (hx.trans y1 fun y hy h => .inl h).seq (y16.mono fun _ _ h => h.elim)
  have hbad : Jx gZ p = false -> ∀ W7, gT W6 W7 jI -> Q8 (n0 + 5) (some (.exit 0)) (fun b W' => (b = .bool true /\ I (i + 13) W') ∨ (b = .bool false /\ S W')) W7 := by
   intro hbd W7 y7
   have hLR : mM gZ l = R := by rw [hR, hstep, if_neg (by rw [hbd]; decide), aaQ]
   refine Oi (BW l6 y7 (fun h => h)) fun W8 l8' y8 z8 => .inr ⟨rfl, l8', ?_⟩
   rw [hLR]
   exact ⟨ov, (x86.trans y7 fun y hy h => h.elim).trans y8 fun y hy h => .inl h, (q1.ext y7 (fun h => h)).ext y8 (by omega), (q2.ext y7 (fun h => h)).ext y8 (by omega), (q3.ext y7 (fun _ _ h => h)).ext y8 (fun b hb h => by omega)⟩
  have hgd : Jx gZ p = ((K == 1 || K == 2) && sJ gZ K V == p) := by rw [hK, hV] <;> rfl
  by_cases hz0 : K = 0 /\ V = 0
  .have d1 : (((K : Nat) : Int) == 0 && ((V : Nat) : Int) == 0) = true := by rw [hz0.1, hz0.2] <;> rfl
   simp only [d1] at hz
   simp (disch := omega) only [eY, gM, dX, stepR_skip, fO, gD, fN, gC, gI, fW, gR, fX, eU, fU, fS, gH, fP, fL, fT, fR, fV, gE, gG, fQ, fC, fY, gB, fK, iO, iJ, iH, iL, iI, iM, iK, iG, iN, eP, Result.ok.injEq, Next.value.injEq, true_and, and_true, fJ, fI, fZ, fM, gA, gQ, ZI, fE, fH, fG, fD, eZ, eT, fB, eX, eQ, eH, if_true, if_false, ZF, ZL, ZG, ZH, ZK, ZJ, ZE, ZD, eA, dW, aB, dI, dH, cG, eB, eS, eC, dO, eD, fA, dL, eN, bQ, dG, bG, dN, aK, aG, eJ, aY, cA, eK, aD, eM, dM, aS, bJ, eE, bH, bF, bC, aP, aM, cB, fF, dY, bZ, cH, dB, cD, dT, bE, eI, bY, dF, bP, aZ, bX, aC, bV, bR, cI, bW, bA, aT, aU, bT, dS, cR, bO, aV, aJ, aL, bD, aH, dC, dV, aI, aN, aX, aF, cX, aE, cL, bU, bB, aO, cM, cJ, aA, dR, cP, cQ, cF, dK, cC, dJ, dU, cV, eF, eL, bN, aR, dZ, bS, aQ, bL, dE, dA, cU, cO, cS, bM, bK, cY, dD, cN, dQ, cZ, lr, hz]
   exact hbad (by rw [hgd, hz0.1] <;> rfl) W6 (gT.refl _ _)
  have d1 : (((K : Nat) : Int) == 0 && ((V : Nat) : Int) == 0) = false := by
   rw [adA, beq_eq_false_iff_ne, beq_eq_false_iff_ne]
   omega
  simp only [d1] at hz
  simp (disch := omega) only [eY, gM, dX, stepR_skip, fO, gD, fN, gC, gI, fW, gR, fX, eU, fU, fS, gH, fP, fL, fT, fR, fV, gE, gG, fQ, fC, fY, gB, fK, iO, iJ, iH, iL, iI, iM, iK, iG, iN, eP, Result.ok.injEq, Next.value.injEq, true_and, and_true, fJ, fI, fZ, fM, gA, gQ, ZI, fE, fH, fG, fD, eZ, eT, fB, eX, eQ, eH, if_true, if_false, ZF, ZL, ZG, ZH, ZK, ZJ, ZE, ZD, eA, dW, aB, dI, dH, cG, eB, eS, eC, dO, eD, fA, dL, eN, bQ, dG, bG, dN, aK, aG, eJ, aY, cA, eK, aD, eM, dM, aS, bJ, eE, bH, bF, bC, aP, aM, cB, fF, dY, bZ, cH, dB, cD, dT, bE, eI, bY, dF, bP, aZ, bX, aC, bV, bR, cI, bW, bA, aT, aU, bT, dS, cR, bO, aV, aJ, aL, bD, aH, dC, dV, aI, aN, aX, aF, cX, aE, cL, bU, bB, aO, cM, cJ, aA, dR, cP, cQ, cF, dK, cC, dJ, dU, cV, eF, eL, bN, aR, dZ, bS, aQ, bL, dE, dA, cU, cO, cS, bM, bK, cY, dD, cN, dQ, cZ, lr, hz]
  refine (Q3 (hg.ext y06) hk256 hV64).mono ?_
  rintro r W7 ⟨hr7, y7⟩
  by_cases hk12 : K = 1 ∨ K = 2
  rotate_left
  .rw [if_neg hk12] at hr7
   subst hr7
   have n1 : ((1 : Int) != 0) = true := rfl
   simp (disch := omega) only [eY, gM, dX, stepR_skip, fO, gD, fN, gC, gI, fW, gR, fX, eU, fU, fS, gH, fP, fL, fT, fR, fV, gE, gG, fQ, fC, fY, gB, fK, iO, iJ, iH, iL, iI, iM, iK, iG, iN, eP, Result.ok.injEq, Next.value.injEq, true_and, and_true, fJ, fI, fZ, fM, gA, gQ, ZI, fE, fH, fG, fD, eZ, eT, fB, eX, eQ, eH, if_true, if_false, ZF, ZL, ZG, ZH, ZK, ZJ, ZE, ZD, eA, dW, aB, dI, dH, cG, eB, eS, eC, dO, eD, fA, dL, eN, bQ, dG, bG, dN, aK, aG, eJ, aY, cA, eK, aD, eM, dM, aS, bJ, eE, bH, bF, bC, aP, aM, cB, fF, dY, bZ, cH, dB, cD, dT, bE, eI, bY, dF, bP, aZ, bX, aC, bV, bR, cI, bW, bA, aT, aU, bT, dS, cR, bO, aV, aJ, aL, bD, aH, dC, dV, aI, aN, aX, aF, cX, aE, cL, bU, bB, aO, cM, cJ, aA, dR, cP, cQ, cF, dK, cC, dJ, dU, cV, eF, eL, bN, aR, dZ, bS, aQ, bL, dE, dA, cU, cO, cS, bM, bK, cY, dD, cN, dQ, cZ, n1]
   refine hbad ?_ W7 y7
   rw [hgd]
   have : (K == 1 || K == 2) = false := by rw [acG, beq_eq_false_iff_ne, beq_eq_false_iff_ne]; omega
   rw [this] <;> rfl
  rw [if_pos hk12] at hr7
  obtain ⟨pb, rfl, hpbs⟩ := hr7
  have h13 := pR gZ K V
  have n0' : ((0 : Int) != 0) = false := rfl
  have y17 : gT W1 W7 jI := y16.seq y7
  simp (disch := omega) only [eY, gM, dX, stepR_skip, fO, gD, fN, gC, gI, fW, gR, fX, eU, fU, fS, gH, fP, fL, fT, fR, fV, gE, gG, fQ, fC, fY, gB, fK, iO, iJ, iH, iL, iI, iM, iK, iG, iN, eP, Result.ok.injEq, Next.value.injEq, true_and, and_true, fJ, fI, fZ, fM, gA, gQ, ZI, fE, fH, fG, fD, eZ, eT, fB, eX, eQ, eH, if_true, if_false, ZF, ZL, ZG, ZH, ZK, ZJ, ZE, ZD, eA, dW, aB, dI, dH, cG, eB, eS, eC, dO, eD, fA, dL, eN, bQ, dG, bG, dN, aK, aG, eJ, aY, cA, eK, aD, eM, dM, aS, bJ, eE, bH, bF, bC, aP, aM, cB, fF, dY, bZ, cH, dB, cD, dT, bE, eI, bY, dF, bP, aZ, bX, aC, bV, bR, cI, bW, bA, aT, aU, bT, dS, cR, bO, aV, aJ, aL, bD, aH, dC, dV, aI, aN, aX, aF, cX, aE, cL, bU, bB, aO, cM, cJ, aA, dR, cP, cQ, cF, dK, cC, dJ, dU, cV, eF, eL, bN, aR, dZ, bS, aQ, bL, dE, dA, cU, cO, cS, bM, bK, cY, dD, cN, dQ, cZ, n0']
  refine (Ul (show Bs W7 pb (sJ gZ K V) from hpbs.sl) (hp1.ext y17 (jA _)) (by omega) (by omega)).mono ?_
  rintro r W8 ⟨rfl, y8⟩
  have y68 : gT W6 W8 jI := y7.seq y8
  cases hq : (sJ gZ K V == p) with
  | false =>
    simp (disch := omega) only [eY, gM, dX, stepR_skip, fO, gD, fN, gC, gI, fW, gR, fX, eU, fU, fS, gH, fP, fL, fT, fR, fV, gE, gG, fQ, fC, fY, gB, fK, iO, iJ, iH, iL, iI, iM, iK, iG, iN, eP, Result.ok.injEq, Next.value.injEq, true_and, and_true, fJ, fI, fZ, fM, gA, gQ, ZI, fE, fH, fG, fD, eZ, eT, fB, eX, eQ, eH, if_true, if_false, ZF, ZL, ZG, ZH, ZK, ZJ, ZE, ZD, eA, dW, aB, dI, dH, cG, eB, eS, eC, dO, eD, fA, dL, eN, bQ, dG, bG, dN, aK, aG, eJ, aY, cA, eK, aD, eM, dM, aS, bJ, eE, bH, bF, bC, aP, aM, cB, fF, dY, bZ, cH, dB, cD, dT, bE, eI, bY, dF, bP, aZ, bX, aC, bV, bR, cI, bW, bA, aT, aU, bT, dS, cR, bO, aV, aJ, aL, bD, aH, dC, dV, aI, aN, aX, aF, cX, aE, cL, bU, bB, aO, cM, cJ, aA, dR, cP, cQ, cF, dK, cC, dJ, dU, cV, eF, eL, bN, aR, dZ, bS, aQ, bL, dE, dA, cU, cO, cS, bM, bK, cY, dD, cN, dQ, cZ]
    exact hbad (by rw [hgd, hq, Bool.and_false]) W8 y68
  | true =>
    have hgood : Jx gZ p = true := by
     rw [hgd, hq, Bool.and_true, aaO, beq_iff_eq, beq_iff_eq]; exact hk12
    have hp13 := L5 gZ hgood
    have q1 := q1.ext y68 (fun h => h)
    have q2 := q2.ext y68 (fun h => h)
    have q3 := q3.ext y68 (fun _ _ h => h)
    have l8 := BW l6 y68 (fun h => h)
    have lr8 := tB (off := 0) (o6.ext y68 (fun h => h)) (by simp)
    have lr8 : (gJ 77 (.pointer (some ⟨pc, 0, none⟩))).run pg W8 = .ok (.value (UJ K V)) W8 := lr8
    have c1 := q1.cell (off := 0)
    simp only [ZD] at c1
    simp (disch := omega) only [eY, gM, dX, stepR_skip, fO, gD, fN, gC, gI, fW, gR, fX, eU, fU, fS, gH, fP, fL, fT, fR, fV, gE, gG, fQ, fC, fY, gB, fK, iO, iJ, iH, iL, iI, iM, iK, iG, iN, eP, Result.ok.injEq, Next.value.injEq, true_and, and_true, fJ, fI, fZ, fM, gA, gQ, ZI, fE, fH, fG, fD, eZ, eT, fB, eX, eQ, eH, if_true, if_false, ZF, ZL, ZG, ZH, ZK, ZJ, ZE, ZD, eA, dW, aB, dI, dH, cG, eB, eS, eC, dO, eD, fA, dL, eN, bQ, dG, bG, dN, aK, aG, eJ, aY, cA, eK, aD, eM, dM, aS, bJ, eE, bH, bF, bC, aP, aM, cB, fF, dY, bZ, cH, dB, cD, dT, bE, eI, bY, dF, bP, aZ, bX, aC, bV, bR, cI, bW, bA, aT, aU, bT, dS, cR, bO, aV, aJ, aL, bD, aH, dC, dV, aI, aN, aX, aF, cX, aE, cL, bU, bB, aO, cM, cJ, aA, dR, cP, cQ, cF, dK, cC, dJ, dU, cV, eF, eL, bN, aR, dZ, bS, aQ, bL, dE, dA, cU, cO, cS, bM, bK, cY, dD, cN, dQ, cZ, c1, lr8]
    refine Jn (cells := #[.int .u8 (K : Nat), .int .u64 (V : Nat)]) (by decide) (by decide) (by kernel_rfl) fun W9 o9 y9 z9 => ?_
    have o9 : jF W9 W8.heap.size (AZ (K, V)) := o9
    have z85 : n0 + 5 < W8.heap.size := by
     have := y17.size
     have := y8.size
     have := U1 l1
     omega
    obtain ⟨oa, oc, rfl⟩ := DJ q3
    have q3 := q3.ext y9 (fun _ _ h => h)
    refine Ek (m := 1) (news := AZ (K, V)) (i := Tryd.t77) Tryd.underlying72 Tryd.underlying72 NI rfl rfl rfl q3 (o9.cl (off := 0) (n := 1) rfl (fun i hi => by rw [ZL])) (by simp [one]) (fun b hb => by omega) (by omega) (by rw [show Tryd.t77.bytes = 16 from rfl]; omega) (by decide) fun v' W10 o' y10 => ?_
    obtain ⟨oa', oc', rfl⟩ := DJ o'
    have q1 := (q1.ext y9 (fun h => h)).ext y10 (by omega)
    have q2 := (q2.ext y9 (fun h => h)).ext y10 (by omega)
    refine Jj q1 rfl (by simp) fun W11 q1 y11 z11 => ?_
    simp only [Z0] at q1
    have q2 := q2.ext y11 (by omega)
    have o' := vE o' y11 (fun b hb h => by omega)
    have c2 := q2.cell (off := 0)
    simp only [ZD] at c2
    have e13 : ((13 * R.length : Nat) : Int) + 13 = ((13 * (R.length + 1) : Nat) : Int) := by omega
    simp (disch := omega) only [eY, gM, dX, stepR_skip, fO, gD, fN, gC, gI, fW, gR, fX, eU, fU, fS, gH, fP, fL, fT, fR, fV, gE, gG, fQ, fC, fY, gB, fK, iO, iJ, iH, iL, iI, iM, iK, iG, iN, eP, Result.ok.injEq, Next.value.injEq, true_and, and_true, fJ, fI, fZ, fM, gA, gQ, ZI, fE, fH, fG, fD, eZ, eT, fB, eX, eQ, eH, if_true, if_false, ZF, ZL, ZG, ZH, ZK, ZJ, ZE, ZD, eA, dW, aB, dI, dH, cG, eB, eS, eC, dO, eD, fA, dL, eN, bQ, dG, bG, dN, aK, aG, eJ, aY, cA, eK, aD, eM, dM, aS, bJ, eE, bH, bF, bC, aP, aM, cB, fF, dY, bZ, cH, dB, cD, dT, bE, eI, bY, dF, bP, aZ, bX, aC, bV, bR, cI, bW, bA, aT, aU, bT, dS, cR, bO, aV, aJ, aL, bD, aH, dC, dV, aI, aN, aX, aF, cX, aE, cL, bU, bB, aO, cM, cJ, aA, dR, cP, cQ, cF, dK, cC, dJ, dU, cV, eF, eL, bN, aR, dZ, bS, aQ, bL, dE, dA, cU, cO, cS, bM, bK, cY, dD, cN, dQ, cZ, c2, e13]
    refine J3 q2 rfl (by simp) fun W12 q2 y12 z12 => ?_
    simp only [Z0] at q2
    have y812 : gT W8 W12 M := (((y9.mono fun _ _ h => h.elim).seq (y10.mono fun y _ h => .inr (.inr (.inr h)))).seq (y11.mono fun y _ h => .inr (.inl h))).seq (y12.mono fun y _ h => .inr (.inr (.inl h)))
    have l12 := BW (BW (BW (BW l8 y9 (fun h => h)) y10 (by omega)) y11 (by omega)) y12 (by omega)
    refine Oi l12 fun W13 l13 y13 z13 => .inl ⟨rfl, R ++ [(K, V)], ?_, l13, ?_, _, ((x86.trans y68 fun y hy h => h.elim).seq y812).seq (y13.mono fun y _ h => .inl h), q1.ext y12 (by omega) |>.ext y13 (by omega), ?_, ?_⟩
    .rw [hR, hstep, if_pos hgood, Z4, <- hK, <- hV] <;> rfl
    .rw [ZN]; simp; omega
    .rw [ZN]; exact q2.ext y13 (by omega)
    .rw [ZN, List.flatMap_append]
     exact vE (vE o' y12 (fun b hb h => by omega)) y13 (fun b hb h => by omega)
 refine hmain.mono ?_
 rintro r w9 ⟨rfl, h⟩
 have fin : ∀ {wa : adH}, wa.heap[n0 + 4]? = some (.deferred (some [])) -> Q n0 wa (mM gZ l) -> oN RR (.pointer (some ⟨n0, 0, none⟩)) (.pointer (some ⟨n0 + 1, 0, none⟩)) (.pointer (some ⟨n0 + 4, 0, none⟩)) wa := fun {wa} hd ⟨ov, hx, q1, q2, q3⟩ => by
  unfold oN
  have c1 := (kL q1).cell (off := 0)
  have c2 := (kL q2).cell (off := 0)
  simp only [ZD] at c1 c2
  simp (disch := omega) only [eY, gM, dX, stepR_skip, fO, gD, fN, gC, gI, fW, gR, fX, eU, fU, fS, gH, fP, fL, fT, fR, fV, gE, gG, fQ, fC, fY, gB, fK, iO, iJ, iH, iL, iI, iM, iK, iG, iN, eP, Result.ok.injEq, Next.value.injEq, true_and, and_true, fJ, fI, fZ, fM, gA, gQ, ZI, fE, fH, fG, fD, eZ, eT, fB, eX, eQ, eH, if_true, if_false, ZF, ZL, ZG, ZH, ZK, ZJ, ZE, ZD, eA, dW, aB, dI, dH, cG, eB, eS, eC, dO, eD, fA, dL, eN, bQ, dG, bG, dN, aK, aG, eJ, aY, cA, eK, aD, eM, dM, aS, bJ, eE, bH, bF, bC, aP, aM, cB, fF, dY, bZ, cH, dB, cD, dT, bE, eI, bY, dF, bP, aZ, bX, aC, bV, bR, cI, bW, bA, aT, aU, bT, dS, cR, bO, aV, aJ, aL, bD, aH, dC, dV, aI, aN, aX, aF, cX, aE, cL, bU, bB, aO, cM, cJ, aA, dR, cP, cQ, cF, dK, cC, dJ, dU, cV, eF, eL, bN, aR, dZ, bS, aQ, bL, dE, dA, cU, cO, cS, bM, bK, cY, dD, cN, dQ, cZ, c1, c2]
  refine Sn hd fun we ye ze => ?_
  rw [hRR]
  refine ⟨ov, rfl, ?_, ((x08.trans hx fun y hy h => by omega).seq (gT.dr _ _)).trans ye fun y hy h => by omega⟩
  have o' := vE (vE q3 (gT.dr _ jI) (fun _ _ h => h)) ye (fun b hb h => by omega)
  refine ⟨o'.1, ?_⟩
  rcases o'.2 with h | ⟨b, c, rest, g1, g2, g3⟩
  .exact .inl h
  .exact .inr ⟨b, c, rest, g1, by omega, g3⟩
 have hz4 : put g (some DS) (.pointer (some ⟨n0 + 4, 0, none⟩)) 4 = g 4 := rfl
 have hz5 : put g (some DS) (.pointer (some ⟨n0 + 4, 0, none⟩)) 5 = g 5 := rfl
 have hzm : put g (some DS) (.pointer (some ⟨n0 + 4, 0, none⟩)) 1000003 = .pointer (some ⟨n0 + 4, 0, none⟩) := rfl
 have hQx : ∀ {W W' R}, Q n0 W R -> gT W W' (fun y => y = n0 + 5) -> Q n0 W' R := fun {W W' R} ⟨ov, h1, h2, h3, h4⟩ x => ⟨ov, h1.seq (x.mono fun y _ h => .inl h), h2.ext x (by omega), h3.ext x (by omega), vE h4 x (fun b hb h => by omega)⟩
 rcases h with ⟨i, hil, R, hR, hlp, hRl, hQ⟩ | ⟨hlp, hQ⟩
 .have hnil : l.drop i = [] := List.drop_eq_nil_of_le hil
  have hLR : mM gZ l = R := by rw [hR, hnil]; exact aaQ _
  obtain ⟨ov, hx, _⟩ := id hQ
  refine MF hlp (by rw [hr0]; simp) fun wa ya za => ?_
  rw [hr0]
  show oN RR (put g (some DS) (.pointer (some ⟨n0 + 4, 0, none⟩)) 4) (put g (some DS) (.pointer (some ⟨n0 + 4, 0, none⟩)) 5) (put g (some DS) (.pointer (some ⟨n0 + 4, 0, none⟩)) 1000003) wa
  rw [hz4, hz5, hzm, g4, g5]
  refine fin (BW (BW d8 hx (by omega)) ya (by omega)) ?_
  rw [hLR]
  exact hQx hQ ya
 .obtain ⟨ov, hx, _⟩ := id hQ
  refine MF hlp (by simp) fun wa ya za => ?_
  show oN RR (put g (some DS) (.pointer (some ⟨n0 + 4, 0, none⟩)) 4) (put g (some DS) (.pointer (some ⟨n0 + 4, 0, none⟩)) 5) (put g (some DS) (.pointer (some ⟨n0 + 4, 0, none⟩)) 1000003) wa
  rw [hz4, hz5, hzm, g4, g5]
  exact fin (BW (BW d8 hx (by omega)) ya (by omega)) (hQx hQ ya)
end Go.Proofs.YteelnmpbnaohpaaDoor
namespace Go.En
open Go Go.Pu
theorem XN {v : adI} {P Q : Nat -> Prop} (h : vM v fun b => P b ∨ Q b) : vM v P ∨ vM v Q := by
 unfold vM at *
 split
 .exact h
 .rename_i hne
  split at h
  .exact absurd rfl (hne _ _ _)
  .exact h.elim
def F4 (w : adH) (X : Nat -> Prop) (v : adI) (b : List UInt8) : Prop := Bs w v b /\ ¬ vM v X
theorem F4.ext {w w' : adH} {X M : Nat -> Prop} {v : adI} {b : List UInt8} (h : F4 w X v b) (x : gT w w' M) (hM : ∀ b, M b -> X b) : F4 w' X v b := ⟨h.1.ext x fun h' => h.2 (yV h' hM), h.2⟩
theorem F4.sub {w : adH} {X Y : Nat -> Prop} {v : adI} {b : List UInt8} (h : F4 w X v b) (hY : ∀ b, Y b -> X b ∨ w.heap.size <= b) : F4 w Y v b :=
 ⟨h.1, fun h' => by
   rcases XN (yV h' hY) with h' | h'
   .exact h.2 h'
   .exact h.1.old h'⟩
def Cv (w : adH) (X : Nat -> Prop) : List (ByteArray × adI) -> rO -> Prop
 | [], [] => True
 | p :: l, q :: c => p.1 = q.1 /\ F4 w X p.2 q.2 /\ Cv w X l c
 | _, _ => False
theorem Cv.map {w w' : adH} {X Y : Nat -> Prop} (hd : ∀ v b, F4 w X v b -> F4 w' Y v b) : ∀ {l : List (ByteArray × adI)} {c : rO}, Cv w X l c -> Cv w' Y l c
 | [], [], _ => trivial
 | p :: l, q :: c, h => ⟨h.1, hd _ _ h.2.1, Cv.map hd h.2.2⟩
theorem Cv.ext {w w' : adH} {X M : Nat -> Prop} {l : List (ByteArray × adI)} {c : rO} (h : Cv w X l c) (x : gT w w' M) (hM : ∀ b, M b -> X b) : Cv w' X l c := h.map fun _ _ h => h.ext x hM
theorem Cv.sub {w : adH} {X Y : Nat -> Prop} {l : List (ByteArray × adI)} {c : rO} (h : Cv w X l c) (hY : ∀ b, Y b -> X b ∨ w.heap.size <= b) : Cv w Y l c := h.map fun _ _ h => h.sub hY
theorem Cv.get {w : adH} {X : Nat -> Prop} (k : ByteArray) : ∀ {l : List (ByteArray × adI)} {c : rO}, Cv w X l c -> (GY k l = none /\ iV k c = none) ∨ ∃ v b, GY k l = some v /\ iV k c = some b /\ F4 w X v b
 | [], [], _ => .inl ⟨rfl, rfl⟩
 | p :: l, q :: c, h => by
   obtain ⟨h1, h2, h3⟩ := h
   simp only [GY, iV, <- h1]
   by_cases hk : k = p.1
   .rw [if_pos hk, if_pos hk]; exact .inr ⟨_, _, rfl, rfl, h2⟩
   .rw [if_neg hk, if_neg hk]; exact Cv.get k h3
theorem Cv.set {w : adH} {X : Nat -> Prop} {k : ByteArray} {v : adI} {b : List UInt8} (hd : F4 w X v b) : ∀ {l : List (ByteArray × adI)} {c : rO}, Cv w X l c -> Cv w X (Sz k v l) (pC k b c)
 | [], [], _ => ⟨rfl, hd, trivial⟩
 | p :: l, q :: c, h => by
   obtain ⟨h1, h2, h3⟩ := h
   simp only [Sz, pC, <- h1]
   by_cases hk : k = p.1
   .rw [if_pos hk, if_pos hk]; exact ⟨rfl, hd, h3⟩
   .rw [if_neg hk, if_neg hk]; exact ⟨h1, h2, Cv.set hd h3⟩
theorem Cv.del {w : adH} {X : Nat -> Prop} {k : ByteArray} : ∀ {l : List (ByteArray × adI)} {c : rO}, Cv w X l c -> Cv w X (del k l) (Cm k c)
 | [], [], _ => trivial
 | p :: l, q :: c, h => by
   obtain ⟨h1, h2, h3⟩ := h
   simp only [Go.En.del, Cm, <- h1]
   by_cases hk : k = p.1
   .rw [if_pos hk, if_pos hk]; exact h3
   .rw [if_neg hk, if_neg hk]; exact ⟨h1, h2, Cv.del h3⟩
theorem Cv.len {w : adH} {X : Nat -> Prop} : ∀ {l : List (ByteArray × adI)} {c : rO}, Cv w X l c -> l.length = c.length
 | [], [], _ => rfl
 | p :: l, q :: c, h => by rw [Z7, Z7, Cv.len h.2.2]
theorem Cv.at {w : adH} {X : Nat -> Prop} : ∀ {l : List (ByteArray × adI)} {c : rO} {j : Nat} (h : Cv w X l c) (h1 : j < l.length) (h2 : j < c.length), l[j].1 = c[j].1 /\ F4 w X l[j].2 c[j].2
 | [], [], j, _, h1, _ => by simp at h1
 | p :: l, q :: c, 0, h, _, _ => ⟨h.1, h.2.1⟩
 | p :: l, q :: c, j + 1, h, h1, h2 => Cv.at h.2.2 (by simpa using h1) (by simpa using h2)
theorem Cv.erase {w : adH} {X : Nat -> Prop} : ∀ {l : List (ByteArray × adI)} {c : rO} (j : Nat) (h : Cv w X l c), Cv w X (l.eraseIdx j) (c.eraseIdx j)
 | [], [], j, _ => by simp [Cv]
 | p :: l, q :: c, 0, h => h.2.2
 | p :: l, q :: c, j + 1, h => by
   rw [aaW, aaW]
   exact ⟨h.1, h.2.1, Cv.erase j h.2.2⟩
def OL (o : Qr) (v : adI) : List adI := [.int .i64 o.kind, .string o.name, .string o.other, .int .i64 o.at', v]
def MQ (w : adH) (X : Nat -> Prop) : List adI -> List Qr -> Prop
 | cs, [] => cs = []
 | cs, o :: os => ∃ v cs', (∃ x n k, v = .slice x n k) /\ cs = OL o v ++ cs' /\ F4 w X v o.bytes /\ MQ w X cs' os
theorem MQ.nil (w : adH) (X : Nat -> Prop) : MQ w X [] [] := rfl
theorem MQ.map {w w' : adH} {X Y : Nat -> Prop} (hd : ∀ v b, F4 w X v b -> F4 w' Y v b) : ∀ {os : List Qr} {cs : List adI}, MQ w X cs os -> MQ w' Y cs os
 | [], cs, h => h
 | o :: os, cs, ⟨v, cs', h1, h2, h3, h4⟩ => ⟨v, cs', h1, h2, hd _ _ h3, MQ.map hd h4⟩
theorem MQ.ext {w w' : adH} {X M : Nat -> Prop} {os : List Qr} {cs : List adI} (h : MQ w X cs os) (x : gT w w' M) (hM : ∀ b, M b -> X b) : MQ w' X cs os := h.map fun _ _ h => h.ext x hM
theorem MQ.sub {w : adH} {X Y : Nat -> Prop} {os : List Qr} {cs : List adI} (h : MQ w X cs os) (hY : ∀ b, Y b -> X b ∨ w.heap.size <= b) : MQ w Y cs os := h.map fun _ _ h => h.sub hY
theorem MQ.len {w : adH} {X : Nat -> Prop} : ∀ {os : List Qr} {cs : List adI}, MQ w X cs os -> cs.length = os.length * 5
 | [], cs, h => by rw [show cs = [] from h] <;> rfl
 | o :: os, cs, ⟨v, cs', h1, h2, h3, h4⟩ => by rw [h2, ZN, MQ.len h4, Z7]; show 5 + _ = _; omega
theorem MQ.snoc {w : adH} {X : Nat -> Prop} {o : Qr} {v : adI} (hv : ∃ x n k, v = .slice x n k) (hd : F4 w X v o.bytes) : ∀ {os : List Qr} {cs : List adI}, MQ w X cs os -> MQ w X (cs ++ OL o v) (os ++ [o])
 | [], cs, h => ⟨v, [], hv, by rw [show cs = [] from h, Z2, aaQ], hd, rfl⟩
 | o' :: os, cs, ⟨v', cs', h1, h2, h3, h4⟩ => ⟨v', cs' ++ OL o v, h1, by rw [h2, Z4], h3, MQ.snoc hv hd h4⟩
theorem MQ.at {w : adH} {X : Nat -> Prop} : ∀ {os : List Qr} {cs : List adI} {i : Nat} (h : MQ w X cs os) (hi : i < os.length), ∃ v, (∃ x n k, v = .slice x n k) /\ (cs.drop (i * 5)).take 5 = OL os[i] v /\ F4 w X v os[i].bytes
 | [], cs, i, _, hi => by simp at hi
 | o :: os, cs, 0, ⟨v, cs', h1, h2, h3, h4⟩, _ => ⟨v, h1, by rw [h2] <;> rfl, h3⟩
 | o :: os, cs, i + 1, ⟨v, cs', h1, h2, h3, h4⟩, hi => by
   obtain ⟨v', q1, q2, q3⟩ := MQ.at h4 (i := i) (by simpa using hi)
   refine ⟨v', q1, ?_, q3⟩
   rw [show (i + 1) * 5 = 5 + i * 5 from by omega, <- acF, h2]
   exact q2
structure jR where
 room : Int
 sure : rO
 seen : rO
 under : List Qr
 left : Int
 down : Bool
abbrev Ns : ByteArray -> adI := fun s => .string s
def lR (w : adH) (p : Nat) (X D : Nat -> Prop) (S : jR) : Prop :=
 ∃ (ms mn : Nat) (sv : adI) (ls ln : List (ByteArray × adI)) (cs : List adI), X p /\ X ms /\ X mn /\ p ≠ ms /\ p ≠ mn /\ ms ≠ mn /\ (∀ b, X b -> D b) /\ (∀ b, D b -> b < w.heap.size) /\
   jF w p [.int .i64 S.room, .map (some ms), .map (some mn), sv, .int .i64 S.left, .bool S.down] /\ Mp w ms Ns ls /\ Mp w mn Ns ln /\ Cv w D ls S.sure /\ Cv w D ln S.seen /\
   Im w (fun b => X b /\ b ≠ p /\ b ≠ ms /\ b ≠ mn) 5 sv S.under.length cs /\ MQ w D cs S.under
theorem lR.ext {w w' : adH} {p : Nat} {X D M : Nat -> Prop} {S : jR} (h : lR w p X D S) (x : gT w w' M) (hM : ∀ b, M b -> D b /\ ¬ X b) : lR w' p X D S := by
 obtain ⟨ms, mn, sv, ls, ln, cs, h1, h2, h3, h4, h5, h6, h7, h7', h8, h9, h10, h11, h12, h13, h14⟩ := h
 have hx : ∀ {b}, X b -> ¬ M b := fun hb hm => (hM _ hm).2 hb
 have hd : ∀ v b, F4 w D v b -> F4 w' D v b := fun _ _ hd => hd.ext x fun b h => (hM b h).1
 exact ⟨ms, mn, sv, ls, ln, cs, h1, h2, h3, h4, h5, h6, h7, fun b hb => abS (h7' b hb) x.size, h8.ext x (hx h1), h9.ext x (hx h2), h10.ext x (hx h3), h11.map hd, h12.map hd, h13.ext x (fun b hb => hx hb.1), h14.map hd⟩
theorem lR.new {w w' : adH} {p : Nat} {X D : Nat -> Prop} {S : jR} (h : lR w p X D S) (x : gT w w' jI) : lR w' p X D S := h.ext x fun _ h => h.elim
theorem lR.more {w w' : adH} {p q : Nat} {X D : Nat -> Prop} {S : jR} (h : lR w p X D S) (x : gT w w' jI) (hq : w.heap.size <= q) (hq' : q < w'.heap.size) : lR w' p X (fun b => D b ∨ b = q) S := by
 obtain ⟨ms, mn, sv, ls, ln, cs, h1, h2, h3, h4, h5, h6, h7, h7', h8, h9, h10, h11, h12, h13, h14⟩ := h
 have hd : ∀ v b, F4 w D v b -> F4 w' (fun b => D b ∨ b = q) v b := fun v b hd => (hd.sub (Y := fun b => D b ∨ b = q) fun b h => by
  rcases h with h | h
  .exact .inl h
  .exact .inr (by omega)).ext x fun _ h => h.elim
 have z := x.size
 exact ⟨ms, mn, sv, ls, ln, cs, h1, h2, h3, h4, h5, h6, fun b h => .inl (h7 b h), fun b hb => by
  rcases hb with hb | hb
  .have := h7' b hb; omega
  .omega, h8.ext x (fun h => h), h9.ext x (fun h => h), h10.ext x (fun h => h), h11.map hd, h12.map hd, h13.ext x (fun b _ h => h), h14.map hd⟩
end Go.En
namespace Go.Proofs.YteelnmpbnaohpaaDoor
open Go Go.En Go.Pu
set_option maxRecDepth 4000
def Ku (s : ByteArray) : Bool := decide (1 <= s.size /\ s.size <= 32)
theorem V7 (s : ByteArray) (w : adH) : gS pg AM #[.string s] w (fun r w' => r = .bool (Ku s) /\ w' = w) := by
 refine OX ?_
 unfold Qt IX Ku
 by_cases h1 : 1 <= s.size
 .have d1 : decide ((1 : Int) <= (s.size : Int)) = true := by simp; omega
  by_cases h2 : s.size <= 32
  .have d2 : decide ((s.size : Int) <= 32) = true := by simp; omega
   rw [decide_eq_true ⟨h1, h2⟩]
   simp (disch := omega) only [eY, gM, dX, stepR_skip, fO, gD, fN, gC, gI, fW, gR, fX, eU, fU, fS, gH, fP, fL, fT, fR, fV, gE, gG, fQ, fC, fY, gB, fK, iO, iJ, iH, iL, iI, iM, iK, iG, iN, eP, Result.ok.injEq, Next.value.injEq, true_and, and_true, fJ, fI, fZ, fM, gA, gQ, ZI, fE, fH, fG, fD, eZ, eT, fB, eX, eQ, eH, if_true, if_false, ZF, ZL, ZG, ZH, ZK, ZJ, ZE, ZD, eA, dW, aB, dI, dH, cG, eB, eS, eC, dO, eD, fA, dL, eN, bQ, dG, bG, dN, aK, aG, eJ, aY, cA, eK, aD, eM, dM, aS, bJ, eE, bH, bF, bC, aP, aM, cB, fF, dY, bZ, cH, dB, cD, dT, bE, eI, bY, dF, bP, aZ, bX, aC, bV, bR, cI, bW, bA, aT, aU, bT, dS, cR, bO, aV, aJ, aL, bD, aH, dC, dV, aI, aN, aX, aF, cX, aE, cL, bU, bB, aO, cM, cJ, aA, dR, cP, cQ, cF, dK, cC, dJ, dU, cV, eF, eL, bN, aR, dZ, bS, aQ, bL, dE, dA, cU, cO, cS, bM, bK, cY, dD, cN, dQ, cZ, d1, d2]
  .have d2 : decide ((s.size : Int) <= 32) = false := by simp; omega
   rw [decide_eq_false (fun h => h2 h.2)]
   simp (disch := omega) only [eY, gM, dX, stepR_skip, fO, gD, fN, gC, gI, fW, gR, fX, eU, fU, fS, gH, fP, fL, fT, fR, fV, gE, gG, fQ, fC, fY, gB, fK, iO, iJ, iH, iL, iI, iM, iK, iG, iN, eP, Result.ok.injEq, Next.value.injEq, true_and, and_true, fJ, fI, fZ, fM, gA, gQ, ZI, fE, fH, fG, fD, eZ, eT, fB, eX, eQ, eH, if_true, if_false, ZF, ZL, ZG, ZH, ZK, ZJ, ZE, ZD, eA, dW, aB, dI, dH, cG, eB, eS, eC, dO, eD, fA, dL, eN, bQ, dG, bG, dN, aK, aG, eJ, aY, cA, eK, aD, eM, dM, aS, bJ, eE, bH, bF, bC, aP, aM, cB, fF, dY, bZ, cH, dB, cD, dT, bE, eI, bY, dF, bP, aZ, bX, aC, bV, bR, cI, bW, bA, aT, aU, bT, dS, cR, bO, aV, aJ, aL, bD, aH, dC, dV, aI, aN, aX, aF, cX, aE, cL, bU, bB, aO, cM, cJ, aA, dR, cP, cQ, cF, dK, cC, dJ, dU, cV, eF, eL, bN, aR, dZ, bS, aQ, bL, dE, dA, cU, cO, cS, bM, bK, cY, dD, cN, dQ, cZ, d1, d2]
 .have d1 : decide ((1 : Int) <= (s.size : Int)) = false := by simp; omega
  rw [decide_eq_false (fun h => h1 h.1)]
  simp (disch := omega) only [eY, gM, dX, stepR_skip, fO, gD, fN, gC, gI, fW, gR, fX, eU, fU, fS, gH, fP, fL, fT, fR, fV, gE, gG, fQ, fC, fY, gB, fK, iO, iJ, iH, iL, iI, iM, iK, iG, iN, eP, Result.ok.injEq, Next.value.injEq, true_and, and_true, fJ, fI, fZ, fM, gA, gQ, ZI, fE, fH, fG, fD, eZ, eT, fB, eX, eQ, eH, if_true, if_false, ZF, ZL, ZG, ZH, ZK, ZJ, ZE, ZD, eA, dW, aB, dI, dH, cG, eB, eS, eC, dO, eD, fA, dL, eN, bQ, dG, bG, dN, aK, aG, eJ, aY, cA, eK, aD, eM, dM, aS, bJ, eE, bH, bF, bC, aP, aM, cB, fF, dY, bZ, cH, dB, cD, dT, bE, eI, bY, dF, bP, aZ, bX, aC, bV, bR, cI, bW, bA, aT, aU, bT, dS, cR, bO, aV, aJ, aL, bD, aH, dC, dV, aI, aN, aX, aF, cX, aE, cL, bU, bB, aO, cM, cJ, aA, dR, cP, cQ, cF, dK, cC, dJ, dU, cV, eF, eL, bN, aR, dZ, bS, aQ, bL, dE, dA, cU, cO, cS, bM, bK, cY, dD, cN, dQ, cZ, d1]
theorem X4 {m : Nat} {X : Nat -> Prop} {ls : List (ByteArray × adI)} {c : rO} {w : adH} (hm : Mp w m Ns ls) (hf : Cv w X ls c) (hs : iE c <= 1099511627776) :
 gS pg sP #[.map (some m)] w (fun r w' => r = .int .i64 (iE c : Nat) /\ gT w w' jI) := by
 refine IT ?_
 unfold GS wY xI wN xS wJ
 have hlt := hm.lt
 refine OZ hm fun w1 hi x1 s1 => ?_
 unfold wO xM
 have hf1 : Cv w1 (fun b => X b ∨ w.heap.size <= b) ls c := (hf.sub (Y := fun b => X b ∨ w.heap.size <= b) fun _ h => h).ext x1 fun _ h => h.elim
 refine kF.rule (fun k (t : adI) w' => ∃ (rest : List (ByteArray × adI)) (cr : rO) (n : Nat), k = rest.length /\ t = .int .i64 n /\ Xs w' w.heap.size m Ns rest /\ Cv w' (fun b => X b ∨ w.heap.size <= b) rest cr /\ n + iE cr = iE c /\ gT w1 w' (fun y => y = w.heap.size)) ls.length
  ⟨ls, c, 0, rfl, rfl, hi, hf1, by omega, gT.refl _ _⟩ ?_
 rintro k t w2 ⟨rest, cr, n, rfl, rfl, hi2, hf2, hn, x2⟩
 unfold rM
 refine Vt hi2 (by omega) (fun h0 => ?_) fun w3 j hj hi3 hc x3 s3 => ?_
 .have hl := hf2.len
  rw [h0] at hl
  have hcr : cr = [] := Z3.1 hl.symm
  have hz : iE cr = 0 := by rw [hcr] <;> rfl
  unfold rJ
  have e1 : n = iE c := by omega
  simp (disch := omega) only [eY, gM, dX, stepR_skip, fO, gD, fN, gC, gI, fW, gR, fX, eU, fU, fS, gH, fP, fL, fT, fR, fV, gE, gG, fQ, fC, fY, gB, fK, iO, iJ, iH, iL, iI, iM, iK, iG, iN, eP, Result.ok.injEq, Next.value.injEq, true_and, and_true, fJ, fI, fZ, fM, gA, gQ, ZI, fE, fH, fG, fD, eZ, eT, fB, eX, eQ, eH, if_true, if_false, ZF, ZL, ZG, ZH, ZK, ZJ, ZE, ZD, eA, dW, aB, dI, dH, cG, eB, eS, eC, dO, eD, fA, dL, eN, bQ, dG, bG, dN, aK, aG, eJ, aY, cA, eK, aD, eM, dM, aS, bJ, eE, bH, bF, bC, aP, aM, cB, fF, dY, bZ, cH, dB, cD, dT, bE, eI, bY, dF, bP, aZ, bX, aC, bV, bR, cI, bW, bA, aT, aU, bT, dS, cR, bO, aV, aJ, aL, bD, aH, dC, dV, aI, aN, aX, aF, cX, aE, cL, bU, bB, aO, cM, cJ, aA, dR, cP, cQ, cF, dK, cC, dJ, dU, cV, eF, eL, bN, aR, dZ, bS, aQ, bL, dE, dA, cU, cO, cS, bM, bK, cY, dD, cN, dQ, cZ, e1]
  exact x1.new x2 (ZU _)
 .have hl := hf2.len
  have hat := hf2.at hj (by omega)
  obtain ⟨va, vc, hv, _⟩ := hat.2.1.len
  rw [ZM] at hv
  have he := Xf (P := pg) hc
  rw [hv] at he
  have hse := RN (c := cr) (j := j) (by omega)
  generalize (cr[j]'(by omega)).2.length = q at *
  have e1 : (n : Int) + (q : Int) = ((n + q : Nat) : Int) := by omega
  simp (disch := omega) only [eY, gM, dX, stepR_skip, fO, gD, fN, gC, gI, fW, gR, fX, eU, fU, fS, gH, fP, fL, fT, fR, fV, gE, gG, fQ, fC, fY, gB, fK, iO, iJ, iH, iL, iI, iM, iK, iG, iN, eP, Result.ok.injEq, Next.value.injEq, true_and, and_true, fJ, fI, fZ, fM, gA, gQ, ZI, fE, fH, fG, fD, eZ, eT, fB, eX, eQ, eH, if_true, if_false, ZF, ZL, ZG, ZH, ZK, ZJ, ZE, ZD, eA, dW, aB, dI, dH, cG, eB, eS, eC, dO, eD, fA, dL, eN, bQ, dG, bG, dN, aK, aG, eJ, aY, cA, eK, aD, eM, dM, aS, bJ, eE, bH, bF, bC, aP, aM, cB, fF, dY, bZ, cH, dB, cD, dT, bE, eI, bY, dF, bP, aZ, bX, aC, bV, bR, cI, bW, bA, aT, aU, bT, dS, cR, bO, aV, aJ, aL, bD, aH, dC, dV, aI, aN, aX, aF, cX, aE, cL, bU, bB, aO, cM, cJ, aA, dR, cP, cQ, cF, dK, cC, dJ, dU, cV, eF, eL, bN, aR, dZ, bS, aQ, bL, dE, dA, cU, cO, cS, bM, bK, cY, dD, cN, dQ, cZ, he, e1]
  refine ⟨(rest.eraseIdx j).length, by rw [List.length_eraseIdx_of_lt hj]; omega, _, cr.eraseIdx j, n + q, rfl, rfl, hi3, (hf2.erase j).ext x3 (fun b h => .inr (by omega)), by omega, x2.seq x3⟩
theorem Sj (cs : List adI) (n : Nat) : mZ cs n [] = cs := by unfold mZ; rfl
theorem SQ (n : Nat) : (List.replicate n (0 : UInt8)).map oZ = List.replicate n (Value.int .u8 0) := by rw [List.map_replicate] <;> rfl
theorem Zk {m : Nat} {X : Nat -> Prop} {ls : List (ByteArray × adI)} {c : rO} {o : Qr} {va : Option Addr} {vc : Nat} {w : adH} (hm : Mp w m Ns ls) (hmX : X m) (hX : ∀ b, X b -> b < w.heap.size) (hf : Cv w X ls c)
 (hd : F4 w X (.slice va o.bytes.length vc) o.bytes) (hs : iE c <= 1099511627776) (ha : o.at' <= 1099511627776) (hb : o.bytes.length <= 1099511627776) :
 gS pg wF #[.map (some m), .agg (OL o (.slice va o.bytes.length vc)).toArray] w (fun r w' => r = .tuple #[] /\ ∃ ls', Mp w' m Ns ls' /\ Cv w' X ls' (MB o c) /\ gT w w' (fun b => b = m)) := by
 refine Ki ?_
 unfold Jz AP
 refine oA fun w1 o1 x1 s1 => ?_
 have o1 : jF w1 w.heap.size [.int .i64 o.kind, .string o.name, .string o.other, .int .i64 o.at', .slice va o.bytes.length vc] := o1
 have hlt := hm.lt
 have hm1 := hm.ext x1 (fun h => h)
 have fin : ∀ {w' : adH} {ls' : List (ByteArray × adI)}, Mp w' m Ns ls' -> Cv w' X ls' (MB o c) -> gT w w' (fun b => b = m) -> ∃ ls', Mp w' m Ns ls' /\ Cv w' X ls' (MB o c) /\ gT w w' (fun b => b = m) := fun h1 h2 h3 => ⟨_, h1, h2, h3⟩
 have hfx : ∀ {w' : adH}, gT w w' (fun b => b = m) -> Cv w' X ls c := fun x => hf.ext x fun b h => h ▸ hmX
 obtain ⟨oa, oc, ob, th, l0, hbo, hnx, hob, hth⟩ : ∃ (oa : Option Addr) (oc : Nat) (ob : List UInt8) (th : Bool), (yN 61 (.map (some m)) (.string o.name) true).run pg w1 = .ok (.value (.tuple #[.slice oa ob.length oc, .bool th])) w1 /\ Bs w (.slice oa ob.length oc) ob /\ ¬ vM (.slice oa ob.length oc) X /\
  (iV o.name c).getD [] = ob /\ (th = true /\ iV o.name c = some ob ∨ th = false /\ iV o.name c = none) := by
  have l0 := A7 hm1 o.name
  rcases hf.get o.name with ⟨h1, h2⟩ | ⟨v, b, h1, h2, h3⟩
  .rw [h1] at l0
   exact ⟨none, 0, [], false, l0, Sl.nil _, fun h => h, by rw [h2] <;> rfl, .inr ⟨rfl, h2⟩⟩
  .obtain ⟨a', c', hv, _⟩ := h3.1.len
   rw [ZM] at hv
   subst hv
   rw [h1] at l0
   exact ⟨a', c', b, true, l0, h3.1, h3.2, by rw [h2] <;> rfl, .inl ⟨rfl, h2⟩⟩
 have c0 := o1.cell (off := 0)
 have c1 := o1.cell (off := 1)
 have c2 := o1.cell (off := 2)
 have c3 := o1.cell (off := 3)
 have c4 := o1.cell (off := 4)
 simp only [ZD, ZE] at c0 c1 c2 c3 c4
 have holdlen : ob.length <= 1099511627776 := by rw [<- hob]; have := AH (k := o.name) (c := c); omega
 by_cases k0 : o.kind = 0
 .have n1 : (((o.kind : Nat) : Int) == 0) = true := by rw [k0] <;> rfl
  obtain ⟨M, hM⟩ : ∃ M, M = max ob.length (o.at' + o.bytes.length) := ⟨_, rfl⟩
  have e1 : (o.at' : Int) + (o.bytes.length : Int) = ((o.at' + o.bytes.length : Nat) : Int) := by omega
  have hmax : (if ((o.at' + o.bytes.length : Nat) : Int) > (ob.length : Int) then ((o.at' + o.bytes.length : Nat) : Int) else (ob.length : Int)) = ((M : Nat) : Int) := by
   split <;> omega
  simp (disch := omega) only [eY, gM, dX, stepR_skip, fO, gD, fN, gC, gI, fW, gR, fX, eU, fU, fS, gH, fP, fL, fT, fR, fV, gE, gG, fQ, fC, fY, gB, fK, iO, iJ, iH, iL, iI, iM, iK, iG, iN, eP, Result.ok.injEq, Next.value.injEq, true_and, and_true, fJ, fI, fZ, fM, gA, gQ, ZI, fE, fH, fG, fD, eZ, eT, fB, eX, eQ, eH, if_true, if_false, ZF, ZL, ZG, ZH, ZK, ZJ, ZE, ZD, eA, dW, aB, dI, dH, cG, eB, eS, eC, dO, eD, fA, dL, eN, bQ, dG, bG, dN, aK, aG, eJ, aY, cA, eK, aD, eM, dM, aS, bJ, eE, bH, bF, bC, aP, aM, cB, fF, dY, bZ, cH, dB, cD, dT, bE, eI, bY, dF, bP, aZ, bX, aC, bV, bR, cI, bW, bA, aT, aU, bT, dS, cR, bO, aV, aJ, aL, bD, aH, dC, dV, aI, aN, aX, aF, cX, aE, cL, bU, bB, aO, cM, cJ, aA, dR, cP, cQ, cF, dK, cC, dJ, dU, cV, eF, eL, bN, aR, dZ, bS, aQ, bL, dE, dA, cU, cO, cS, bM, bK, cY, dD, cN, dQ, cZ, c0, c1, c3, c4, l0, n1, e1, hmax]
  refine ME (by omega) (by omega) fun w2 o2 x2 s2 => ?_
  rw [ZI] at o2 ⊢
  have x02 := x1.seq x2
  have hnb : ¬ vM (.slice oa ob.length oc) (fun y => y = w1.heap.size) := fun h => hbo.old (yV h fun b hb => by omega)
  refine Em o2 (by rw [Z6]; omega) (hbo.ext x02 (jA _)) (EU _) fun w3 o3 x3 s3 => ?_
  have P3 : mZ (List.replicate M (Value.int .u8 0)) 0 ((ob.map oZ).take (min (ob.map oZ).length M)) = (ob ++ List.replicate (M - ob.length) 0).map oZ := by
   rw [ZM, aaD (by omega), ZQ (by rw [ZM]; omega)]
   have := oE (ob.map oZ) [] (List.replicate M (Value.int .u8 0)) (by rw [ZM, Z6]; omega)
   rw [Z2, Z2, abN] at this
   rw [this, aaP, SQ, List.drop_replicate, ZM]
  rw [P3] at o3
  have x03 : gT w w3 jI := x02.new x3 (by omega)
  have o13 := (o1.ext x2 (fun h => h)).ext x3 (by omega)
  have hm3 := hm.ext x03 (fun h => h)
  have q1 := o13.cell (off := 1)
  have q3 := o13.cell (off := 3)
  have q4 := o13.cell (off := 4)
  have q3d := (kL o13).cell (off := 3)
  have q4d := (kL o13).cell (off := 4)
  simp only [ZD, ZE] at q1 q3 q4 q3d q4d
  have hbd : Bs (dr w3) (.slice va o.bytes.length vc) o.bytes := (hd.1.ext x03 (jA _)).ext (gT.dr _ jI) (jA _)
  have hhm : o.at' <= M := by omega
  have hP : (ob ++ List.replicate (M - ob.length) (0 : UInt8)).length = M := by rw [ZN, Z6]; omega
  have hov : over ob o.at' o.bytes = (ob ++ List.replicate (M - ob.length) 0).take o.at' ++ o.bytes ++ (ob ++ List.replicate (M - ob.length) 0).drop (o.at' + o.bytes.length) := by unfold over; rw [<- hM]
  have hol := Ep ob o.at' o.bytes
  generalize ob ++ List.replicate (M - ob.length) (0 : UInt8) = P at *
  have ending : ∀ (w4 : adH), jF w4 w1.heap.size ((over ob o.at' o.bytes).map oZ) -> gT w w4 jI →
      eY pg (Ka 61 (.map (some m)) (.string o.name) (.slice (some ⟨w1.heap.size, 0, none⟩) M M)) w4 fun _ w' => ∃ ls', Mp w' m Ns ls' /\ Cv w' X ls' (MB o c) /\ gT w w' (fun b => b = m) := fun w4 o4 x4 => by
   refine JO (hm.ext x4 (fun h => h)) o.name _ fun w5 hm5 x5 s5 => ?_
   have x05 : gT w w5 (fun b => b = m) := (x4.mono fun _ _ h => h.elim).seq x5
   have hdo : MB o c = pC o.name (over ob o.at' o.bytes) c := by unfold MB; rw [if_pos k0, hob]
   rw [hdo]
   refine ⟨_, hm5, Cv.set ⟨?_, fun h => ?_⟩ (hfx x05), x05⟩
   .have := jF.whole (c := M) (o4.ext x5 (by omega)) (by omega)
    rw [hol, <- hM] at this
    exact this
   .obtain ⟨M', hM'⟩ : ∃ M', M = M' + 1 ∨ M = 0 := ⟨M - 1, by omega⟩
    rcases hM' with h' | h'
    .rw [h'] at h
     have h : X w1.heap.size := h
     have := hX _ h
     omega
    .rw [h'] at h
     exact h
  by_cases hat : o.at' < M
  .have hsh : jO (some ⟨w1.heap.size, 0, none⟩) M o.at' 1 = some ⟨w1.heap.size, 0 + o.at', none⟩ := Sg (by omega)
   simp (disch := omega) only [eY, gM, dX, stepR_skip, fO, gD, fN, gC, gI, fW, gR, fX, eU, fU, fS, gH, fP, fL, fT, fR, fV, gE, gG, fQ, fC, fY, gB, fK, iO, iJ, iH, iL, iI, iM, iK, iG, iN, eP, Result.ok.injEq, Next.value.injEq, true_and, and_true, fJ, fI, fZ, fM, gA, gQ, ZI, fE, fH, fG, fD, eZ, eT, fB, eX, eQ, eH, if_true, if_false, ZF, ZL, ZG, ZH, ZK, ZJ, ZE, ZD, eA, dW, aB, dI, dH, cG, eB, eS, eC, dO, eD, fA, dL, eN, bQ, dG, bG, dN, aK, aG, eJ, aY, cA, eK, aD, eM, dM, aS, bJ, eE, bH, bF, bC, aP, aM, cB, fF, dY, bZ, cH, dB, cD, dT, bE, eI, bY, dF, bP, aZ, bX, aC, bV, bR, cI, bW, bA, aT, aU, bT, dS, cR, bO, aV, aJ, aL, bD, aH, dC, dV, aI, aN, aX, aF, cX, aE, cL, bU, bB, aO, cM, cJ, aA, dR, cP, cQ, cF, dK, cC, dJ, dU, cV, eF, eL, bN, aR, dZ, bS, aQ, bL, dE, dA, cU, cO, cS, bM, bK, cY, dD, cN, dQ, cZ, q3, q4, q3d, q4d, hsh]
   refine Em (off := o.at') (kL o3) (by rw [ZM]; omega) hbd (EU _) fun w4 o4 x4 s4 => ?_
   have P4 : mZ (P.map oZ) o.at' ((o.bytes.map oZ).take (min (o.bytes.map oZ).length (M - o.at'))) = (over ob o.at' o.bytes).map oZ := by
    rw [ZM, aaD (by omega), ZQ (by rw [ZM]; omega)]
    have := oE (o.bytes.map oZ) ((P.take o.at').map oZ) ((P.drop o.at').map oZ) (by rw [ZM, ZM, ZW]; omega)
    rw [<- aaP, acZ, ZM, ZY, aaD (by omega)] at this
    rw [this, hov, ZM, aaP, aaP, <- abW, acF]
   rw [P4] at o4
   have x34 : gT w3 w4 (fun y => y = w1.heap.size) := (gT.dr _ _).seq x4
   have x04 : gT w w4 jI := x03.new x34 (by omega)
   have o14 := o13.ext x34 (by omega)
   have q1 := o14.cell (off := 1)
   have q1d := (kL o14).cell (off := 1)
   simp only [ZD, ZE] at q1 q1d
   have e4 := ending w4 o4 x04
   simp (disch := omega) only [eY, gM, dX, stepR_skip, fO, gD, fN, gC, gI, fW, gR, fX, eU, fU, fS, gH, fP, fL, fT, fR, fV, gE, gG, fQ, fC, fY, gB, fK, iO, iJ, iH, iL, iI, iM, iK, iG, iN, eP, Result.ok.injEq, Next.value.injEq, true_and, and_true, fJ, fI, fZ, fM, gA, gQ, ZI, fE, fH, fG, fD, eZ, eT, fB, eX, eQ, eH, if_true, if_false, ZF, ZL, ZG, ZH, ZK, ZJ, ZE, ZD, eA, dW, aB, dI, dH, cG, eB, eS, eC, dO, eD, fA, dL, eN, bQ, dG, bG, dN, aK, aG, eJ, aY, cA, eK, aD, eM, dM, aS, bJ, eE, bH, bF, bC, aP, aM, cB, fF, dY, bZ, cH, dB, cD, dT, bE, eI, bY, dF, bP, aZ, bX, aC, bV, bR, cI, bW, bA, aT, aU, bT, dS, cR, bO, aV, aJ, aL, bD, aH, dC, dV, aI, aN, aX, aF, cX, aE, cL, bU, bB, aO, cM, cJ, aA, dR, cP, cQ, cF, dK, cC, dJ, dU, cV, eF, eL, bN, aR, dZ, bS, aQ, bL, dE, dA, cU, cO, cS, bM, bK, cY, dD, cN, dQ, cZ, q1, q1d]
   exact e4
  .have hE : o.at' = M := by omega
   have hb0 : o.bytes = [] := Z3.1 (by omega)
   have hsh : jO (some ⟨w1.heap.size, 0, none⟩) M o.at' 1 = some ⟨w1.heap.size, 0, none⟩ := by unfold jO; rw [if_pos hE.symm]
   simp (disch := omega) only [eY, gM, dX, stepR_skip, fO, gD, fN, gC, gI, fW, gR, fX, eU, fU, fS, gH, fP, fL, fT, fR, fV, gE, gG, fQ, fC, fY, gB, fK, iO, iJ, iH, iL, iI, iM, iK, iG, iN, eP, Result.ok.injEq, Next.value.injEq, true_and, and_true, fJ, fI, fZ, fM, gA, gQ, ZI, fE, fH, fG, fD, eZ, eT, fB, eX, eQ, eH, if_true, if_false, ZF, ZL, ZG, ZH, ZK, ZJ, ZE, ZD, eA, dW, aB, dI, dH, cG, eB, eS, eC, dO, eD, fA, dL, eN, bQ, dG, bG, dN, aK, aG, eJ, aY, cA, eK, aD, eM, dM, aS, bJ, eE, bH, bF, bC, aP, aM, cB, fF, dY, bZ, cH, dB, cD, dT, bE, eI, bY, dF, bP, aZ, bX, aC, bV, bR, cI, bW, bA, aT, aU, bT, dS, cR, bO, aV, aJ, aL, bD, aH, dC, dV, aI, aN, aX, aF, cX, aE, cL, bU, bB, aO, cM, cJ, aA, dR, cP, cQ, cF, dK, cC, dJ, dU, cV, eF, eL, bN, aR, dZ, bS, aQ, bL, dE, dA, cU, cO, cS, bM, bK, cY, dD, cN, dQ, cZ, q3, q4, q3d, q4d, hsh]
   refine Em (off := 0) (kL o3) (by rw [ZM]; omega) hbd (EU _) fun w4 o4 x4 s4 => ?_
   have P4 : mZ (P.map oZ) 0 ((o.bytes.map oZ).take (min (o.bytes.map oZ).length (M - o.at'))) = (over ob o.at' o.bytes).map oZ := by
    rw [hov, hb0]
    show mZ (P.map oZ) 0 (List.take (min 0 (M - o.at')) []) = _
    rw [List.take_nil, Sj, aaQ, abN, Nat.add_zero, acZ]
   rw [P4] at o4
   have x34 : gT w3 w4 (fun y => y = w1.heap.size) := (gT.dr _ _).seq x4
   have x04 : gT w w4 jI := x03.new x34 (by omega)
   have o14 := o13.ext x34 (by omega)
   have q1 := o14.cell (off := 1)
   have q1d := (kL o14).cell (off := 1)
   simp only [ZD, ZE] at q1 q1d
   have e4 := ending w4 o4 x04
   simp (disch := omega) only [eY, gM, dX, stepR_skip, fO, gD, fN, gC, gI, fW, gR, fX, eU, fU, fS, gH, fP, fL, fT, fR, fV, gE, gG, fQ, fC, fY, gB, fK, iO, iJ, iH, iL, iI, iM, iK, iG, iN, eP, Result.ok.injEq, Next.value.injEq, true_and, and_true, fJ, fI, fZ, fM, gA, gQ, ZI, fE, fH, fG, fD, eZ, eT, fB, eX, eQ, eH, if_true, if_false, ZF, ZL, ZG, ZH, ZK, ZJ, ZE, ZD, eA, dW, aB, dI, dH, cG, eB, eS, eC, dO, eD, fA, dL, eN, bQ, dG, bG, dN, aK, aG, eJ, aY, cA, eK, aD, eM, dM, aS, bJ, eE, bH, bF, bC, aP, aM, cB, fF, dY, bZ, cH, dB, cD, dT, bE, eI, bY, dF, bP, aZ, bX, aC, bV, bR, cI, bW, bA, aT, aU, bT, dS, cR, bO, aV, aJ, aL, bD, aH, dC, dV, aI, aN, aX, aF, cX, aE, cL, bU, bB, aO, cM, cJ, aA, dR, cP, cQ, cF, dK, cC, dJ, dU, cV, eF, eL, bN, aR, dZ, bS, aQ, bL, dE, dA, cU, cO, cS, bM, bK, cY, dD, cN, dQ, cZ, q1, q1d]
   exact e4
 have n1 : (((o.kind : Nat) : Int) == 0) = false := beq_eq_false_iff_ne.2 (by omega)
 have self : gT w w1 (fun b => b = m) := x1.mono fun _ _ h => h.elim
 by_cases k1 : o.kind = 1
 .have n2 : (((o.kind : Nat) : Int) == 1) = true := by rw [k1] <;> rfl
  rcases hth with ⟨rfl, hg⟩ | ⟨rfl, hg⟩
  .have hdo : MB o c = pC o.other ob (Cm o.name c) := by unfold MB; rw [if_neg k0, if_pos k1, hg]
   simp (disch := omega) only [eY, gM, dX, stepR_skip, fO, gD, fN, gC, gI, fW, gR, fX, eU, fU, fS, gH, fP, fL, fT, fR, fV, gE, gG, fQ, fC, fY, gB, fK, iO, iJ, iH, iL, iI, iM, iK, iG, iN, eP, Result.ok.injEq, Next.value.injEq, true_and, and_true, fJ, fI, fZ, fM, gA, gQ, ZI, fE, fH, fG, fD, eZ, eT, fB, eX, eQ, eH, if_true, if_false, ZF, ZL, ZG, ZH, ZK, ZJ, ZE, ZD, eA, dW, aB, dI, dH, cG, eB, eS, eC, dO, eD, fA, dL, eN, bQ, dG, bG, dN, aK, aG, eJ, aY, cA, eK, aD, eM, dM, aS, bJ, eE, bH, bF, bC, aP, aM, cB, fF, dY, bZ, cH, dB, cD, dT, bE, eI, bY, dF, bP, aZ, bX, aC, bV, bR, cI, bW, bA, aT, aU, bT, dS, cR, bO, aV, aJ, aL, bD, aH, dC, dV, aI, aN, aX, aF, cX, aE, cL, bU, bB, aO, cM, cJ, aA, dR, cP, cQ, cF, dK, cC, dJ, dU, cV, eF, eL, bN, aR, dZ, bS, aQ, bL, dE, dA, cU, cO, cS, bM, bK, cY, dD, cN, dQ, cZ, c0, c1, c2, c3, c4, l0, n1, n2]
   refine JK hm1 o.name fun w2 hm2 x2 s2 => ?_
   have x02 := self.seq x2
   have q2 := (o1.ext x2 (by omega)).cell (off := 2)
   simp only [ZD, ZE] at q2
   simp (disch := omega) only [eY, gM, dX, stepR_skip, fO, gD, fN, gC, gI, fW, gR, fX, eU, fU, fS, gH, fP, fL, fT, fR, fV, gE, gG, fQ, fC, fY, gB, fK, iO, iJ, iH, iL, iI, iM, iK, iG, iN, eP, Result.ok.injEq, Next.value.injEq, true_and, and_true, fJ, fI, fZ, fM, gA, gQ, ZI, fE, fH, fG, fD, eZ, eT, fB, eX, eQ, eH, if_true, if_false, ZF, ZL, ZG, ZH, ZK, ZJ, ZE, ZD, eA, dW, aB, dI, dH, cG, eB, eS, eC, dO, eD, fA, dL, eN, bQ, dG, bG, dN, aK, aG, eJ, aY, cA, eK, aD, eM, dM, aS, bJ, eE, bH, bF, bC, aP, aM, cB, fF, dY, bZ, cH, dB, cD, dT, bE, eI, bY, dF, bP, aZ, bX, aC, bV, bR, cI, bW, bA, aT, aU, bT, dS, cR, bO, aV, aJ, aL, bD, aH, dC, dV, aI, aN, aX, aF, cX, aE, cL, bU, bB, aO, cM, cJ, aA, dR, cP, cQ, cF, dK, cC, dJ, dU, cV, eF, eL, bN, aR, dZ, bS, aQ, bL, dE, dA, cU, cO, cS, bM, bK, cY, dD, cN, dQ, cZ, q2]
   refine JO hm2 o.other _ fun w3 hm3 x3 s3 => ?_
   have x03 := x02.seq x3
   rw [hdo]
   refine fin (w' := w3) hm3 ?_ x03 |> fun h => by rw [hdo] at h; exact h
   rw [hdo]
   exact Cv.set ⟨hbo.ext x03 (fun h => hnx (yV h fun b hb => by rw [hb]; exact hmX)), hnx⟩ (Cv.del (hfx x03))
  .have hdo : MB o c = c := by unfold MB; rw [if_neg k0, if_pos k1, hg]
   simp (disch := omega) only [eY, gM, dX, stepR_skip, fO, gD, fN, gC, gI, fW, gR, fX, eU, fU, fS, gH, fP, fL, fT, fR, fV, gE, gG, fQ, fC, fY, gB, fK, iO, iJ, iH, iL, iI, iM, iK, iG, iN, eP, Result.ok.injEq, Next.value.injEq, true_and, and_true, fJ, fI, fZ, fM, gA, gQ, ZI, fE, fH, fG, fD, eZ, eT, fB, eX, eQ, eH, if_true, if_false, ZF, ZL, ZG, ZH, ZK, ZJ, ZE, ZD, eA, dW, aB, dI, dH, cG, eB, eS, eC, dO, eD, fA, dL, eN, bQ, dG, bG, dN, aK, aG, eJ, aY, cA, eK, aD, eM, dM, aS, bJ, eE, bH, bF, bC, aP, aM, cB, fF, dY, bZ, cH, dB, cD, dT, bE, eI, bY, dF, bP, aZ, bX, aC, bV, bR, cI, bW, bA, aT, aU, bT, dS, cR, bO, aV, aJ, aL, bD, aH, dC, dV, aI, aN, aX, aF, cX, aE, cL, bU, bB, aO, cM, cJ, aA, dR, cP, cQ, cF, dK, cC, dJ, dU, cV, eF, eL, bN, aR, dZ, bS, aQ, bL, dE, dA, cU, cO, cS, bM, bK, cY, dD, cN, dQ, cZ, c0, c1, c2, c3, c4, l0, n1, n2]
   exact fin hm1 (by rw [hdo]; exact hfx self) self
 have n2 : (((o.kind : Nat) : Int) == 1) = false := beq_eq_false_iff_ne.2 (by omega)
 by_cases k2 : o.kind = 2
 .have n3 : (((o.kind : Nat) : Int) == 2) = true := by rw [k2] <;> rfl
  have hdo : MB o c = Cm o.name c := by unfold MB; rw [if_neg k0, if_neg k1, if_pos k2]
  simp (disch := omega) only [eY, gM, dX, stepR_skip, fO, gD, fN, gC, gI, fW, gR, fX, eU, fU, fS, gH, fP, fL, fT, fR, fV, gE, gG, fQ, fC, fY, gB, fK, iO, iJ, iH, iL, iI, iM, iK, iG, iN, eP, Result.ok.injEq, Next.value.injEq, true_and, and_true, fJ, fI, fZ, fM, gA, gQ, ZI, fE, fH, fG, fD, eZ, eT, fB, eX, eQ, eH, if_true, if_false, ZF, ZL, ZG, ZH, ZK, ZJ, ZE, ZD, eA, dW, aB, dI, dH, cG, eB, eS, eC, dO, eD, fA, dL, eN, bQ, dG, bG, dN, aK, aG, eJ, aY, cA, eK, aD, eM, dM, aS, bJ, eE, bH, bF, bC, aP, aM, cB, fF, dY, bZ, cH, dB, cD, dT, bE, eI, bY, dF, bP, aZ, bX, aC, bV, bR, cI, bW, bA, aT, aU, bT, dS, cR, bO, aV, aJ, aL, bD, aH, dC, dV, aI, aN, aX, aF, cX, aE, cL, bU, bB, aO, cM, cJ, aA, dR, cP, cQ, cF, dK, cC, dJ, dU, cV, eF, eL, bN, aR, dZ, bS, aQ, bL, dE, dA, cU, cO, cS, bM, bK, cY, dD, cN, dQ, cZ, c0, c1, c2, c3, c4, l0, n1, n2, n3]
  refine JK hm1 o.name fun w2 hm2 x2 s2 => ?_
  have x02 := self.seq x2
  exact fin hm2 (by rw [hdo]; exact Cv.del (hfx x02)) x02
 .have n3 : (((o.kind : Nat) : Int) == 2) = false := beq_eq_false_iff_ne.2 (by omega)
  have hdo : MB o c = c := by unfold MB; rw [if_neg k0, if_neg k1, if_neg k2]
  simp (disch := omega) only [eY, gM, dX, stepR_skip, fO, gD, fN, gC, gI, fW, gR, fX, eU, fU, fS, gH, fP, fL, fT, fR, fV, gE, gG, fQ, fC, fY, gB, fK, iO, iJ, iH, iL, iI, iM, iK, iG, iN, eP, Result.ok.injEq, Next.value.injEq, true_and, and_true, fJ, fI, fZ, fM, gA, gQ, ZI, fE, fH, fG, fD, eZ, eT, fB, eX, eQ, eH, if_true, if_false, ZF, ZL, ZG, ZH, ZK, ZJ, ZE, ZD, eA, dW, aB, dI, dH, cG, eB, eS, eC, dO, eD, fA, dL, eN, bQ, dG, bG, dN, aK, aG, eJ, aY, cA, eK, aD, eM, dM, aS, bJ, eE, bH, bF, bC, aP, aM, cB, fF, dY, bZ, cH, dB, cD, dT, bE, eI, bY, dF, bP, aZ, bX, aC, bV, bR, cI, bW, bA, aT, aU, bT, dS, cR, bO, aV, aJ, aL, bD, aH, dC, dV, aI, aN, aX, aF, cX, aE, cL, bU, bB, aO, cM, cJ, aA, dR, cP, cQ, cF, dK, cC, dJ, dU, cV, eF, eL, bN, aR, dZ, bS, aQ, bL, dE, dA, cU, cO, cS, bM, bK, cY, dD, cN, dQ, cZ, c0, c1, c2, c3, c4, l0, n1, n2, n3]
  exact fin hm1 (by rw [hdo]; exact hfx self) self
abbrev dP (p : Nat) : adI := .pointer (some ⟨p, 0, none⟩)
def Bt (w : adH) (p : Nat) (X D : Nat -> Prop) (S' : jR) (w' : adH) : Prop := ∃ X' D', lR w' p X' D' S' /\ (∀ b, X' b -> X b ∨ w.heap.size <= b) /\ (∀ b, D b -> D' b) /\ gT w w' X
theorem Bt.refl {w : adH} {p : Nat} {X D : Nat -> Prop} {S : jR} (h : lR w p X D S) : Bt w p X D S w := ⟨X, D, h, fun _ h => .inl h, fun _ h => h, gT.refl _ _⟩
theorem Bt.step {w w1 w2 : adH} {p : Nat} {X D X1 D1 : Nat -> Prop} {S2 : jR} (x : gT w w1 X) (hX : ∀ b, X1 b -> X b ∨ w.heap.size <= b) (hD : ∀ b, D b -> D1 b) (h : Bt w1 p X1 D1 S2 w2) : Bt w p X D S2 w2 := by
 obtain ⟨X2, D2, h1, h2, h4, h3⟩ := h
 have z := x.size
 refine ⟨X2, D2, h1, fun b hb => ?_, fun b hb => h4 b (hD b hb), x.trans h3 fun b hb hx => ?_⟩
 .rcases h2 b hb with h | h
  .exact hX b h
  .exact .inr (by omega)
 .rcases hX b hx with h | h
  .exact h
  .omega
theorem Tw {w : adH} {S T : Nat -> Prop} {sz n : Nat} {v : adI} {l : List adI} (h : Im w S sz v n l) (hT : ∀ b, S b -> T b) : Im w T sz v n l := by
 refine ⟨h.1, ?_⟩
 rcases h.2 with h2 | ⟨b, c, rest, h1, h2, h3⟩
 .exact .inl h2
 .exact .inr ⟨b, c, rest, h1, hT b h2, h3⟩
theorem M8 {w : adH} {S : Nat -> Prop} {sz n : Nat} {v : adI} {l : List adI} (h : Im w S sz v n l) : Im w (fun b => S b /\ b < w.heap.size) sz v n l := by
 refine ⟨h.1, ?_⟩
 rcases h.2 with h2 | ⟨b, c, rest, h1, h2, h3, h4⟩
 .exact .inl h2
 .exact .inr ⟨b, c, rest, h1, ⟨h2, h3.lt⟩, h3, h4⟩
theorem Vx {p : Nat} {X D : Nat -> Prop} {S : jR} {w : adH} (h : lR w p X D S) : gS pg mU #[dP p] w (fun r w' => r = .int .i64 (if S.down then 20 else 0) /\ w' = w) := by
 refine KH ?_
 unfold Kp BU
 obtain ⟨ms, mn, sv, ls, ln, cs, h1, h2, h3, h4, h5, h6, hXD, hDl, o, hms, hmn, hfs, hfn, hu, ho⟩ := h
 have c5 := o.cell (off := 5)
 simp only [ZD, ZE] at c5
 cases hd : S.down with
 | true =>
   rw [hd] at c5
   simp (disch := omega) only [eY, gM, dX, stepR_skip, fO, gD, fN, gC, gI, fW, gR, fX, eU, fU, fS, gH, fP, fL, fT, fR, fV, gE, gG, fQ, fC, fY, gB, fK, iO, iJ, iH, iL, iI, iM, iK, iG, iN, eP, Result.ok.injEq, Next.value.injEq, true_and, and_true, fJ, fI, fZ, fM, gA, gQ, ZI, fE, fH, fG, fD, eZ, eT, fB, eX, eQ, eH, if_true, if_false, ZF, ZL, ZG, ZH, ZK, ZJ, ZE, ZD, eA, dW, aB, dI, dH, cG, eB, eS, eC, dO, eD, fA, dL, eN, bQ, dG, bG, dN, aK, aG, eJ, aY, cA, eK, aD, eM, dM, aS, bJ, eE, bH, bF, bC, aP, aM, cB, fF, dY, bZ, cH, dB, cD, dT, bE, eI, bY, dF, bP, aZ, bX, aC, bV, bR, cI, bW, bA, aT, aU, bT, dS, cR, bO, aV, aJ, aL, bD, aH, dC, dV, aI, aN, aX, aF, cX, aE, cL, bU, bB, aO, cM, cJ, aA, dR, cP, cQ, cF, dK, cC, dJ, dU, cV, eF, eL, bN, aR, dZ, bS, aQ, bL, dE, dA, cU, cO, cS, bM, bK, cY, dD, cN, dQ, cZ, c5]
 | false =>
   rw [hd] at c5
   simp (disch := omega) only [eY, gM, dX, stepR_skip, fO, gD, fN, gC, gI, fW, gR, fX, eU, fU, fS, gH, fP, fL, fT, fR, fV, gE, gG, fQ, fC, fY, gB, fK, iO, iJ, iH, iL, iI, iM, iK, iG, iN, eP, Result.ok.injEq, Next.value.injEq, true_and, and_true, fJ, fI, fZ, fM, gA, gQ, ZI, fE, fH, fG, fD, eZ, eT, fB, eX, eQ, eH, if_true, if_false, ZF, ZL, ZG, ZH, ZK, ZJ, ZE, ZD, eA, dW, aB, dI, dH, cG, eB, eS, eC, dO, eD, fA, dL, eN, bQ, dG, bG, dN, aK, aG, eJ, aY, cA, eK, aD, eM, dM, aS, bJ, eE, bH, bF, bC, aP, aM, cB, fF, dY, bZ, cH, dB, cD, dT, bE, eI, bY, dF, bP, aZ, bX, aC, bV, bR, cI, bW, bA, aT, aU, bT, dS, cR, bO, aV, aJ, aL, bD, aH, dC, dV, aI, aN, aX, aF, cX, aE, cL, bU, bB, aO, cM, cJ, aA, dR, cP, cQ, cF, dK, cC, dJ, dU, cV, eF, eL, bN, aR, dZ, bS, aQ, bL, dE, dA, cU, cO, cS, bM, bK, cY, dD, cN, dQ, cZ, c5]
def IB (l : Int) : Int := if 0 < l then l - 1 else l
def SZ (S : jR) : Bool := S.down || S.left == 0
theorem Tv {p : Nat} {a b c d : adI} {left : Int} {down : Bool} {w : adH} (o : jF w p [a, b, c, d, .int .i64 left, .bool down]) (hl : -1 <= left /\ left <= 9223372036854775807) :
 gS pg pJ #[dP p] w (fun r w' => r = .bool (down || left == 0) /\ jF w' p [a, b, c, d, .int .i64 (IB left), .bool (down || left == 0)] /\ gT w w' (fun y => y = p)) := by
 refine H5 ?_
 unfold G1 wL xP IB
 have c4 := o.cell (off := 4)
 simp only [ZD, ZE] at c4
 by_cases h0 : left = 0
 .subst h0
  have n1 : ((0 : Int) == 0) = true := rfl
  simp (disch := omega) only [eY, gM, dX, stepR_skip, fO, gD, fN, gC, gI, fW, gR, fX, eU, fU, fS, gH, fP, fL, fT, fR, fV, gE, gG, fQ, fC, fY, gB, fK, iO, iJ, iH, iL, iI, iM, iK, iG, iN, eP, Result.ok.injEq, Next.value.injEq, true_and, and_true, fJ, fI, fZ, fM, gA, gQ, ZI, fE, fH, fG, fD, eZ, eT, fB, eX, eQ, eH, if_true, if_false, ZF, ZL, ZG, ZH, ZK, ZJ, ZE, ZD, eA, dW, aB, dI, dH, cG, eB, eS, eC, dO, eD, fA, dL, eN, bQ, dG, bG, dN, aK, aG, eJ, aY, cA, eK, aD, eM, dM, aS, bJ, eE, bH, bF, bC, aP, aM, cB, fF, dY, bZ, cH, dB, cD, dT, bE, eI, bY, dF, bP, aZ, bX, aC, bV, bR, cI, bW, bA, aT, aU, bT, dS, cR, bO, aV, aJ, aL, bD, aH, dC, dV, aI, aN, aX, aF, cX, aE, cL, bU, bB, aO, cM, cJ, aA, dR, cP, cQ, cF, dK, cC, dJ, dU, cV, eF, eL, bN, aR, dZ, bS, aQ, bL, dE, dA, cU, cO, cS, bM, bK, cY, dD, cN, dQ, cZ, c4, n1]
  refine Gw o rfl (by simp) fun w1 o1 x1 s1 => ?_
  simp only [Z0, aaI] at o1
  have c5 := o1.cell (off := 5)
  simp only [ZD, ZE] at c5
  unfold mL
  simp (disch := omega) only [eY, gM, dX, stepR_skip, fO, gD, fN, gC, gI, fW, gR, fX, eU, fU, fS, gH, fP, fL, fT, fR, fV, gE, gG, fQ, fC, fY, gB, fK, iO, iJ, iH, iL, iI, iM, iK, iG, iN, eP, Result.ok.injEq, Next.value.injEq, true_and, and_true, fJ, fI, fZ, fM, gA, gQ, ZI, fE, fH, fG, fD, eZ, eT, fB, eX, eQ, eH, if_true, if_false, ZF, ZL, ZG, ZH, ZK, ZJ, ZE, ZD, eA, dW, aB, dI, dH, cG, eB, eS, eC, dO, eD, fA, dL, eN, bQ, dG, bG, dN, aK, aG, eJ, aY, cA, eK, aD, eM, dM, aS, bJ, eE, bH, bF, bC, aP, aM, cB, fF, dY, bZ, cH, dB, cD, dT, bE, eI, bY, dF, bP, aZ, bX, aC, bV, bR, cI, bW, bA, aT, aU, bT, dS, cR, bO, aV, aJ, aL, bD, aH, dC, dV, aI, aN, aX, aF, cX, aE, cL, bU, bB, aO, cM, cJ, aA, dR, cP, cQ, cF, dK, cC, dJ, dU, cV, eF, eL, bN, aR, dZ, bS, aQ, bL, dE, dA, cU, cO, cS, bM, bK, cY, dD, cN, dQ, cZ, c5]
  rw [Bool.or_true]
  exact ⟨rfl, o1, x1⟩
 have n1 : (left == 0) = false := beq_eq_false_iff_ne.2 h0
 rw [n1, acL]
 by_cases h1 : 0 < left
 .have d1 : decide (0 < left) = true := by simpa using h1
  simp (disch := omega) only [eY, gM, dX, stepR_skip, fO, gD, fN, gC, gI, fW, gR, fX, eU, fU, fS, gH, fP, fL, fT, fR, fV, gE, gG, fQ, fC, fY, gB, fK, iO, iJ, iH, iL, iI, iM, iK, iG, iN, eP, Result.ok.injEq, Next.value.injEq, true_and, and_true, fJ, fI, fZ, fM, gA, gQ, ZI, fE, fH, fG, fD, eZ, eT, fB, eX, eQ, eH, if_true, if_false, ZF, ZL, ZG, ZH, ZK, ZJ, ZE, ZD, eA, dW, aB, dI, dH, cG, eB, eS, eC, dO, eD, fA, dL, eN, bQ, dG, bG, dN, aK, aG, eJ, aY, cA, eK, aD, eM, dM, aS, bJ, eE, bH, bF, bC, aP, aM, cB, fF, dY, bZ, cH, dB, cD, dT, bE, eI, bY, dF, bP, aZ, bX, aC, bV, bR, cI, bW, bA, aT, aU, bT, dS, cR, bO, aV, aJ, aL, bD, aH, dC, dV, aI, aN, aX, aF, cX, aE, cL, bU, bB, aO, cM, cJ, aA, dR, cP, cQ, cF, dK, cC, dJ, dU, cV, eF, eL, bN, aR, dZ, bS, aQ, bL, dE, dA, cU, cO, cS, bM, bK, cY, dD, cN, dQ, cZ, c4, n1, d1]
  refine J3 o rfl (by simp) fun w1 o1 x1 s1 => ?_
  simp only [Z0, aaI] at o1
  have c5 := o1.cell (off := 5)
  simp only [ZD, ZE] at c5
  unfold mL
  rw [if_pos h1]
  simp (disch := omega) only [eY, gM, dX, stepR_skip, fO, gD, fN, gC, gI, fW, gR, fX, eU, fU, fS, gH, fP, fL, fT, fR, fV, gE, gG, fQ, fC, fY, gB, fK, iO, iJ, iH, iL, iI, iM, iK, iG, iN, eP, Result.ok.injEq, Next.value.injEq, true_and, and_true, fJ, fI, fZ, fM, gA, gQ, ZI, fE, fH, fG, fD, eZ, eT, fB, eX, eQ, eH, if_true, if_false, ZF, ZL, ZG, ZH, ZK, ZJ, ZE, ZD, eA, dW, aB, dI, dH, cG, eB, eS, eC, dO, eD, fA, dL, eN, bQ, dG, bG, dN, aK, aG, eJ, aY, cA, eK, aD, eM, dM, aS, bJ, eE, bH, bF, bC, aP, aM, cB, fF, dY, bZ, cH, dB, cD, dT, bE, eI, bY, dF, bP, aZ, bX, aC, bV, bR, cI, bW, bA, aT, aU, bT, dS, cR, bO, aV, aJ, aL, bD, aH, dC, dV, aI, aN, aX, aF, cX, aE, cL, bU, bB, aO, cM, cJ, aA, dR, cP, cQ, cF, dK, cC, dJ, dU, cV, eF, eL, bN, aR, dZ, bS, aQ, bL, dE, dA, cU, cO, cS, bM, bK, cY, dD, cN, dQ, cZ, c5]
  exact ⟨o1, x1⟩
 .have d1 : decide (0 < left) = false := by simpa using h1
  have c5 := o.cell (off := 5)
  simp only [ZD, ZE] at c5
  unfold mL
  rw [if_neg h1]
  simp (disch := omega) only [eY, gM, dX, stepR_skip, fO, gD, fN, gC, gI, fW, gR, fX, eU, fU, fS, gH, fP, fL, fT, fR, fV, gE, gG, fQ, fC, fY, gB, fK, iO, iJ, iH, iL, iI, iM, iK, iG, iN, eP, Result.ok.injEq, Next.value.injEq, true_and, and_true, fJ, fI, fZ, fM, gA, gQ, ZI, fE, fH, fG, fD, eZ, eT, fB, eX, eQ, eH, if_true, if_false, ZF, ZL, ZG, ZH, ZK, ZJ, ZE, ZD, eA, dW, aB, dI, dH, cG, eB, eS, eC, dO, eD, fA, dL, eN, bQ, dG, bG, dN, aK, aG, eJ, aY, cA, eK, aD, eM, dM, aS, bJ, eE, bH, bF, bC, aP, aM, cB, fF, dY, bZ, cH, dB, cD, dT, bE, eI, bY, dF, bP, aZ, bX, aC, bV, bR, cI, bW, bA, aT, aU, bT, dS, cR, bO, aV, aJ, aL, bD, aH, dC, dV, aI, aN, aX, aF, cX, aE, cL, bU, bB, aO, cM, cJ, aA, dR, cP, cQ, cF, dK, cC, dJ, dU, cV, eF, eL, bN, aR, dZ, bS, aQ, bL, dE, dA, cU, cO, cS, bM, bK, cY, dD, cN, dQ, cZ, c4, c5, n1, d1]
  exact ⟨o, gT.refl _ _⟩
def vV (S : jR) (o : Qr) : jR × Int :=
 if SZ S then ({ S with left := IB S.left, down := SZ S }, 20)
 else ({ S with left := IB S.left, down := SZ S, under := S.under ++ [o], seen := MB o S.seen }, 0)
theorem R2 {p : Nat} {X D : Nat -> Prop} {S : jR} {o : Qr} {va : Option Addr} {vc : Nat} {w : adH} (h : lR w p X D S) (hd : F4 w D (.slice va o.bytes.length vc) o.bytes) (hl : -1 <= S.left /\ S.left <= 9223372036854775807)
 (hs : iE S.seen <= 1099511627776) (ha : o.at' <= 1099511627776) (hb : o.bytes.length <= 1099511627776) (hu : S.under.length <= 1000000) :
 gS pg oI #[dP p, .agg (OL o (.slice va o.bytes.length vc)).toArray] w (fun r w' => r = .int .i64 (vV S o).2 /\ Bt w p X D (vV S o).1 w') := by
 refine Jd ?_
 unfold IG zO
 refine oA fun w1 o1 x1 s1 => ?_
 have o1 : jF w1 w.heap.size (OL o (.slice va o.bytes.length vc)) := o1
 obtain ⟨ms, mn, sv, ls, ln, cs, h1, h2, h3, h4, h5, h6, hXD, hDl, op, hms, hmn, hfs, hfn, hun, hop⟩ := h.new x1
 have h7 := fun b (hb : X b) => hDl b (hXD b hb)
 have hX0 : ∀ b, X b -> b < w.heap.size := by obtain ⟨_, _, _, _, _, _, _, _, _, _, _, _, q1, q2, _⟩ := h; exact fun b hb => q2 b (q1 b hb)
 refine (Tv op hl).mono ?_
 rintro r w2 ⟨rfl, op2, x2⟩
 have x2X : gT w1 w2 X := x2.mono fun b _ hb => hb ▸ h1
 have x2D : gT w1 w2 D := x2X.mono fun b _ hb => hXD b hb
 have x02 : gT w w2 X := (x1.mono fun _ _ h => h.elim).seq x2X
 have z2 := x2.size
 have hms2 := hms.ext x2 (fun h => h4 h.symm)
 have hmn2 := hmn.ext x2 (fun h => h5 h.symm)
 have hfs2 := hfs.ext x2D (fun b h => h)
 have hfn2 := hfn.ext x2D (fun b h => h)
 have hun2 := hun.ext x2 (fun b hb h => hb.2.1 h)
 have hop2 := hop.ext x2D (fun b h => h)
 have h72 : ∀ b, X b -> b < w2.heap.size := fun b hb => by have := h7 b hb; omega
 have hD2 : ∀ b, D b -> b < w2.heap.size := fun b hb => by have := hDl b hb; omega
 have hdn : (S.down || S.left == 0) = SZ S := rfl
 rw [hdn] at *
 cases hD : SZ S with
 | true =>
   have hE : vV S o = ({ S with left := IB S.left, down := SZ S }, 20) := by unfold vV; rw [if_pos hD]
   rw [hE]
   simp (disch := omega) only [eY, gM, dX, stepR_skip, fO, gD, fN, gC, gI, fW, gR, fX, eU, fU, fS, gH, fP, fL, fT, fR, fV, gE, gG, fQ, fC, fY, gB, fK, iO, iJ, iH, iL, iI, iM, iK, iG, iN, eP, Result.ok.injEq, Next.value.injEq, true_and, and_true, fJ, fI, fZ, fM, gA, gQ, ZI, fE, fH, fG, fD, eZ, eT, fB, eX, eQ, eH, if_true, if_false, ZF, ZL, ZG, ZH, ZK, ZJ, ZE, ZD, eA, dW, aB, dI, dH, cG, eB, eS, eC, dO, eD, fA, dL, eN, bQ, dG, bG, dN, aK, aG, eJ, aY, cA, eK, aD, eM, dM, aS, bJ, eE, bH, bF, bC, aP, aM, cB, fF, dY, bZ, cH, dB, cD, dT, bE, eI, bY, dF, bP, aZ, bX, aC, bV, bR, cI, bW, bA, aT, aU, bT, dS, cR, bO, aV, aJ, aL, bD, aH, dC, dV, aI, aN, aX, aF, cX, aE, cL, bU, bB, aO, cM, cJ, aA, dR, cP, cQ, cF, dK, cC, dJ, dU, cV, eF, eL, bN, aR, dZ, bS, aQ, bL, dE, dA, cU, cO, cS, bM, bK, cY, dD, cN, dQ, cZ]
   exact ⟨X, D, ⟨ms, mn, sv, ls, ln, cs, h1, h2, h3, h4, h5, h6, hXD, hD2, op2, hms2, hmn2, hfs2, hfn2, hun2, hop2⟩, fun _ h => .inl h, fun _ h => h, x02⟩
 | false =>
   have hE : vV S o = ({ S with left := IB S.left, down := SZ S, under := S.under ++ [o], seen := MB o S.seen }, 0) := by unfold vV; rw [if_neg (by rw [hD]; decide)]
   rw [hE]
   have hb3 : ¬ (w.heap.size = p) := fun h => by have := hX0 p h1; omega
   have o12 := kL (o1.ext x2 hb3)
   have l1 := CG (off := 0) o12 (by unfold OL; simp)
   have l1' : ((OL o (.slice va o.bytes.length vc)).drop 0).take 5 = OL o (.slice va o.bytes.length vc) := rfl
   rw [l1'] at l1
   have op2d := kL op2
   have q3 := op2d.cell (off := 3)
   simp only [ZD, ZE] at q3
   simp (disch := omega) only [eY, gM, dX, stepR_skip, fO, gD, fN, gC, gI, fW, gR, fX, eU, fU, fS, gH, fP, fL, fT, fR, fV, gE, gG, fQ, fC, fY, gB, fK, iO, iJ, iH, iL, iI, iM, iK, iG, iN, eP, Result.ok.injEq, Next.value.injEq, true_and, and_true, fJ, fI, fZ, fM, gA, gQ, ZI, fE, fH, fG, fD, eZ, eT, fB, eX, eQ, eH, if_true, if_false, ZF, ZL, ZG, ZH, ZK, ZJ, ZE, ZD, eA, dW, aB, dI, dH, cG, eB, eS, eC, dO, eD, fA, dL, eN, bQ, dG, bG, dN, aK, aG, eJ, aY, cA, eK, aD, eM, dM, aS, bJ, eE, bH, bF, bC, aP, aM, cB, fF, dY, bZ, cH, dB, cD, dT, bE, eI, bY, dF, bP, aZ, bX, aC, bV, bR, cI, bW, bA, aT, aU, bT, dS, cR, bO, aV, aJ, aL, bD, aH, dC, dV, aI, aN, aX, aF, cX, aE, cL, bU, bB, aO, cM, cJ, aA, dR, cP, cQ, cF, dK, cC, dJ, dU, cV, eF, eL, bN, aR, dZ, bS, aQ, bL, dE, dA, cU, cO, cS, bM, bK, cY, dD, cN, dQ, cZ, q3, l1]
   refine IL (cells := (OL o (.slice va o.bytes.length vc)).toArray) (by decide) (by decide) (by kernel_rfl) fun w3 o3 x3 s3 => ?_
   have x3 : gT w2 w3 jI := (gT.dr _ _).seq x3
   have z3 := x3.size
   have s3 : w3.heap.size = w2.heap.size + 1 := s3
   have x03 : gT w w3 X := x02.trans x3 fun _ _ h => h.elim
   have op3 := op2.ext x3 (fun h => h)
   have q3 := op3.cell (off := 3)
   have q3d := (kL op3).cell (off := 3)
   simp only [ZD, ZE] at q3 q3d
   have hu3 : Im w3 (fun b => (X b /\ b ≠ p /\ b ≠ ms /\ b ≠ mn) ∨ w3.heap.size <= b) 5 sv S.under.length cs := Tw (hun2.ext x3 (fun b _ h => h)) fun b h => .inl h
   have o3 : jF w3 w2.heap.size (OL o (.slice va o.bytes.length vc)) := o3
   simp (disch := omega) only [eY, gM, dX, stepR_skip, fO, gD, fN, gC, gI, fW, gR, fX, eU, fU, fS, gH, fP, fL, fT, fR, fV, gE, gG, fQ, fC, fY, gB, fK, iO, iJ, iH, iL, iI, iM, iK, iG, iN, eP, Result.ok.injEq, Next.value.injEq, true_and, and_true, fJ, fI, fZ, fM, gA, gQ, ZI, fE, fH, fG, fD, eZ, eT, fB, eX, eQ, eH, if_true, if_false, ZF, ZL, ZG, ZH, ZK, ZJ, ZE, ZD, eA, dW, aB, dI, dH, cG, eB, eS, eC, dO, eD, fA, dL, eN, bQ, dG, bG, dN, aK, aG, eJ, aY, cA, eK, aD, eM, dM, aS, bJ, eE, bH, bF, bC, aP, aM, cB, fF, dY, bZ, cH, dB, cD, dT, bE, eI, bY, dF, bP, aZ, bX, aC, bV, bR, cI, bW, bA, aT, aU, bT, dS, cR, bO, aV, aJ, aL, bD, aH, dC, dV, aI, aN, aX, aF, cX, aE, cL, bU, bB, aO, cM, cJ, aA, dR, cP, cQ, cF, dK, cC, dJ, dU, cV, eF, eL, bN, aR, dZ, bS, aQ, bL, dE, dA, cU, cO, cS, bM, bK, cY, dD, cN, dQ, cZ, q3, q3d]
   refine Ek (m := 1) (news := OL o (.slice va o.bytes.length vc)) (i := Tryd.t88) Tryd.underlying62 Tryd.underlying62 Tg rfl rfl rfl hu3 (o3.cl (off := 0) (n := 1) rfl (fun i hi => by rw [ZL])) (by unfold OL; simp [one]) (fun b hb => .inr hb) (by omega) (by rw [show Tryd.t88.bytes = 72 from rfl]; omega) (by decide) fun v4 w4 o4 x4 => ?_
   have z4 := x4.size
   have hp3 : p < w3.heap.size := op3.lt
   have hms3 := hms2.ext x3 (fun h => h)
   have hmn3 := hmn2.ext x3 (fun h => h)
   have hmsl := hms3.lt
   have hmnl := hmn3.lt
   have op4 := op3.ext x4 (by rintro (⟨_, h, _⟩ | h) <;> omega)
   have hms4 := hms3.ext x4 (by rintro (⟨_, _, h, _⟩ | h) <;> omega)
   have hmn4 := hmn3.ext x4 (by rintro (⟨_, _, _, h⟩ | h) <;> omega)
   obtain ⟨Y, hY⟩ : ∃ Y : Nat -> Prop, Y = fun b => X b ∨ (w3.heap.size <= b /\ b < w4.heap.size) := ⟨_, rfl⟩
   have hYX : ∀ b, X b -> Y b := fun b h => by rw [hY]; exact .inl h
   have hY3 : ∀ b, Y b -> X b ∨ w3.heap.size <= b := fun b h => by rw [hY] at h; rcases h with h | h; exact .inl h; exact .inr h.1
   have hY4 : ∀ b, Y b -> b < w4.heap.size := fun b h => by
    rw [hY] at h
    rcases h with h | h
    .have := h72 b h; omega
    .exact h.2
   obtain ⟨E, hE'⟩ : ∃ E : Nat -> Prop, E = fun b => D b ∨ (w3.heap.size <= b /\ b < w4.heap.size) := ⟨_, rfl⟩
   have hED : ∀ b, D b -> E b := fun b h => by rw [hE']; exact .inl h
   have hYE : ∀ b, Y b -> E b := fun b h => by
    rw [hY] at h; rw [hE']
    rcases h with h | h
    .exact .inl (hXD b h)
    .exact .inr h
   have hE3 : ∀ b, E b -> D b ∨ w3.heap.size <= b := fun b h => by rw [hE'] at h; rcases h with h | h; exact .inl h; exact .inr h.1
   have hE4 : ∀ b, E b -> b < w4.heap.size := fun b h => by
    rw [hE'] at h
    rcases h with h | h
    .have := hD2 b h; omega
    .exact h.2
   have dat4 : ∀ v b, F4 w3 D v b -> F4 w4 E v b := fun v b hd => by
    have h1 := (hd.sub (Y := fun b => D b ∨ w3.heap.size <= b) fun _ h => h).ext x4 (fun b h => by rcases h with h | h; exact .inl (hXD b h.1); exact .inr h)
    exact h1.sub fun b h => .inl (hE3 b h)
   have dat0 : ∀ v b, F4 w2 D v b -> F4 w4 E v b := fun v b hd => dat4 v b (hd.ext x3 fun _ h => h.elim)
   refine Br op4 (by obtain ⟨a, c, e⟩ := o4.len; rw [e] <;> rfl) (by simp) fun w5 op5 x5 s5 => ?_
   simp only [Z0, aaI] at op5
   have hne4 : p ≠ ms /\ p ≠ mn := ⟨h4, h5⟩
   have hms5 := hms4.ext x5 (fun h => h4 h.symm)
   have hmn5 := hmn4.ext x5 (fun h => h5 h.symm)
   have x5Y : gT w4 w5 E := x5.mono fun b _ h => by rw [h]; exact hYE _ (hYX _ h1)
   have dat5 : ∀ v b, F4 w2 D v b -> F4 w5 E v b := fun v b hd => (dat0 v b hd).ext x5Y fun _ h => h
   have o15 : jF w5 w.heap.size (OL o (.slice va o.bytes.length vc)) := by
    have h1 := (o1.ext x2 hb3).ext x3 (fun h => h)
    have h2 := h1.ext x4 (by rintro (⟨h, _⟩ | h); exact absurd (hX0 _ h) (by omega); omega)
    exact h2.ext x5 hb3
   have l5 := CG (off := 0) (kL o15) (by unfold OL; simp)
   rw [l1'] at l5
   have r2 := (kL op5).cell (off := 2)
   simp only [ZD, ZE] at r2
   simp (disch := omega) only [eY, gM, dX, stepR_skip, fO, gD, fN, gC, gI, fW, gR, fX, eU, fU, fS, gH, fP, fL, fT, fR, fV, gE, gG, fQ, fC, fY, gB, fK, iO, iJ, iH, iL, iI, iM, iK, iG, iN, eP, Result.ok.injEq, Next.value.injEq, true_and, and_true, fJ, fI, fZ, fM, gA, gQ, ZI, fE, fH, fG, fD, eZ, eT, fB, eX, eQ, eH, if_true, if_false, ZF, ZL, ZG, ZH, ZK, ZJ, ZE, ZD, eA, dW, aB, dI, dH, cG, eB, eS, eC, dO, eD, fA, dL, eN, bQ, dG, bG, dN, aK, aG, eJ, aY, cA, eK, aD, eM, dM, aS, bJ, eE, bH, bF, bC, aP, aM, cB, fF, dY, bZ, cH, dB, cD, dT, bE, eI, bY, dF, bP, aZ, bX, aC, bV, bR, cI, bW, bA, aT, aU, bT, dS, cR, bO, aV, aJ, aL, bD, aH, dC, dV, aI, aN, aX, aF, cX, aE, cL, bU, bB, aO, cM, cJ, aA, dR, cP, cQ, cF, dK, cC, dJ, dU, cV, eF, eL, bN, aR, dZ, bS, aQ, bL, dE, dA, cU, cO, cS, bM, bK, cY, dD, cN, dQ, cZ, r2, l5]
   have hd5 : F4 w5 E (.slice va o.bytes.length vc) o.bytes := dat5 _ _ ((hd.ext x1 fun _ h => h.elim).ext x2D fun _ h => h)
   have hE5 : ∀ b, E b -> b < w5.heap.size := fun b h => by rw [s5]; exact hE4 b h
   refine (Zk (X := E) (c := S.seen) (o := o) (hmn5.dr) (hYE _ (hYX _ h3)) hE5 ((hfn2.map dat5).ext (gT.dr _ jI) fun _ h => h.elim) (hd5.ext (gT.dr _ jI) fun _ h => h.elim) hs ha hb).mono ?_
   rintro r w6 ⟨rfl, ln', hmn6, hfn6, x6⟩
   have x6 : gT w5 w6 (fun b => b = mn) := (gT.dr _ _).seq x6
   have x6Y : gT w5 w6 E := x6.mono fun b _ h => by rw [h]; exact hYE _ (hYX _ h3)
   have z6 := x6.size
   have hou : Im w4 (fun b => Y b /\ b ≠ p /\ b ≠ ms /\ b ≠ mn) 5 v4 (S.under.length + 1) (cs ++ OL o (.slice va o.bytes.length vc)) := Tw (M8 o4) fun b h => by
    rw [hY]
    rcases h with ⟨h | h, h'⟩
    .exact ⟨.inl h.1, h.2⟩
    .exact ⟨.inr ⟨h, h'⟩, by omega, by omega, by omega⟩
   refine ⟨Y, E, ⟨ms, mn, v4, ls, ln', cs ++ OL o (.slice va o.bytes.length vc), hYX _ h1, hYX _ h2, hYX _ h3, h4, h5, h6, hYE, fun b h => by have := hE5 b h; omega, op5.ext x6 (fun h => h5 h), hms5.ext x6 (fun h => h6 h), hmn6, (hfs2.map dat5).ext x6Y fun _ h => h, hfn6, ?_, ?_⟩, fun b h => ?_, hED, ?_⟩
   .show Im w6 _ 5 v4 (S.under ++ [o]).length _
    rw [ZN]
    exact (hou.ext x5 (fun b h e => h.2.1 e)).ext x6 (fun b h e => h.2.2.2 e)
   .exact (MQ.snoc ⟨_, _, _, rfl⟩ hd5 (hop2.map dat5)).ext x6Y fun _ h => h
   .rcases hY3 b h with h | h
    .exact .inl h
    .exact .inr (by omega)
   .refine ((x03.trans x4 fun b hb h => ?_).trans x5 fun b hb h => by rw [h]; exact h1).trans x6 fun b hb h => by rw [h]; exact h3
    rcases h with h | h
    .exact h.1
    .omega
end Go.Proofs.YteelnmpbnaohpaaDoor
namespace Go.Proofs.YteelnmpbnaohpaaDoor
open Go Go.En
def Zh : Go.Shelf.Ren := ⟨fun x => if x = 5 then zQ else if x = 7 then Qb else x, fun x => if x = 23 then 61 else if x = 25 then 9 else if x = 3 then 22 else if x = 4 then 4 else 20, fun x => x⟩
theorem Y9 : SlLaysW.n5 pg Zh where
 mixed := Tryd.checked.mixed
 f5 := ⟨Tryd.f46.name, by kernel_rfl, by kernel_rfl⟩
 f7 := by kernel_rfl
 t4 := by kernel_rfl
 a4 := fun w => by kernel_rfl
 z4 := fun w => by kernel_rfl
 v4 := fun w => by kernel_rfl
 t20 := by kernel_rfl
 a20 := fun w => by kernel_rfl
 z20 := fun w => by kernel_rfl
 v20 := fun w => by kernel_rfl
 t23 := by kernel_rfl
 a23 := fun w => by kernel_rfl
 z23 := fun w => by kernel_rfl
 v23 := fun w => by kernel_rfl
theorem Vj {m : Nat} {l : List (ByteArray × adI)} {w : adH} (hm : Mp w m Ns l) :
 gS pg zQ #[.map (some m)] w (fun r w' => r = .map (some w.heap.size) /\ Mp w' w.heap.size Ns l /\ gT w w' jI /\ w'.heap.size = w.heap.size + 1) := by
 obtain ⟨es, c, hb, he, hg, hnd⟩ := hm
 refine ⟨_, _, AnyW.maps_Clone Y9 m es c w hb, rfl, ⟨es, c, ?_, he, hg, hnd⟩, gT.alloc _ _ _, ?_⟩
 .show (w.heap.push _)[w.heap.size]? = _
  simp
 .show (w.heap.push _).size = _
  simp
end Go.Proofs.YteelnmpbnaohpaaDoor
namespace Go.Proofs.YteelnmpbnaohpaaDoor
open Go Go.En Go.Pu
set_option maxRecDepth 4000
def IH (room : Int) : jR := ⟨room, [], [], [], -1, false⟩
theorem Yd {room : Int} {w : adH} (h0 : 0 <= room) (h1 : room <= 16777216) : gS pg AJ #[.int .i64 room] w (fun r w' => ∃ p X, r = .tuple #[dP p, .int .i64 0] /\ lR w' p X X (IH room) /\ (∀ b, X b -> w.heap.size <= b) /\ gT w w' jI) := by
 refine OH ?_
 unfold Q9 H9
 have d1 : decide (room < 0) = false := by simp; omega
 have d2 : decide (16777216 < room) = false := by simp; omega
 simp (disch := omega) only [eY, gM, dX, stepR_skip, fO, gD, fN, gC, gI, fW, gR, fX, eU, fU, fS, gH, fP, fL, fT, fR, fV, gE, gG, fQ, fC, fY, gB, fK, iO, iJ, iH, iL, iI, iM, iK, iG, iN, eP, Result.ok.injEq, Next.value.injEq, true_and, and_true, fJ, fI, fZ, fM, gA, gQ, ZI, fE, fH, fG, fD, eZ, eT, fB, eX, eQ, eH, if_true, if_false, ZF, ZL, ZG, ZH, ZK, ZJ, ZE, ZD, eA, dW, aB, dI, dH, cG, eB, eS, eC, dO, eD, fA, dL, eN, bQ, dG, bG, dN, aK, aG, eJ, aY, cA, eK, aD, eM, dM, aS, bJ, eE, bH, bF, bC, aP, aM, cB, fF, dY, bZ, cH, dB, cD, dT, bE, eI, bY, dF, bP, aZ, bX, aC, bV, bR, cI, bW, bA, aT, aU, bT, dS, cR, bO, aV, aJ, aL, bD, aH, dC, dV, aI, aN, aX, aF, cX, aE, cL, bU, bB, aO, cM, cJ, aA, dR, cP, cQ, cF, dK, cC, dJ, dU, cV, eF, eL, bN, aR, dZ, bS, aQ, bL, dE, dA, cU, cO, cS, bM, bK, cY, dD, cN, dQ, cZ, d1, d2]
 refine JN fun w1 m1 x1 s1 => ?_
 refine JN fun w2 m2 x2 s2 => ?_
 simp (disch := omega) only [eY, gM, dX, stepR_skip, fO, gD, fN, gC, gI, fW, gR, fX, eU, fU, fS, gH, fP, fL, fT, fR, fV, gE, gG, fQ, fC, fY, gB, fK, iO, iJ, iH, iL, iI, iM, iK, iG, iN, eP, Result.ok.injEq, Next.value.injEq, true_and, and_true, fJ, fI, fZ, fM, gA, gQ, ZI, fE, fH, fG, fD, eZ, eT, fB, eX, eQ, eH, if_true, if_false, ZF, ZL, ZG, ZH, ZK, ZJ, ZE, ZD, eA, dW, aB, dI, dH, cG, eB, eS, eC, dO, eD, fA, dL, eN, bQ, dG, bG, dN, aK, aG, eJ, aY, cA, eK, aD, eM, dM, aS, bJ, eE, bH, bF, bC, aP, aM, cB, fF, dY, bZ, cH, dB, cD, dT, bE, eI, bY, dF, bP, aZ, bX, aC, bV, bR, cI, bW, bA, aT, aU, bT, dS, cR, bO, aV, aJ, aL, bD, aH, dC, dV, aI, aN, aX, aF, cX, aE, cL, bU, bB, aO, cM, cJ, aA, dR, cP, cQ, cF, dK, cC, dJ, dU, cV, eF, eL, bN, aR, dZ, bS, aQ, bL, dE, dA, cU, cO, cS, bM, bK, cY, dD, cN, dQ, cZ]
 refine oA fun w3 o3 x3 s3 => ?_
 have o3 : jF w3 w2.heap.size [.int .i64 room, .map (some w.heap.size), .map (some w1.heap.size), .slice none 0 0, .int .i64 (-1), .bool false] := o3
 refine ⟨w2.heap.size, fun b => w.heap.size <= b /\ b < w3.heap.size, rfl, ⟨w.heap.size, w1.heap.size, .slice none 0 0, [], [], [], ⟨by omega, by omega⟩, ⟨by omega, by omega⟩, ⟨by omega, by omega⟩, by omega, by omega, by omega, fun _ h => h, fun b h => h.2, o3, (m1.ext x2 (fun h => h)).ext x3 (fun h => h), m2.ext x3 (fun h => h), trivial, trivial, ⟨rfl, .inl ⟨rfl, rfl⟩⟩, rfl⟩, fun b h => h.1, (x1.seq x2).seq x3⟩
structure Wp (S : jR) : Prop where
 left : -1 <= S.left /\ S.left <= 9223372036854775807
 seen : iE S.seen <= 1099511627776
 under : S.under.length <= 1000000
 room : 0 <= S.room /\ S.room <= 16777216
theorem F4.slice {w : adH} {X : Nat -> Prop} {v : adI} {b : List UInt8} (h : F4 w X v b) : ∃ a c, v = .slice a b.length c := by
 obtain ⟨a, c, e, _⟩ := h.1.len
 rw [ZM] at e
 exact ⟨a, c, e⟩
theorem yK.dat {w w0 : adH} {X : Nat -> Prop} {v : adI} {l : List UInt8} (h : yK w w0.heap.size 1 v l.length (l.map oZ)) (hX : ∀ b, X b -> b < w0.heap.size) : F4 w X v l := by
 refine ⟨h.sl, fun hi => ?_⟩
 rcases h.2 with ⟨rfl, _⟩ | ⟨b, c, rest, rfl, h2, _⟩
 .exact hi
 .unfold vM at hi
  split at hi
  .rename_i e
   simp only [Value.slice.injEq, aaA] at e
   obtain ⟨rfl, _⟩ := e
   have hi : X b := hi
   have := hX _ hi
   omega
  .exact hi
theorem lR.lt {w : adH} {p : Nat} {X D : Nat -> Prop} {S : jR} (h : lR w p X D S) : ∀ b, D b -> b < w.heap.size := by
 obtain ⟨_, _, _, _, _, _, _, _, _, _, _, _, _, h7, _⟩ := h; exact h7
def pS (S : jR) (name : ByteArray) : List UInt8 := (iV name S.seen).getD []
def XB (S : jR) (name : ByteArray) (a : Int) (n : Nat) : Int :=
 if S.down then 20 else if Ku name = false ∨ a < 0 then 1 else if ((pS S name).length : Int) < a then 17
 else if S.room < iE S.seen + max (a + n - (pS S name).length) 0 then 22 else 0
def DT (S : jR) (name : ByteArray) (a : Int) (l : List UInt8) : jR × Int :=
 if XB S name a l.length = 0 then vV S ⟨0, name, ⟨#[]⟩, a.toNat, l⟩ else (S, XB S name a l.length)
theorem Lc {p : Nat} {X D : Nat -> Prop} {S : jR} {name : ByteArray} {a : Int} {bv : adI} {l : List UInt8} {w : adH} (h : lR w p X D S) (hB : Wp S) (hb : Bs w bv l) (hl : l.length <= 1000000000) (ha : a <= 9000000000000000000) (ha' : -9223372036854775808 <= a) :
 gS pg kJ #[dP p, .string name, .int .i64 a, bv] w (fun r w' => r = .int .i64 (DT S name a l).2 /\ Bt w p X D (DT S name a l).1 w') := by
 refine H2 ?_
 unfold GQ xK
 obtain ⟨ba, bc, rfl, _⟩ := hb.len
 rw [ZM] at hb
 rw [ZM]
 obtain ⟨E, hE⟩ : ∃ E, XB S name a l.length = E := ⟨_, rfl⟩
 have hW : ∀ e, E = e -> e ≠ 0 -> DT S name a l = (S, e) := fun e h1 h2 => by unfold DT; rw [hE, h1, if_neg h2]
 refine (Vx h).mono ?_
 rintro r w1 ⟨rfl, rfl⟩
 have hE0 := hE
 unfold XB at hE
 by_cases hd : S.down = true
 .rw [if_pos hd] at hE
  rw [hW 20 hE.symm (by decide), if_pos hd]
  have n1 : ((20 : Int) != 0) = true := rfl
  simp (disch := omega) only [eY, gM, dX, stepR_skip, fO, gD, fN, gC, gI, fW, gR, fX, eU, fU, fS, gH, fP, fL, fT, fR, fV, gE, gG, fQ, fC, fY, gB, fK, iO, iJ, iH, iL, iI, iM, iK, iG, iN, eP, Result.ok.injEq, Next.value.injEq, true_and, and_true, fJ, fI, fZ, fM, gA, gQ, ZI, fE, fH, fG, fD, eZ, eT, fB, eX, eQ, eH, if_true, if_false, ZF, ZL, ZG, ZH, ZK, ZJ, ZE, ZD, eA, dW, aB, dI, dH, cG, eB, eS, eC, dO, eD, fA, dL, eN, bQ, dG, bG, dN, aK, aG, eJ, aY, cA, eK, aD, eM, dM, aS, bJ, eE, bH, bF, bC, aP, aM, cB, fF, dY, bZ, cH, dB, cD, dT, bE, eI, bY, dF, bP, aZ, bX, aC, bV, bR, cI, bW, bA, aT, aU, bT, dS, cR, bO, aV, aJ, aL, bD, aH, dC, dV, aI, aN, aX, aF, cX, aE, cL, bU, bB, aO, cM, cJ, aA, dR, cP, cQ, cF, dK, cC, dJ, dU, cV, eF, eL, bN, aR, dZ, bS, aQ, bL, dE, dA, cU, cO, cS, bM, bK, cY, dD, cN, dQ, cZ, n1]
  exact Bt.refl h
 rw [if_neg hd] at hE
 rw [if_neg hd]
 have n1 : ((0 : Int) != 0) = false := rfl
 have h' := h
 obtain ⟨ms, mn, sv, ls, ln, cs, h1, h2, h3, h4, h5, h6, hXD, hDl, op, hms, hmn, hfs, hfn, hun, hop⟩ := h'
 have h7 : ∀ b, X b -> b < w1.heap.size := fun b hb => hDl b (hXD b hb)
 have c2 := op.cell (off := 2)
 have c0d := (kL op).cell (off := 0)
 have c2d := (kL op).cell (off := 2)
 simp only [ZD, ZE] at c2 c0d c2d
 obtain ⟨oa, oc, ob, l0, hob⟩ : ∃ (oa : Option Addr) (oc : Nat) (ob : List UInt8), (yN 61 (.map (some mn)) (.string name) false).run pg w1 = .ok (.value (.slice oa ob.length oc)) w1 /\ pS S name = ob := by
  have l0 := NF hmn name
  unfold pS
  rcases hfn.get name with ⟨q1, q2⟩ | ⟨v, b, q1, q2, q3⟩
  .rw [q1] at l0
   exact ⟨none, 0, [], l0, by rw [q2] <;> rfl⟩
  .obtain ⟨a', c', rfl⟩ := F4.slice q3
   rw [q1] at l0
   exact ⟨a', c', b, l0, by rw [q2] <;> rfl⟩
 rw [hob] at hE
 have holdlen : ob.length <= 1099511627776 := by rw [<- hob]; have := AH (k := name) (c := S.seen); have := hB.seen; unfold pS; omega
 simp (disch := omega) only [eY, gM, dX, stepR_skip, fO, gD, fN, gC, gI, fW, gR, fX, eU, fU, fS, gH, fP, fL, fT, fR, fV, gE, gG, fQ, fC, fY, gB, fK, iO, iJ, iH, iL, iI, iM, iK, iG, iN, eP, Result.ok.injEq, Next.value.injEq, true_and, and_true, fJ, fI, fZ, fM, gA, gQ, ZI, fE, fH, fG, fD, eZ, eT, fB, eX, eQ, eH, if_true, if_false, ZF, ZL, ZG, ZH, ZK, ZJ, ZE, ZD, eA, dW, aB, dI, dH, cG, eB, eS, eC, dO, eD, fA, dL, eN, bQ, dG, bG, dN, aK, aG, eJ, aY, cA, eK, aD, eM, dM, aS, bJ, eE, bH, bF, bC, aP, aM, cB, fF, dY, bZ, cH, dB, cD, dT, bE, eI, bY, dF, bP, aZ, bX, aC, bV, bR, cI, bW, bA, aT, aU, bT, dS, cR, bO, aV, aJ, aL, bD, aH, dC, dV, aI, aN, aX, aF, cX, aE, cL, bU, bB, aO, cM, cJ, aA, dR, cP, cQ, cF, dK, cC, dJ, dU, cV, eF, eL, bN, aR, dZ, bS, aQ, bL, dE, dA, cU, cO, cS, bM, bK, cY, dD, cN, dQ, cZ, n1, c2, l0]
 refine (V7 name _).mono ?_
 rintro r w2 ⟨rfl, hw⟩
 rw [hw]; clear hw w2
 by_cases hmay : Ku name = false
 .rw [if_pos (.inl hmay)] at hE
  rw [hW 1 hE.symm (by decide), hmay]
  simp (disch := omega) only [eY, gM, dX, stepR_skip, fO, gD, fN, gC, gI, fW, gR, fX, eU, fU, fS, gH, fP, fL, fT, fR, fV, gE, gG, fQ, fC, fY, gB, fK, iO, iJ, iH, iL, iI, iM, iK, iG, iN, eP, Result.ok.injEq, Next.value.injEq, true_and, and_true, fJ, fI, fZ, fM, gA, gQ, ZI, fE, fH, fG, fD, eZ, eT, fB, eX, eQ, eH, if_true, if_false, ZF, ZL, ZG, ZH, ZK, ZJ, ZE, ZD, eA, dW, aB, dI, dH, cG, eB, eS, eC, dO, eD, fA, dL, eN, bQ, dG, bG, dN, aK, aG, eJ, aY, cA, eK, aD, eM, dM, aS, bJ, eE, bH, bF, bC, aP, aM, cB, fF, dY, bZ, cH, dB, cD, dT, bE, eI, bY, dF, bP, aZ, bX, aC, bV, bR, cI, bW, bA, aT, aU, bT, dS, cR, bO, aV, aJ, aL, bD, aH, dC, dV, aI, aN, aX, aF, cX, aE, cL, bU, bB, aO, cM, cJ, aA, dR, cP, cQ, cF, dK, cC, dJ, dU, cV, eF, eL, bN, aR, dZ, bS, aQ, bL, dE, dA, cU, cO, cS, bM, bK, cY, dD, cN, dQ, cZ]
  exact Bt.refl h
 have hmay : Ku name = true := by cases hq : Ku name with | true => rfl | false => exact absurd hq hmay
 rw [hmay] at hE ⊢
 by_cases ha0 : a < 0
 .have d1 : decide (a < 0) = true := by simpa using ha0
  rw [if_pos (.inr ha0)] at hE
  rw [hW 1 hE.symm (by decide)]
  simp (disch := omega) only [eY, gM, dX, stepR_skip, fO, gD, fN, gC, gI, fW, gR, fX, eU, fU, fS, gH, fP, fL, fT, fR, fV, gE, gG, fQ, fC, fY, gB, fK, iO, iJ, iH, iL, iI, iM, iK, iG, iN, eP, Result.ok.injEq, Next.value.injEq, true_and, and_true, fJ, fI, fZ, fM, gA, gQ, ZI, fE, fH, fG, fD, eZ, eT, fB, eX, eQ, eH, if_true, if_false, ZF, ZL, ZG, ZH, ZK, ZJ, ZE, ZD, eA, dW, aB, dI, dH, cG, eB, eS, eC, dO, eD, fA, dL, eN, bQ, dG, bG, dN, aK, aG, eJ, aY, cA, eK, aD, eM, dM, aS, bJ, eE, bH, bF, bC, aP, aM, cB, fF, dY, bZ, cH, dB, cD, dT, bE, eI, bY, dF, bP, aZ, bX, aC, bV, bR, cI, bW, bA, aT, aU, bT, dS, cR, bO, aV, aJ, aL, bD, aH, dC, dV, aI, aN, aX, aF, cX, aE, cL, bU, bB, aO, cM, cJ, aA, dR, cP, cQ, cF, dK, cC, dJ, dU, cV, eF, eL, bN, aR, dZ, bS, aQ, bL, dE, dA, cU, cO, cS, bM, bK, cY, dD, cN, dQ, cZ, d1]
  exact Bt.refl h
 have d1 : decide (a < 0) = false := by simpa using ha0
 rw [if_neg (by rintro (h | h); cases h; exact ha0 h)] at hE
 by_cases ha1 : (ob.length : Int) < a
 .have d2 : decide ((ob.length : Int) < a) = true := by simpa using ha1
  rw [if_pos ha1] at hE
  rw [hW 17 hE.symm (by decide)]
  simp (disch := omega) only [eY, gM, dX, stepR_skip, fO, gD, fN, gC, gI, fW, gR, fX, eU, fU, fS, gH, fP, fL, fT, fR, fV, gE, gG, fQ, fC, fY, gB, fK, iO, iJ, iH, iL, iI, iM, iK, iG, iN, eP, Result.ok.injEq, Next.value.injEq, true_and, and_true, fJ, fI, fZ, fM, gA, gQ, ZI, fE, fH, fG, fD, eZ, eT, fB, eX, eQ, eH, if_true, if_false, ZF, ZL, ZG, ZH, ZK, ZJ, ZE, ZD, eA, dW, aB, dI, dH, cG, eB, eS, eC, dO, eD, fA, dL, eN, bQ, dG, bG, dN, aK, aG, eJ, aY, cA, eK, aD, eM, dM, aS, bJ, eE, bH, bF, bC, aP, aM, cB, fF, dY, bZ, cH, dB, cD, dT, bE, eI, bY, dF, bP, aZ, bX, aC, bV, bR, cI, bW, bA, aT, aU, bT, dS, cR, bO, aV, aJ, aL, bD, aH, dC, dV, aI, aN, aX, aF, cX, aE, cL, bU, bB, aO, cM, cJ, aA, dR, cP, cQ, cF, dK, cC, dJ, dU, cV, eF, eL, bN, aR, dZ, bS, aQ, bL, dE, dA, cU, cO, cS, bM, bK, cY, dD, cN, dQ, cZ, d1, d2]
  exact Bt.refl h
 have d2 : decide ((ob.length : Int) < a) = false := by simpa using ha1
 rw [if_neg ha1] at hE
 have hbs := hB.seen
 have hbr := hB.room
 obtain ⟨k, rfl⟩ : ∃ k : Nat, a = k := ⟨a.toNat, by omega⟩
 simp (disch := omega) only [eY, gM, dX, stepR_skip, fO, gD, fN, gC, gI, fW, gR, fX, eU, fU, fS, gH, fP, fL, fT, fR, fV, gE, gG, fQ, fC, fY, gB, fK, iO, iJ, iH, iL, iI, iM, iK, iG, iN, eP, Result.ok.injEq, Next.value.injEq, true_and, and_true, fJ, fI, fZ, fM, gA, gQ, ZI, fE, fH, fG, fD, eZ, eT, fB, eX, eQ, eH, if_true, if_false, ZF, ZL, ZG, ZH, ZK, ZJ, ZE, ZD, eA, dW, aB, dI, dH, cG, eB, eS, eC, dO, eD, fA, dL, eN, bQ, dG, bG, dN, aK, aG, eJ, aY, cA, eK, aD, eM, dM, aS, bJ, eE, bH, bF, bC, aP, aM, cB, fF, dY, bZ, cH, dB, cD, dT, bE, eI, bY, dF, bP, aZ, bX, aC, bV, bR, cI, bW, bA, aT, aU, bT, dS, cR, bO, aV, aJ, aL, bD, aH, dC, dV, aI, aN, aX, aF, cX, aE, cL, bU, bB, aO, cM, cJ, aA, dR, cP, cQ, cF, dK, cC, dJ, dU, cV, eF, eL, bN, aR, dZ, bS, aQ, bL, dE, dA, cU, cO, cS, bM, bK, cY, dD, cN, dQ, cZ, d1, d2, c2d]
 refine (X4 (c := S.seen) hmn.dr (hfn.ext (gT.dr _ jI) fun _ h => h.elim) hbs).mono ?_
 rintro r w2 ⟨rfl, x2⟩
 have x2 : gT w1 w2 jI := (gT.dr _ _).seq x2
 have op2 := op.ext x2 (fun h => h)
 have r0 := op2.cell (off := 0)
 have r0d := (kL op2).cell (off := 0)
 simp only [ZD, ZE] at r0 r0d
 have e1 : (k : Int) + (l.length : Int) = ((k + l.length : Nat) : Int) := by omega
 obtain ⟨q, hq⟩ : ∃ q : Nat, max (((k + l.length : Nat) : Int) - (ob.length : Int)) 0 = q := ⟨(max (((k + l.length : Nat) : Int) - (ob.length : Int)) 0).toNat, by omega⟩
 have hmax : (if (0 : Int) > ((k + l.length : Nat) : Int) - (ob.length : Int) then (0 : Int) else ((k + l.length : Nat) : Int) - (ob.length : Int)) = (q : Nat) := by
  split <;> omega
 have e2 : ((iE S.seen : Nat) : Int) + (q : Int) = ((iE S.seen + q : Nat) : Int) := by omega
 rw [e1, hq, e2] at hE
 by_cases hsp : S.room < ((iE S.seen + q : Nat) : Int)
 .have d3 : decide (S.room < ((iE S.seen + q : Nat) : Int)) = true := by simpa using hsp
  rw [if_pos hsp] at hE
  rw [hW 22 hE.symm (by decide)]
  simp (disch := omega) only [eY, gM, dX, stepR_skip, fO, gD, fN, gC, gI, fW, gR, fX, eU, fU, fS, gH, fP, fL, fT, fR, fV, gE, gG, fQ, fC, fY, gB, fK, iO, iJ, iH, iL, iI, iM, iK, iG, iN, eP, Result.ok.injEq, Next.value.injEq, true_and, and_true, fJ, fI, fZ, fM, gA, gQ, ZI, fE, fH, fG, fD, eZ, eT, fB, eX, eQ, eH, if_true, if_false, ZF, ZL, ZG, ZH, ZK, ZJ, ZE, ZD, eA, dW, aB, dI, dH, cG, eB, eS, eC, dO, eD, fA, dL, eN, bQ, dG, bG, dN, aK, aG, eJ, aY, cA, eK, aD, eM, dM, aS, bJ, eE, bH, bF, bC, aP, aM, cB, fF, dY, bZ, cH, dB, cD, dT, bE, eI, bY, dF, bP, aZ, bX, aC, bV, bR, cI, bW, bA, aT, aU, bT, dS, cR, bO, aV, aJ, aL, bD, aH, dC, dV, aI, aN, aX, aF, cX, aE, cL, bU, bB, aO, cM, cJ, aA, dR, cP, cQ, cF, dK, cC, dJ, dU, cV, eF, eL, bN, aR, dZ, bS, aQ, bL, dE, dA, cU, cO, cS, bM, bK, cY, dD, cN, dQ, cZ, d1, d2, r0, r0d, c0d, e1, hmax, e2, d3]
  exact ⟨X, D, h.new x2, fun _ h => .inl h, fun _ h => h, x2.mono fun _ _ h => h.elim⟩
 have d3 : decide (S.room < ((iE S.seen + q : Nat) : Int)) = false := by simpa using hsp
 rw [if_neg hsp] at hE
 have hW0 : DT S name k l = vV S ⟨0, name, ⟨#[]⟩, k, l⟩ := by unfold DT; rw [hE0, <- hE, if_pos rfl, ZI]
 rw [hW0]
 simp (disch := omega) only [eY, gM, dX, stepR_skip, fO, gD, fN, gC, gI, fW, gR, fX, eU, fU, fS, gH, fP, fL, fT, fR, fV, gE, gG, fQ, fC, fY, gB, fK, iO, iJ, iH, iL, iI, iM, iK, iG, iN, eP, Result.ok.injEq, Next.value.injEq, true_and, and_true, fJ, fI, fZ, fM, gA, gQ, ZI, fE, fH, fG, fD, eZ, eT, fB, eX, eQ, eH, if_true, if_false, ZF, ZL, ZG, ZH, ZK, ZJ, ZE, ZD, eA, dW, aB, dI, dH, cG, eB, eS, eC, dO, eD, fA, dL, eN, bQ, dG, bG, dN, aK, aG, eJ, aY, cA, eK, aD, eM, dM, aS, bJ, eE, bH, bF, bC, aP, aM, cB, fF, dY, bZ, cH, dB, cD, dT, bE, eI, bY, dF, bP, aZ, bX, aC, bV, bR, cI, bW, bA, aT, aU, bT, dS, cR, bO, aV, aJ, aL, bD, aH, dC, dV, aI, aN, aX, aF, cX, aE, cL, bU, bB, aO, cM, cJ, aA, dR, cP, cQ, cF, dK, cC, dJ, dU, cV, eF, eL, bN, aR, dZ, bS, aQ, bL, dE, dA, cU, cO, cS, bM, bK, cY, dD, cN, dQ, cZ, d1, d2, r0, r0d, c0d, e1, hmax, e2, d3]
 refine (M5 (hb.ext x2 (jA _)) hl).mono ?_
 rintro r w3 ⟨ho, x3⟩
 obtain ⟨va, vc, rfl⟩ := ho.len
 have h2' := h.new x2
 have hd3 : F4 w3 D (.slice va l.length vc) l := yK.dat ho fun b hb => lR.lt h2' b hb
 have opE : OL ⟨0, name, ⟨#[]⟩, k, l⟩ (.slice va l.length vc) = [.int .i64 0, .string name, .string ⟨#[]⟩, .int .i64 k, .slice va l.length vc] := rfl
 have hdn := R2 (o := ⟨0, name, ⟨#[]⟩, k, l⟩) (h2'.new x3) hd3 hB.left hbs (show k <= 1099511627776 by omega) (show l.length <= 1099511627776 by omega) hB.under
 rw [opE] at hdn
 simp (disch := omega) only [eY, gM, dX, stepR_skip, fO, gD, fN, gC, gI, fW, gR, fX, eU, fU, fS, gH, fP, fL, fT, fR, fV, gE, gG, fQ, fC, fY, gB, fK, iO, iJ, iH, iL, iI, iM, iK, iG, iN, eP, Result.ok.injEq, Next.value.injEq, true_and, and_true, fJ, fI, fZ, fM, gA, gQ, ZI, fE, fH, fG, fD, eZ, eT, fB, eX, eQ, eH, if_true, if_false, ZF, ZL, ZG, ZH, ZK, ZJ, ZE, ZD, eA, dW, aB, dI, dH, cG, eB, eS, eC, dO, eD, fA, dL, eN, bQ, dG, bG, dN, aK, aG, eJ, aY, cA, eK, aD, eM, dM, aS, bJ, eE, bH, bF, bC, aP, aM, cB, fF, dY, bZ, cH, dB, cD, dT, bE, eI, bY, dF, bP, aZ, bX, aC, bV, bR, cI, bW, bA, aT, aU, bT, dS, cR, bO, aV, aJ, aL, bD, aH, dC, dV, aI, aN, aX, aF, cX, aE, cL, bU, bB, aO, cM, cJ, aA, dR, cP, cQ, cF, dK, cC, dJ, dU, cV, eF, eL, bN, aR, dZ, bS, aQ, bL, dE, dA, cU, cO, cS, bM, bK, cY, dD, cN, dQ, cZ]
 refine hdn.mono ?_
 rintro r w4 ⟨rfl, hp⟩
 exact ⟨rfl, Bt.step ((x2.seq x3).mono fun _ _ h => h.elim) (fun _ h => .inl h) (fun _ h => h) hp⟩
theorem P2 {p : Nat} {X D : Nat -> Prop} {S : jR} {name : ByteArray} {w : adH} (h : lR w p X D S) (hB : Wp S) (hsz : ∀ b, iV name S.seen = some b -> b.length <= 1000000000) :
 gS pg jL #[dP p, .string name] w (fun r w' => ((S.down = true /\ r = .tuple #[.slice none 0 0, .int .i64 20]) ∨ (S.down = false /\ iV name S.seen = none /\ r = .tuple #[.slice none 0 0, .int .i64 21]) ∨
  (S.down = false /\ ∃ b v, iV name S.seen = some b /\ r = .tuple #[v, .int .i64 0] /\ yK w' w.heap.size 1 v b.length (b.map oZ))) /\ gT w w' jI) := by
 refine Jl ?_
 obtain ⟨RR, hRR⟩ : ∃ RR : adI -> adH -> Prop, RR = fun r w' => ((S.down = true /\ r = .tuple #[.slice none 0 0, .int .i64 20]) ∨ (S.down = false /\ iV name S.seen = none /\ r = .tuple #[.slice none 0 0, .int .i64 21]) ∨
  (S.down = false /\ ∃ b v, iV name S.seen = some b /\ r = .tuple #[v, .int .i64 0] /\ yK w' w.heap.size 1 v b.length (b.map oZ))) /\ gT w w' jI := ⟨_, rfl⟩
 rw [<- hRR]
 unfold H7 zG
 refine (Vx h).mono ?_
 rintro r w1 ⟨rfl, rfl⟩
 by_cases hd : S.down = true
 .rw [if_pos hd]
  have n1 : ((20 : Int) != 0) = true := rfl
  simp (disch := omega) only [eY, gM, dX, stepR_skip, fO, gD, fN, gC, gI, fW, gR, fX, eU, fU, fS, gH, fP, fL, fT, fR, fV, gE, gG, fQ, fC, fY, gB, fK, iO, iJ, iH, iL, iI, iM, iK, iG, iN, eP, Result.ok.injEq, Next.value.injEq, true_and, and_true, fJ, fI, fZ, fM, gA, gQ, ZI, fE, fH, fG, fD, eZ, eT, fB, eX, eQ, eH, if_true, if_false, ZF, ZL, ZG, ZH, ZK, ZJ, ZE, ZD, eA, dW, aB, dI, dH, cG, eB, eS, eC, dO, eD, fA, dL, eN, bQ, dG, bG, dN, aK, aG, eJ, aY, cA, eK, aD, eM, dM, aS, bJ, eE, bH, bF, bC, aP, aM, cB, fF, dY, bZ, cH, dB, cD, dT, bE, eI, bY, dF, bP, aZ, bX, aC, bV, bR, cI, bW, bA, aT, aU, bT, dS, cR, bO, aV, aJ, aL, bD, aH, dC, dV, aI, aN, aX, aF, cX, aE, cL, bU, bB, aO, cM, cJ, aA, dR, cP, cQ, cF, dK, cC, dJ, dU, cV, eF, eL, bN, aR, dZ, bS, aQ, bL, dE, dA, cU, cO, cS, bM, bK, cY, dD, cN, dQ, cZ, n1]
  rw [hRR]
  exact ⟨.inl ⟨hd, rfl⟩, gT.refl _ _⟩
 have hd' : S.down = false := by cases hq : S.down with | true => exact absurd hq hd | false => rfl
 rw [if_neg hd]
 have n1 : ((0 : Int) != 0) = false := rfl
 obtain ⟨ms, mn, sv, ls, ln, cs, h1, h2, h3, h4, h5, h6, hXD, hDl, op, hms, hmn, hfs, hfn, hun, hop⟩ := h
 have h7 := fun b (hb : X b) => hDl b (hXD b hb)
 have c2 := op.cell (off := 2)
 simp only [ZD, ZE] at c2
 have l0 := A7 hmn name
 rcases hfn.get name with ⟨q1, q2⟩ | ⟨v, b, q1, q2, q3⟩
 .rw [q1] at l0
  have l0 : (yN 61 (.map (some mn)) (.string name) true).run pg w1 = .ok (.value (.tuple #[.slice none 0 0, .bool false])) w1 := l0
  simp (disch := omega) only [eY, gM, dX, stepR_skip, fO, gD, fN, gC, gI, fW, gR, fX, eU, fU, fS, gH, fP, fL, fT, fR, fV, gE, gG, fQ, fC, fY, gB, fK, iO, iJ, iH, iL, iI, iM, iK, iG, iN, eP, Result.ok.injEq, Next.value.injEq, true_and, and_true, fJ, fI, fZ, fM, gA, gQ, ZI, fE, fH, fG, fD, eZ, eT, fB, eX, eQ, eH, if_true, if_false, ZF, ZL, ZG, ZH, ZK, ZJ, ZE, ZD, eA, dW, aB, dI, dH, cG, eB, eS, eC, dO, eD, fA, dL, eN, bQ, dG, bG, dN, aK, aG, eJ, aY, cA, eK, aD, eM, dM, aS, bJ, eE, bH, bF, bC, aP, aM, cB, fF, dY, bZ, cH, dB, cD, dT, bE, eI, bY, dF, bP, aZ, bX, aC, bV, bR, cI, bW, bA, aT, aU, bT, dS, cR, bO, aV, aJ, aL, bD, aH, dC, dV, aI, aN, aX, aF, cX, aE, cL, bU, bB, aO, cM, cJ, aA, dR, cP, cQ, cF, dK, cC, dJ, dU, cV, eF, eL, bN, aR, dZ, bS, aQ, bL, dE, dA, cU, cO, cS, bM, bK, cY, dD, cN, dQ, cZ, n1, c2, l0]
  rw [hRR]
  exact ⟨.inr (.inl ⟨hd', q2, rfl⟩), gT.refl _ _⟩
 .obtain ⟨a', c', rfl⟩ := F4.slice q3
  rw [q1] at l0
  have l0 : (yN 61 (.map (some mn)) (.string name) true).run pg w1 = .ok (.value (.tuple #[.slice a' b.length c', .bool true])) w1 := l0
  simp (disch := omega) only [eY, gM, dX, stepR_skip, fO, gD, fN, gC, gI, fW, gR, fX, eU, fU, fS, gH, fP, fL, fT, fR, fV, gE, gG, fQ, fC, fY, gB, fK, iO, iJ, iH, iL, iI, iM, iK, iG, iN, eP, Result.ok.injEq, Next.value.injEq, true_and, and_true, fJ, fI, fZ, fM, gA, gQ, ZI, fE, fH, fG, fD, eZ, eT, fB, eX, eQ, eH, if_true, if_false, ZF, ZL, ZG, ZH, ZK, ZJ, ZE, ZD, eA, dW, aB, dI, dH, cG, eB, eS, eC, dO, eD, fA, dL, eN, bQ, dG, bG, dN, aK, aG, eJ, aY, cA, eK, aD, eM, dM, aS, bJ, eE, bH, bF, bC, aP, aM, cB, fF, dY, bZ, cH, dB, cD, dT, bE, eI, bY, dF, bP, aZ, bX, aC, bV, bR, cI, bW, bA, aT, aU, bT, dS, cR, bO, aV, aJ, aL, bD, aH, dC, dV, aI, aN, aX, aF, cX, aE, cL, bU, bB, aO, cM, cJ, aA, dR, cP, cQ, cF, dK, cC, dJ, dU, cV, eF, eL, bN, aR, dZ, bS, aQ, bL, dE, dA, cU, cO, cS, bM, bK, cY, dD, cN, dQ, cZ, n1, c2, l0]
  refine (M5 q3.1 (hsz b q2)).mono ?_
  rintro r w2 ⟨ho, x2⟩
  rw [hRR]
  exact ⟨.inr (.inr ⟨hd', b, r, q2, rfl, ho⟩), x2⟩
def T7 (S : jR) (name : ByteArray) : jR × Int := if S.down then (S, 20) else if (iV name S.seen).isNone then (S, 21) else vV S ⟨2, name, ⟨#[]⟩, 0, []⟩
theorem TS {p : Nat} {X D : Nat -> Prop} {S : jR} {name : ByteArray} {w : adH} (h : lR w p X D S) (hB : Wp S) :
 gS pg rG #[dP p, .string name] w (fun r w' => r = .int .i64 (T7 S name).2 /\ Bt w p X D (T7 S name).1 w') := by
 refine HK ?_
 unfold FX vJ T7
 refine (Vx h).mono ?_
 rintro r w1 ⟨rfl, rfl⟩
 by_cases hd : S.down = true
 .rw [if_pos hd, if_pos hd]
  have n1 : ((20 : Int) != 0) = true := rfl
  simp (disch := omega) only [eY, gM, dX, stepR_skip, fO, gD, fN, gC, gI, fW, gR, fX, eU, fU, fS, gH, fP, fL, fT, fR, fV, gE, gG, fQ, fC, fY, gB, fK, iO, iJ, iH, iL, iI, iM, iK, iG, iN, eP, Result.ok.injEq, Next.value.injEq, true_and, and_true, fJ, fI, fZ, fM, gA, gQ, ZI, fE, fH, fG, fD, eZ, eT, fB, eX, eQ, eH, if_true, if_false, ZF, ZL, ZG, ZH, ZK, ZJ, ZE, ZD, eA, dW, aB, dI, dH, cG, eB, eS, eC, dO, eD, fA, dL, eN, bQ, dG, bG, dN, aK, aG, eJ, aY, cA, eK, aD, eM, dM, aS, bJ, eE, bH, bF, bC, aP, aM, cB, fF, dY, bZ, cH, dB, cD, dT, bE, eI, bY, dF, bP, aZ, bX, aC, bV, bR, cI, bW, bA, aT, aU, bT, dS, cR, bO, aV, aJ, aL, bD, aH, dC, dV, aI, aN, aX, aF, cX, aE, cL, bU, bB, aO, cM, cJ, aA, dR, cP, cQ, cF, dK, cC, dJ, dU, cV, eF, eL, bN, aR, dZ, bS, aQ, bL, dE, dA, cU, cO, cS, bM, bK, cY, dD, cN, dQ, cZ, n1]
  exact Bt.refl h
 rw [if_neg hd, if_neg hd]
 have n1 : ((0 : Int) != 0) = false := rfl
 have h' := h
 obtain ⟨ms, mn, sv, ls, ln, cs, h1, h2, h3, h4, h5, h6, hXD, hDl, op, hms, hmn, hfs, hfn, hun, hop⟩ := h'
 have h7 : ∀ b, X b -> b < w1.heap.size := fun b hb => hDl b (hXD b hb)
 have c2 := op.cell (off := 2)
 simp only [ZD, ZE] at c2
 have l0 := A7 hmn name
 rcases hfn.get name with ⟨q1, q2⟩ | ⟨v, b, q1, q2, q3⟩
 .rw [q1] at l0
  have l0 : (yN 61 (.map (some mn)) (.string name) true).run pg w1 = .ok (.value (.tuple #[.slice none 0 0, .bool false])) w1 := l0
  rw [q2, if_pos (show (none : Option (List UInt8)).isNone = true from rfl)]
  simp (disch := omega) only [eY, gM, dX, stepR_skip, fO, gD, fN, gC, gI, fW, gR, fX, eU, fU, fS, gH, fP, fL, fT, fR, fV, gE, gG, fQ, fC, fY, gB, fK, iO, iJ, iH, iL, iI, iM, iK, iG, iN, eP, Result.ok.injEq, Next.value.injEq, true_and, and_true, fJ, fI, fZ, fM, gA, gQ, ZI, fE, fH, fG, fD, eZ, eT, fB, eX, eQ, eH, if_true, if_false, ZF, ZL, ZG, ZH, ZK, ZJ, ZE, ZD, eA, dW, aB, dI, dH, cG, eB, eS, eC, dO, eD, fA, dL, eN, bQ, dG, bG, dN, aK, aG, eJ, aY, cA, eK, aD, eM, dM, aS, bJ, eE, bH, bF, bC, aP, aM, cB, fF, dY, bZ, cH, dB, cD, dT, bE, eI, bY, dF, bP, aZ, bX, aC, bV, bR, cI, bW, bA, aT, aU, bT, dS, cR, bO, aV, aJ, aL, bD, aH, dC, dV, aI, aN, aX, aF, cX, aE, cL, bU, bB, aO, cM, cJ, aA, dR, cP, cQ, cF, dK, cC, dJ, dU, cV, eF, eL, bN, aR, dZ, bS, aQ, bL, dE, dA, cU, cO, cS, bM, bK, cY, dD, cN, dQ, cZ, n1, c2, l0]
  exact Bt.refl h
 .obtain ⟨a', c', rfl⟩ := F4.slice q3
  rw [q1] at l0
  have l0 : (yN 61 (.map (some mn)) (.string name) true).run pg w1 = .ok (.value (.tuple #[.slice a' b.length c', .bool true])) w1 := l0
  rw [q2, if_neg (show ¬ (some b).isNone = true by simp)]
  have hdn := R2 (o := ⟨2, name, ⟨#[]⟩, 0, []⟩) (va := none) (vc := 0) h ⟨Sl.nil _, fun h => h⟩ hB.left hB.seen (show 0 <= _ by omega) (show 0 <= _ by omega) hB.under
  have opE : OL ⟨2, name, ⟨#[]⟩, 0, []⟩ (.slice none ([] : List UInt8).length 0) = [.int .i64 2, .string name, .string ⟨#[]⟩, .int .i64 0, .slice none 0 0] := rfl
  rw [opE] at hdn
  simp (disch := omega) only [eY, gM, dX, stepR_skip, fO, gD, fN, gC, gI, fW, gR, fX, eU, fU, fS, gH, fP, fL, fT, fR, fV, gE, gG, fQ, fC, fY, gB, fK, iO, iJ, iH, iL, iI, iM, iK, iG, iN, eP, Result.ok.injEq, Next.value.injEq, true_and, and_true, fJ, fI, fZ, fM, gA, gQ, ZI, fE, fH, fG, fD, eZ, eT, fB, eX, eQ, eH, if_true, if_false, ZF, ZL, ZG, ZH, ZK, ZJ, ZE, ZD, eA, dW, aB, dI, dH, cG, eB, eS, eC, dO, eD, fA, dL, eN, bQ, dG, bG, dN, aK, aG, eJ, aY, cA, eK, aD, eM, dM, aS, bJ, eE, bH, bF, bC, aP, aM, cB, fF, dY, bZ, cH, dB, cD, dT, bE, eI, bY, dF, bP, aZ, bX, aC, bV, bR, cI, bW, bA, aT, aU, bT, dS, cR, bO, aV, aJ, aL, bD, aH, dC, dV, aI, aN, aX, aF, cX, aE, cL, bU, bB, aO, cM, cJ, aA, dR, cP, cQ, cF, dK, cC, dJ, dU, cV, eF, eL, bN, aR, dZ, bS, aQ, bL, dE, dA, cU, cO, cS, bM, bK, cY, dD, cN, dQ, cZ, n1, c2, l0]
  exact hdn
def MI (S : jR) (old name : ByteArray) : jR × Int := if S.down then (S, 20) else if Ku old = false ∨ Ku name = false then (S, 1) else if (iV old S.seen).isNone then (S, 21) else vV S ⟨1, old, name, 0, []⟩
theorem TM {p : Nat} {X D : Nat -> Prop} {S : jR} {old name : ByteArray} {w : adH} (h : lR w p X D S) (hB : Wp S) :
 gS pg rD #[dP p, .string old, .string name] w (fun r w' => r = .int .i64 (MI S old name).2 /\ Bt w p X D (MI S old name).1 w') := by
 refine Hl ?_
 unfold FN uZ MI
 refine (Vx h).mono ?_
 rintro r w1 ⟨rfl, rfl⟩
 by_cases hd : S.down = true
 .rw [if_pos hd, if_pos hd]
  have n1 : ((20 : Int) != 0) = true := rfl
  simp (disch := omega) only [eY, gM, dX, stepR_skip, fO, gD, fN, gC, gI, fW, gR, fX, eU, fU, fS, gH, fP, fL, fT, fR, fV, gE, gG, fQ, fC, fY, gB, fK, iO, iJ, iH, iL, iI, iM, iK, iG, iN, eP, Result.ok.injEq, Next.value.injEq, true_and, and_true, fJ, fI, fZ, fM, gA, gQ, ZI, fE, fH, fG, fD, eZ, eT, fB, eX, eQ, eH, if_true, if_false, ZF, ZL, ZG, ZH, ZK, ZJ, ZE, ZD, eA, dW, aB, dI, dH, cG, eB, eS, eC, dO, eD, fA, dL, eN, bQ, dG, bG, dN, aK, aG, eJ, aY, cA, eK, aD, eM, dM, aS, bJ, eE, bH, bF, bC, aP, aM, cB, fF, dY, bZ, cH, dB, cD, dT, bE, eI, bY, dF, bP, aZ, bX, aC, bV, bR, cI, bW, bA, aT, aU, bT, dS, cR, bO, aV, aJ, aL, bD, aH, dC, dV, aI, aN, aX, aF, cX, aE, cL, bU, bB, aO, cM, cJ, aA, dR, cP, cQ, cF, dK, cC, dJ, dU, cV, eF, eL, bN, aR, dZ, bS, aQ, bL, dE, dA, cU, cO, cS, bM, bK, cY, dD, cN, dQ, cZ, n1]
  exact Bt.refl h
 rw [if_neg hd, if_neg hd]
 have n1 : ((0 : Int) != 0) = false := rfl
 have h' := h
 obtain ⟨ms, mn, sv, ls, ln, cs, h1, h2, h3, h4, h5, h6, hXD, hDl, op, hms, hmn, hfs, hfn, hun, hop⟩ := h'
 have h7 : ∀ b, X b -> b < w1.heap.size := fun b hb => hDl b (hXD b hb)
 have c2 := op.cell (off := 2)
 simp only [ZD, ZE] at c2
 simp (disch := omega) only [eY, gM, dX, stepR_skip, fO, gD, fN, gC, gI, fW, gR, fX, eU, fU, fS, gH, fP, fL, fT, fR, fV, gE, gG, fQ, fC, fY, gB, fK, iO, iJ, iH, iL, iI, iM, iK, iG, iN, eP, Result.ok.injEq, Next.value.injEq, true_and, and_true, fJ, fI, fZ, fM, gA, gQ, ZI, fE, fH, fG, fD, eZ, eT, fB, eX, eQ, eH, if_true, if_false, ZF, ZL, ZG, ZH, ZK, ZJ, ZE, ZD, eA, dW, aB, dI, dH, cG, eB, eS, eC, dO, eD, fA, dL, eN, bQ, dG, bG, dN, aK, aG, eJ, aY, cA, eK, aD, eM, dM, aS, bJ, eE, bH, bF, bC, aP, aM, cB, fF, dY, bZ, cH, dB, cD, dT, bE, eI, bY, dF, bP, aZ, bX, aC, bV, bR, cI, bW, bA, aT, aU, bT, dS, cR, bO, aV, aJ, aL, bD, aH, dC, dV, aI, aN, aX, aF, cX, aE, cL, bU, bB, aO, cM, cJ, aA, dR, cP, cQ, cF, dK, cC, dJ, dU, cV, eF, eL, bN, aR, dZ, bS, aQ, bL, dE, dA, cU, cO, cS, bM, bK, cY, dD, cN, dQ, cZ, n1]
 refine (V7 old _).mono ?_
 rintro r w2 ⟨rfl, hw⟩
 rw [hw]; clear hw w2
 cases hm1 : Ku old with
 | false =>
   rw [if_pos (.inl rfl)]
   simp (disch := omega) only [eY, gM, dX, stepR_skip, fO, gD, fN, gC, gI, fW, gR, fX, eU, fU, fS, gH, fP, fL, fT, fR, fV, gE, gG, fQ, fC, fY, gB, fK, iO, iJ, iH, iL, iI, iM, iK, iG, iN, eP, Result.ok.injEq, Next.value.injEq, true_and, and_true, fJ, fI, fZ, fM, gA, gQ, ZI, fE, fH, fG, fD, eZ, eT, fB, eX, eQ, eH, if_true, if_false, ZF, ZL, ZG, ZH, ZK, ZJ, ZE, ZD, eA, dW, aB, dI, dH, cG, eB, eS, eC, dO, eD, fA, dL, eN, bQ, dG, bG, dN, aK, aG, eJ, aY, cA, eK, aD, eM, dM, aS, bJ, eE, bH, bF, bC, aP, aM, cB, fF, dY, bZ, cH, dB, cD, dT, bE, eI, bY, dF, bP, aZ, bX, aC, bV, bR, cI, bW, bA, aT, aU, bT, dS, cR, bO, aV, aJ, aL, bD, aH, dC, dV, aI, aN, aX, aF, cX, aE, cL, bU, bB, aO, cM, cJ, aA, dR, cP, cQ, cF, dK, cC, dJ, dU, cV, eF, eL, bN, aR, dZ, bS, aQ, bL, dE, dA, cU, cO, cS, bM, bK, cY, dD, cN, dQ, cZ]
   exact Bt.refl h
 | true =>
   simp (disch := omega) only [eY, gM, dX, stepR_skip, fO, gD, fN, gC, gI, fW, gR, fX, eU, fU, fS, gH, fP, fL, fT, fR, fV, gE, gG, fQ, fC, fY, gB, fK, iO, iJ, iH, iL, iI, iM, iK, iG, iN, eP, Result.ok.injEq, Next.value.injEq, true_and, and_true, fJ, fI, fZ, fM, gA, gQ, ZI, fE, fH, fG, fD, eZ, eT, fB, eX, eQ, eH, if_true, if_false, ZF, ZL, ZG, ZH, ZK, ZJ, ZE, ZD, eA, dW, aB, dI, dH, cG, eB, eS, eC, dO, eD, fA, dL, eN, bQ, dG, bG, dN, aK, aG, eJ, aY, cA, eK, aD, eM, dM, aS, bJ, eE, bH, bF, bC, aP, aM, cB, fF, dY, bZ, cH, dB, cD, dT, bE, eI, bY, dF, bP, aZ, bX, aC, bV, bR, cI, bW, bA, aT, aU, bT, dS, cR, bO, aV, aJ, aL, bD, aH, dC, dV, aI, aN, aX, aF, cX, aE, cL, bU, bB, aO, cM, cJ, aA, dR, cP, cQ, cF, dK, cC, dJ, dU, cV, eF, eL, bN, aR, dZ, bS, aQ, bL, dE, dA, cU, cO, cS, bM, bK, cY, dD, cN, dQ, cZ]
   refine (V7 name _).mono ?_
   rintro r w2 ⟨rfl, hw⟩
   rw [hw]; clear hw w2
   cases hm2 : Ku name with
   | false =>
     rw [if_pos (.inr rfl)]
     simp (disch := omega) only [eY, gM, dX, stepR_skip, fO, gD, fN, gC, gI, fW, gR, fX, eU, fU, fS, gH, fP, fL, fT, fR, fV, gE, gG, fQ, fC, fY, gB, fK, iO, iJ, iH, iL, iI, iM, iK, iG, iN, eP, Result.ok.injEq, Next.value.injEq, true_and, and_true, fJ, fI, fZ, fM, gA, gQ, ZI, fE, fH, fG, fD, eZ, eT, fB, eX, eQ, eH, if_true, if_false, ZF, ZL, ZG, ZH, ZK, ZJ, ZE, ZD, eA, dW, aB, dI, dH, cG, eB, eS, eC, dO, eD, fA, dL, eN, bQ, dG, bG, dN, aK, aG, eJ, aY, cA, eK, aD, eM, dM, aS, bJ, eE, bH, bF, bC, aP, aM, cB, fF, dY, bZ, cH, dB, cD, dT, bE, eI, bY, dF, bP, aZ, bX, aC, bV, bR, cI, bW, bA, aT, aU, bT, dS, cR, bO, aV, aJ, aL, bD, aH, dC, dV, aI, aN, aX, aF, cX, aE, cL, bU, bB, aO, cM, cJ, aA, dR, cP, cQ, cF, dK, cC, dJ, dU, cV, eF, eL, bN, aR, dZ, bS, aQ, bL, dE, dA, cU, cO, cS, bM, bK, cY, dD, cN, dQ, cZ]
     exact Bt.refl h
   | true =>
     rw [if_neg (by simp)]
     have l0 := A7 hmn old
     rcases hfn.get old with ⟨q1, q2⟩ | ⟨v, b, q1, q2, q3⟩
     .rw [q1] at l0
      have l0 : (yN 61 (.map (some mn)) (.string old) true).run pg w1 = .ok (.value (.tuple #[.slice none 0 0, .bool false])) w1 := l0
      rw [q2, if_pos (show (none : Option (List UInt8)).isNone = true from rfl)]
      simp (disch := omega) only [eY, gM, dX, stepR_skip, fO, gD, fN, gC, gI, fW, gR, fX, eU, fU, fS, gH, fP, fL, fT, fR, fV, gE, gG, fQ, fC, fY, gB, fK, iO, iJ, iH, iL, iI, iM, iK, iG, iN, eP, Result.ok.injEq, Next.value.injEq, true_and, and_true, fJ, fI, fZ, fM, gA, gQ, ZI, fE, fH, fG, fD, eZ, eT, fB, eX, eQ, eH, if_true, if_false, ZF, ZL, ZG, ZH, ZK, ZJ, ZE, ZD, eA, dW, aB, dI, dH, cG, eB, eS, eC, dO, eD, fA, dL, eN, bQ, dG, bG, dN, aK, aG, eJ, aY, cA, eK, aD, eM, dM, aS, bJ, eE, bH, bF, bC, aP, aM, cB, fF, dY, bZ, cH, dB, cD, dT, bE, eI, bY, dF, bP, aZ, bX, aC, bV, bR, cI, bW, bA, aT, aU, bT, dS, cR, bO, aV, aJ, aL, bD, aH, dC, dV, aI, aN, aX, aF, cX, aE, cL, bU, bB, aO, cM, cJ, aA, dR, cP, cQ, cF, dK, cC, dJ, dU, cV, eF, eL, bN, aR, dZ, bS, aQ, bL, dE, dA, cU, cO, cS, bM, bK, cY, dD, cN, dQ, cZ, n1, c2, l0]
      exact Bt.refl h
     .obtain ⟨a', c', rfl⟩ := F4.slice q3
      rw [q1] at l0
      have l0 : (yN 61 (.map (some mn)) (.string old) true).run pg w1 = .ok (.value (.tuple #[.slice a' b.length c', .bool true])) w1 := l0
      rw [q2, if_neg (show ¬ (some b).isNone = true by simp)]
      have hdn := R2 (o := ⟨1, old, name, 0, []⟩) (va := none) (vc := 0) h ⟨Sl.nil _, fun h => h⟩ hB.left hB.seen (show 0 <= _ by omega) (show 0 <= _ by omega) hB.under
      have opE : OL ⟨1, old, name, 0, []⟩ (.slice none ([] : List UInt8).length 0) = [.int .i64 1, .string old, .string name, .int .i64 0, .slice none 0 0] := rfl
      rw [opE] at hdn
      simp (disch := omega) only [eY, gM, dX, stepR_skip, fO, gD, fN, gC, gI, fW, gR, fX, eU, fU, fS, gH, fP, fL, fT, fR, fV, gE, gG, fQ, fC, fY, gB, fK, iO, iJ, iH, iL, iI, iM, iK, iG, iN, eP, Result.ok.injEq, Next.value.injEq, true_and, and_true, fJ, fI, fZ, fM, gA, gQ, ZI, fE, fH, fG, fD, eZ, eT, fB, eX, eQ, eH, if_true, if_false, ZF, ZL, ZG, ZH, ZK, ZJ, ZE, ZD, eA, dW, aB, dI, dH, cG, eB, eS, eC, dO, eD, fA, dL, eN, bQ, dG, bG, dN, aK, aG, eJ, aY, cA, eK, aD, eM, dM, aS, bJ, eE, bH, bF, bC, aP, aM, cB, fF, dY, bZ, cH, dB, cD, dT, bE, eI, bY, dF, bP, aZ, bX, aC, bV, bR, cI, bW, bA, aT, aU, bT, dS, cR, bO, aV, aJ, aL, bD, aH, dC, dV, aI, aN, aX, aF, cX, aE, cL, bU, bB, aO, cM, cJ, aA, dR, cP, cQ, cF, dK, cC, dJ, dU, cV, eF, eL, bN, aR, dZ, bS, aQ, bL, dE, dA, cU, cO, cS, bM, bK, cY, dD, cN, dQ, cZ, n1, c2, l0]
      exact hdn
def BJ (S : jR) : jR × Int :=
 if S.down then (S, 20) else if SZ S then ({ S with left := IB S.left, down := SZ S }, 20)
 else ({ S with left := IB S.left, down := SZ S, sure := S.seen, under := [] }, 0)
theorem Vg {p : Nat} {X D : Nat -> Prop} {S : jR} {w : adH} (h : lR w p X D S) (hB : Wp S) :
 gS pg jD #[dP p] w (fun r w' => r = .int .i64 (BJ S).2 /\ Bt w p X D (BJ S).1 w') := by
 refine Jq ?_
 unfold HW zS BJ
 refine (Vx h).mono ?_
 rintro r w1 ⟨rfl, rfl⟩
 by_cases hd : S.down = true
 .rw [if_pos hd, if_pos hd]
  have n1 : ((20 : Int) != 0) = true := rfl
  simp (disch := omega) only [eY, gM, dX, stepR_skip, fO, gD, fN, gC, gI, fW, gR, fX, eU, fU, fS, gH, fP, fL, fT, fR, fV, gE, gG, fQ, fC, fY, gB, fK, iO, iJ, iH, iL, iI, iM, iK, iG, iN, eP, Result.ok.injEq, Next.value.injEq, true_and, and_true, fJ, fI, fZ, fM, gA, gQ, ZI, fE, fH, fG, fD, eZ, eT, fB, eX, eQ, eH, if_true, if_false, ZF, ZL, ZG, ZH, ZK, ZJ, ZE, ZD, eA, dW, aB, dI, dH, cG, eB, eS, eC, dO, eD, fA, dL, eN, bQ, dG, bG, dN, aK, aG, eJ, aY, cA, eK, aD, eM, dM, aS, bJ, eE, bH, bF, bC, aP, aM, cB, fF, dY, bZ, cH, dB, cD, dT, bE, eI, bY, dF, bP, aZ, bX, aC, bV, bR, cI, bW, bA, aT, aU, bT, dS, cR, bO, aV, aJ, aL, bD, aH, dC, dV, aI, aN, aX, aF, cX, aE, cL, bU, bB, aO, cM, cJ, aA, dR, cP, cQ, cF, dK, cC, dJ, dU, cV, eF, eL, bN, aR, dZ, bS, aQ, bL, dE, dA, cU, cO, cS, bM, bK, cY, dD, cN, dQ, cZ, n1]
  exact Bt.refl h
 rw [if_neg hd, if_neg hd]
 have n1 : ((0 : Int) != 0) = false := rfl
 obtain ⟨ms, mn, sv, ls, ln, cs, h1, h2, h3, h4, h5, h6, hXD, hDl, op, hms, hmn, hfs, hfn, hun, hop⟩ := h
 have h7 := fun b (hb : X b) => hDl b (hXD b hb)
 simp (disch := omega) only [eY, gM, dX, stepR_skip, fO, gD, fN, gC, gI, fW, gR, fX, eU, fU, fS, gH, fP, fL, fT, fR, fV, gE, gG, fQ, fC, fY, gB, fK, iO, iJ, iH, iL, iI, iM, iK, iG, iN, eP, Result.ok.injEq, Next.value.injEq, true_and, and_true, fJ, fI, fZ, fM, gA, gQ, ZI, fE, fH, fG, fD, eZ, eT, fB, eX, eQ, eH, if_true, if_false, ZF, ZL, ZG, ZH, ZK, ZJ, ZE, ZD, eA, dW, aB, dI, dH, cG, eB, eS, eC, dO, eD, fA, dL, eN, bQ, dG, bG, dN, aK, aG, eJ, aY, cA, eK, aD, eM, dM, aS, bJ, eE, bH, bF, bC, aP, aM, cB, fF, dY, bZ, cH, dB, cD, dT, bE, eI, bY, dF, bP, aZ, bX, aC, bV, bR, cI, bW, bA, aT, aU, bT, dS, cR, bO, aV, aJ, aL, bD, aH, dC, dV, aI, aN, aX, aF, cX, aE, cL, bU, bB, aO, cM, cJ, aA, dR, cP, cQ, cF, dK, cC, dJ, dU, cV, eF, eL, bN, aR, dZ, bS, aQ, bL, dE, dA, cU, cO, cS, bM, bK, cY, dD, cN, dQ, cZ, n1]
 refine (Tv op hB.left).mono ?_
 rintro r w2 ⟨rfl, op2, x2⟩
 have hdn : (S.down || S.left == 0) = SZ S := rfl
 rw [hdn] at op2 ⊢
 have xX : gT w1 w2 X := x2.mono fun b _ h => h ▸ h1
 have xD : gT w1 w2 D := xX.mono fun b _ h => hXD b h
 have z2 := x2.size
 have h72 : ∀ b, X b -> b < w2.heap.size := fun b hb => by have := h7 b hb; omega
 have hD2 : ∀ b, D b -> b < w2.heap.size := fun b hb => by have := hDl b hb; omega
 have hms2 := hms.ext x2 (fun h => h4 h.symm)
 have hmn2 := hmn.ext x2 (fun h => h5 h.symm)
 have hfs2 := hfs.ext xD fun _ h => h
 have hfn2 := hfn.ext xD fun _ h => h
 cases hD : SZ S with
 | true =>
   rw [hD] at op2
   rw [if_pos rfl]
   simp (disch := omega) only [eY, gM, dX, stepR_skip, fO, gD, fN, gC, gI, fW, gR, fX, eU, fU, fS, gH, fP, fL, fT, fR, fV, gE, gG, fQ, fC, fY, gB, fK, iO, iJ, iH, iL, iI, iM, iK, iG, iN, eP, Result.ok.injEq, Next.value.injEq, true_and, and_true, fJ, fI, fZ, fM, gA, gQ, ZI, fE, fH, fG, fD, eZ, eT, fB, eX, eQ, eH, if_true, if_false, ZF, ZL, ZG, ZH, ZK, ZJ, ZE, ZD, eA, dW, aB, dI, dH, cG, eB, eS, eC, dO, eD, fA, dL, eN, bQ, dG, bG, dN, aK, aG, eJ, aY, cA, eK, aD, eM, dM, aS, bJ, eE, bH, bF, bC, aP, aM, cB, fF, dY, bZ, cH, dB, cD, dT, bE, eI, bY, dF, bP, aZ, bX, aC, bV, bR, cI, bW, bA, aT, aU, bT, dS, cR, bO, aV, aJ, aL, bD, aH, dC, dV, aI, aN, aX, aF, cX, aE, cL, bU, bB, aO, cM, cJ, aA, dR, cP, cQ, cF, dK, cC, dJ, dU, cV, eF, eL, bN, aR, dZ, bS, aQ, bL, dE, dA, cU, cO, cS, bM, bK, cY, dD, cN, dQ, cZ]
   exact ⟨X, D, ⟨ms, mn, sv, ls, ln, cs, h1, h2, h3, h4, h5, h6, hXD, hD2, op2, hms2, hmn2, hfs2, hfn2, hun.ext x2 (fun b hb h => hb.2.1 h), hop.ext xD fun _ h => h⟩, fun _ h => .inl h, fun _ h => h, xX⟩
 | false =>
   rw [hD] at op2
   rw [if_neg (by decide)]
   have c2 := op2.cell (off := 2)
   simp only [ZD, ZE] at c2
   simp (disch := omega) only [eY, gM, dX, stepR_skip, fO, gD, fN, gC, gI, fW, gR, fX, eU, fU, fS, gH, fP, fL, fT, fR, fV, gE, gG, fQ, fC, fY, gB, fK, iO, iJ, iH, iL, iI, iM, iK, iG, iN, eP, Result.ok.injEq, Next.value.injEq, true_and, and_true, fJ, fI, fZ, fM, gA, gQ, ZI, fE, fH, fG, fD, eZ, eT, fB, eX, eQ, eH, if_true, if_false, ZF, ZL, ZG, ZH, ZK, ZJ, ZE, ZD, eA, dW, aB, dI, dH, cG, eB, eS, eC, dO, eD, fA, dL, eN, bQ, dG, bG, dN, aK, aG, eJ, aY, cA, eK, aD, eM, dM, aS, bJ, eE, bH, bF, bC, aP, aM, cB, fF, dY, bZ, cH, dB, cD, dT, bE, eI, bY, dF, bP, aZ, bX, aC, bV, bR, cI, bW, bA, aT, aU, bT, dS, cR, bO, aV, aJ, aL, bD, aH, dC, dV, aI, aN, aX, aF, cX, aE, cL, bU, bB, aO, cM, cJ, aA, dR, cP, cQ, cF, dK, cC, dJ, dU, cV, eF, eL, bN, aR, dZ, bS, aQ, bL, dE, dA, cU, cO, cS, bM, bK, cY, dD, cN, dQ, cZ, c2]
   refine (Vj hmn2).mono ?_
   rintro r w3 ⟨rfl, hmc, x3, s3⟩
   have op3 := op2.ext x3 (fun h => h)
   refine OK op3 rfl (by simp) fun w4 op4 x4 s4 => ?_
   simp only [Z0, aaI] at op4
   refine Br op4 rfl (by simp) fun w5 op5 x5 s5 => ?_
   simp only [Z0, aaI] at op5
   have hp2 : p < w2.heap.size := op2.lt
   have hmn2l := hmn2.lt
   have x45 : gT w3 w5 (fun y => y = p) := x4.seq x5
   obtain ⟨Y, hY⟩ : ∃ Y : Nat -> Prop, Y = fun b => X b ∨ b = w2.heap.size := ⟨_, rfl⟩
   have hYX : ∀ b, X b -> Y b := fun b h => by rw [hY]; exact .inl h
   have hY2 : ∀ b, Y b -> X b ∨ w2.heap.size <= b := fun b h => by rw [hY] at h; rcases h with h | h; exact .inl h; exact .inr (by omega)
   obtain ⟨E, hE⟩ : ∃ E : Nat -> Prop, E = fun b => D b ∨ b = w2.heap.size := ⟨_, rfl⟩
   have hED : ∀ b, D b -> E b := fun b h => by rw [hE]; exact .inl h
   have hYE : ∀ b, Y b -> E b := fun b h => by rw [hY] at h; rw [hE]; rcases h with h | h; exact .inl (hXD b h); exact .inr h
   have hE2 : ∀ b, E b -> D b ∨ w2.heap.size <= b := fun b h => by rw [hE] at h; rcases h with h | h; exact .inl h; exact .inr (by omega)
   have x3Y : gT w2 w3 E := x3.mono fun _ _ h => h.elim
   have x45Y : gT w3 w5 E := x45.mono fun b _ h => by rw [h]; exact hED _ (hXD _ h1)
   have dat : ∀ v b, F4 w2 D v b -> F4 w5 E v b := fun v b hd => ((hd.sub hE2).ext x3Y fun _ h => h).ext x45Y fun _ h => h
   refine ⟨Y, E, ⟨w2.heap.size, mn, .slice none 0 0, ln, ln, [], hYX _ h1, by rw [hY]; exact .inr rfl, hYX _ h3, by omega, h5, by omega, hYE, fun b h => ?_, op5, hmc.ext x45 (by omega), (hmn2.ext x3 (fun h => h)).ext x45 (fun h => h5 h.symm), hfn2.map dat, hfn2.map dat, ⟨rfl, .inl ⟨rfl, rfl⟩⟩, rfl⟩, fun b h => ?_, hED, (xX.trans x3 fun _ _ h => h.elim).trans x45 fun b _ h => by rw [h]; exact h1⟩
   .rw [hE] at h
    rcases h with h | h
    .have := hD2 b h; omega
    .omega
   .rcases hY2 b h with h | h
    .exact .inl h
    .exact .inr (by omega)
end Go.Proofs.YteelnmpbnaohpaaDoor
namespace Go.Proofs.YteelnmpbnaohpaaDoor
open Go Go.En Go.Pu
structure Tq where
 size : Nat
 part : Nat
 leaves : List (List UInt8)
structure nO where
 nm : ByteArray
 man : Tq
 epoch : Nat
 hv : List Bool
 log : Nat
 fin : Bool
 err : Int
def hU (n : ByteArray) : ByteArray := n ++ ⟨#[46, 112, 97, 114, 116]⟩
def jE (n : ByteArray) : ByteArray := n ++ ⟨#[46, 108, 111, 103]⟩
section
variable (lf : List UInt8 -> List UInt8) (cf : List UInt8 -> Nat)
def A0 (m : Tq) (i : Nat) (b : List UInt8) : Bool := b.length == Jo m.size m.part i && lf b == m.leaves.getD i []
def wholeAt (m : Tq) (b : List UInt8) (i : Nat) : Bool := decide (m.part * i + Jo m.size m.part i <= b.length) && A0 lf m i (uK m.size m.part i b)
def iZ (m : Tq) (b : List UInt8) : List Bool := (List.range m.leaves.length).map (wholeAt lf m b)
def Ck (l : List Bool) : Bool := !l.contains false
def iS (S : jR) (n : ByteArray) : List UInt8 × Bool × Int := if S.down then ([], false, 20) else match iV n S.seen with
 | none => ([], false, 0)
 | some b => (b, true, 0)
def jS (S : jR) (s : nO) (k v : Nat) : jR × nO × Int :=
 let r := DT S (jE s.nm) s.log (sJ cf k v)
 if r.2 = 0 then (r.1, { s with log := s.log + 13 }, 0) else (r.1, s, r.2)
def jV (S : jR) (s : nO) : jR × List UInt8 × Int :=
 let r := iS S (hU s.nm)
 if r.2.2 ≠ 0 then (S, [], r.2.2)
 else if s.man.size < r.1.length then
  let d := T7 S (hU s.nm)
  if d.2 ≠ 0 then (d.1, [], d.2) else
    let e := DT d.1 (hU s.nm) 0 (List.replicate s.man.size 0)
    (e.1, [], e.2)
 else if r.1.length < s.man.size ∨ r.2.1 = false then
  let e := DT S (hU s.nm) r.1.length (List.replicate (s.man.size - r.1.length) 0)
  (e.1, r.1, e.2)
 else (S, r.1, 0)
def rN (l : List (Nat × Nat)) (w : List Bool) (n : Nat) : List Bool := (List.range n).map fun i => l.any (fun r => r.1 == 2 && r.2 == i) && w.getD i false
def Ar (S : jR) (n : ByteArray) (m : Tq) : jR × Option nO × Int :=
 let r := iS S n
 if r.2.2 ≠ 0 then (S, none, r.2.2) else
 let hv := iZ lf m r.1
 let fin := r.2.1 && r.1.length == m.size && Ck hv
 let g := iS S (jE n)
 if g.2.2 ≠ 0 then (S, none, g.2.2) else
 let l := mM cf g.1
 let last := kS 1 l
 if last = 18446744073709551615 then (S, none, 23) else
 let s : nO := ⟨n, m, last + 1, hv, 13 * l.length, fin, 0⟩
 let q := jS cf S s 1 (last + 1)
 if q.2.2 ≠ 0 then (q.1, none, q.2.2) else
 if fin then
   let y := BJ q.1
   if y.2 ≠ 0 then (y.1, none, y.2) else (y.1, some q.2.1, 0)
 else
  let f := jV q.1 q.2.1
  if f.2.2 ≠ 0 then (f.1, none, f.2.2) else
  let y := BJ f.1
  if y.2 ≠ 0 then (y.1, none, y.2) else (y.1, some { q.2.1 with hv := rN l (iZ lf m f.2.1) m.leaves.length }, 0)
def kK (S : jR) (s : nO) (i : Nat) (b : List UInt8) : jR × nO × Int :=
 let r := DT S (hU s.nm) (s.man.part * i : Nat) b
 if r.2 ≠ 0 then (r.1, s, r.2) else
 let y := BJ r.1
 if y.2 ≠ 0 then (y.1, s, y.2) else
 let q := jS cf y.1 s 2 i
 if q.2.2 ≠ 0 then (q.1, q.2.1, q.2.2) else
 let z := BJ q.1
 (z.1, q.2.1, z.2)
def tC (S : jR) (s : nO) (i : Int) (b : List UInt8) : jR × nO × Int :=
 if s.err ≠ 0 then (S, s, s.err)
 else if i < 0 ∨ (s.hv.length : Int) <= i then (S, s, 17)
 else if s.fin || s.hv.getD i.toNat false then (S, s, 0)
 else if A0 lf s.man i.toNat b = false then (S, s, 13)
 else
  let q := kK cf S s i.toNat b
  (q.1, { q.2.1 with err := q.2.2, hv := q.2.1.hv.set i.toNat (q.2.2 == 0) }, q.2.2)
def lX (S : jR) (s : nO) : jR × nO × Int :=
 if s.err ≠ 0 then (S, s, s.err)
 else if s.fin then (S, s, 0)
 else if Ck s.hv = false then (S, s, 30)
 else if S.down then (S, { s with err := 20 }, 20)
 else match iV (hU s.nm) S.seen with
 | none => (S, { s with err := 21 }, 21)
 | some b =>
   if Ck (iZ lf s.man b) = false then (S, { s with hv := iZ lf s.man b }, 13)
   else
    let r := MI S (hU s.nm) s.nm
    if r.2 ≠ 0 then (r.1, { s with hv := iZ lf s.man b, err := r.2, fin := false }, r.2) else
    let y := BJ r.1
    (y.1, { s with hv := iZ lf s.man b, err := y.2, fin := y.2 == 0 }, y.2)
def lA (f : List UInt8) (k : Nat) : Tq := ⟨f.length, k, (List.range (nC f.length k)).map fun i => lf (uK f.length k i f)⟩
end
structure yM (n : Nat) (S : jR) : Prop where
 bd : Wp S
 sz : iE S.seen <= 1000000000
 un : S.under.length + n <= 1000000
theorem yM.le {n m : Nat} {S : jR} (h : yM n S) (hm : m <= n) : yM m S := ⟨h.bd, h.sz, by have := h.un; omega⟩
theorem yM.file {n : Nat} {S : jR} (h : yM n S) {k : ByteArray} {b : List UInt8} (hb : iV k S.seen = some b) : b.length <= 1000000000 := by
 have h1 := AH (k := k) (c := S.seen)
 rw [hb] at h1
 have := h.sz
 have h1 : b.length <= iE S.seen := h1
 omega
theorem KZ {l : Int} (h : -1 <= l /\ l <= 9223372036854775807) : -1 <= IB l /\ IB l <= 9223372036854775807 := by
 unfold IB
 split <;> omega
theorem Qi {n : Nat} {S : jR} {o : Qr} (h : yM (n + 1) S) (hs : iE (MB o S.seen) <= 1000000000) : yM n (vV S o).1 := by
 have hb := h.bd
 have hu := h.un
 have hz := h.sz
 unfold vV
 split
 .exact ⟨⟨KZ hb.left, hb.seen, hb.under, hb.room⟩, hz, by show S.under.length + n <= _; omega⟩
 .refine ⟨⟨KZ hb.left, by show iE (MB o S.seen) <= _; omega, ?_, hb.room⟩, hs, ?_⟩
  .show (S.under ++ [o]).length <= _; rw [ZN]; simp; omega
  .show (S.under ++ [o]).length + n <= _; rw [ZN]; simp; omega
theorem Mr {n : Nat} {S : jR} {k : ByteArray} {a : Int} {l : List UInt8} (h : yM (n + 1) S) : yM n (DT S k a l).1 := by
 unfold DT
 split
 .rename_i h0
  refine Qi h ?_
  unfold XB at h0
  split at h0
  .omega
  split at h0
  .omega
  rename_i h1
  split at h0
  .omega
  split at h0
  .omega
  rename_i h2
  have hr := h.bd.room
  have e : MB ⟨0, k, ⟨#[]⟩, a.toNat, l⟩ S.seen = pC k (over (pS S k) a.toNat l) S.seen := rfl
  have hs := rP k (over (pS S k) a.toNat l) S.seen
  rw [Ep] at hs
  rw [e]
  unfold pS at *
  generalize ((iV k S.seen).getD []).length = q at *
  have : 0 <= a := by
   by_cases ha : a < 0
   .exact absurd (.inr ha) h1
   .omega
  omega
 .exact h.le (by omega)
theorem Qy {n : Nat} {S : jR} {k : ByteArray} (h : yM (n + 1) S) : yM n (T7 S k).1 := by
 unfold T7
 split
 .exact h.le (by omega)
 .split
  .exact h.le (by omega)
  .refine Qi h ?_
   have := FM k S.seen
   have hz := h.sz
   show iE (Cm k S.seen) <= _
   omega
theorem Yq {n : Nat} {S : jR} {k j : ByteArray} (h : yM (n + 1) S) : yM n (MI S k j).1 := by
 unfold MI
 split
 .exact h.le (by omega)
 .split
  .exact h.le (by omega)
  .split
   .exact h.le (by omega)
   .refine Qi h ?_
    have hz := h.sz
    unfold MB
    rw [if_neg (show ¬ (1 : Nat) = 0 by decide), if_pos (show (1 : Nat) = 1 from rfl)]
    show iE (match iV k S.seen with | none => S.seen | some old => pC j old (Cm k S.seen)) <= _
    have h1 := FM k S.seen
    cases hg : iV k S.seen with
    | none => exact hz
    | some old =>
      rw [hg] at h1
      have h1 : iE (Cm k S.seen) + old.length = iE S.seen := h1
      have h2 := rP j old (Cm k S.seen)
      show iE (pC j old (Cm k S.seen)) <= _
      omega
theorem NX {n : Nat} {S : jR} (h : yM n S) : yM n (BJ S).1 := by
 have hb := h.bd
 have hu := h.un
 unfold BJ
 split
 .exact h
 .split
  .exact ⟨⟨KZ hb.left, hb.seen, hb.under, hb.room⟩, h.sz, hu⟩
  .exact ⟨⟨KZ hb.left, hb.seen, by simp, hb.room⟩, h.sz, by simp; omega⟩
structure Calm (S : jR) : Prop where
 up : S.down = false
 left : S.left = -1
theorem SP {S : jR} (h : Calm S) : SZ S = false := by unfold SZ; rw [h.up, h.left] <;> rfl
theorem Pz {S : jR} (h : Calm S) (o : Qr) : vV S o = ({ S with under := S.under ++ [o], seen := MB o S.seen }, 0) := by
 have h1 := h.up
 have h2 := h.left
 unfold vV
 rw [SP h, if_neg (by decide)]
 obtain ⟨room, sure, seen, under, left, down⟩ := S
 simp only at h1 h2
 subst h1; subst h2
 rfl
theorem I6 {S : jR} (h : Calm S) : BJ S = ({ S with sure := S.seen, under := [] }, 0) := by
 have h1 := h.up
 have h2 := h.left
 unfold BJ
 rw [SP h, h.up, if_neg (show ¬ false = true by decide), if_neg (show ¬ false = true by decide)]
 obtain ⟨room, sure, seen, under, left, down⟩ := S
 simp only at h1 h2
 subst h1; subst h2
 rfl
theorem M6 {S : jR} {k : ByteArray} {a : Nat} {l : List UInt8} (h : Calm S) (hk : Ku k = true) (ha : a <= (pS S k).length) :
 DT S k a l = if S.room < ((iE S.seen + (a + l.length - (pS S k).length) : Nat) : Int) then (S, 22) else ({ S with under := S.under ++ [⟨0, k, ⟨#[]⟩, a, l⟩], seen := pC k (over (pS S k) a l) S.seen }, 0) := by
 have e : XB S k a l.length = if S.room < ((iE S.seen + (a + l.length - (pS S k).length) : Nat) : Int) then 22 else 0 := by
  unfold XB
  rw [h.up, if_neg (by decide), hk, if_neg (by rintro (h | h); cases h; omega), if_neg (by omega)]
  have : ((iE S.seen : Nat) : Int) + max ((a : Int) + (l.length : Int) - ((pS S k).length : Int)) 0 = ((iE S.seen + (a + l.length - (pS S k).length) : Nat) : Int) := by omega
  rw [this]
 unfold DT
 rw [e]
 by_cases h1 : S.room < ((iE S.seen + (a + l.length - (pS S k).length) : Nat) : Int)
 .rw [if_pos h1, if_pos h1, if_neg (by decide)]
 .rw [if_neg h1, if_neg h1, if_pos rfl, Pz h, ZI]
  rfl
end Go.Proofs.YteelnmpbnaohpaaDoor
