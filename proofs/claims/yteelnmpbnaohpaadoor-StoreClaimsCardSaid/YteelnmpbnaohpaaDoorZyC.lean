/- Parts of the proof of StoreClaims: merged and given short names by a program of ours. -/
import Derived.WalkKit
import Derived.ProofKit
import Derived.OpenShut
import Derived.Laws.StructEq
import Derived.Shelf.SlMaps.Clone
import Derived.Test.YteelnmpbnaohpaaDoorZyB
set_option linter.unusedVariables false
set_option linter.unusedSimpArgs false
open Array renaming getElem?_eq_getElem → Z4, getElem?_setIfInBounds_self_of_lt → Z6, getElem?_setIfInBounds_ne → Z8, getD_eq_getD_getElem? → ZX, getElem?_eq_none → aaI
open Bool renaming false_eq_true → ZM, not_false → ZQ, not_true → ZR, and_eq_true → ZZ, or_eq_true → aaX, or_eq_false_iff → acO, or_false → acT, false_or → adE, and_eq_false_iff → adJ
open Int renaming toNat_natCast → ZO
open List renaming map_cons → Z0, mem_cons_of_mem → Z1, length_drop → Z3, length_take → Z5, set_cons_zero → Z7, nil_append → Z9, getElem?_cons_zero → ZK, getElem?_cons_succ → ZL, length_map → ZT, getElem?_eq_getElem → ZU, length_append → ZV, getD_eq_getElem?_getD → ZW, take_of_length_le → ZY, getElem?_append_left → aaA, length_eq_zero_iff → aaB, append_assoc → aaC, getElem?_map → aaD, length_replicate → aaF, length_cons → aaG, take_append_of_le_length → aaJ, getElem?_eq_none → aaK, drop_append_of_le_length → aaL, mem_cons → aaN, toList_toArray → aaP, set_cons_succ → aaR, append_nil → aaT, mem_map → aaU, getElem?_append_right → aaV, map_append → aaY, map_congr_left → abA, mem_cons_self → abC, eraseIdx_cons_succ → abE, getElem_mem → abG, take_succ_eq_append_getElem → abH, drop_of_length_le → abI, mem_append → abJ, getElem?_toArray → abK, set_append_right → abL, getElem?_take_of_lt → abM, drop_zero → abP, length_nil → abR, mem_append_left → abU, size_toArray → abV, ext_getElem? → abW, nodup_cons → acA, map_drop → acE, getElem?_drop → acH, mem_append_right → acL, drop_drop → acN, cons_append → acP, map_take → acR, sum_cons → acS, map_replicate → acW, map_set → acX, take_add_one → acZ, flatMap_cons → adB, getElem_map → adG, take_append_drop → adI, mem_of_mem_take → adL
open Nat renaming le_refl → Z2, zero_add → ZS, min_eq_left → aaM, lt_or_ge → aaW, add_sub_cancel_left → abF, mod_eq_of_lt → abN, mul_le_mul_left → abX, lt_of_lt_of_le → abY, add_assoc → acD, mod_lt → acG, mul_add → acJ, sub_self → adM, pow_le_pow_right → adP
open Option renaming isNone_some → ZN, isNone_none → ZP, map_some → aaS
open Option.some renaming injEq → aaH
open UInt8 renaming toNat_ofNat' → acI
namespace Go.Proofs.YteelnmpbnaohpaaDoor
open Go Go.En Go.Pu
set_option maxRecDepth 4000
abbrev u32 (x : Nat) : adS := .int .u32 (x : Int)
theorem Ep {l : List Nat} {i : Nat} (h : i < l.length) : (l.map u32)[i]? = some (u32 (l.getD i 0)) := by
 rw [aaD, ZU h, ZW, ZU h] <;> rfl
theorem LX (l : List Nat) : ∀ y ∈ l.map u32, one y = true := fun y hy => by
 obtain ⟨z, -, rfl⟩ := aaU.1 hy; rfl
theorem WQ (n : Nat) : (List.replicate n 0).map u32 = List.replicate n (.int .u32 0) := by rw [acW] <;> rfl
theorem Ug {s : List Nat} {b : List UInt8} {w : adR} (hg : rF w) (hs : s.length = 8) (h32 : CJ s) (hb : b.length = 64) :
 gS pg vX #[.agg (s.map u32).toArray, .agg (b.map nU).toArray] w (fun r w' => r = .agg ((J6 s b).map u32).toArray /\ gT w w' jL) := by
 refine JF ?_
 obtain ⟨hg0, hg1⟩ := hg.lt
 unfold Iu xU xW
 refine oC fun w1 o1 x1 s1 => ?_
 refine oC fun w2 o2 x2 s2 => ?_
 refine Lw fun w3 o3 x3 s3 => ?_
 refine OQ fun w4 o4 x4 s4 => ?_
 generalize hn : w.heap.size = n at *
 rw [s1] at o2
 rw [show w2.heap.size = n + 2 from by omega] at o3 ⊢
 rw [show w3.heap.size = n + 3 from by omega] at o4 ⊢
 rw [s1]
 have o1 : jH w4 n (s.map u32) := ((jH.ext (cs := s.map u32) o1 x2 (fun h => h)).ext x3 (fun h => h)).ext x4 (fun h => h)
 have o2 : jH w4 (n + 1) (b.map nU) := (jH.ext (cs := b.map nU) o2 x3 (fun h => h)).ext x4 (fun h => h)
 have o3 : jH w4 (n + 2) (List.replicate 8 (.int .u32 0)) := jH.ext (cs := List.replicate 8 (.int .u32 0)) o3 x4 (fun h => h)
 have o4 : jH w4 (n + 3) ((Sz b 0).map u32) := by
  rw [Sz, WQ]; exact o4
 have x04 : gT w w4 jL := ((x1.seq x2).seq x3).seq x4
 have z4 : w4.heap.size = n + 4 := by omega
 have lb := Ix (off := 0) o2 (by rw [ZT]; omega)
 rw [abP, ZY (by rw [ZT]; omega)] at lb
 unfold xT yG xV xL xQ
 simp (disch := omega) only [eY, gN, dX, stepR_skip, fO, gI, fP, gJ, gC, gE, gR, fZ, eU, fX, fU, gD, fR, fN, fW, fS, fV, gK, gG, fQ, fC, fY, gA, fL, iP, iS, iL, iT, iR, iM, iN, iQ, iO, eP, Result.ok.injEq, Next.value.injEq, true_and, and_true, fI, fJ, gB, fM, gH, gQ, ZO, fD, fF, fG, fE, eZ, eT, fB, eX, eQ, eH, if_true, if_false, ZM, ZS, ZN, ZP, ZR, ZQ, ZL, ZK, eA, dV, aB, dE, dJ, cB, eB, eS, eD, dN, eE, fA, dG, eI, bR, dL, bC, dR, aL, aH, eK, aZ, cI, eJ, aG, eL, dQ, aR, bD, eC, bG, bF, bJ, aP, aM, cG, fH, dY, cJ, cA, dB, cH, dT, bB, eM, bX, dS, bQ, bA, bT, aC, bU, bP, cF, bY, aU, aV, aX, bV, dD, cP, bO, aY, aN, aK, bH, aD, dC, dW, aJ, aI, aT, aF, cY, aE, cL, bW, bE, aO, cM, bZ, aA, dF, cU, cV, cC, dK, cD, dM, dU, cN, eF, eN, bN, aS, dZ, bS, aQ, bM, dI, dA, cS, cO, cR, bK, bL, cX, dO, cQ, dH, cZ, lb]
 refine kC.rule (fun m (t : adS) w' => ∃ i : Nat, m = 64 - i /\ t = .int .i64 (i : Nat) /\ i <= 64 /\ jH w' (n + 3) ((Sz b i).map u32) /\ gT w4 w' (fun y => y = n + 3)) 64 ⟨0, rfl, rfl, by omega, o4, gT.refl _ _⟩ ?_
 rintro m t w5 ⟨i, rfl, rfl, hi, o5, x5⟩
 unfold rR
 have hl5 := TJ b i
 by_cases hlt : i < 64
 .have d1 : decide ((i : Int) < 64) = true := by simp; omega
  have hq : (i : Int).tdiv 4 = ((i / 4 : Nat) : Int) := by rw [Int.tdiv_eq_ediv_of_nonneg (by omega)]; omega
  have gb : (b.map nU).toArray[i]? = some (.int .u8 ((b.getD i 0).toNat : Nat)) := by
   rw [abK, aaD, ZU (by omega), ZW, ZU (by omega)] <;> rfl
  have c5 := o5.cell (off := i / 4)
  rw [Ep (by omega)] at c5
  have hx := (S0 b i).getD (i / 4)
  have e1 := Ra ((Sz b i).getD (i / 4) 0) 8
  have m1 : min (8 : Int).toNat IntKind.u32.bits = 8 := rfl
  have e2 := To (EH ((Sz b i).getD (i / 4) 0 * 2 ^ 8)) (Jv (b.getD i 0))
  have hby := (b.getD i 0).toNat_lt
  simp (disch := omega) only [eY, gN, dX, stepR_skip, fO, gI, fP, gJ, gC, gE, gR, fZ, eU, fX, fU, gD, fR, fN, fW, fS, fV, gK, gG, fQ, fC, fY, gA, fL, iP, iS, iL, iT, iR, iM, iN, iQ, iO, eP, Result.ok.injEq, Next.value.injEq, true_and, and_true, fI, fJ, gB, fM, gH, gQ, ZO, fD, fF, fG, fE, eZ, eT, fB, eX, eQ, eH, if_true, if_false, ZM, ZS, ZN, ZP, ZR, ZQ, ZL, ZK, eA, dV, aB, dE, dJ, cB, eB, eS, eD, dN, eE, fA, dG, eI, bR, dL, bC, dR, aL, aH, eK, aZ, cI, eJ, aG, eL, dQ, aR, bD, eC, bG, bF, bJ, aP, aM, cG, fH, dY, cJ, cA, dB, cH, dT, bB, eM, bX, dS, bQ, bA, bT, aC, bU, bP, cF, bY, aU, aV, aX, bV, dD, cP, bO, aY, aN, aK, bH, aD, dC, dW, aJ, aI, aT, aF, cY, aE, cL, bW, bE, aO, cM, bZ, aA, dF, cU, cV, cC, dK, cD, dM, dU, cN, eF, eN, bN, aS, dZ, bS, aQ, bM, dI, dA, cS, cO, cR, bK, bL, cX, dO, cQ, dH, cZ, d1, hq, gb, c5, m1, e1, e2]
  refine yQ o5 rfl (by rw [ZT]; omega) fun w6 o6 x6 s6 => ?_
  refine ⟨64 - (i + 1), by omega, i + 1, rfl, rfl, by omega, ?_, x5.seq x6⟩
  rw [Sz, acX]
  exact o6
 have d1 : decide ((i : Int) < 64) = false := by simp; omega
 obtain rfl : i = 64 := by omega
 simp (disch := omega) only [eY, gN, dX, stepR_skip, fO, gI, fP, gJ, gC, gE, gR, fZ, eU, fX, fU, gD, fR, fN, fW, fS, fV, gK, gG, fQ, fC, fY, gA, fL, iP, iS, iL, iT, iR, iM, iN, iQ, iO, eP, Result.ok.injEq, Next.value.injEq, true_and, and_true, fI, fJ, gB, fM, gH, gQ, ZO, fD, fF, fG, fE, eZ, eT, fB, eX, eQ, eH, if_true, if_false, ZM, ZS, ZN, ZP, ZR, ZQ, ZL, ZK, eA, dV, aB, dE, dJ, cB, eB, eS, eD, dN, eE, fA, dG, eI, bR, dL, bC, dR, aL, aH, eK, aZ, cI, eJ, aG, eL, dQ, aR, bD, eC, bG, bF, bJ, aP, aM, cG, fH, dY, cJ, cA, dB, cH, dT, bB, eM, bX, dS, bQ, bA, bT, aC, bU, bP, cF, bY, aU, aV, aX, bV, dD, cP, bO, aY, aN, aK, bH, aD, dC, dW, aJ, aI, aT, aF, cY, aE, cL, bW, bE, aO, cM, bZ, aA, dF, cU, cV, cC, dK, cD, dM, dU, cN, eF, eN, bN, aS, dZ, bS, aQ, bM, dI, dA, cS, cO, cR, bK, bL, cX, dO, cQ, dH, cZ, d1]
 clear lb
 unfold yB yL xH xS yM
 simp (disch := omega) only [eY, gN, dX, stepR_skip, fO, gI, fP, gJ, gC, gE, gR, fZ, eU, fX, fU, gD, fR, fN, fW, fS, fV, gK, gG, fQ, fC, fY, gA, fL, iP, iS, iL, iT, iR, iM, iN, iQ, iO, eP, Result.ok.injEq, Next.value.injEq, true_and, and_true, fI, fJ, gB, fM, gH, gQ, ZO, fD, fF, fG, fE, eZ, eT, fB, eX, eQ, eH, if_true, if_false, ZM, ZS, ZN, ZP, ZR, ZQ, ZL, ZK, eA, dV, aB, dE, dJ, cB, eB, eS, eD, dN, eE, fA, dG, eI, bR, dL, bC, dR, aL, aH, eK, aZ, cI, eJ, aG, eL, dQ, aR, bD, eC, bG, bF, bJ, aP, aM, cG, fH, dY, cJ, cA, dB, cH, dT, bB, eM, bX, dS, bQ, bA, bT, aC, bU, bP, cF, bY, aU, aV, aX, bV, dD, cP, bO, aY, aN, aK, bH, aD, dC, dW, aJ, aI, aT, aF, cY, aE, cL, bW, bE, aO, cM, bZ, aA, dF, cU, cV, cC, dK, cD, dM, dU, cN, eF, eN, bN, aS, dZ, bS, aQ, bM, dI, dA, cS, cO, cR, bK, bL, cX, dO, cQ, dH, cZ]
 obtain ⟨W0, hW0⟩ : ∃ W0, W0 = Sz b 64 := ⟨_, rfl⟩
 have hW0l : CJ W0 := hW0 ▸ S0 b 64
 rw [<- hW0] at o5 hl5
 refine kC.rule (fun m (t : adS) w' => ∃ j : Nat, m = 48 - j /\ t = .int .i64 ((16 + j : Nat) : Int) /\ j <= 48 /\ jH w' (n + 3) ((T9 W0 j).map u32) /\ gT w4 w' (fun y => y = n + 3)) 48 ⟨0, rfl, rfl, by omega, o5, x5⟩ ?_
 clear o5 x5
 rintro m t w5 ⟨j, rfl, rfl, hj, o5, x5⟩
 unfold rJ
 have hl6 : (T9 W0 j).length = 64 := by rw [Tg]; exact hl5
 by_cases hlt : j < 48
 .have d1 : decide (((16 + j : Nat) : Int) < 64) = true := by simp; omega
  have q1 : ((16 + j : Nat) : Int) - 16 = ((j : Nat) : Int) := by omega
  have q2 : ((16 + j : Nat) : Int) - 15 = ((j + 1 : Nat) : Int) := by omega
  have q3 : ((16 + j : Nat) : Int) - 7 = ((j + 9 : Nat) : Int) := by omega
  have q4 : ((16 + j : Nat) : Int) - 2 = ((j + 14 : Nat) : Int) := by omega
  have q5 : ((16 + j : Nat) : Int) + 1 = ((16 + (j + 1) : Nat) : Int) := by omega
  have od := kI o5
  have c1 := o5.cell (off := j)
  have c2 := o5.cell (off := j + 1)
  have c3 := o5.cell (off := j + 9)
  have c4 := o5.cell (off := j + 14)
  have d1' := od.cell (off := j)
  have d2' := od.cell (off := j + 1)
  have d3' := od.cell (off := j + 9)
  have d4' := od.cell (off := j + 14)
  rw [Ep (by omega)] at c1 c2 c3 c4 d1' d2' d3' d4'
  have hl := Vy hW0l j
  have h1 := hl.getD j
  have h2 := hl.getD (j + 1)
  have h4 := hl.getD (j + 14)
  have f1 := Oe
  simp (disch := omega) only [eY, gN, dX, stepR_skip, fO, gI, fP, gJ, gC, gE, gR, fZ, eU, fX, fU, gD, fR, fN, fW, fS, fV, gK, gG, fQ, fC, fY, gA, fL, iP, iS, iL, iT, iR, iM, iN, iQ, iO, eP, Result.ok.injEq, Next.value.injEq, true_and, and_true, fI, fJ, gB, fM, gH, gQ, ZO, fD, fF, fG, fE, eZ, eT, fB, eX, eQ, eH, if_true, if_false, ZM, ZS, ZN, ZP, ZR, ZQ, ZL, ZK, eA, dV, aB, dE, dJ, cB, eB, eS, eD, dN, eE, fA, dG, eI, bR, dL, bC, dR, aL, aH, eK, aZ, cI, eJ, aG, eL, dQ, aR, bD, eC, bG, bF, bJ, aP, aM, cG, fH, dY, cJ, cA, dB, cH, dT, bB, eM, bX, dS, bQ, bA, bT, aC, bU, bP, cF, bY, aU, aV, aX, bV, dD, cP, bO, aY, aN, aK, bH, aD, dC, dW, aJ, aI, aT, aF, cY, aE, cL, bW, bE, aO, cM, bZ, aA, dF, cU, cV, cC, dK, cD, dM, dU, cN, eF, eN, bN, aS, dZ, bS, aQ, bM, dI, dA, cS, cO, cR, bK, bL, cX, dO, cQ, dH, cZ, d1, q1, q2, q3, q4, d1', d2', d3', d4', c1, c2, c3, c4]
  refine (P5 h2 ⟨by decide, by decide⟩ ⟨by decide, by decide⟩ (by decide) _).mono ?_
  rintro r w6 ⟨rfl, x6⟩
  have o6 := od.ext x6 (fun h => h)
  have p1 := o6.cell (off := j)
  have p3 := o6.cell (off := j + 9)
  have p4 := o6.cell (off := j + 14)
  rw [Ep (by omega)] at p1 p3 p4
  simp (disch := omega) only [eY, gN, dX, stepR_skip, fO, gI, fP, gJ, gC, gE, gR, fZ, eU, fX, fU, gD, fR, fN, fW, fS, fV, gK, gG, fQ, fC, fY, gA, fL, iP, iS, iL, iT, iR, iM, iN, iQ, iO, eP, Result.ok.injEq, Next.value.injEq, true_and, and_true, fI, fJ, gB, fM, gH, gQ, ZO, fD, fF, fG, fE, eZ, eT, fB, eX, eQ, eH, if_true, if_false, ZM, ZS, ZN, ZP, ZR, ZQ, ZL, ZK, eA, dV, aB, dE, dJ, cB, eB, eS, eD, dN, eE, fA, dG, eI, bR, dL, bC, dR, aL, aH, eK, aZ, cI, eJ, aG, eL, dQ, aR, bD, eC, bG, bF, bJ, aP, aM, cG, fH, dY, cJ, cA, dB, cH, dT, bB, eM, bX, dS, bQ, bA, bT, aC, bU, bP, cF, bY, aU, aV, aX, bV, dD, cP, bO, aY, aN, aK, bH, aD, dC, dW, aJ, aI, aT, aF, cY, aE, cL, bW, bE, aO, cM, bZ, aA, dF, cU, cV, cC, dK, cD, dM, dU, cN, eF, eN, bN, aS, dZ, bS, aQ, bM, dI, dA, cS, cO, cR, bK, bL, cX, dO, cQ, dH, cZ, d1, q1, q2, q3, q4, d1', d2', d3', d4', c1, c2, c3, c4, p1, p3, p4, f1]
  refine (P5 h4 ⟨by decide, by decide⟩ ⟨by decide, by decide⟩ (by decide) _).mono ?_
  rintro r w7 ⟨rfl, x7⟩
  have o7 := o6.ext x7 (fun h => h)
  have r1 := o7.cell (off := j)
  have r3 := o7.cell (off := j + 9)
  have r4 := o7.cell (off := j + 14)
  rw [Ep (by omega)] at r1 r3 r4
  simp (disch := omega) only [eY, gN, dX, stepR_skip, fO, gI, fP, gJ, gC, gE, gR, fZ, eU, fX, fU, gD, fR, fN, fW, fS, fV, gK, gG, fQ, fC, fY, gA, fL, iP, iS, iL, iT, iR, iM, iN, iQ, iO, eP, Result.ok.injEq, Next.value.injEq, true_and, and_true, fI, fJ, gB, fM, gH, gQ, ZO, fD, fF, fG, fE, eZ, eT, fB, eX, eQ, eH, if_true, if_false, ZM, ZS, ZN, ZP, ZR, ZQ, ZL, ZK, eA, dV, aB, dE, dJ, cB, eB, eS, eD, dN, eE, fA, dG, eI, bR, dL, bC, dR, aL, aH, eK, aZ, cI, eJ, aG, eL, dQ, aR, bD, eC, bG, bF, bJ, aP, aM, cG, fH, dY, cJ, cA, dB, cH, dT, bB, eM, bX, dS, bQ, bA, bT, aC, bU, bP, cF, bY, aU, aV, aX, bV, dD, cP, bO, aY, aN, aK, bH, aD, dC, dW, aJ, aI, aT, aF, cY, aE, cL, bW, bE, aO, cM, bZ, aA, dF, cU, cV, cC, dK, cD, dM, dU, cN, eF, eN, bN, aS, dZ, bS, aQ, bM, dI, dA, cS, cO, cR, bK, bL, cX, dO, cQ, dH, cZ, q1, q2, q3, q4, q5, r1, r3, r4, f1]
  refine yQ o7 rfl (by rw [ZT]; omega) fun w8 o8 x8 s8 => ?_
  refine ⟨48 - (j + 1), by omega, j + 1, rfl, rfl, by omega, ?_, x5.seq ((((gT.dr _ jL).seq x6).seq x7).mono (fun _ _ h => h.elim) |>.seq x8)⟩
  rw [T9, acX]
  exact o8
 have d1 : decide (((16 + j : Nat) : Int) < 64) = false := by simp; omega
 obtain rfl : j = 48 := by omega
 simp (disch := omega) only [eY, gN, dX, stepR_skip, fO, gI, fP, gJ, gC, gE, gR, fZ, eU, fX, fU, gD, fR, fN, fW, fS, fV, gK, gG, fQ, fC, fY, gA, fL, iP, iS, iL, iT, iR, iM, iN, iQ, iO, eP, Result.ok.injEq, Next.value.injEq, true_and, and_true, fI, fJ, gB, fM, gH, gQ, ZO, fD, fF, fG, fE, eZ, eT, fB, eX, eQ, eH, if_true, if_false, ZM, ZS, ZN, ZP, ZR, ZQ, ZL, ZK, eA, dV, aB, dE, dJ, cB, eB, eS, eD, dN, eE, fA, dG, eI, bR, dL, bC, dR, aL, aH, eK, aZ, cI, eJ, aG, eL, dQ, aR, bD, eC, bG, bF, bJ, aP, aM, cG, fH, dY, cJ, cA, dB, cH, dT, bB, eM, bX, dS, bQ, bA, bT, aC, bU, bP, cF, bY, aU, aV, aX, bV, dD, cP, bO, aY, aN, aK, bH, aD, dC, dW, aJ, aI, aT, aF, cY, aE, cL, bW, bE, aO, cM, bZ, aA, dF, cU, cV, cC, dK, cD, dM, dU, cN, eF, eN, bN, aS, dZ, bS, aQ, bM, dI, dA, cS, cO, cR, bK, bL, cX, dO, cQ, dH, cZ, d1]
 obtain ⟨W, hW⟩ : ∃ W, W = T9 W0 48 := ⟨_, rfl⟩
 have hwith : J6 s b = BI (xC W s 64) s 8 := by rw [hW, hW0] <;> rfl
 rw [<- hW] at o5 hl6
 have x05 : gT w w5 jL := x04.trans x5 fun y hy h => by omega
 have a1 := o1.ext x5 (by omega)
 have a3 := o3.ext x5 (by omega)
 have z5 := x5.size
 clear d1 hlt hj hW hW0 hW0l hl5 x5 o1 o2 o3 o4 x04
 unfold yK yD
 have ls := Fq (off := 0) a1 (by rw [ZT]; omega)
 rw [abP, ZY (by rw [ZT]; omega)] at ls
 simp (disch := omega) only [eY, gN, dX, stepR_skip, fO, gI, fP, gJ, gC, gE, gR, fZ, eU, fX, fU, gD, fR, fN, fW, fS, fV, gK, gG, fQ, fC, fY, gA, fL, iP, iS, iL, iT, iR, iM, iN, iQ, iO, eP, Result.ok.injEq, Next.value.injEq, true_and, and_true, fI, fJ, gB, fM, gH, gQ, ZO, fD, fF, fG, fE, eZ, eT, fB, eX, eQ, eH, if_true, if_false, ZM, ZS, ZN, ZP, ZR, ZQ, ZL, ZK, eA, dV, aB, dE, dJ, cB, eB, eS, eD, dN, eE, fA, dG, eI, bR, dL, bC, dR, aL, aH, eK, aZ, cI, eJ, aG, eL, dQ, aR, bD, eC, bG, bF, bJ, aP, aM, cG, fH, dY, cJ, cA, dB, cH, dT, bB, eM, bX, dS, bQ, bA, bT, aC, bU, bP, cF, bY, aU, aV, aX, bV, dD, cP, bO, aY, aN, aK, bH, aD, dC, dW, aJ, aI, aT, aF, cY, aE, cL, bW, bE, aO, cM, bZ, aA, dF, cU, cV, cC, dK, cD, dM, dU, cN, eF, eN, bN, aS, dZ, bS, aQ, bM, dI, dA, cS, cO, cR, bK, bL, cX, dO, cQ, dH, cZ, ls]
 refine Lw fun w6 o6 x6 s6 => ?_
 have a1 := a1.ext x6 (fun h => h)
 have a3 := a3.ext x6 (fun h => h)
 have aW := o5.ext x6 (fun h => h)
 obtain ⟨v, hv⟩ : ∃ v, v = w5.heap.size := ⟨_, rfl⟩
 rw [<- hv] at o6 ⊢
 refine EP o6 (by simp [hs]) (fun y hy => LX s y (by simpa using hy)) (by simp) fun w7 o7 x7 s7 => ?_
 have hset : nE [(.int .u32 0), (.int .u32 0), (.int .u32 0), (.int .u32 0), (.int .u32 0), (.int .u32 0), (.int .u32 0), (.int .u32 0)] 0 (s.map u32).toArray.toList = s.map u32 := by
  rw [aaP]
  have := oM (s.map u32) [] [(.int .u32 0), (.int .u32 0), (.int .u32 0), (.int .u32 0), (.int .u32 0), (.int .u32 0), (.int .u32 0), (.int .u32 0)] (by rw [ZT, hs]; decide)
  rw [Z9, Z9, abR, ZT, hs] at this
  rw [this]; simp
 rw [hset] at o7
 have x07 : gT w w7 jL := (x05.seq x6).trans x7 fun y hy h => by omega
 have a1 := a1.ext x7 (by omega)
 have a3 := a3.ext x7 (by omega)
 have aW := aW.ext x7 (by omega)
 have hg7 := hg.ext x07
 have z7 : w7.heap.size = v + 1 := by omega
 have hvn : n + 4 <= v := by omega
 clear o5 o6 x6 x7 s6 s7 x05 hset ls
 unfold yN yO yF xG zU
 simp (disch := omega) only [eY, gN, dX, stepR_skip, fO, gI, fP, gJ, gC, gE, gR, fZ, eU, fX, fU, gD, fR, fN, fW, fS, fV, gK, gG, fQ, fC, fY, gA, fL, iP, iS, iL, iT, iR, iM, iN, iQ, iO, eP, Result.ok.injEq, Next.value.injEq, true_and, and_true, fI, fJ, gB, fM, gH, gQ, ZO, fD, fF, fG, fE, eZ, eT, fB, eX, eQ, eH, if_true, if_false, ZM, ZS, ZN, ZP, ZR, ZQ, ZL, ZK, eA, dV, aB, dE, dJ, cB, eB, eS, eD, dN, eE, fA, dG, eI, bR, dL, bC, dR, aL, aH, eK, aZ, cI, eJ, aG, eL, dQ, aR, bD, eC, bG, bF, bJ, aP, aM, cG, fH, dY, cJ, cA, dB, cH, dT, bB, eM, bX, dS, bQ, bA, bT, aC, bU, bP, cF, bY, aU, aV, aX, bV, dD, cP, bO, aY, aN, aK, bH, aD, dC, dW, aJ, aI, aT, aF, cY, aE, cL, bW, bE, aO, cM, bZ, aA, dF, cU, cV, cC, dK, cD, dM, dU, cN, eF, eN, bN, aS, dZ, bS, aQ, bM, dI, dA, cS, cO, cR, bK, bL, cX, dO, cQ, dH, cZ]
 refine kC.rule (fun m (t : adS) w' => ∃ i : Nat, m = 64 - i /\ t = .int .i64 (i : Nat) /\ i <= 64 /\ jH w' v ((xC W s i).map u32) /\ gT w7 w' (fun y => y = v)) 64 ⟨0, rfl, rfl, by omega, o7, gT.refl _ _⟩ ?_
 clear o7
 rintro m t w8 ⟨i, rfl, rfl, hi, o8, x8⟩
 unfold uB
 have hl8 : (xC W s i).length = 8 := MS hs i
 have hlt8 := KK (W := W) h32 i
 by_cases hlt : i < 64
 .have d1 : decide ((i : Int) < 64) = true := by simp; omega
  have hnext : xC W s (i + 1) = RD (xC W s i) (kN.getD i 0) (W.getD i 0) := rfl
  generalize xC W s i = V at *
  have cW : ∀ {w' : adR}, gT w7 w' (fun y => y = v) -> w'.cell? ⟨n + 3, i, none⟩ = some (u32 (W.getD i 0)) := fun {w'} x => by
   rw [(aW.ext x (by omega)).cell, Ep (by omega)]
  have cK : ∀ {w' : adR}, gT w7 w' (fun y => y = v) -> w'.cell? ⟨0, i, none⟩ = some (u32 (kN.getD i 0)) := fun {w'} x => CP (hg7.sh i hlt) x (by omega)
  obtain ⟨v0, v1, v2, v3, v4, v5, v6, v7, rfl⟩ : ∃ v0 v1 v2 v3 v4 v5 v6 v7, V = [v0, v1, v2, v3, v4, v5, v6, v7] := by
   match V, hl8 with
   | [a, b, c, d, e, f, g, h], _ => exact ⟨a, b, c, d, e, f, g, h, rfl⟩
  have b0 : v0 < uF := hlt8 _ (by simp)
  have b1 : v1 < uF := hlt8 _ (by simp)
  have b2 : v2 < uF := hlt8 _ (by simp)
  have b4 : v4 < uF := hlt8 _ (by simp)
  have b5 : v5 < uF := hlt8 _ (by simp)
  have b6 : v6 < uF := hlt8 _ (by simp)
  have q1 := kI o8
  have q2 := kI q1
  have q3 := kI q2
  have y2 : gT w7 (dr (dr w8)) (fun y => y = v) := (x8.seq (gT.dr _ _)).seq (gT.dr _ _)
  have kk := cK y2
  have ww := cW y2
  obtain ⟨K, hK⟩ : ∃ K, K = kN.getD i 0 := ⟨_, rfl⟩
  obtain ⟨Wi, hWi⟩ : ∃ Wi, Wi = W.getD i 0 := ⟨_, rfl⟩
  rw [<- hK] at kk hnext
  rw [<- hWi] at ww hnext
  obtain ⟨one, hone⟩ : ∃ one, one = XS [v0, v1, v2, v3, v4, v5, v6, v7] K Wi := ⟨_, rfl⟩
  obtain ⟨two, htwo⟩ : ∃ two, two = Y6 [v0, v1, v2, v3, v4, v5, v6, v7] := ⟨_, rfl⟩
  have hnext : xC W s (i + 1) = [(one + two) % uF, v0, v1, v2, (v3 + one) % uF, v4, v5, v6] := by rw [hnext, hone, htwo] <;> rfl
  have hone : one = ((((v7 + PC v4 6 11 25) % uF + ((v4 &&& v5) ^^^ ((4294967295 ^^^ v4) &&& v6))) % uF + K) % uF + Wi) % uF := hone
  have htwo : two = (PC v0 2 13 22 + ((v0 &&& v1) ^^^ (v0 &&& v2) ^^^ (v1 &&& v2))) % uF := htwo
  have c10 := q1.cell (off := 0)
  have c14 := q1.cell (off := 4)
  have c27 := q2.cell (off := 7)
  have c25 := q2.cell (off := 5)
  have c26 := q2.cell (off := 6)
  have c31 := q3.cell (off := 1)
  have c32 := q3.cell (off := 2)
  simp only [Z0, List.map_nil, ZK, ZL] at c10 c14 c27 c25 c26 c31 c32
  have t0 : (0 : Int).toNat = 0 := rfl
  have t1 : (1 : Int).toNat = 1 := rfl
  have t2 : (2 : Int).toNat = 2 := rfl
  have t4 : (4 : Int).toNat = 4 := rfl
  have t5 : (5 : Int).toNat = 5 := rfl
  have t6 : (6 : Int).toNat = 6 := rfl
  have t7 : (7 : Int).toNat = 7 := rfl
  have g1 : IntKind.u32.signed = false := rfl
  have g2 : IntKind.u32.max = 4294967295 := rfl
  have e1 := Gy b4 b5
  have n4 : 4294967295 ^^^ v4 < uF := Ir (by decide) b4
  have e2 : OK .u32 (4294967295 : Int) (v4 : Int) = ((4294967295 ^^^ v4 : Nat) : Int) := vN (a := 4294967295) (by decide) b4
  have e3 := Gy n4 b6
  have e4 := vN (Ky v4 b5) (Ky (4294967295 ^^^ v4) b6)
  have e5 := Gy b0 b1
  have e6 := Gy b0 b2
  have e7 := Gy b1 b2
  have e8 := vN (Ky v0 b1) (Ky v0 b2)
  have e9 := vN (Ir (Ky v0 b1) (Ky v0 b2)) (Ky v1 b2)
  have f1 := Oe
  simp (disch := omega) only [eY, gN, dX, stepR_skip, fO, gI, fP, gJ, gC, gE, gR, fZ, eU, fX, fU, gD, fR, fN, fW, fS, fV, gK, gG, fQ, fC, fY, gA, fL, iP, iS, iL, iT, iR, iM, iN, iQ, iO, eP, Result.ok.injEq, Next.value.injEq, true_and, and_true, fI, fJ, gB, fM, gH, gQ, ZO, fD, fF, fG, fE, eZ, eT, fB, eX, eQ, eH, if_true, if_false, ZM, ZS, ZN, ZP, ZR, ZQ, ZL, ZK, eA, dV, aB, dE, dJ, cB, eB, eS, eD, dN, eE, fA, dG, eI, bR, dL, bC, dR, aL, aH, eK, aZ, cI, eJ, aG, eL, dQ, aR, bD, eC, bG, bF, bJ, aP, aM, cG, fH, dY, cJ, cA, dB, cH, dT, bB, eM, bX, dS, bQ, bA, bT, aC, bU, bP, cF, bY, aU, aV, aX, bV, dD, cP, bO, aY, aN, aK, bH, aD, dC, dW, aJ, aI, aT, aF, cY, aE, cL, bW, bE, aO, cM, bZ, aA, dF, cU, cV, cC, dK, cD, dM, dU, cN, eF, eN, bN, aS, dZ, bS, aQ, bM, dI, dA, cS, cO, cR, bK, bL, cX, dO, cQ, dH, cZ, d1, c10, c14, c27, c25, c26, c31, c32, t0, t1, t2, t4, t5, t6, t7]
  refine (Rh b4 ⟨by decide, by decide⟩ ⟨by decide, by decide⟩ ⟨by decide, by decide⟩ _).mono ?_
  rintro r w9 ⟨rfl, hw⟩
  rw [hw]; clear hw w9
  simp (disch := omega) only [eY, gN, dX, stepR_skip, fO, gI, fP, gJ, gC, gE, gR, fZ, eU, fX, fU, gD, fR, fN, fW, fS, fV, gK, gG, fQ, fC, fY, gA, fL, iP, iS, iL, iT, iR, iM, iN, iQ, iO, eP, Result.ok.injEq, Next.value.injEq, true_and, and_true, fI, fJ, gB, fM, gH, gQ, ZO, fD, fF, fG, fE, eZ, eT, fB, eX, eQ, eH, if_true, if_false, ZM, ZS, ZN, ZP, ZR, ZQ, ZL, ZK, eA, dV, aB, dE, dJ, cB, eB, eS, eD, dN, eE, fA, dG, eI, bR, dL, bC, dR, aL, aH, eK, aZ, cI, eJ, aG, eL, dQ, aR, bD, eC, bG, bF, bJ, aP, aM, cG, fH, dY, cJ, cA, dB, cH, dT, bB, eM, bX, dS, bQ, bA, bT, aC, bU, bP, cF, bY, aU, aV, aX, bV, dD, cP, bO, aY, aN, aK, bH, aD, dC, dW, aJ, aI, aT, aF, cY, aE, cL, bW, bE, aO, cM, bZ, aA, dF, cU, cV, cC, dK, cD, dM, dU, cN, eF, eN, bN, aS, dZ, bS, aQ, bM, dI, dA, cS, cO, cR, bK, bL, cX, dO, cQ, dH, cZ, c10, c14, c27, c25, c26, c31, c32, t0, t1, t2, t4, t5, t6, t7, g1, g2, e1, e2, e3, e4, f1, kk, ww]
  rw [<- hone]
  refine (Rh b0 ⟨by decide, by decide⟩ ⟨by decide, by decide⟩ ⟨by decide, by decide⟩ _).mono ?_
  rintro r w9 ⟨rfl, hw⟩
  rw [hw]; clear hw w9
  have sh1 : Ce ⟨v, 0, none⟩ 8 1 1 = ⟨v, 0 + 1, none⟩ := KB (by omega)
  have sh0 : Ce ⟨v, 0, none⟩ 8 0 1 = ⟨v, 0 + 0, none⟩ := KB (by omega)
  simp (disch := omega) only [eY, gN, dX, stepR_skip, fO, gI, fP, gJ, gC, gE, gR, fZ, eU, fX, fU, gD, fR, fN, fW, fS, fV, gK, gG, fQ, fC, fY, gA, fL, iP, iS, iL, iT, iR, iM, iN, iQ, iO, eP, Result.ok.injEq, Next.value.injEq, true_and, and_true, fI, fJ, gB, fM, gH, gQ, ZO, fD, fF, fG, fE, eZ, eT, fB, eX, eQ, eH, if_true, if_false, ZM, ZS, ZN, ZP, ZR, ZQ, ZL, ZK, eA, dV, aB, dE, dJ, cB, eB, eS, eD, dN, eE, fA, dG, eI, bR, dL, bC, dR, aL, aH, eK, aZ, cI, eJ, aG, eL, dQ, aR, bD, eC, bG, bF, bJ, aP, aM, cG, fH, dY, cJ, cA, dB, cH, dT, bB, eM, bX, dS, bQ, bA, bT, aC, bU, bP, cF, bY, aU, aV, aX, bV, dD, cP, bO, aY, aN, aK, bH, aD, dC, dW, aJ, aI, aT, aF, cY, aE, cL, bW, bE, aO, cM, bZ, aA, dF, cU, cV, cC, dK, cD, dM, dU, cN, eF, eN, bN, aS, dZ, bS, aQ, bM, dI, dA, cS, cO, cR, bK, bL, cX, dO, cQ, dH, cZ, c31, c32, t0, t1, t2, t7, e5, e6, e7, e8, e9, f1, sh1, sh0]
  rw [<- htwo]
  have q4 := kI q3
  have src : Sl (dr (dr (dr (dr w8)))) (.slice (some ⟨v, 0, none⟩) (7 - 0) (8 - 0)) ([v0, v1, v2, v3, v4, v5, v6].map u32) := by
   refine ⟨_, _, _, rfl, rfl, by omega, fun _ => ⟨_, _, rfl, fun k hk => ?_⟩⟩
   rw [ZS, q4.cell]
   have hk : k < 7 := hk
   match k, hk with
   | 0, _ => rfl
   | 1, _ => rfl
   | 2, _ => rfl
   | 3, _ => rfl
   | 4, _ => rfl
   | 5, _ => rfl
   | 6, _ => rfl
  refine Qt (off := 1) q4 (by simp) src (LX _) fun w9 o9 x9 s9 => ?_
  have o9 : jH w9 v ([v0, v0, v1, v2, v3, v4, v5, v6].map u32) := o9
  have c4 := o9.cell (off := 4)
  simp only [Z0, List.map_nil, ZK, ZL] at c4
  simp (disch := omega) only [eY, gN, dX, stepR_skip, fO, gI, fP, gJ, gC, gE, gR, fZ, eU, fX, fU, gD, fR, fN, fW, fS, fV, gK, gG, fQ, fC, fY, gA, fL, iP, iS, iL, iT, iR, iM, iN, iQ, iO, eP, Result.ok.injEq, Next.value.injEq, true_and, and_true, fI, fJ, gB, fM, gH, gQ, ZO, fD, fF, fG, fE, eZ, eT, fB, eX, eQ, eH, if_true, if_false, ZM, ZS, ZN, ZP, ZR, ZQ, ZL, ZK, eA, dV, aB, dE, dJ, cB, eB, eS, eD, dN, eE, fA, dG, eI, bR, dL, bC, dR, aL, aH, eK, aZ, cI, eJ, aG, eL, dQ, aR, bD, eC, bG, bF, bJ, aP, aM, cG, fH, dY, cJ, cA, dB, cH, dT, bB, eM, bX, dS, bQ, bA, bT, aC, bU, bP, cF, bY, aU, aV, aX, bV, dD, cP, bO, aY, aN, aK, bH, aD, dC, dW, aJ, aI, aT, aF, cY, aE, cL, bW, bE, aO, cM, bZ, aA, dF, cU, cV, cC, dK, cD, dM, dU, cN, eF, eN, bN, aS, dZ, bS, aQ, bM, dI, dA, cS, cO, cR, bK, bL, cX, dO, cQ, dH, cZ, c4, f1]
  refine yQ o9 rfl (by simp) fun w10 o10 x10 s10 => ?_
  refine yQ o10 rfl (by simp) fun w11 o11 x11 s11 => ?_
  refine ⟨64 - (i + 1), by omega, i + 1, rfl, rfl, by omega, ?_, ((((((x8.seq (gT.dr _ _)).seq (gT.dr _ _)).seq (gT.dr _ _)).seq (gT.dr _ _)).seq x9).seq x10).seq x11⟩
  rw [hnext]
  exact o11
 have d1 : decide ((i : Int) < 64) = false := by simp; omega
 obtain rfl : i = 64 := by omega
 simp (disch := omega) only [eY, gN, dX, stepR_skip, fO, gI, fP, gJ, gC, gE, gR, fZ, eU, fX, fU, gD, fR, fN, fW, fS, fV, gK, gG, fQ, fC, fY, gA, fL, iP, iS, iL, iT, iR, iM, iN, iQ, iO, eP, Result.ok.injEq, Next.value.injEq, true_and, and_true, fI, fJ, gB, fM, gH, gQ, ZO, fD, fF, fG, fE, eZ, eT, fB, eX, eQ, eH, if_true, if_false, ZM, ZS, ZN, ZP, ZR, ZQ, ZL, ZK, eA, dV, aB, dE, dJ, cB, eB, eS, eD, dN, eE, fA, dG, eI, bR, dL, bC, dR, aL, aH, eK, aZ, cI, eJ, aG, eL, dQ, aR, bD, eC, bG, bF, bJ, aP, aM, cG, fH, dY, cJ, cA, dB, cH, dT, bB, eM, bX, dS, bQ, bA, bT, aC, bU, bP, cF, bY, aU, aV, aX, bV, dD, cP, bO, aY, aN, aK, bH, aD, dC, dW, aJ, aI, aT, aF, cY, aE, cL, bW, bE, aO, cM, bZ, aA, dF, cU, cV, cC, dK, cD, dM, dU, cN, eF, eN, bN, aS, dZ, bS, aQ, bM, dI, dA, cS, cO, cR, bK, bL, cX, dO, cQ, dH, cZ, d1]
 obtain ⟨V, hV⟩ : ∃ V, V = xC W s 64 := ⟨_, rfl⟩
 rw [<- hV] at o8 hl8 hlt8 hwith
 unfold Ar Ab zP zL Ap
 simp (disch := omega) only [eY, gN, dX, stepR_skip, fO, gI, fP, gJ, gC, gE, gR, fZ, eU, fX, fU, gD, fR, fN, fW, fS, fV, gK, gG, fQ, fC, fY, gA, fL, iP, iS, iL, iT, iR, iM, iN, iQ, iO, eP, Result.ok.injEq, Next.value.injEq, true_and, and_true, fI, fJ, gB, fM, gH, gQ, ZO, fD, fF, fG, fE, eZ, eT, fB, eX, eQ, eH, if_true, if_false, ZM, ZS, ZN, ZP, ZR, ZQ, ZL, ZK, eA, dV, aB, dE, dJ, cB, eB, eS, eD, dN, eE, fA, dG, eI, bR, dL, bC, dR, aL, aH, eK, aZ, cI, eJ, aG, eL, dQ, aR, bD, eC, bG, bF, bJ, aP, aM, cG, fH, dY, cJ, cA, dB, cH, dT, bB, eM, bX, dS, bQ, bA, bT, aC, bU, bP, cF, bY, aU, aV, aX, bV, dD, cP, bO, aY, aN, aK, bH, aD, dC, dW, aJ, aI, aT, aF, cY, aE, cL, bW, bE, aO, cM, bZ, aA, dF, cU, cV, cC, dK, cD, dM, dU, cN, eF, eN, bN, aS, dZ, bS, aQ, bM, dI, dA, cS, cO, cR, bK, bL, cX, dO, cQ, dH, cZ]
 refine kC.rule (fun m (t : adS) w' => ∃ i : Nat, m = 8 - i /\ t = .int .i64 (i : Nat) /\ i <= 8 /\ jH w' v ((BI V s i).map u32) /\ gT w7 w' (fun y => y = v)) 8 ⟨0, rfl, rfl, by omega, by rw [Sj]; exact o8, x8⟩ ?_
 clear o8 x8
 rintro m t w8 ⟨i, rfl, rfl, hi, o8, x8⟩
 unfold tQ
 have hl9 : (BI V s i).length = 8 := by rw [Mx, hl8]
 by_cases hlt : i < 8
 .have d1 : decide ((i : Int) < 8) = true := by simp; omega
  have e1 : jH w8 n (s.map u32) := a1.ext x8 (by omega)
  have q1 := kI o8
  have q2 := kI e1
  have c1 := o8.cell (off := i)
  have c2 := e1.cell (off := i)
  have c1' := q1.cell (off := i)
  have c2' := q2.cell (off := i)
  rw [Ep (by omega), TX (by omega)] at c1 c1'
  rw [Ep (by omega)] at c2 c2'
  have f1 := Oe
  simp (disch := omega) only [eY, gN, dX, stepR_skip, fO, gI, fP, gJ, gC, gE, gR, fZ, eU, fX, fU, gD, fR, fN, fW, fS, fV, gK, gG, fQ, fC, fY, gA, fL, iP, iS, iL, iT, iR, iM, iN, iQ, iO, eP, Result.ok.injEq, Next.value.injEq, true_and, and_true, fI, fJ, gB, fM, gH, gQ, ZO, fD, fF, fG, fE, eZ, eT, fB, eX, eQ, eH, if_true, if_false, ZM, ZS, ZN, ZP, ZR, ZQ, ZL, ZK, eA, dV, aB, dE, dJ, cB, eB, eS, eD, dN, eE, fA, dG, eI, bR, dL, bC, dR, aL, aH, eK, aZ, cI, eJ, aG, eL, dQ, aR, bD, eC, bG, bF, bJ, aP, aM, cG, fH, dY, cJ, cA, dB, cH, dT, bB, eM, bX, dS, bQ, bA, bT, aC, bU, bP, cF, bY, aU, aV, aX, bV, dD, cP, bO, aY, aN, aK, bH, aD, dC, dW, aJ, aI, aT, aF, cY, aE, cL, bW, bE, aO, cM, bZ, aA, dF, cU, cV, cC, dK, cD, dM, dU, cN, eF, eN, bN, aS, dZ, bS, aQ, bM, dI, dA, cS, cO, cR, bK, bL, cX, dO, cQ, dH, cZ, d1, c1, c2, c1', c2', f1]
  refine yQ (by first | exact q1 | exact o8) rfl (by rw [ZT]; omega) fun w9 o9 x9 s9 => ?_
  refine ⟨8 - (i + 1), by omega, i + 1, rfl, rfl, by omega, ?_, by first | exact (x8.seq (gT.dr _ _)).seq x9 | exact x8.seq x9⟩
  rw [<- Uc (by omega), acX]
  exact o9
 have d1 : decide ((i : Int) < 8) = false := by simp; omega
 obtain rfl : i = 8 := by omega
 simp (disch := omega) only [eY, gN, dX, stepR_skip, fO, gI, fP, gJ, gC, gE, gR, fZ, eU, fX, fU, gD, fR, fN, fW, fS, fV, gK, gG, fQ, fC, fY, gA, fL, iP, iS, iL, iT, iR, iM, iN, iQ, iO, eP, Result.ok.injEq, Next.value.injEq, true_and, and_true, fI, fJ, gB, fM, gH, gQ, ZO, fD, fF, fG, fE, eZ, eT, fB, eX, eQ, eH, if_true, if_false, ZM, ZS, ZN, ZP, ZR, ZQ, ZL, ZK, eA, dV, aB, dE, dJ, cB, eB, eS, eD, dN, eE, fA, dG, eI, bR, dL, bC, dR, aL, aH, eK, aZ, cI, eJ, aG, eL, dQ, aR, bD, eC, bG, bF, bJ, aP, aM, cG, fH, dY, cJ, cA, dB, cH, dT, bB, eM, bX, dS, bQ, bA, bT, aC, bU, bP, cF, bY, aU, aV, aX, bV, dD, cP, bO, aY, aN, aK, bH, aD, dC, dW, aJ, aI, aT, aF, cY, aE, cL, bW, bE, aO, cM, bZ, aA, dF, cU, cV, cC, dK, cD, dM, dU, cN, eF, eN, bN, aS, dZ, bS, aQ, bM, dI, dA, cS, cO, cR, bK, bL, cX, dO, cQ, dH, cZ, d1]
 unfold tT
 rw [<- hwith] at o8 hl9
 have lv := Fq (off := 0) o8 (by rw [ZT]; omega)
 rw [abP, ZY (by rw [ZT]; omega)] at lv
 have a3 := a3.ext x8 (by omega)
 simp (disch := omega) only [eY, gN, dX, stepR_skip, fO, gI, fP, gJ, gC, gE, gR, fZ, eU, fX, fU, gD, fR, fN, fW, fS, fV, gK, gG, fQ, fC, fY, gA, fL, iP, iS, iL, iT, iR, iM, iN, iQ, iO, eP, Result.ok.injEq, Next.value.injEq, true_and, and_true, fI, fJ, gB, fM, gH, gQ, ZO, fD, fF, fG, fE, eZ, eT, fB, eX, eQ, eH, if_true, if_false, ZM, ZS, ZN, ZP, ZR, ZQ, ZL, ZK, eA, dV, aB, dE, dJ, cB, eB, eS, eD, dN, eE, fA, dG, eI, bR, dL, bC, dR, aL, aH, eK, aZ, cI, eJ, aG, eL, dQ, aR, bD, eC, bG, bF, bJ, aP, aM, cG, fH, dY, cJ, cA, dB, cH, dT, bB, eM, bX, dS, bQ, bA, bT, aC, bU, bP, cF, bY, aU, aV, aX, bV, dD, cP, bO, aY, aN, aK, bH, aD, dC, dW, aJ, aI, aT, aF, cY, aE, cL, bW, bE, aO, cM, bZ, aA, dF, cU, cV, cC, dK, cD, dM, dU, cN, eF, eN, bN, aS, dZ, bS, aQ, bM, dI, dA, cS, cO, cR, bK, bL, cX, dO, cQ, dH, cZ, lv]
 refine EP a3 (by simp [hl9]) (fun y hy => LX _ y (by simpa using hy)) (by simp) fun w9 o9 x9 s9 => ?_
 have hset : nE (List.replicate 8 (Value.int .u32 0)) 0 ((J6 s b).map u32).toArray.toList = (J6 s b).map u32 := by
  rw [aaP]
  have := oM ((J6 s b).map u32) [] (List.replicate 8 (Value.int .u32 0)) (by rw [ZT, hl9]; decide)
  rw [Z9, Z9, abR, ZT, hl9] at this
  rw [this]; simp
 rw [hset] at o9
 refine Pr o9 (by rw [ZT]; omega) ?_
 rw [abP, ZY (by rw [ZT]; omega)]
 exact ⟨rfl, (x07.trans x8 fun y hy h => by omega).trans x9 fun y hy h => by omega⟩
def KA (vs : List Nat) (kept : List UInt8) (n all : Nat) : List adS := vs.map u32 ++ (kept.map nU ++ [.int .i64 (n : Int), .int .u64 (all : Int)])
theorem Am {vs : List Nat} {kept : List UInt8} {n all : Nat} (h1 : vs.length = 8) (h2 : kept.length = 64) : (KA vs kept n all).length = 74 := by simp [KA, h1, h2]
theorem Yx {vs : List Nat} {kept : List UInt8} {n all : Nat} (i : Nat) (h : i < vs.length) : (KA vs kept n all)[i]? = some (u32 (vs.getD i 0)) := by
 unfold KA; rw [aaA (by simpa using h), Ep h]
theorem Tu {vs : List Nat} {kept : List UInt8} {n all : Nat} (h1 : vs.length = 8) (h2 : kept.length = 64) : (KA vs kept n all)[72]? = some (.int .i64 (n : Int)) := by
 unfold KA
 rw [aaV (by simp [h1]), ZT, h1, aaV (by simp [h2]), ZT, h2] <;> rfl
theorem TP {vs : List Nat} {kept : List UInt8} {n all : Nat} (h1 : vs.length = 8) (h2 : kept.length = 64) : (KA vs kept n all)[73]? = some (.int .u64 (all : Int)) := by
 unfold KA
 rw [aaV (by simp [h1]), ZT, h1, aaV (by simp [h2]), ZT, h2] <;> rfl
theorem PG {vs : List Nat} {kept : List UInt8} {n all : Nat} (h1 : vs.length = 8) (h2 : kept.length = 64) (m : Nat) : (KA vs kept n all).set 72 (.int .i64 (m : Int)) = KA vs kept m all := by
 unfold KA
 rw [abL _ _ (by simp [h1]), ZT, h1, abL _ _ (by simp [h2]), ZT, h2] <;> rfl
theorem Rq {vs : List Nat} {kept : List UInt8} {n all : Nat} (h1 : vs.length = 8) (h2 : kept.length = 64) (m : Nat) : (KA vs kept n all).set 73 (.int .u64 (m : Int)) = KA vs kept n m := by
 unfold KA
 rw [abL _ _ (by simp [h1]), ZT, h1, abL _ _ (by simp [h2]), ZT, h2] <;> rfl
theorem YQ {vs : List Nat} {kept : List UInt8} {n all : Nat} (h1 : vs.length = 8) : ((KA vs kept n all).drop 0).take 8 = vs.map u32 := by
 unfold KA
 rw [abP, aaJ (by rw [ZT]; omega), ZY (by rw [ZT]; omega)]
theorem VK {vs : List Nat} {kept : List UInt8} {n all : Nat} (h1 : vs.length = 8) (h2 : kept.length = 64) : ((KA vs kept n all).drop 8).take 64 = kept.map nU := by
 unfold KA
 rw [aaL (by rw [ZT]; omega), abI (by rw [ZT]; omega), Z9, aaJ (by rw [ZT]; omega), ZY (by rw [ZT]; omega)]
theorem UG {vs us : List Nat} {kept : List UInt8} {n all : Nat} (h1 : vs.length = 8) (h3 : us.length = 8) : nE (KA vs kept n all) 0 (us.map u32) = KA us kept n all := by
 unfold KA
 have := oM (us.map u32) [] (vs.map u32 ++ (kept.map nU ++ [.int .i64 (n : Int), .int .u64 (all : Int)])) (by rw [ZV, ZT, ZT]; omega)
 rw [Z9, Z9, abR, ZT] at this
 rw [this, aaL (by rw [ZT]; omega), abI (by rw [ZT]; omega), Z9]
def Ys (l : List UInt8) (o : Nat) (x : List UInt8) : List UInt8 := l.take o ++ x ++ l.drop (o + x.length)
theorem WL {l : List UInt8} {o : Nat} {x : List UInt8} (h : o + x.length <= l.length) : (Ys l o x).length = l.length := by
 simp [Ys]; omega
theorem WN {vs : List Nat} {kept : List UInt8} {n all o : Nat} {x : List UInt8} (h1 : vs.length = 8) (h : o + x.length <= kept.length) : nE (KA vs kept n all) (8 + o) (x.map nU) = KA vs (Ys kept o x) n all := by
 have e : KA vs kept n all = (vs.map u32 ++ (kept.take o).map nU) ++ ((kept.drop o).map nU ++ [.int .i64 (n : Int), .int .u64 (all : Int)]) := by
  unfold KA
  rw [aaC, <- aaC (List.map nU (kept.take o)), <- aaY, adI]
 have := oM (x.map nU) (vs.map u32 ++ (kept.take o).map nU) ((kept.drop o).map nU ++ [.int .i64 (n : Int), .int .u64 (all : Int)]) (by rw [ZV, ZT, ZT, Z3]; omega)
 rw [ZV, ZT, ZT, Z5, aaM (by omega), h1] at this
 rw [e, this]
 unfold KA Ys
 rw [ZT, aaL (by rw [ZT, Z3]; omega), <- acE, acN, aaY, aaY]
 simp only [aaC]
def zR (w : adR) (b : Nat) (L : List UInt8) (all : Nat) : Prop :=
 ∃ kept, kept.length = 64 /\ kept.take (L.length % 64) = L.drop (64 * (L.length / 64)) /\ jH w b (KA (Iy (L.length / 64) L) kept (L.length % 64) all)
theorem zR.ext {w w' : adR} {b all : Nat} {L : List UInt8} {M : Nat -> Prop} (h : zR w b L all) (x : gT w w' M) (hM : ¬ M b) : zR w' b L all := by
 obtain ⟨kept, h1, h2, h3⟩ := h
 exact ⟨kept, h1, h2, h3.ext x hM⟩
theorem zR.lt {w : adR} {b all : Nat} {L : List UInt8} (h : zR w b L all) : b < w.heap.size := by
 obtain ⟨kept, h1, h2, h3⟩ := h
 exact h3.lt
theorem V9 (w : adR) : gS pg JA #[] w (fun v w' => v = .pointer (some ⟨w.heap.size, 0, none⟩) /\ zR w' w.heap.size [] 0 /\ gT w w' jL /\ w'.heap.size = w.heap.size + 1) := by
 refine Qx ?_
 unfold TI KO
 simp (disch := omega) only [eY, gN, dX, stepR_skip, fO, gI, fP, gJ, gC, gE, gR, fZ, eU, fX, fU, gD, fR, fN, fW, fS, fV, gK, gG, fQ, fC, fY, gA, fL, iP, iS, iL, iT, iR, iM, iN, iQ, iO, eP, Result.ok.injEq, Next.value.injEq, true_and, and_true, fI, fJ, gB, fM, gH, gQ, ZO, fD, fF, fG, fE, eZ, eT, fB, eX, eQ, eH, if_true, if_false, ZM, ZS, ZN, ZP, ZR, ZQ, ZL, ZK, eA, dV, aB, dE, dJ, cB, eB, eS, eD, dN, eE, fA, dG, eI, bR, dL, bC, dR, aL, aH, eK, aZ, cI, eJ, aG, eL, dQ, aR, bD, eC, bG, bF, bJ, aP, aM, cG, fH, dY, cJ, cA, dB, cH, dT, bB, eM, bX, dS, bQ, bA, bT, aC, bU, bP, cF, bY, aU, aV, aX, bV, dD, cP, bO, aY, aN, aK, bH, aD, dC, dW, aJ, aI, aT, aF, cY, aE, cL, bW, bE, aO, cM, bZ, aA, dF, cU, cV, cC, dK, cD, dM, dU, cN, eF, eN, bN, aS, dZ, bS, aQ, bM, dI, dA, cS, cO, cR, bK, bL, cX, dO, cQ, dH, cZ]
 refine oC fun w1 o1 x1 s1 => ⟨rfl, ⟨List.replicate 64 0, rfl, rfl, ?_⟩, x1, s1⟩
 exact o1
theorem Pv {w0 : adR} {b all : Nat} {L l : List UInt8} {R : adR -> Prop} (hg : rF w0) (hb0 : 0 ≠ b /\ 1 ≠ b) (hlen : L.length + l.length <= 1099511627776)
 (hR : ∀ w', zR w' b (L ++ l) all -> gT w0 w' (fun x => x = b) -> R w') {v : adS} {w : adR}
 (h : zR w b L all) (hv : Bs w v l) (hb : ¬ wC v (fun x => x = b)) (hx : gT w0 w (fun x => x = b)) :
 tO R (.pointer (some ⟨b, 0, none⟩)) v w := by
 unfold tO
 refine kC.rule (fun n t w' => ∃ m : Nat, m <= l.length /\ n = l.length - m /\ Bs w' t (l.drop m) /\ ¬ wC t (fun x => x = b) /\ zR w' b (L ++ l.take m) all /\ gT w0 w' (fun x => x = b)) l.length
  ⟨0, by omega, rfl, hv, hb, by simpa using h, hx⟩ ?_
 clear h hv hb hx
 rintro n t w' ⟨m, hm, rfl, hv, hb, ⟨kept, h2, hk, ho⟩, hx⟩
 have hv' := hv
 obtain ⟨a, n, c, rfl, hn, hc, hcell⟩ := hv'
 rw [ZT, Z3] at hn
 unfold tV
 by_cases hlt : m < l.length
 .obtain ⟨b', o', rfl, hcell'⟩ := hcell (by omega)
  have hd : decide ((0 : Int) < (n : Int)) = true := by simp; omega
  have hM : (L ++ l.take m).length = L.length + m := by simp; omega
  rw [hM] at hk ho
  obtain ⟨q, hq⟩ : ∃ q, q = (L.length + m) / 64 := ⟨_, rfl⟩
  obtain ⟨r, hr⟩ : ∃ r, r = (L.length + m) % 64 := ⟨_, rfl⟩
  rw [<- hq, <- hr] at hk ho
  have hqr : L.length + m = 64 * q + r /\ r < 64 := by omega
  have h1 : (Iy q (L ++ l.take m)).length = 8 := Bv _ _
  have hod := kI ho
  have c72 := hod.cell (off := 72)
  rw [Tu h1 h2] at c72
  have sh := KB (b := b) (o := 8) (show r ≠ 64 by omega)
  have hvd : Bs (dr w') (.slice (some ⟨b', o', none⟩) n c) (l.drop m) := hv.ext (gT.dr w' jL) (by unfold wC jL; split <;> simp)
  simp (disch := omega) only [eY, gN, dX, stepR_skip, fO, gI, fP, gJ, gC, gE, gR, fZ, eU, fX, fU, gD, fR, fN, fW, fS, fV, gK, gG, fQ, fC, fY, gA, fL, iP, iS, iL, iT, iR, iM, iN, iQ, iO, eP, Result.ok.injEq, Next.value.injEq, true_and, and_true, fI, fJ, gB, fM, gH, gQ, ZO, fD, fF, fG, fE, eZ, eT, fB, eX, eQ, eH, if_true, if_false, ZM, ZS, ZN, ZP, ZR, ZQ, ZL, ZK, eA, dV, aB, dE, dJ, cB, eB, eS, eD, dN, eE, fA, dG, eI, bR, dL, bC, dR, aL, aH, eK, aZ, cI, eJ, aG, eL, dQ, aR, bD, eC, bG, bF, bJ, aP, aM, cG, fH, dY, cJ, cA, dB, cH, dT, bB, eM, bX, dS, bQ, bA, bT, aC, bU, bP, cF, bY, aU, aV, aX, bV, dD, cP, bO, aY, aN, aK, bH, aD, dC, dW, aJ, aI, aT, aF, cY, aE, cL, bW, bE, aO, cM, bZ, aA, dF, cU, cV, cC, dK, cD, dM, dU, cN, eF, eN, bN, aS, dZ, bS, aQ, bM, dI, dA, cS, cO, cR, bK, bL, cX, dO, cQ, dH, cZ, hd, c72, sh]
  refine Ey hod (by rw [Am h1 h2]; omega) hvd (EV _) fun w1 o1 x1 s1 => ?_
  obtain ⟨u, hu⟩ : ∃ u, u = min n (64 - r) := ⟨_, rfl⟩
  have hlm : (List.map nU (l.drop m)).length = n := by rw [ZT, Z3, hn]
  rw [hlm] at o1 ⊢
  rw [<- hu] at o1 ⊢
  have hu1 : u <= n /\ u <= 64 - r /\ (u = n ∨ u = 64 - r) := by omega
  have hul : ((l.drop m).take u).length = u := by rw [Z5, Z3]; omega
  rw [<- acR, WN h1 (by omega)] at o1
  obtain ⟨kept1, hk1⟩ : ∃ x, x = Ys kept r ((l.drop m).take u) := ⟨_, rfl⟩
  rw [<- hk1] at o1
  have h21 : kept1.length = 64 := by rw [hk1, WL (by omega)]; exact h2
  have c1 := o1.cell (off := 72)
  rw [Tu h1 h21] at c1
  have e1 : (r : Int) + (u : Int) = ((r + u : Nat) : Int) := by omega
  simp (disch := omega) only [eY, gN, dX, stepR_skip, fO, gI, fP, gJ, gC, gE, gR, fZ, eU, fX, fU, gD, fR, fN, fW, fS, fV, gK, gG, fQ, fC, fY, gA, fL, iP, iS, iL, iT, iR, iM, iN, iQ, iO, eP, Result.ok.injEq, Next.value.injEq, true_and, and_true, fI, fJ, gB, fM, gH, gQ, ZO, fD, fF, fG, fE, eZ, eT, fB, eX, eQ, eH, if_true, if_false, ZM, ZS, ZN, ZP, ZR, ZQ, ZL, ZK, eA, dV, aB, dE, dJ, cB, eB, eS, eD, dN, eE, fA, dG, eI, bR, dL, bC, dR, aL, aH, eK, aZ, cI, eJ, aG, eL, dQ, aR, bD, eC, bG, bF, bJ, aP, aM, cG, fH, dY, cJ, cA, dB, cH, dT, bB, eM, bX, dS, bQ, bA, bT, aC, bU, bP, cF, bY, aU, aV, aX, bV, dD, cP, bO, aY, aN, aK, bH, aD, dC, dW, aJ, aI, aT, aF, cY, aE, cL, bW, bE, aO, cM, bZ, aA, dF, cU, cV, cC, dK, cD, dM, dU, cN, eF, eN, bN, aS, dZ, bS, aQ, bM, dI, dA, cS, cO, cR, bK, bL, cX, dO, cQ, dH, cZ, c1, e1]
  refine KC o1 rfl (by rw [Am h1 h21]; omega) fun w2 o2 x2 s2 => ?_
  rw [PG h1 h21] at o2
  have hx2 : gT w' w2 (fun x => x = b) := ((gT.dr w' _).seq x1).seq x2
  have hv2 := hv.ext hx2 hb
  have hv3 := hv2.drop hu1.1
  have hb3 := T5 (k := u) hb (by omega) (n - u)
  rw [<- acE, acN] at hv3
  have hM2 : L ++ l.take (m + u) = (L ++ l.take m) ++ (l.drop m).take u := by rw [aaC, List.take_add]
  have hacc : Iy q (L ++ l.take (m + u)) = Iy q (L ++ l.take m) := by rw [hM2]; exact Nd _ _ _ (by omega)
  have hlen2 : (L ++ l.take (m + u)).length = L.length + (m + u) := by simp; omega
  have hkeep : kept1.take (r + u) = (L ++ l.take (m + u)).drop (64 * q) := by
   rw [hk1, hM2, aaL (by omega), <- hk]
   unfold Ys
   rw [aaJ (by simp; omega), ZY (by simp; omega)]
  rw [<- hacc] at o2
  have h11 := Bv q (L ++ l.take (m + u))
  have c2 := o2.cell (off := 72)
  rw [Tu h11 h21] at c2
  by_cases hfull : r + u = 64
  .have he : (((r + u : Nat) : Int) == 64) = true := by rw [hfull] <;> rfl
   have od := kI o2
   have ls := Fq (off := 0) od (by rw [Am h11 h21]; omega)
   have lk := Ix (off := 8) od (by rw [Am h11 h21]; omega)
   rw [YQ h11] at ls
   rw [VK h11 h21] at lk
   simp (disch := omega) only [eY, gN, dX, stepR_skip, fO, gI, fP, gJ, gC, gE, gR, fZ, eU, fX, fU, gD, fR, fN, fW, fS, fV, gK, gG, fQ, fC, fY, gA, fL, iP, iS, iL, iT, iR, iM, iN, iQ, iO, eP, Result.ok.injEq, Next.value.injEq, true_and, and_true, fI, fJ, gB, fM, gH, gQ, ZO, fD, fF, fG, fE, eZ, eT, fB, eX, eQ, eH, if_true, if_false, ZM, ZS, ZN, ZP, ZR, ZQ, ZL, ZK, eA, dV, aB, dE, dJ, cB, eB, eS, eD, dN, eE, fA, dG, eI, bR, dL, bC, dR, aL, aH, eK, aZ, cI, eJ, aG, eL, dQ, aR, bD, eC, bG, bF, bJ, aP, aM, cG, fH, dY, cJ, cA, dB, cH, dT, bB, eM, bX, dS, bQ, bA, bT, aC, bU, bP, cF, bY, aU, aV, aX, bV, dD, cP, bO, aY, aN, aK, bH, aD, dC, dW, aJ, aI, aT, aF, cY, aE, cL, bW, bE, aO, cM, bZ, aA, dF, cU, cV, cC, dK, cD, dM, dU, cN, eF, eN, bN, aS, dZ, bS, aQ, bM, dI, dA, cS, cO, cR, bK, bL, cX, dO, cQ, dH, cZ, c2, he, ls, lk]
   rw [hfull] at hkeep
   refine (Ug (hg.extM ((hx.seq hx2).seq (gT.dr _ _)) hb0.1 hb0.2) h11 (QL _ _) h21).mono ?_
   rintro r' w3 ⟨rfl, x3⟩
   have o3 := od.ext x3 (fun h => h)
   have h13 := Px kept1 h11
   refine EP o3 (by simp [h13]) (fun y hy => LX _ y (by simpa using hy)) (by rw [Am h11 h21]; omega) fun w4 o4 x4 s4 => ?_
   rw [aaP, UG h11 h13] at o4
   refine KC o4 rfl (by rw [Am h13 h21]; omega) fun w5 o5 x5 s5 => ?_
   have o5 : jH w5 b ((KA (J6 (Iy q (L ++ l.take (m + u))) kept1) kept1 (r + u) all).set 72 (.int .i64 ((0 : Nat) : Int))) := o5
   rw [PG h13 h21] at o5
   have hx4 : gT w2 w5 (fun x => x = b) := (((gT.dr w2 _).seq (x3.mono fun _ _ h => h.elim)).seq x4).seq x5
   have hkk : kept1 = (L ++ l.take (m + u)).drop (64 * q) := by rw [<- hkeep, ZY (by omega)]
   refine ⟨l.length - (m + u), by omega, m + u, by omega, rfl, hv3.ext hx4 hb3, hb3, ⟨kept1, h21, ?_, ?_⟩, (hx.seq hx2).seq hx4⟩
   .have z : (L ++ l.take (m + u)).drop (64 * ((L.length + (m + u)) / 64)) = [] := List.drop_eq_nil_of_le (by rw [hlen2]; omega)
    have z1 : (L.length + (m + u)) % 64 = 0 := by omega
    rw [hlen2, z, z1] <;> rfl
   .have z1 : (L.length + (m + u)) % 64 = 0 := by omega
    have z2 : (L.length + (m + u)) / 64 = q + 1 := by omega
    have z3 : kept1.take 64 = kept1 := ZY (by omega)
    rw [hlen2, z1, z2, Iy, <- hkk, z3]
    exact o5
  .have he : (((r + u : Nat) : Int) == 64) = false := by rw [beq_eq_false_iff_ne]; omega
   simp (disch := omega) only [eY, gN, dX, stepR_skip, fO, gI, fP, gJ, gC, gE, gR, fZ, eU, fX, fU, gD, fR, fN, fW, fS, fV, gK, gG, fQ, fC, fY, gA, fL, iP, iS, iL, iT, iR, iM, iN, iQ, iO, eP, Result.ok.injEq, Next.value.injEq, true_and, and_true, fI, fJ, gB, fM, gH, gQ, ZO, fD, fF, fG, fE, eZ, eT, fB, eX, eQ, eH, if_true, if_false, ZM, ZS, ZN, ZP, ZR, ZQ, ZL, ZK, eA, dV, aB, dE, dJ, cB, eB, eS, eD, dN, eE, fA, dG, eI, bR, dL, bC, dR, aL, aH, eK, aZ, cI, eJ, aG, eL, dQ, aR, bD, eC, bG, bF, bJ, aP, aM, cG, fH, dY, cJ, cA, dB, cH, dT, bB, eM, bX, dS, bQ, bA, bT, aC, bU, bP, cF, bY, aU, aV, aX, bV, dD, cP, bO, aY, aN, aK, bH, aD, dC, dW, aJ, aI, aT, aF, cY, aE, cL, bW, bE, aO, cM, bZ, aA, dF, cU, cV, cC, dK, cD, dM, dU, cN, eF, eN, bN, aS, dZ, bS, aQ, bM, dI, dA, cS, cO, cR, bK, bL, cX, dO, cQ, dH, cZ, c2, he]
   refine ⟨l.length - (m + u), by omega, m + u, by omega, rfl, hv3, hb3, ⟨kept1, h21, ?_, ?_⟩, hx.seq hx2⟩
   .rw [hlen2, show (L.length + (m + u)) % 64 = r + u from by omega, show (L.length + (m + u)) / 64 = q from by omega]; exact hkeep
   .rw [hlen2, show (L.length + (m + u)) % 64 = r + u from by omega, show (L.length + (m + u)) / 64 = q from by omega]; exact o2
 .have hd : decide ((0 : Int) < (n : Int)) = false := by simp; omega
  have e : l.take m = l := ZY (by omega)
  rw [e] at hk ho
  simp (disch := omega) only [eY, gN, dX, stepR_skip, fO, gI, fP, gJ, gC, gE, gR, fZ, eU, fX, fU, gD, fR, fN, fW, fS, fV, gK, gG, fQ, fC, fY, gA, fL, iP, iS, iL, iT, iR, iM, iN, iQ, iO, eP, Result.ok.injEq, Next.value.injEq, true_and, and_true, fI, fJ, gB, fM, gH, gQ, ZO, fD, fF, fG, fE, eZ, eT, fB, eX, eQ, eH, if_true, if_false, ZM, ZS, ZN, ZP, ZR, ZQ, ZL, ZK, eA, dV, aB, dE, dJ, cB, eB, eS, eD, dN, eE, fA, dG, eI, bR, dL, bC, dR, aL, aH, eK, aZ, cI, eJ, aG, eL, dQ, aR, bD, eC, bG, bF, bJ, aP, aM, cG, fH, dY, cJ, cA, dB, cH, dT, bB, eM, bX, dS, bQ, bA, bT, aC, bU, bP, cF, bY, aU, aV, aX, bV, dD, cP, bO, aY, aN, aK, bH, aD, dC, dW, aJ, aI, aT, aF, cY, aE, cL, bW, bE, aO, cM, bZ, aA, dF, cU, cV, cC, dK, cD, dM, dU, cN, eF, eN, bN, aS, dZ, bS, aQ, bM, dI, dA, cS, cO, cR, bK, bL, cX, dO, cQ, dH, cZ, hd]
  exact hR _ ⟨kept, h2, hk, ho⟩ hx
theorem NP {b all : Nat} {L l : List UInt8} {v : adS} {w : adR} (hg : rF w) (hb0 : 0 ≠ b /\ 1 ≠ b) (hlen : L.length + l.length <= 1099511627776) (hall : all + l.length <= 1099511627776) (h : zR w b L all) (hv : Bs w v l) (hb : ¬ wC v (fun x => x = b)) :
 gS pg lY #[.pointer (some ⟨b, 0, none⟩), v] w (fun r w' => r = .tuple #[] /\ zR w' b (L ++ l) (all + l.length) /\ gT w w' (fun x => x = b)) := by
 refine JM ?_
 unfold Jo zQ Ag
 obtain ⟨kept, h2, hk, ho⟩ := h
 have h1 := Bv (L.length / 64) L
 obtain ⟨va, vc, rfl, _⟩ := hv.len
 rw [ZT] at hv hb ⊢
 have c73 := ho.cell (off := 73)
 rw [TP h1 h2] at c73
 have e1 : (all : Int) + (l.length : Int) = ((all + l.length : Nat) : Int) := by omega
 simp (disch := omega) only [eY, gN, dX, stepR_skip, fO, gI, fP, gJ, gC, gE, gR, fZ, eU, fX, fU, gD, fR, fN, fW, fS, fV, gK, gG, fQ, fC, fY, gA, fL, iP, iS, iL, iT, iR, iM, iN, iQ, iO, eP, Result.ok.injEq, Next.value.injEq, true_and, and_true, fI, fJ, gB, fM, gH, gQ, ZO, fD, fF, fG, fE, eZ, eT, fB, eX, eQ, eH, if_true, if_false, ZM, ZS, ZN, ZP, ZR, ZQ, ZL, ZK, eA, dV, aB, dE, dJ, cB, eB, eS, eD, dN, eE, fA, dG, eI, bR, dL, bC, dR, aL, aH, eK, aZ, cI, eJ, aG, eL, dQ, aR, bD, eC, bG, bF, bJ, aP, aM, cG, fH, dY, cJ, cA, dB, cH, dT, bB, eM, bX, dS, bQ, bA, bT, aC, bU, bP, cF, bY, aU, aV, aX, bV, dD, cP, bO, aY, aN, aK, bH, aD, dC, dW, aJ, aI, aT, aF, cY, aE, cL, bW, bE, aO, cM, bZ, aA, dF, cU, cV, cC, dK, cD, dM, dU, cN, eF, eN, bN, aS, dZ, bS, aQ, bM, dI, dA, cS, cO, cR, bK, bL, cX, dO, cQ, dH, cZ, c73, e1]
 refine Ju ho rfl (by rw [Am h1 h2]; omega) fun w1 o1 x1 s1 => ?_
 rw [Rq h1 h2] at o1
 unfold Al
 exact Pv hg hb0 hlen (fun w' h' x' => ⟨h', x'⟩) ⟨kept, h2, hk, o1⟩ (hv.ext x1 hb) hb x1
end Go.Proofs.YteelnmpbnaohpaaDoor
namespace Go.En
open Go
theorem IQ.ext {w w' : adR} {S M : Nat -> Prop} {sz n : Nat} {v : adS} {l : List adS} (h : IQ w S sz v n l) (hx : gT w w' M) (hM : ∀ b, S b -> ¬ M b) : IQ w' S sz v n l := by
 refine ⟨h.1, ?_⟩
 rcases h.2 with h2 | ⟨b, c, rest, h1, h2, h3, h4, h5⟩
 .exact .inl h2
 .exact .inr ⟨b, c, rest, h1, h2, h3.ext hx (hM b h2), h4, h5⟩
theorem zF.ne {w : adR} {base p sz n : Nat} {v : adS} {l : List adS} (h : zF w base sz v n l) (hp : w.heap.size <= p) : IQ w (fun b => base <= b /\ b ≠ p) sz v n l := by
 refine ⟨h.1, ?_⟩
 rcases h.2 with h2 | ⟨b, c, rest, h1, h2, h3, h4, h5⟩
 .exact .inl h2
 .have := h3.lt
  exact .inr ⟨b, c, rest, h1, ⟨h2, by omega⟩, h3, h4, h5⟩
theorem IQ.len {w : adR} {S : Nat -> Prop} {sz n : Nat} {v : adS} {l : List adS} (h : IQ w S sz v n l) : ∃ a c, v = .slice a n c := by
 rcases h.2 with ⟨h1, rfl⟩ | ⟨b, c, rest, h1, _⟩
 .exact ⟨_, _, h1⟩
 .exact ⟨_, _, h1⟩
end Go.En
namespace Go.Proofs.YteelnmpbnaohpaaDoor
open Go Go.En Go.Pu
set_option maxRecDepth 4000
theorem XV {w : adR} {b : Nat} {x : UInt8} (o : jH w b [.int .u8 (x.toNat : Nat)]) : Bs w (.slice (some ⟨b, 0, none⟩) 1 1) [x] := jH.bs (l := [x]) (off := 0) (c := 1) o (by simp) fun i hi => by
 have hi : i < 1 := hi
 obtain rfl : i = 0 := by omega
 rfl
theorem Oo {w : adR} {b all : Nat} {L : List UInt8} {x : Nat} (hx : x < 256) {K : adS -> adR -> Prop} (hg : rF w) (hb0 : 0 ≠ b /\ 1 ≠ b) (hlen : L.length + 1 <= 1099511627776) (hall : all + 1 <= 1099511627776) (h : zR w b L all)
 (hK : ∀ w', zR w' b (L ++ [UInt8.ofNat x]) (all + 1) -> gT w w' (fun y => y = b) -> K (.tuple #[]) w') :
 eY pg (iJ 22 1 [(0, .int .u8 (x : Nat))]) w fun t w => gS pg lY #[.pointer (some ⟨b, 0, none⟩), t] w K := by
 refine EL (cells := #[.int .u8 (x : Nat)]) (by decide) (by decide) (by kernel_rfl) fun w1 o1 x1 s1 => ?_
 have hbl := h.lt
 have hxx : (UInt8.ofNat x).toNat = x := by rw [acI]; omega
 have o1 : jH w1 w.heap.size [.int .u8 ((UInt8.ofNat x).toNat : Nat)] := by rw [hxx]; exact o1
 refine (NP (hg.ext x1) hb0 (l := [UInt8.ofNat x]) hlen hall (h.ext x1 (fun h => h)) (XV o1) (fun hi => ?_)).mono ?_
 .have hi : w.heap.size = b := hi
  omega
 rintro r w2 ⟨rfl, h2, x2⟩
 exact hK w2 h2 ((x1.mono fun _ _ h => h.elim).seq x2)
theorem G6 (xs cs : List adS) (h : cs.length = xs.length) : nE cs 0 xs = xs := by
 have := oM xs [] cs (by omega)
 rw [Z9, abI (by omega), aaT, Z9] at this
 exact this
theorem X3 (n k : Nat) (hk : k <= (119 - n % 64) % 64) : ((n + 1 + k) % 64 = 56) ↔ k = (119 - n % 64) % 64 := by omega
theorem Vd {b : Nat} {L : List UInt8} {w : adR} (hg : rF w) (hlen : L.length <= 1000000000) (h : zR w b L L.length) :
 gS pg zM #[.pointer (some ⟨b, 0, none⟩)] w (fun r w' => r = .agg ((RE L).map nU).toArray /\ gT w w' jL) := by
 refine Lg ?_
 obtain ⟨RR, hRR⟩ : ∃ RR : adS -> adR -> Prop, RR = fun r w' => r = .agg ((RE L).map nU).toArray /\ gT w w' jL := ⟨_, rfl⟩
 rw [<- hRR]
 unfold Li A6 Bm
 obtain ⟨hg0, hg1⟩ := hg.lt
 have hbl := h.lt
 refine Hk fun w1 o1 x1 s1 => ?_
 obtain ⟨p, hp⟩ : ∃ p, p = w.heap.size := ⟨_, rfl⟩
 rw [<- hp] at o1 ⊢
 have o1 : jH w1 p (List.replicate 32 (.int .u8 0)) := o1
 obtain ⟨kept, h2, hk, ho⟩ := h.ext x1 (fun h => h)
 have h1 := Bv (L.length / 64) L
 have la := Qk (off := 0) ho (by rw [Am h1 h2]; omega)
 rw [abP, ZY (by rw [Am h1 h2]; omega)] at la
 simp (disch := omega) only [eY, gN, dX, stepR_skip, fO, gI, fP, gJ, gC, gE, gR, fZ, eU, fX, fU, gD, fR, fN, fW, fS, fV, gK, gG, fQ, fC, fY, gA, fL, iP, iS, iL, iT, iR, iM, iN, iQ, iO, eP, Result.ok.injEq, Next.value.injEq, true_and, and_true, fI, fJ, gB, fM, gH, gQ, ZO, fD, fF, fG, fE, eZ, eT, fB, eX, eQ, eH, if_true, if_false, ZM, ZS, ZN, ZP, ZR, ZQ, ZL, ZK, eA, dV, aB, dE, dJ, cB, eB, eS, eD, dN, eE, fA, dG, eI, bR, dL, bC, dR, aL, aH, eK, aZ, cI, eJ, aG, eL, dQ, aR, bD, eC, bG, bF, bJ, aP, aM, cG, fH, dY, cJ, cA, dB, cH, dT, bB, eM, bX, dS, bQ, bA, bT, aC, bU, bP, cF, bY, aU, aV, aX, bV, dD, cP, bO, aY, aN, aK, bH, aD, dC, dW, aJ, aI, aT, aF, cY, aE, cL, bW, bE, aO, cM, bZ, aA, dF, cU, cV, cC, dK, cD, dM, dU, cN, eF, eN, bN, aS, dZ, bS, aQ, bM, dI, dA, cS, cO, cR, bK, bL, cX, dO, cQ, dH, cZ, la]
 refine R2 fun w2 o2 x2 s2 => ?_
 obtain ⟨q, hq⟩ : ∃ q, q = w1.heap.size := ⟨_, rfl⟩
 rw [<- hq] at o2 ⊢
 have hone : ∀ y ∈ (KA (Iy (L.length / 64) L) kept (L.length % 64) L.length).toArray.toList, one y = true := fun y hy => by
  rw [aaP] at hy
  unfold KA at hy
  rcases abJ.1 hy with h | h
  .exact LX _ y h
  .rcases abJ.1 h with h | h
   .obtain ⟨z, -, rfl⟩ := aaU.1 h; rfl
   .simp only [aaN, List.not_mem_nil, or_false] at h
    rcases h with rfl | rfl <;> rfl
 refine Qm o2 (by rw [abV, Am h1 h2]) hone (by simp) fun w3 o3 x3 s3 => ?_
 have o3 : jH w3 q (KA (Iy (L.length / 64) L) kept (L.length % 64) L.length) := by
  rw [aaP, G6 _ _ (by rw [Am h1 h2] <;> rfl)] at o3
  exact o3
 have z1 : w1.heap.size = p + 1 := by omega
 have hqp : q = p + 1 := by omega
 have x03 : gT w w3 jL := (x1.seq x2).trans x3 fun y hy h => by omega
 have hS3 : zR w3 q L L.length := ⟨kept, h2, hk, o3⟩
 have r3 := (o1.ext x2 (fun h => h)).ext x3 (show ¬ p = q by omega)
 have bh3 : zR w3 b L L.length := h.ext x03 (fun h => h)
 have hb0 : 0 ≠ q /\ 1 ≠ q := ⟨by omega, by omega⟩
 clear o1 o2 o3 x1 x2 x3 s1 s2 s3 la hone ho
 have keep : ∀ {w' : adR} {x : adS}, gT w3 w' (fun y => y = q) -> rF w' /\ jH w' p (List.replicate 32 (.int .u8 0)) /\ zR w' b L L.length /\ gT w w' jL := fun {w' x} hx =>
  ⟨hg.ext (x03.trans hx fun y hy h => by omega), r3.ext hx (by omega), bh3.ext hx (by omega), x03.trans hx fun y hy h => by omega⟩
 refine Oo (x := 128) (by decide) (hg.ext x03) hb0 (by omega) (by omega) hS3 fun w4 h4 x4 => ?_
 unfold Bg Bh A8
 obtain ⟨z, hz⟩ : ∃ z, z = (119 - L.length % 64) % 64 := ⟨_, rfl⟩
 refine kC.rule (fun m (t : Unit) w' => ∃ (k all : Nat), m = z - k /\ k <= z /\ all = L.length + 1 + k /\ zR w' q (L ++ [128] ++ List.replicate k 0) all /\ gT w3 w' (fun y => y = q)) z ⟨0, _, rfl, by omega, rfl, by simpa using h4, x4⟩ ?_
 clear h4 x4
 rintro m _ w5 ⟨k, all, rfl, hkz, rfl, h5, x5⟩
 unfold vR
 have hlk : (L ++ [128] ++ List.replicate k (0 : UInt8)).length = L.length + 1 + k := by simp; omega
 have c72 : w5.cell? ⟨q, 72, none⟩ = some (.int .i64 (((L.length + 1 + k) % 64 : Nat) : Int)) := by
  obtain ⟨kp, g2, gk, go⟩ := h5
  rw [go.cell, Tu (Bv _ _) g2, hlk]
 obtain ⟨hg5, r5, bh5, x05⟩ := keep (x := undef) x5
 by_cases hlt : k < z
 .have d1 : ((((L.length + 1 + k) % 64 : Nat) : Int) != 56) = true := by
   rw [bne_iff_ne]
   have := X3 L.length k (by omega)
   omega
  simp (disch := omega) only [eY, gN, dX, stepR_skip, fO, gI, fP, gJ, gC, gE, gR, fZ, eU, fX, fU, gD, fR, fN, fW, fS, fV, gK, gG, fQ, fC, fY, gA, fL, iP, iS, iL, iT, iR, iM, iN, iQ, iO, eP, Result.ok.injEq, Next.value.injEq, true_and, and_true, fI, fJ, gB, fM, gH, gQ, ZO, fD, fF, fG, fE, eZ, eT, fB, eX, eQ, eH, if_true, if_false, ZM, ZS, ZN, ZP, ZR, ZQ, ZL, ZK, eA, dV, aB, dE, dJ, cB, eB, eS, eD, dN, eE, fA, dG, eI, bR, dL, bC, dR, aL, aH, eK, aZ, cI, eJ, aG, eL, dQ, aR, bD, eC, bG, bF, bJ, aP, aM, cG, fH, dY, cJ, cA, dB, cH, dT, bB, eM, bX, dS, bQ, bA, bT, aC, bU, bP, cF, bY, aU, aV, aX, bV, dD, cP, bO, aY, aN, aK, bH, aD, dC, dW, aJ, aI, aT, aF, cY, aE, cL, bW, bE, aO, cM, bZ, aA, dF, cU, cV, cC, dK, cD, dM, dU, cN, eF, eN, bN, aS, dZ, bS, aQ, bM, dI, dA, cS, cO, cR, bK, bL, cX, dO, cQ, dH, cZ, c72, d1]
  refine Oo (x := 0) (by decide) hg5 hb0 (by rw [hlk]; omega) (by omega) h5 fun w6 h6 x6 => ?_
  refine ⟨z - (k + 1), by omega, k + 1, L.length + 1 + (k + 1), rfl, by omega, rfl, ?_, x5.seq x6⟩
  rw [List.replicate_succ', <- aaC]
  exact h6
 have d1 : ((((L.length + 1 + k) % 64 : Nat) : Int) != 56) = false := by
  rw [bne_eq_false_iff_eq]
  have := (X3 L.length k (by omega)).2 (by omega)
  omega
 obtain rfl : k = z := by omega
 simp (disch := omega) only [eY, gN, dX, stepR_skip, fO, gI, fP, gJ, gC, gE, gR, fZ, eU, fX, fU, gD, fR, fN, fW, fS, fV, gK, gG, fQ, fC, fY, gA, fL, iP, iS, iL, iT, iR, iM, iN, iQ, iO, eP, Result.ok.injEq, Next.value.injEq, true_and, and_true, fI, fJ, gB, fM, gH, gQ, ZO, fD, fF, fG, fE, eZ, eT, fB, eX, eQ, eH, if_true, if_false, ZM, ZS, ZN, ZP, ZR, ZQ, ZL, ZK, eA, dV, aB, dE, dJ, cB, eB, eS, eD, dN, eE, fA, dG, eI, bR, dL, bC, dR, aL, aH, eK, aZ, cI, eJ, aG, eL, dQ, aR, bD, eC, bG, bF, bJ, aP, aM, cG, fH, dY, cJ, cA, dB, cH, dT, bB, eM, bX, dS, bQ, bA, bT, aC, bU, bP, cF, bY, aU, aV, aX, bV, dD, cP, bO, aY, aN, aK, bH, aD, dC, dW, aJ, aI, aT, aF, cY, aE, cL, bW, bE, aO, cM, bZ, aA, dF, cU, cV, cC, dK, cD, dM, dU, cN, eF, eN, bN, aS, dZ, bS, aQ, bM, dI, dA, cS, cO, cR, bK, bL, cX, dO, cQ, dH, cZ, c72, d1]
 obtain ⟨B, hB⟩ : ∃ B, B = L ++ [128] ++ List.replicate k (0 : UInt8) := ⟨_, rfl⟩
 rw [<- hB] at h5 hlk
 unfold Be AZ A0 Bc AY
 refine kC.rule (fun m (t : adS) w' => ∃ (j : Nat), m = 8 - j /\ j <= 8 /\ t = .int .i64 (56 - 8 * (j : Int)) /\ zR w' q (B ++ Wo (8 * L.length) j) (L.length + 1 + k + j) /\ gT w3 w' (fun y => y = q)) 8 ⟨0, rfl, by omega, rfl, by simpa [Wo] using h5, x5⟩ ?_
 clear c72 d1 h5 x5 hg5 r5 bh5 x05 hlt
 rintro m t w6 ⟨j, rfl, hj, rfl, h6, x6⟩
 unfold vW
 obtain ⟨hg6, r6, bh6, x06⟩ := keep (x := undef) x6
 by_cases hlt : j < 8
 .have d1 : decide ((0 : Int) <= 56 - 8 * (j : Int)) = true := by simp; omega
  have c73 : w6.cell? ⟨b, 73, none⟩ = some (.int .u64 (L.length : Nat)) := by
   obtain ⟨kp, g2, gk, go⟩ := bh6
   rw [go.cell, TP (Bv _ _) g2]
  have e1 : (8 : Int) * (L.length : Int) = ((8 * L.length : Nat) : Int) := by omega
  have e2 : (56 - 8 * (j : Int)).toNat = 56 - 8 * j := by omega
  have b64 : IntKind.u64.bits = 64 := rfl
  have m1 : min (56 - 8 * j) IntKind.u64.bits = 56 - 8 * j := by rw [b64]; omega
  have e3 := OB (8 * L.length) (56 - 8 * j)
  have e4 : IntKind.u8.wrap ((8 * L.length / 2 ^ (56 - 8 * j) : Nat) : Int) = ((8 * L.length / 2 ^ (56 - 8 * j) % 256 : Nat) : Int) := by
   generalize 8 * L.length / 2 ^ (56 - 8 * j) = y
   rw [show IntKind.u8.wrap (y : Int) = (y : Int) % 256 from rfl]; omega
  have e5 : 56 - 8 * (j : Int) - 8 = 56 - 8 * ((j + 1 : Nat) : Int) := by omega
  have hBl : (B ++ Wo (8 * L.length) j).length = L.length + 1 + k + j := by rw [ZV, hlk, TA]
  simp (disch := omega) only [eY, gN, dX, stepR_skip, fO, gI, fP, gJ, gC, gE, gR, fZ, eU, fX, fU, gD, fR, fN, fW, fS, fV, gK, gG, fQ, fC, fY, gA, fL, iP, iS, iL, iT, iR, iM, iN, iQ, iO, eP, Result.ok.injEq, Next.value.injEq, true_and, and_true, fI, fJ, gB, fM, gH, gQ, ZO, fD, fF, fG, fE, eZ, eT, fB, eX, eQ, eH, if_true, if_false, ZM, ZS, ZN, ZP, ZR, ZQ, ZL, ZK, eA, dV, aB, dE, dJ, cB, eB, eS, eD, dN, eE, fA, dG, eI, bR, dL, bC, dR, aL, aH, eK, aZ, cI, eJ, aG, eL, dQ, aR, bD, eC, bG, bF, bJ, aP, aM, cG, fH, dY, cJ, cA, dB, cH, dT, bB, eM, bX, dS, bQ, bA, bT, aC, bU, bP, cF, bY, aU, aV, aX, bV, dD, cP, bO, aY, aN, aK, bH, aD, dC, dW, aJ, aI, aT, aF, cY, aE, cL, bW, bE, aO, cM, bZ, aA, dF, cU, cV, cC, dK, cD, dM, dU, cN, eF, eN, bN, aS, dZ, bS, aQ, bM, dI, dA, cS, cO, cR, bK, bL, cX, dO, cQ, dH, cZ, d1, c73, e1, e2, m1, e3, e4, e5]
  refine Oo (x := 8 * L.length / 2 ^ (56 - 8 * j) % 256) (acG _ (by decide)) hg6 hb0 (by rw [hBl]; omega) (by omega) h6 fun w7 h7 x7 => ?_
  refine ⟨8 - (j + 1), by omega, j + 1, rfl, by omega, rfl, ?_, x6.seq x7⟩
  rw [Vl, <- aaC]
  exact h7
 have d1 : decide ((0 : Int) <= 56 - 8 * (j : Int)) = false := by simp; omega
 obtain rfl : j = 8 := by omega
 simp (disch := omega) only [eY, gN, dX, stepR_skip, fO, gI, fP, gJ, gC, gE, gR, fZ, eU, fX, fU, gD, fR, fN, fW, fS, fV, gK, gG, fQ, fC, fY, gA, fL, iP, iS, iL, iT, iR, iM, iN, iQ, iO, eP, Result.ok.injEq, Next.value.injEq, true_and, and_true, fI, fJ, gB, fM, gH, gQ, ZO, fD, fF, fG, fE, eZ, eT, fB, eX, eQ, eH, if_true, if_false, ZM, ZS, ZN, ZP, ZR, ZQ, ZL, ZK, eA, dV, aB, dE, dJ, cB, eB, eS, eD, dN, eE, fA, dG, eI, bR, dL, bC, dR, aL, aH, eK, aZ, cI, eJ, aG, eL, dQ, aR, bD, eC, bG, bF, bJ, aP, aM, cG, fH, dY, cJ, cA, dB, cH, dT, bB, eM, bX, dS, bQ, bA, bT, aC, bU, bP, cF, bY, aU, aV, aX, bV, dD, cP, bO, aY, aN, aK, bH, aD, dC, dW, aJ, aI, aT, aF, cY, aE, cL, bW, bE, aO, cM, bZ, aA, dF, cU, cV, cC, dK, cD, dM, dU, cN, eF, eN, bN, aS, dZ, bS, aQ, bM, dI, dA, cS, cO, cR, bK, bL, cX, dO, cQ, dH, cZ, d1]
 have hpad : B ++ Wo (8 * L.length) 8 = UM L := by rw [hB, hz] <;> rfl
 rw [hpad] at h6
 have hpl : (UM L).length % 64 = 0 := by
  rw [<- hpad, ZV, hlk, TA]
  have := (X3 L.length k (by omega)).2 hz
  omega
 obtain ⟨st, hst⟩ : ∃ st, st = Iy ((UM L).length / 64) (UM L) := ⟨_, rfl⟩
 have hstl : st.length = 8 := by rw [hst]; exact Bv _ _
 have hst32 : CJ st := by rw [hst]; exact QL _ _
 have hsha : RE L = O7 st 32 := by rw [hst] <;> rfl
 obtain ⟨kp, g2, gk, go⟩ := h6
 rw [<- hst] at go
 clear d1 hlt hj hpad gk bh6 hg6
 unfold Cd Ca
 refine Hk fun w7 o7 x7 s7 => ?_
 have o7 : jH w7 w6.heap.size (List.replicate 32 (.int .u8 0)) := o7
 obtain ⟨u, hu⟩ : ∃ u, u = w6.heap.size := ⟨_, rfl⟩
 rw [<- hu] at o7 ⊢
 have q7 := go.ext x7 (fun h => h)
 have r7 := r6.ext x7 (fun h => h)
 have x07 := x06.seq x7
 have hql := go.lt
 have hpl2 := r6.lt
 clear x6 x06 go r6 x7
 unfold B6 Cb Cc Cj Cm
 refine kC.rule (fun m (t : adS) w' => ∃ (i : Nat), m = 32 - i /\ i <= 32 /\ t = .int .i64 (i : Nat) /\ jH w' u ((O7 st i).map nU ++ List.replicate (32 - i) (.int .u8 0)) /\ gT w7 w' (fun y => y = u)) 32 ⟨0, rfl, by omega, rfl, o7, gT.refl _ _⟩ ?_
 clear o7
 rintro m t w8 ⟨i, rfl, hi, rfl, o8, x8⟩
 unfold wY
 have q8 := q7.ext x8 (show ¬ q = u by omega)
 by_cases hlt : i < 32
 .have d1 : decide ((i : Int) < 32) = true := by simp; omega
  have e1 : (i : Int).tdiv 4 = ((i / 4 : Nat) : Int) := by rw [Int.tdiv_eq_ediv_of_nonneg (by omega)]; omega
  have e2 : (i : Int).tmod 4 = ((i % 4 : Nat) : Int) := by rw [Int.tmod_eq_emod_of_nonneg (by omega)]; omega
  have e3 : (24 : Int) - ((i % 4 : Nat) : Int) * 8 = ((24 - i % 4 * 8 : Nat) : Int) := by omega
  have c8 := q8.cell (off := i / 4)
  rw [Yx _ (by omega)] at c8
  have b32 : IntKind.u32.bits = 32 := rfl
  have m1 : min (24 - i % 4 * 8) IntKind.u32.bits = 24 - i % 4 * 8 := by rw [b32]; omega
  have e4 := OB (st.getD (i / 4) 0) (24 - i % 4 * 8)
  obtain ⟨y, hy⟩ : ∃ y, y = UInt8.ofNat (st.getD (i / 4) 0 / 2 ^ (24 - i % 4 * 8) % 256) := ⟨_, rfl⟩
  have e5 : IntKind.u8.wrap ((st.getD (i / 4) 0 / 2 ^ (24 - i % 4 * 8) : Nat) : Int) = ((y.toNat : Nat) : Int) := by
   rw [hy, acI]
   generalize st.getD (i / 4) 0 / 2 ^ (24 - i % 4 * 8) = z
   rw [show IntKind.u8.wrap (z : Int) = (z : Int) % 256 from rfl]; omega
  simp (disch := omega) only [eY, gN, dX, stepR_skip, fO, gI, fP, gJ, gC, gE, gR, fZ, eU, fX, fU, gD, fR, fN, fW, fS, fV, gK, gG, fQ, fC, fY, gA, fL, iP, iS, iL, iT, iR, iM, iN, iQ, iO, eP, Result.ok.injEq, Next.value.injEq, true_and, and_true, fI, fJ, gB, fM, gH, gQ, ZO, fD, fF, fG, fE, eZ, eT, fB, eX, eQ, eH, if_true, if_false, ZM, ZS, ZN, ZP, ZR, ZQ, ZL, ZK, eA, dV, aB, dE, dJ, cB, eB, eS, eD, dN, eE, fA, dG, eI, bR, dL, bC, dR, aL, aH, eK, aZ, cI, eJ, aG, eL, dQ, aR, bD, eC, bG, bF, bJ, aP, aM, cG, fH, dY, cJ, cA, dB, cH, dT, bB, eM, bX, dS, bQ, bA, bT, aC, bU, bP, cF, bY, aU, aV, aX, bV, dD, cP, bO, aY, aN, aK, bH, aD, dC, dW, aJ, aI, aT, aF, cY, aE, cL, bW, bE, aO, cM, bZ, aA, dF, cU, cV, cC, dK, cD, dM, dU, cN, eF, eN, bN, aS, dZ, bS, aQ, bM, dI, dA, cS, cO, cR, bK, bL, cX, dO, cQ, dH, cZ, d1, e1, e2, e3, c8, m1, e4, e5]
  refine Rd o8 rfl (by rw [ZV, ZT, Lv, aaF]; omega) fun w9 o9 x9 s9 => ?_
  refine ⟨32 - (i + 1), by omega, i + 1, rfl, by omega, rfl, ?_, x8.seq x9⟩
  have e6 : ((O7 st i).map nU ++ List.replicate (32 - i) (Value.int .u8 0)).set i (.int .u8 (y.toNat : Nat)) = (O7 st (i + 1)).map nU ++ List.replicate (32 - (i + 1)) (.int .u8 0) := by
   rw [abL _ _ (by rw [ZT, Lv]; omega), ZT, Lv, adM, show 32 - i = (32 - (i + 1)) + 1 from by omega, List.replicate_succ, Z7, UP, <- hy, aaY, aaC]
   rfl
  rw [e6] at o9
  exact o9
 have d1 : decide ((i : Int) < 32) = false := by simp; omega
 obtain rfl : i = 32 := by omega
 simp (disch := omega) only [eY, gN, dX, stepR_skip, fO, gI, fP, gJ, gC, gE, gR, fZ, eU, fX, fU, gD, fR, fN, fW, fS, fV, gK, gG, fQ, fC, fY, gA, fL, iP, iS, iL, iT, iR, iM, iN, iQ, iO, eP, Result.ok.injEq, Next.value.injEq, true_and, and_true, fI, fJ, gB, fM, gH, gQ, ZO, fD, fF, fG, fE, eZ, eT, fB, eX, eQ, eH, if_true, if_false, ZM, ZS, ZN, ZP, ZR, ZQ, ZL, ZK, eA, dV, aB, dE, dJ, cB, eB, eS, eD, dN, eE, fA, dG, eI, bR, dL, bC, dR, aL, aH, eK, aZ, cI, eJ, aG, eL, dQ, aR, bD, eC, bG, bF, bJ, aP, aM, cG, fH, dY, cJ, cA, dB, cH, dT, bB, eM, bX, dS, bQ, bA, bT, aC, bU, bP, cF, bY, aU, aV, aX, bV, dD, cP, bO, aY, aN, aK, bH, aD, dC, dW, aJ, aI, aT, aF, cY, aE, cL, bW, bE, aO, cM, bZ, aA, dF, cU, cV, cC, dK, cD, dM, dU, cN, eF, eN, bN, aS, dZ, bS, aQ, bM, dI, dA, cS, cO, cR, bK, bL, cX, dO, cQ, dH, cZ, d1]
 rw [<- hsha, adM, List.replicate_zero, aaT] at o8
 have hl32 : ((RE L).map nU).length = 32 := by rw [ZT, wT]
 unfold wZ
 have lo := Rg (off := 0) o8 (by omega)
 rw [abP, ZY (by omega)] at lo
 have r8 := r7.ext x8 (show ¬ p = u by omega)
 simp (disch := omega) only [eY, gN, dX, stepR_skip, fO, gI, fP, gJ, gC, gE, gR, fZ, eU, fX, fU, gD, fR, fN, fW, fS, fV, gK, gG, fQ, fC, fY, gA, fL, iP, iS, iL, iT, iR, iM, iN, iQ, iO, eP, Result.ok.injEq, Next.value.injEq, true_and, and_true, fI, fJ, gB, fM, gH, gQ, ZO, fD, fF, fG, fE, eZ, eT, fB, eX, eQ, eH, if_true, if_false, ZM, ZS, ZN, ZP, ZR, ZQ, ZL, ZK, eA, dV, aB, dE, dJ, cB, eB, eS, eD, dN, eE, fA, dG, eI, bR, dL, bC, dR, aL, aH, eK, aZ, cI, eJ, aG, eL, dQ, aR, bD, eC, bG, bF, bJ, aP, aM, cG, fH, dY, cJ, cA, dB, cH, dT, bB, eM, bX, dS, bQ, bA, bT, aC, bU, bP, cF, bY, aU, aV, aX, bV, dD, cP, bO, aY, aN, aK, bH, aD, dC, dW, aJ, aI, aT, aF, cY, aE, cL, bW, bE, aO, cM, bZ, aA, dF, cU, cV, cC, dK, cD, dM, dU, cN, eF, eN, bN, aS, dZ, bS, aQ, bM, dI, dA, cS, cO, cR, bK, bL, cX, dO, cQ, dH, cZ, lo]
 refine I4 r8 (by rw [abV, hl32]) (fun y hy => EV _ y (by simpa using hy)) (by simp) fun w9 o9 x9 s9 => ?_
 rw [aaP, G6 _ _ (by rw [hl32]; simp)] at o9
 refine ID o9 (by omega) ?_
 rw [abP, ZY (by omega), hRR]
 exact ⟨rfl, (x07.trans x8 fun y hy h => by omega).trans x9 fun y hy h => by omega⟩
theorem WJ {l : List UInt8} {v : adS} {w : adR} (hg : rF w) (hv : Bs w v l) (hl : l.length <= 1000000000) :
 gS pg I0 #[v] w (fun r w' => r = .agg ((RE l).map nU).toArray /\ gT w w' jL) := by
 refine Q1 ?_
 unfold Wg Mt
 refine Hk fun w1 o1 x1 s1 => ?_
 have o1 : jH w1 w.heap.size (List.replicate 32 (.int .u8 0)) := o1
 obtain ⟨hg0, hg1⟩ := hg.lt
 refine (V9 w1).mono ?_
 rintro r w2 ⟨rfl, h2, x2, s2⟩
 have hv2 := hv.ext (x1.seq x2) (jI _)
 have hnb : ¬ wC v (fun y => y = w1.heap.size) := fun h => hv.old (zJ h fun b hb => by omega)
 refine (NP (L := []) (l := l) (hg.ext (x1.seq x2)) ⟨by omega, by omega⟩ (by simp; omega) (by omega) h2 hv2 hnb).mono ?_
 rintro r w3 ⟨rfl, h3, x3⟩
 rw [Z9, ZS] at h3
 have x03 : gT w w3 jL := (x1.seq x2).trans x3 fun y hy h => by omega
 refine (Vd (hg.ext x03) hl h3).mono ?_
 rintro r w4 ⟨rfl, x4⟩
 have hl32 : ((RE l).map nU).length = 32 := by rw [ZT, wT]
 have r4 := ((o1.ext x2 (fun h => h)).ext x3 (by omega)).ext x4 (fun h => h)
 refine I4 r4 (by rw [abV, hl32]) (fun y hy => EV _ y (by simpa using hy)) (by simp) fun w5 o5 x5 s5 => ?_
 rw [aaP, G6 _ _ (by rw [hl32]; simp)] at o5
 refine ID o5 (by omega) ?_
 rw [abP, ZY (by omega)]
 exact ⟨rfl, (x03.seq x4).trans x5 fun y hy h => by omega⟩
end Go.Proofs.YteelnmpbnaohpaaDoor
namespace Go.Pu
section
variable {κ β : Type} [DecidableEq κ]
def jF (k : κ) : List (κ × β) -> Option β
 | [] => none
 | p :: r => if k = p.1 then some p.2 else jF k r
def pH (k : κ) (v : β) : List (κ × β) -> List (κ × β)
 | [] => [(k, v)]
 | p :: r => if k = p.1 then (k, v) :: r else p :: pH k v r
def CF (k : κ) : List (κ × β) -> List (κ × β)
 | [] => []
 | p :: r => if k = p.1 then r else p :: CF k r
theorem Ol (k j : κ) (v : β) : ∀ l : List (κ × β), jF j (pH k v l) = if j = k then some v else jF j l := by
 intro l
 induction l with
 | nil => simp only [pH, jF]
 | cons p r ih =>
   simp only [pH]
   by_cases h : k = p.1
   .rw [if_pos h]
    simp only [jF]
    by_cases hj : j = k
    .rw [if_pos hj, if_pos hj]
    .rw [if_neg hj, if_neg hj, if_neg (fun e => hj (e.trans h.symm))]
   .rw [if_neg h]
    simp only [jF, ih]
    by_cases hj : j = p.1
    .rw [if_pos hj, if_pos hj, if_neg (fun e => h (e.symm.trans hj))]
    .rw [if_neg hj, if_neg hj]
theorem P8 {k : κ} : ∀ {l : List (κ × β)}, k ∉ l.map (·.1) -> jF k l = none
 | [], _ => rfl
 | p :: r, h => by
   rw [Z0, aaN, not_or] at h
   rw [jF, if_neg h.1, P8 h.2]
theorem R9 {k j : κ} : ∀ {l : List (κ × β)}, (l.map (·.1)).Nodup -> jF j (CF k l) = if j = k then none else jF j l
 | [], _ => by simp [CF, jF]
 | p :: r, h => by
   rw [Z0, acA] at h
   simp only [CF]
   by_cases hk : k = p.1
   .rw [if_pos hk]
    simp only [jF]
    by_cases hj : j = k
    .rw [if_pos hj, hj, hk, P8 h.1]
    .rw [if_neg hj, if_neg (fun e => hj (e.trans hk.symm))]
   .rw [if_neg hk]
    simp only [jF, R9 h.2]
    by_cases hj : j = p.1
    .rw [if_pos hj, if_pos hj, if_neg (fun e => hk (e.symm.trans hj))]
    .rw [if_neg hj, if_neg hj]
theorem PO {k : κ} {v : β} {x : κ} : ∀ {l : List (κ × β)}, x ∈ (pH k v l).map (·.1) -> x = k ∨ x ∈ l.map (·.1)
 | [], h => by simp [pH] at h; exact .inl h
 | p :: r, h => by
   simp only [pH] at h
   split at h
   .rename_i e
    rw [Z0, aaN] at h
    rcases h with h | h
    .exact .inl h
    .exact .inr (by rw [Z0]; exact Z1 _ h)
   .rw [Z0, aaN] at h
    rcases h with h | h
    .exact .inr (by rw [Z0, h]; exact abC)
    .rcases PO h with h | h
     .exact .inl h
     .exact .inr (by rw [Z0]; exact Z1 _ h)
theorem C4 {k : κ} {v : β} : ∀ {l : List (κ × β)}, (l.map (·.1)).Nodup -> ((pH k v l).map (·.1)).Nodup
 | [], _ => by simp [pH]
 | p :: r, h => by
   rw [Z0, acA] at h
   simp only [pH]
   split
   .rename_i e
    rw [Z0, acA]
    exact ⟨fun hm => h.1 (e ▸ hm), h.2⟩
   .rename_i e
    rw [Z0, acA]
    refine ⟨fun hm => ?_, C4 h.2⟩
    rcases PO hm with h1 | h1
    .exact e h1.symm
    .exact h.1 h1
end
abbrev tY := List (ByteArray × List UInt8)
def iY (c : tY) : Nat := (c.map fun p => p.2.length).sum
theorem rZ (k : ByteArray) (b : List UInt8) : ∀ c : tY, iY (pH k b c) + ((jF k c).getD []).length = iY c + b.length
 | [] => by simp [pH, jF, iY]
 | p :: r => by
   have ih := rZ k b r
   simp only [pH, jF]
   split
   .simp [iY]; omega
   .unfold iY at *
    rw [Z0, Z0, acS, acS]; omega
theorem Gz (k : ByteArray) : ∀ c : tY, iY (CF k c) + ((jF k c).getD []).length = iY c
 | [] => by simp [CF, jF, iY]
 | p :: r => by
   have ih := Gz k r
   simp only [CF, jF]
   split
   .simp [iY]; omega
   .unfold iY at *
    rw [Z0, Z0, acS, acS]; omega
theorem Re {c : tY} {j : Nat} (h : j < c.length) : iY (c.eraseIdx j) + c[j].2.length = iY c := by
 induction c generalizing j with
 | nil => simp at h
 | cons p r ih =>
   cases j with
   | zero => simp [iY]; omega
   | succ j =>
     have := ih (j := j) (by simpa using h)
     unfold iY at *
     rw [abE, Z0, Z0, acS, acS, List.getElem_cons_succ]; omega
theorem CK {k : ByteArray} {c : tY} : ((jF k c).getD []).length <= iY c := by have := Gz k c; omega
structure RS where
 kind : Nat
 name : ByteArray
 other : ByteArray
 at' : Nat
 bytes : List UInt8
def over (old : List UInt8) (a : Nat) (b : List UInt8) : List UInt8 := (old ++ List.replicate (max old.length (a + b.length) - old.length) 0).take a ++ b ++ (old ++ List.replicate (max old.length (a + b.length) - old.length) 0).drop (a + b.length)
theorem IV (old : List UInt8) (a : Nat) (b : List UInt8) : (over old a b).length = max old.length (a + b.length) := by
 unfold over
 simp only [ZV, Z5, Z3, aaF]; omega
def Ny (o : RS) (c : tY) : tY :=
 if o.kind = 0 then pH o.name (over ((jF o.name c).getD []) o.at' o.bytes) c
 else if o.kind = 1 then match jF o.name c with
  | none => c
  | some old => pH o.other old (CF o.name c)
 else if o.kind = 2 then CF o.name c else c
def FD : List UInt8 -> Nat
 | [] => 0
 | c :: l => c.toNat + 256 * FD l
theorem Ho : ∀ l : List UInt8, FD l < 256 ^ l.length
 | [] => by simp [FD]
 | c :: l => by
   have := Ho l
   have hc := c.toNat_lt
   rw [FD, aaG, Nat.pow_succ]; omega
theorem PS (c : UInt8) : ∀ l : List UInt8, FD (l ++ [c]) = FD l + 256 ^ l.length * c.toNat
 | [] => by simp [FD]
 | d :: l => by
   rw [acP, FD, PS c l, FD, aaG, Nat.pow_succ, acJ, acD, Nat.mul_comm (256 ^ l.length) 256, Nat.mul_assoc]
theorem Sk (i : Nat) : 256 ^ i = 2 ^ (8 * i) := by rw [Nat.pow_mul]
theorem Wx (l : List UInt8) (c : UInt8) : FD l ||| (c.toNat * 2 ^ (8 * l.length)) = FD (l ++ [c]) := by
 have := Ho l
 rw [Sk] at this
 rw [XK this, PS, Sk]
def Bl (x : Nat) : Nat -> List UInt8
 | 0 => []
 | n + 1 => UInt8.ofNat (x % 256) :: Bl (x / 256) n
theorem kY : ∀ (n x : Nat), (Bl x n).length = n
 | 0, _ => rfl
 | n + 1, x => by rw [Bl, aaG, kY n]
theorem L8 : ∀ (n x : Nat), FD (Bl x n) = x % 256 ^ n
 | 0, x => by simp [Bl, FD, Nat.mod_one]
 | n + 1, x => by
   rw [Bl, FD, L8 n, Nat.pow_succ, Nat.mul_comm (256 ^ n) 256, Nat.mod_mul]
   have : (UInt8.ofNat (x % 256)).toNat = x % 256 := by
    rw [acI]; omega
   rw [this]
theorem P9 : ∀ (n x : Nat), Bl x (n + 1) = Bl x n ++ [UInt8.ofNat (x / 256 ^ n % 256)]
 | 0, x => by simp [Bl]
 | n + 1, x => by
   rw [Bl, P9 n (x / 256), Bl, acP, Nat.div_div_eq_div_mul, Nat.pow_succ, Nat.mul_comm (256 ^ n) 256]
section
variable (cf : List UInt8 -> Nat)
def Kw (k v : Nat) : List UInt8 := Bl k 1 ++ Bl v 8
def uD (k v : Nat) : List UInt8 := Kw k v ++ Bl (cf (Kw k v)) 4
theorem rG (k v : Nat) : (uD cf k v).length = 13 := by
 unfold uD Kw
 rw [ZV, ZV, kY, kY, kY]
def Wp (p : List UInt8) : Nat := FD (p.take 1)
def VB (p : List UInt8) : Nat := if p.length < 9 then 0 else FD ((p.drop 1).take 8)
def Kh (p : List UInt8) : Bool := (Wp p == 1 || Wp p == 2) && uD cf (Wp p) (VB p) == p
def Io : Nat -> List UInt8 -> List (Nat × Nat)
 | 0, _ => []
 | n + 1, b => if b = [] then [] else if Kh cf (b.take 13) then (Wp (b.take 13), VB (b.take 13)) :: Io n (b.drop 13) else []
def mT (b : List UInt8) : List (Nat × Nat) := Io cf b.length b
def nH (l : List (Nat × Nat)) : List UInt8 := (l.map fun r => uD cf r.1 r.2).flatten
theorem mX : ∀ l : List (Nat × Nat), (nH cf l).length = 13 * l.length
 | [] => rfl
 | r :: l => by
   have := mX l
   unfold nH at *
   rw [Z0, List.flatten_cons, ZV, rG, this, aaG]; omega
theorem MB {p : List UInt8} (h : Kh cf p = true) : p.length = 13 := by
 unfold Kh at h
 simp only [ZZ, beq_iff_eq] at h
 rw [<- h.2, rG]
theorem Ru {k : Nat} (v : Nat) (hk : k < 256) : Wp (uD cf k v) = k := by
 have e : (uD cf k v).take 1 = Bl k 1 := by
  unfold uD Kw
  rw [aaC, aaJ (by rw [kY]; omega), ZY (by rw [kY]; omega)]
 unfold Wp
 rw [e, L8]; omega
theorem Rk (k : Nat) {v : Nat} (hv : v < 2 ^ 64) : VB (uD cf k v) = v := by
 have e : ((uD cf k v).drop 1).take 8 = Bl v 8 := by
  unfold uD Kw
  rw [aaC, aaL (by rw [kY]; omega), abI (by rw [kY]; omega), Z9,
    aaJ (by rw [kY]; omega), ZY (by rw [kY]; omega)]
 unfold VB
 rw [if_neg (by rw [rG]; omega), e, L8]
 exact abN (by omega)
def UH (r : Nat × Nat) : Prop := (r.1 = 1 ∨ r.1 = 2) /\ r.2 < 2 ^ 64
theorem SW {k v : Nat} (h : UH (k, v)) : Kh cf (uD cf k v) = true := by
 obtain ⟨hk, hv⟩ := h
 have hk : k = 1 ∨ k = 2 := hk
 unfold Kh
 rw [Ru cf v (by omega), Rk cf k hv]
 simp; omega
theorem Qv : ∀ (n : Nat) (b : List UInt8), ∀ r ∈ Io cf n b, UH r
 | 0, b, r, h => by simp [Io] at h
 | n + 1, b, r, h => by
   rw [Io] at h
   split at h
   .simp at h
   .split at h
    .rename_i hg
     rcases aaN.1 h with rfl | h
     .have hl := MB cf hg
      unfold Kh at hg
      simp only [ZZ, aaX, beq_iff_eq] at hg
      refine ⟨hg.1, ?_⟩
      show VB _ < _
      unfold VB
      split
      .omega
      .have := Ho (((b.take 13).drop 1).take 8)
       refine abY this ?_
       rw [show (2 : Nat) ^ 64 = 256 ^ 8 from by decide]
       exact adP (by omega) (by rw [Z5]; omega)
     .exact Qv n _ r h
    .simp at h
theorem NY : ∀ (n : Nat) (b : List UInt8), 13 * (Io cf n b).length <= b.length
 | 0, b => by simp [Io]
 | n + 1, b => by
   rw [Io]
   split
   .simp
   .split
    .rename_i hg
     have := NY n (b.drop 13)
     have hl := MB cf hg
     rw [Z5] at hl
     rw [Z3] at this
     rw [aaG]; omega
    .simp
theorem PL : ∀ (l : List (Nat × Nat)) (n : Nat), (∀ r ∈ l, UH r) -> 13 * l.length <= n -> Io cf n (nH cf l) = l
 | [], n, _, _ => by cases n <;> simp [Io, nH]
 | r :: l, 0, _, h => by simp at h
 | r :: l, n + 1, hl, h => by
   have e : nH cf (r :: l) = uD cf r.1 r.2 ++ nH cf l := rfl
   have h13 := rG cf r.1 r.2
   have h1 : (nH cf (r :: l)).take 13 = uD cf r.1 r.2 := by rw [e, aaJ (by omega), ZY (by omega)]
   have h2 : (nH cf (r :: l)).drop 13 = nH cf l := by rw [e, aaL (by omega), abI (by omega), Z9]
   have hne : nH cf (r :: l) ≠ [] := fun h => by have := congrArg List.length h; rw [mX] at this; simp at this
   have ho : UH r := hl r abC
   rw [aaG] at h
   rw [Io, if_neg hne, h1, h2, SW cf ho, if_pos rfl, Ru cf _ (by have := ho.1; omega), Rk cf _ ho.2, PL l n (fun r hr => hl r (Z1 _ hr)) (by omega)]
theorem TY {l : List (Nat × Nat)} (hl : ∀ r ∈ l, UH r) : mT cf (nH cf l) = l := PL cf l _ hl (by rw [mX]; omega)
theorem SI (l : List (Nat × Nat)) (r : Nat × Nat) : nH cf (l ++ [r]) = nH cf l ++ uD cf r.1 r.2 := by
 unfold nH
 rw [aaY, List.flatten_append]
 simp
end
def kA (k : Nat) : List (Nat × Nat) -> Nat
 | [] => 0
 | r :: l => if r.1 = k then max r.2 (kA k l) else kA k l
theorem Ku (k : Nat) (r : Nat × Nat) : ∀ l, kA k (l ++ [r]) = if r.1 = k then max r.2 (kA k l) else kA k l
 | [] => rfl
 | s :: l => by
   rw [acP, kA, Ku k r l, kA]
   split <;> split <;> omega
theorem RK {k : Nat} : ∀ {l : List (Nat × Nat)}, (∀ r ∈ l, UH r) -> kA k l < 2 ^ 64
 | [], _ => by unfold kA; omega
 | r :: l, h => by
   have h1 := RK (k := k) (l := l) fun r hr => h r (Z1 _ hr)
   have h2 := (h r abC).2
   rw [kA]
   split <;> omega
def mF (L k : Nat) : Nat := if 0 < L % k then L / k + 1 else L / k
theorem vQ {L k i : Nat} (hk : 0 < k) : i < mF L k ↔ k * i < L := by
 unfold mF
 have h1 := Nat.div_add_mod L k
 have h2 := acG L hk
 generalize L / k = q at *
 generalize L % k = r at *
 split
 .constructor
  .intro h
   have : k * i <= k * q := abX _ (by omega)
   omega
  .intro h
   by_cases h3 : i < q + 1
   .exact h3
   .have : k * (q + 1) <= k * i := abX _ (by omega)
    rw [acJ] at this; omega
 .constructor
  .intro h
   have : k * (i + 1) <= k * q := abX _ (by omega)
   rw [acJ] at this; omega
  .intro h
   by_cases h3 : i < q
   .exact h3
   .have : k * q <= k * i := abX _ (by omega)
    omega
theorem NK {L k : Nat} (hk : 0 < k) : mF L k <= L := by
 by_cases h : mF L k = 0
 .omega
 .have := (vQ (i := mF L k - 1) (L := L) hk).1 (by omega)
  have h2 : 1 * (mF L k - 1) <= k * (mF L k - 1) := Nat.mul_le_mul_right _ hk
  omega
def Iq (L k i : Nat) : Nat := min (L - k * i) k
def vV (L k i : Nat) (b : List UInt8) : List UInt8 := (b.drop (k * i)).take (Iq L k i)
theorem NJ {L k i j : Nat} {b : List UInt8} : (vV L k i b)[j]? = if j < Iq L k i then b[k * i + j]? else none := by
 unfold vV
 rw [List.getElem?_take]
 split
 .rw [acH]
 .rfl
theorem DD {L k i : Nat} {b : List UInt8} (h : b.length = L) : (vV L k i b).length = Iq L k i := by
 unfold vV Iq
 rw [Z5, Z3]; omega
theorem XN {L k i : Nat} {b f : List UInt8} (h : ∀ j, j < Iq L k i -> b[k * i + j]? = f[k * i + j]?) : vV L k i b = vV L k i f := by
 apply abW
 intro j
 rw [NJ, NJ]
 split
 .exact h j (by assumption)
 .rfl
theorem WV {L k i j : Nat} {b f : List UInt8} (h : vV L k i b = vV L k i f) (hj : j < Iq L k i) : b[k * i + j]? = f[k * i + j]? := by
 have := congrArg (fun l => l[j]?) h
 simp only [NJ, if_pos hj] at this
 exact this
theorem UX {L k : Nat} {b f : List UInt8} (hk : 0 < k) (hb : b.length = L) (hf : f.length = L) (h : ∀ i, i < mF L k -> vV L k i b = vV L k i f) : b = f := by
 apply abW
 intro j
 by_cases hj : j < L
 .have h1 := Nat.div_add_mod j k
  have h2 := acG j hk
  have h3 := WV (h (j / k) ((vQ hk).2 (by omega))) (j := j % k) (by unfold Iq; omega)
  rw [h1] at h3
  exact h3
 .rw [aaK (by omega), aaK (by omega)]
theorem WI {old b : List UInt8} {a : Nat} (h : a + b.length <= old.length) : over old a b = old.take a ++ b ++ old.drop (a + b.length) := by
 unfold over
 rw [show max old.length (a + b.length) - old.length = 0 from by omega, List.replicate_zero, aaT]
theorem Rw {old b : List UInt8} {a j : Nat} (h : a + b.length <= old.length) : (over old a b)[j]? = if a <= j /\ j < a + b.length then b[j - a]? else old[j]? := by
 rw [WI h]
 by_cases h1 : j < a
 .rw [if_neg (by omega), aaC, aaA (by rw [Z5]; omega), abM h1]
 .by_cases h2 : j < a + b.length
  .rw [if_pos ⟨by omega, h2⟩, aaC, aaV (by rw [Z5]; omega), Z5, aaM (by omega), aaA (by omega)]
  .rw [if_neg (by omega), aaV (by rw [ZV, Z5]; omega), ZV, Z5, aaM (by omega), acH]
   congr 1; omega
theorem CI {L k i : Nat} (h : k * i < L) : k * i + Iq L k i <= L := by unfold Iq; omega
theorem Ph {L k i : Nat} {P f : List UInt8} (hP : P.length = L) (hf : f.length = L) (hi : k * i < L) : vV L k i (over P (k * i) (vV L k i f)) = vV L k i f := by
 have hl := DD (k := k) (i := i) hf
 have he := CI hi
 apply abW
 intro j
 rw [NJ]
 by_cases h : j < Iq L k i
 .rw [if_pos h, Rw (by omega), if_pos (by omega), show k * i + j - k * i = j from by omega]
 .rw [if_neg h, aaK (by omega)]
theorem Om {L k i i' : Nat} {P f : List UInt8} (hP : P.length = L) (hf : f.length = L) (hi : k * i < L) (hne : i' ≠ i) : vV L k i' (over P (k * i) (vV L k i f)) = vV L k i' P := by
 have hl := DD (k := k) (i := i) hf
 have he := CI hi
 apply XN
 intro j hj
 rw [Rw (by omega), if_neg]
 intro h
 have hs : j < k := by unfold Iq at hj; omega
 have hs2 : Iq L k i <= k := by unfold Iq; omega
 rcases Nat.lt_or_gt_of_ne hne with h1 | h1
 .have : k * (i' + 1) <= k * i := abX _ h1
  rw [acJ] at this; omega
 .have : k * (i + 1) <= k * i' := abX _ h1
  rw [acJ] at this; omega
theorem We (n : Nat) : over [] 0 (List.replicate n 0) = List.replicate n 0 := by
 unfold over
 simp
theorem VM {old b : List UInt8} : over old old.length b = old ++ b := by
 unfold over
 rw [show max old.length (old.length + b.length) - old.length = b.length from by omega, aaJ (Z2 _), ZY (Z2 _), abI (by rw [ZV, aaF]; omega), aaT]
end Go.Pu
namespace Go.En
open Go Go.ChangeShapes Go.WideShapes Go.ChangeAt Go.RowKit
theorem O6 {H : Type} {enc : TypeId × adS -> H} {P : Program} (hl : laidOutB P = true) {W W' : adR} (hb : Below W.heap.size W W') : ∀ (ts : List TypeId) (vs : List adS) (ds : List (DataW H)) (ps : List MemPlace),
 (ts.all fun t => P.readableRec t && decide (t < P.types.size)) = true -> DataW.TrodAll enc P W 0 (fun _ => true) true ts vs ds ps -> (∀ x ∈ ps, x.block < W.heap.size) →
 DataW.TrodAll enc P W' 0 (fun b => decide (b < W.heap.size)) true ts vs ds ps := by
 intro ts
 induction ts with
 | nil =>
   intro vs ds ps _ h _
   cases vs <;> cases ds <;> simp [DataW.TrodAll] at h ⊢
   exact h
 | cons t ts ih =>
   intro vs ds ps hr h hlt
   cases vs with
   | nil => simp [DataW.TrodAll] at h
   | cons v vs =>
     cases ds with
     | nil => simp [DataW.TrodAll] at h
     | cons d ds =>
       obtain ⟨p, q, h1, h2, rfl⟩ := h
       rw [List.all_cons, ZZ, ZZ, decide_eq_true_eq] at hr
       exact ⟨p, q, Below.trod hl hr.1.1 hr.1.2 h1 hb (fun x hx => hlt x (abU _ hx)), ih _ _ _ hr.2 h2 (fun x hx => hlt x (acL _ hx)), rfl⟩
theorem Vg {H : Type} {enc : TypeId × adS -> H} {P : Program} {f : Func} {s : ChangeSpec} {apart fresh handsOn : Bool} {tb : TypeId} {W W' : adR} {args : Array adS} {ds gs : List (DataW H)} {before : List MemPlace}
 (hl : laidOutB P = true) (hr : (f.params.toList.all fun t => P.readableRec t && decide (t < P.types.size)) = true) (hres : f.resultTypes = #[tb]) (hbool : P.underlying tb = some .bool)
 (hW : DataW.Whole enc P f.params.toList s.vars apart W args.toList ds gs before) (hvars : s.vars = []) (h1 : (s.fn H (ds ++ gs)).results = [.lit (.bool true)]) (h2 : (s.fn H (ds ++ gs)).args = ds) (h3 : (s.fn H (ds ++ gs)).vars = [])
 (hx : gT W W' jL) : s.post enc P f apart fresh handsOn false W args (.bool true) W' := by
 have hb := hx.below
 have hlt : ∀ x ∈ before, x.block < W.heap.size := fun x hx => hW.lt x hx
 have hW' := hW
 obtain ⟨p, q, hA, hV, rfl, _, _⟩ := hW
 rw [hvars] at hV
 obtain ⟨_, rfl⟩ := trodVars_none hV
 rw [aaT] at hW' hlt
 refine ⟨ds, gs, p, [], p, [], hW', ?_, ?_, ?_, hb.frame _, fun h => by cases h⟩
 .rw [h1, hres]
  exact trodAll_cons_mk (shut_bool hbool _) trodAll_mk0
 .rw [h2]; exact O6 hl hb _ _ _ _ hr hA hlt
 .rw [h3, hvars] <;> rfl
theorem Th {H : Type} {enc : TypeId × adS -> H} {P : Program} {W : adR} {base b0 : Nat} {r : Reach} {sp : Nat -> Bool} {hd : Bool} {t e : TypeId} {k : IntKind} {v : adS} {d : DataW H} {ps : List MemPlace} (ht : P.underlying t = some (.slice e)) (he : P.underlying e = some (.int k)) (hc : P.cellsOf e = 1)
 (hval : Value.okWide P W r b0 t v) (h : DataW.Trod enc P W base sp hd t v d ps) :
 ∃ zs : List Int, Sl W v (zs.map (Value.int k)) /\ zs.length <= 9223372036854775807 /\ ∀ z ∈ zs, (Lit.int k z).wf = true := by
 obtain ⟨a0, len, cap, rfl⟩ := okWide_slice ht hval
 obtain ⟨fuel, hf⟩ := h
 rcases open_ints ht he hc hf with ⟨hcs, -⟩ | ⟨a, len', cap', zs, hcs, _, hl, hm, hz, -, hcell, hwz⟩
 .have : Value.slice a0 len cap = .slice none 0 0 := by simpa [Value.cells] using hcs
  cases this
  exact ⟨[], ⟨none, 0, 0, rfl, rfl, Z2 _, fun h => absurd h (by simp)⟩, by simp, by simp⟩
 .have : Value.slice a0 len cap = .slice (some a) len' cap' := by simpa [Value.cells] using hcs
  cases this
  unfold maxLen at hm
  have hle : len <= zs.length := by rw [hz]; split <;> omega
  refine ⟨zs.take len, ⟨some a, len, cap, rfl, by rw [ZT, Z5]; omega, hl, fun h0 => ?_⟩, by rw [Z5]; omega, fun z hz => hwz z (adL hz)⟩
  obtain ⟨b, off, spot⟩ := a
  have hs : spot = none := by
   have h0 := hcell 0 (by omega)
   unfold World.cell? at h0
   split at h0
   .cases spot
    .rfl
    .simp [Addr.add] at h0
   .cases h0
  subst hs
  refine ⟨b, off, rfl, fun i hi => ?_⟩
  rw [<- B9, hcell i (by omega), aaD, abM hi, ZW, ZU (by omega)]
  rfl
theorem Q4 (zs : List Int) (h : ∀ z ∈ zs, (Lit.int .u8 z).wf = true) : ∃ l : List UInt8, zs.map (Value.int .u8) = l.map nU /\ l.length = zs.length := by
 refine ⟨zs.map fun z => UInt8.ofNat z.toNat, ?_, by simp⟩
 rw [List.map_map]
 refine abA fun z hz => ?_
 have := h z hz
 have hx : 0 <= z /\ z <= 255 := by simpa [Lit.wf, IntKind.min, IntKind.max, IntKind.signed, IntKind.bits] using this
 show _ = nU (UInt8.ofNat z.toNat)
 unfold nU
 rw [acI]
 congr 1
 omega
end Go.En
namespace Go.Proofs.YteelnmpbnaohpaaDoor
open Go Go.En Go.Pu
set_option maxRecDepth 4000
theorem Qi {L k : Nat} {w : adR} (hL : L <= 1000000000000) (h1 : 1 <= k) (h2 : k <= 65536) :
 gS pg rW #[.int .u64 (L : Nat), .int .i64 (k : Nat)] w (fun r w' => r = (if 1024 < mF L k then .tuple #[.int .i64 0, .int .i64 12] else .tuple #[.int .i64 (mF L k : Nat), .int .i64 0]) /\ w' = w) := by
 refine L9 ?_
 unfold M9 DO Dg
 have d1 : decide ((k : Int) < 1) = false := by simp; omega
 have d2 : decide ((65536 : Int) < (k : Int)) = false := by simp; omega
 have e1 : (L : Int).tdiv (k : Int) = ((L / k : Nat) : Int) := rfl
 have e2 : (L : Int).tmod (k : Int) = ((L % k : Nat) : Int) := rfl
 have hq : L / k <= L := Nat.div_le_self _ _
 have hm := acG L (show 0 < k by omega)
 have hc : mF L k = if 0 < L % k then L / k + 1 else L / k := rfl
 generalize L / k = q at *
 generalize L % k = r at *
 by_cases hr : 0 < r
 .rw [if_pos hr] at hc
  have d3 : decide ((0 : Int) < (r : Int)) = true := by simp only [decide_eq_true_eq]; omega
  have e3 : (q : Int) + 1 = ((q + 1 : Nat) : Int) := by omega
  rw [hc]
  by_cases hb : 1024 < q + 1
  .have d4 : decide ((1024 : Int) < ((q + 1 : Nat) : Int)) = true := by simp only [decide_eq_true_eq]; omega
   rw [if_pos hb]
   unfold oU
   simp (disch := omega) only [eY, gN, dX, stepR_skip, fO, gI, fP, gJ, gC, gE, gR, fZ, eU, fX, fU, gD, fR, fN, fW, fS, fV, gK, gG, fQ, fC, fY, gA, fL, iP, iS, iL, iT, iR, iM, iN, iQ, iO, eP, Result.ok.injEq, Next.value.injEq, true_and, and_true, fI, fJ, gB, fM, gH, gQ, ZO, fD, fF, fG, fE, eZ, eT, fB, eX, eQ, eH, if_true, if_false, ZM, ZS, ZN, ZP, ZR, ZQ, ZL, ZK, eA, dV, aB, dE, dJ, cB, eB, eS, eD, dN, eE, fA, dG, eI, bR, dL, bC, dR, aL, aH, eK, aZ, cI, eJ, aG, eL, dQ, aR, bD, eC, bG, bF, bJ, aP, aM, cG, fH, dY, cJ, cA, dB, cH, dT, bB, eM, bX, dS, bQ, bA, bT, aC, bU, bP, cF, bY, aU, aV, aX, bV, dD, cP, bO, aY, aN, aK, bH, aD, dC, dW, aJ, aI, aT, aF, cY, aE, cL, bW, bE, aO, cM, bZ, aA, dF, cU, cV, cC, dK, cD, dM, dU, cN, eF, eN, bN, aS, dZ, bS, aQ, bM, dI, dA, cS, cO, cR, bK, bL, cX, dO, cQ, dH, cZ, d1, d2, e1, e2, d3, e3, d4]
  .have d4 : decide ((1024 : Int) < ((q + 1 : Nat) : Int)) = false := by simp only [decide_eq_false_iff_not]; omega
   rw [if_neg hb]
   unfold oU
   simp (disch := omega) only [eY, gN, dX, stepR_skip, fO, gI, fP, gJ, gC, gE, gR, fZ, eU, fX, fU, gD, fR, fN, fW, fS, fV, gK, gG, fQ, fC, fY, gA, fL, iP, iS, iL, iT, iR, iM, iN, iQ, iO, eP, Result.ok.injEq, Next.value.injEq, true_and, and_true, fI, fJ, gB, fM, gH, gQ, ZO, fD, fF, fG, fE, eZ, eT, fB, eX, eQ, eH, if_true, if_false, ZM, ZS, ZN, ZP, ZR, ZQ, ZL, ZK, eA, dV, aB, dE, dJ, cB, eB, eS, eD, dN, eE, fA, dG, eI, bR, dL, bC, dR, aL, aH, eK, aZ, cI, eJ, aG, eL, dQ, aR, bD, eC, bG, bF, bJ, aP, aM, cG, fH, dY, cJ, cA, dB, cH, dT, bB, eM, bX, dS, bQ, bA, bT, aC, bU, bP, cF, bY, aU, aV, aX, bV, dD, cP, bO, aY, aN, aK, bH, aD, dC, dW, aJ, aI, aT, aF, cY, aE, cL, bW, bE, aO, cM, bZ, aA, dF, cU, cV, cC, dK, cD, dM, dU, cN, eF, eN, bN, aS, dZ, bS, aQ, bM, dI, dA, cS, cO, cR, bK, bL, cX, dO, cQ, dH, cZ, d1, d2, e1, e2, d3, e3, d4]
 .rw [if_neg hr] at hc
  have d3 : decide ((0 : Int) < (r : Int)) = false := by simp only [decide_eq_false_iff_not]; omega
  rw [hc]
  by_cases hb : 1024 < q
  .have d4 : decide ((1024 : Int) < (q : Int)) = true := by simp only [decide_eq_true_eq]; omega
   rw [if_pos hb]
   unfold oU
   simp (disch := omega) only [eY, gN, dX, stepR_skip, fO, gI, fP, gJ, gC, gE, gR, fZ, eU, fX, fU, gD, fR, fN, fW, fS, fV, gK, gG, fQ, fC, fY, gA, fL, iP, iS, iL, iT, iR, iM, iN, iQ, iO, eP, Result.ok.injEq, Next.value.injEq, true_and, and_true, fI, fJ, gB, fM, gH, gQ, ZO, fD, fF, fG, fE, eZ, eT, fB, eX, eQ, eH, if_true, if_false, ZM, ZS, ZN, ZP, ZR, ZQ, ZL, ZK, eA, dV, aB, dE, dJ, cB, eB, eS, eD, dN, eE, fA, dG, eI, bR, dL, bC, dR, aL, aH, eK, aZ, cI, eJ, aG, eL, dQ, aR, bD, eC, bG, bF, bJ, aP, aM, cG, fH, dY, cJ, cA, dB, cH, dT, bB, eM, bX, dS, bQ, bA, bT, aC, bU, bP, cF, bY, aU, aV, aX, bV, dD, cP, bO, aY, aN, aK, bH, aD, dC, dW, aJ, aI, aT, aF, cY, aE, cL, bW, bE, aO, cM, bZ, aA, dF, cU, cV, cC, dK, cD, dM, dU, cN, eF, eN, bN, aS, dZ, bS, aQ, bM, dI, dA, cS, cO, cR, bK, bL, cX, dO, cQ, dH, cZ, d1, d2, e1, e2, d3, d4]
  .have d4 : decide ((1024 : Int) < (q : Int)) = false := by simp only [decide_eq_false_iff_not]; omega
   rw [if_neg hb]
   unfold oU
   simp (disch := omega) only [eY, gN, dX, stepR_skip, fO, gI, fP, gJ, gC, gE, gR, fZ, eU, fX, fU, gD, fR, fN, fW, fS, fV, gK, gG, fQ, fC, fY, gA, fL, iP, iS, iL, iT, iR, iM, iN, iQ, iO, eP, Result.ok.injEq, Next.value.injEq, true_and, and_true, fI, fJ, gB, fM, gH, gQ, ZO, fD, fF, fG, fE, eZ, eT, fB, eX, eQ, eH, if_true, if_false, ZM, ZS, ZN, ZP, ZR, ZQ, ZL, ZK, eA, dV, aB, dE, dJ, cB, eB, eS, eD, dN, eE, fA, dG, eI, bR, dL, bC, dR, aL, aH, eK, aZ, cI, eJ, aG, eL, dQ, aR, bD, eC, bG, bF, bJ, aP, aM, cG, fH, dY, cJ, cA, dB, cH, dT, bB, eM, bX, dS, bQ, bA, bT, aC, bU, bP, cF, bY, aU, aV, aX, bV, dD, cP, bO, aY, aN, aK, bH, aD, dC, dW, aJ, aI, aT, aF, cY, aE, cL, bW, bE, aO, cM, bZ, aA, dF, cU, cV, cC, dK, cD, dM, dU, cN, eF, eN, bN, aS, dZ, bS, aQ, bM, dI, dA, cS, cO, cR, bK, bL, cX, dO, cQ, dH, cZ, d1, d2, e1, e2, d3, d4]
theorem NU {L k i : Nat} {w : adR} (hL : L <= 1000000000000) (h1 : 1 <= k) (h2 : k <= 65536) (hn : mF L k <= 1024) (hi : i < mF L k) :
 gS pg pN #[.int .u64 (L : Nat), .int .i64 (k : Nat), .int .i64 (i : Nat)] w (fun r w' => r = .tuple #[.int .u64 ((k * i : Nat) : Int), .int .i64 (Iq L k i : Nat), .int .i64 0] /\ w' = w) := by
 refine Nj ?_
 unfold NS Fp
 refine (Qi hL h1 h2).mono ?_
 rintro r w1 ⟨rfl, hw⟩
 rw [hw]; clear hw w1
 rw [if_neg (by omega)]
 have n0 : ((0 : Int) != 0) = false := rfl
 have d1 : decide ((i : Int) < 0) = false := by simp
 have d2 : decide (((mF L k : Nat) : Int) <= (i : Int)) = false := by simp; omega
 have hlt := (vQ (L := L) (k := k) (i := i) (by omega)).1 hi
 have e1 : (k : Int) * (i : Int) = ((k * i : Nat) : Int) := by simp
 obtain ⟨q, hq⟩ : ∃ q, q = k * i := ⟨_, rfl⟩
 have e2 : (L : Int) - ((q : Nat) : Int) = ((L - q : Nat) : Int) := by omega
 have e3 : (if ((k : Nat) : Int) < ((L - q : Nat) : Int) then ((k : Nat) : Int) else ((L - q : Nat) : Int)) = ((Iq L k i : Nat) : Int) := by
  unfold Iq
  rw [<- hq]
  split <;> omega
 rw [<- hq] at e1 hlt ⊢
 simp (disch := omega) only [eY, gN, dX, stepR_skip, fO, gI, fP, gJ, gC, gE, gR, fZ, eU, fX, fU, gD, fR, fN, fW, fS, fV, gK, gG, fQ, fC, fY, gA, fL, iP, iS, iL, iT, iR, iM, iN, iQ, iO, eP, Result.ok.injEq, Next.value.injEq, true_and, and_true, fI, fJ, gB, fM, gH, gQ, ZO, fD, fF, fG, fE, eZ, eT, fB, eX, eQ, eH, if_true, if_false, ZM, ZS, ZN, ZP, ZR, ZQ, ZL, ZK, eA, dV, aB, dE, dJ, cB, eB, eS, eD, dN, eE, fA, dG, eI, bR, dL, bC, dR, aL, aH, eK, aZ, cI, eJ, aG, eL, dQ, aR, bD, eC, bG, bF, bJ, aP, aM, cG, fH, dY, cJ, cA, dB, cH, dT, bB, eM, bX, dS, bQ, bA, bT, aC, bU, bP, cF, bY, aU, aV, aX, bV, dD, cP, bO, aY, aN, aK, bH, aD, dC, dW, aJ, aI, aT, aF, cY, aE, cL, bW, bE, aO, cM, bZ, aA, dF, cU, cV, cC, dK, cD, dM, dU, cN, eF, eN, bN, aS, dZ, bS, aQ, bM, dI, dA, cS, cO, cR, bK, bL, cX, dO, cQ, dH, cZ, n0, d1, d2, e1, e2, e3]
theorem QU {w : adR} {v : adS} {l : List Bool} (h : Sl w v (l.map Value.bool)) {i : Nat} (hi : i < l.length) : ∃ a o c, v = .slice (some ⟨a, o, none⟩) l.length c /\ w.cell? ⟨a, o + i, none⟩ = some (.bool (l.getD i false)) := by
 obtain ⟨a, n, c, rfl, hn, hc, hh⟩ := h
 rw [ZT] at hn
 obtain ⟨b, off, rfl, h2⟩ := hh (by omega)
 have := h2 i (by omega)
 rw [aaD, ZU hi] at this
 refine ⟨b, off, c, by rw [hn], ?_⟩
 rw [this, ZW, ZU hi] <;> rfl
theorem Pm {l : List Bool} {i : Nat} (hi : i < l.length) : (l.take (i + 1)).contains false = ((l.take i).contains false || !(l.getD i false)) := by
 rw [abH hi, ZW, ZU hi]
 rw [List.contains_append]
 cases l[i] <;> simp
theorem NO {v : adS} {l : List Bool} {w : adR} (h : Sl w v (l.map Value.bool)) (hl : l.length <= 1000000000) :
 gS pg yV #[v] w (fun r w' => r = .bool (!l.contains false) /\ w' = w) := by
 refine OG ?_
 unfold PV Hp
 refine Ef ?_
 unfold BF qL
 refine Hf ?_
 unfold EF uP uH vC vO uU uS vJ
 obtain ⟨va, vc, rfl, _⟩ := h.len
 rw [ZT] at h ⊢
 simp (disch := omega) only [eY, gN, dX, stepR_skip, fO, gI, fP, gJ, gC, gE, gR, fZ, eU, fX, fU, gD, fR, fN, fW, fS, fV, gK, gG, fQ, fC, fY, gA, fL, iP, iS, iL, iT, iR, iM, iN, iQ, iO, eP, Result.ok.injEq, Next.value.injEq, true_and, and_true, fI, fJ, gB, fM, gH, gQ, ZO, fD, fF, fG, fE, eZ, eT, fB, eX, eQ, eH, if_true, if_false, ZM, ZS, ZN, ZP, ZR, ZQ, ZL, ZK, eA, dV, aB, dE, dJ, cB, eB, eS, eD, dN, eE, fA, dG, eI, bR, dL, bC, dR, aL, aH, eK, aZ, cI, eJ, aG, eL, dQ, aR, bD, eC, bG, bF, bJ, aP, aM, cG, fH, dY, cJ, cA, dB, cH, dT, bB, eM, bX, dS, bQ, bA, bT, aC, bU, bP, cF, bY, aU, aV, aX, bV, dD, cP, bO, aY, aN, aK, bH, aD, dC, dW, aJ, aI, aT, aF, cY, aE, cL, bW, bE, aO, cM, bZ, aA, dF, cU, cV, cC, dK, cD, dM, dU, cN, eF, eN, bN, aS, dZ, bS, aQ, bM, dI, dA, cS, cO, cR, bK, bL, cX, dO, cQ, dH, cZ]
 refine kC.rule (fun m (t : adS) w' => ∃ i : Nat, m = l.length - i /\ i <= l.length /\ t = .int .i64 (i : Nat) /\ (l.take i).contains false = false /\ w' = w) l.length ⟨0, rfl, by omega, rfl, rfl, rfl⟩ ?_
 rintro m t w' ⟨i, rfl, hi, rfl, hc, hw⟩
 rw [hw]; clear hw w'
 unfold pP
 by_cases hlt : i < l.length
 .have d1 : decide ((i : Int) < (l.length : Int)) = true := by simp; omega
  obtain ⟨a, o, c, hv, hcell⟩ := QU h hlt
  cases hv
  have ht := Pm hlt
  rw [hc, adE] at ht
  cases hb : l.getD i false with
  | true =>
    rw [hb] at hcell ht
    have e : (false == true) = false := rfl
    simp (disch := omega) only [eY, gN, dX, stepR_skip, fO, gI, fP, gJ, gC, gE, gR, fZ, eU, fX, fU, gD, fR, fN, fW, fS, fV, gK, gG, fQ, fC, fY, gA, fL, iP, iS, iL, iT, iR, iM, iN, iQ, iO, eP, Result.ok.injEq, Next.value.injEq, true_and, and_true, fI, fJ, gB, fM, gH, gQ, ZO, fD, fF, fG, fE, eZ, eT, fB, eX, eQ, eH, if_true, if_false, ZM, ZS, ZN, ZP, ZR, ZQ, ZL, ZK, eA, dV, aB, dE, dJ, cB, eB, eS, eD, dN, eE, fA, dG, eI, bR, dL, bC, dR, aL, aH, eK, aZ, cI, eJ, aG, eL, dQ, aR, bD, eC, bG, bF, bJ, aP, aM, cG, fH, dY, cJ, cA, dB, cH, dT, bB, eM, bX, dS, bQ, bA, bT, aC, bU, bP, cF, bY, aU, aV, aX, bV, dD, cP, bO, aY, aN, aK, bH, aD, dC, dW, aJ, aI, aT, aF, cY, aE, cL, bW, bE, aO, cM, bZ, aA, dF, cU, cV, cC, dK, cD, dM, dU, cN, eF, eN, bN, aS, dZ, bS, aQ, bM, dI, dA, cS, cO, cR, bK, bL, cX, dO, cQ, dH, cZ, d1, hcell, e]
    exact ⟨l.length - (i + 1), by omega, i + 1, rfl, by omega, rfl, ht⟩
  | false =>
    rw [hb] at hcell ht
    have e : (false == false) = true := rfl
    have d2 : decide ((0 : Int) <= (i : Int)) = true := by simp
    have hall : l.contains false = true := by
     have hm : false ∈ l.take (i + 1) := by simpa using ht
     simpa using adL hm
    rw [hall]
    simp (disch := omega) only [eY, gN, dX, stepR_skip, fO, gI, fP, gJ, gC, gE, gR, fZ, eU, fX, fU, gD, fR, fN, fW, fS, fV, gK, gG, fQ, fC, fY, gA, fL, iP, iS, iL, iT, iR, iM, iN, iQ, iO, eP, Result.ok.injEq, Next.value.injEq, true_and, and_true, fI, fJ, gB, fM, gH, gQ, ZO, fD, fF, fG, fE, eZ, eT, fB, eX, eQ, eH, if_true, if_false, ZM, ZS, ZN, ZP, ZR, ZQ, ZL, ZK, eA, dV, aB, dE, dJ, cB, eB, eS, eD, dN, eE, fA, dG, eI, bR, dL, bC, dR, aL, aH, eK, aZ, cI, eJ, aG, eL, dQ, aR, bD, eC, bG, bF, bJ, aP, aM, cG, fH, dY, cJ, cA, dB, cH, dT, bB, eM, bX, dS, bQ, bA, bT, aC, bU, bP, cF, bY, aU, aV, aX, bV, dD, cP, bO, aY, aN, aK, bH, aD, dC, dW, aJ, aI, aT, aF, cY, aE, cL, bW, bE, aO, cM, bZ, aA, dF, cU, cV, cC, dK, cD, dM, dU, cN, eF, eN, bN, aS, dZ, bS, aQ, bM, dI, dA, cS, cO, cR, bK, bL, cX, dO, cQ, dH, cZ, d1, hcell, e, d2]
 .have d1 : decide ((i : Int) < (l.length : Int)) = false := by simp; omega
  rw [ZY (by omega)] at hc
  rw [hc]
  unfold pM
  have d2 : decide ((0 : Int) <= -1) = false := rfl
  simp (disch := omega) only [eY, gN, dX, stepR_skip, fO, gI, fP, gJ, gC, gE, gR, fZ, eU, fX, fU, gD, fR, fN, fW, fS, fV, gK, gG, fQ, fC, fY, gA, fL, iP, iS, iL, iT, iR, iM, iN, iQ, iO, eP, Result.ok.injEq, Next.value.injEq, true_and, and_true, fI, fJ, gB, fM, gH, gQ, ZO, fD, fF, fG, fE, eZ, eT, fB, eX, eQ, eH, if_true, if_false, ZM, ZS, ZN, ZP, ZR, ZQ, ZL, ZK, eA, dV, aB, dE, dJ, cB, eB, eS, eD, dN, eE, fA, dG, eI, bR, dL, bC, dR, aL, aH, eK, aZ, cI, eJ, aG, eL, dQ, aR, bD, eC, bG, bF, bJ, aP, aM, cG, fH, dY, cJ, cA, dB, cH, dT, bB, eM, bX, dS, bQ, bA, bT, aC, bU, bP, cF, bY, aU, aV, aX, bV, dD, cP, bO, aY, aN, aK, bH, aD, dC, dW, aJ, aI, aT, aF, cY, aE, cL, bW, bE, aO, cM, bZ, aA, dF, cU, cV, cC, dK, cD, dM, dU, cN, eF, eN, bN, aS, dZ, bS, aQ, bM, dI, dA, cS, cO, cR, bK, bL, cX, dO, cQ, dH, cZ, d1, d2]
theorem T7 {v u : adS} {l m : List UInt8} {w : adR} (h : Bs w v l) (hu : Bs w u m) (hl : l.length <= 1000000000) (hm : m.length <= 1000000000) :
 gS pg qG #[v, u] w (fun r w' => r = .bool (l == m) /\ gT w w' jL) := by
 refine G8 ?_
 obtain ⟨RR, hRR⟩ : ∃ RR : adS -> adR -> Prop, RR = fun r w' => r = .bool (l == m) /\ gT w w' jL := ⟨_, rfl⟩
 rw [<- hRR]
 unfold Ez uV uG
 obtain ⟨va, vc, rfl, _⟩ := h.len
 obtain ⟨ua, uc, rfl, _⟩ := hu.len
 rw [ZT] at h ⊢
 rw [ZT] at hu ⊢
 by_cases hne : l.length = m.length
 rotate_left
 .have d1 : (((l.length : Nat) : Int) != ((m.length : Nat) : Int)) = true := by rw [bne_iff_ne]; omega
  have e : (l == m) = false := beq_eq_false_iff_ne.2 fun e => hne (by rw [e])
  simp (disch := omega) only [eY, gN, dX, stepR_skip, fO, gI, fP, gJ, gC, gE, gR, fZ, eU, fX, fU, gD, fR, fN, fW, fS, fV, gK, gG, fQ, fC, fY, gA, fL, iP, iS, iL, iT, iR, iM, iN, iQ, iO, eP, Result.ok.injEq, Next.value.injEq, true_and, and_true, fI, fJ, gB, fM, gH, gQ, ZO, fD, fF, fG, fE, eZ, eT, fB, eX, eQ, eH, if_true, if_false, ZM, ZS, ZN, ZP, ZR, ZQ, ZL, ZK, eA, dV, aB, dE, dJ, cB, eB, eS, eD, dN, eE, fA, dG, eI, bR, dL, bC, dR, aL, aH, eK, aZ, cI, eJ, aG, eL, dQ, aR, bD, eC, bG, bF, bJ, aP, aM, cG, fH, dY, cJ, cA, dB, cH, dT, bB, eM, bX, dS, bQ, bA, bT, aC, bU, bP, cF, bY, aU, aV, aX, bV, dD, cP, bO, aY, aN, aK, bH, aD, dC, dW, aJ, aI, aT, aF, cY, aE, cL, bW, bE, aO, cM, bZ, aA, dF, cU, cV, cC, dK, cD, dM, dU, cN, eF, eN, bN, aS, dZ, bS, aQ, bM, dI, dA, cS, cO, cR, bK, bL, cX, dO, cQ, dH, cZ, d1]
  rw [hRR]
  exact ⟨by rw [e], gT.refl _ _⟩
 have d1 : (((l.length : Nat) : Int) != ((m.length : Nat) : Int)) = false := by rw [bne_eq_false_iff_eq]; omega
 simp (disch := omega) only [eY, gN, dX, stepR_skip, fO, gI, fP, gJ, gC, gE, gR, fZ, eU, fX, fU, gD, fR, fN, fW, fS, fV, gK, gG, fQ, fC, fY, gA, fL, iP, iS, iL, iT, iR, iM, iN, iQ, iO, eP, Result.ok.injEq, Next.value.injEq, true_and, and_true, fI, fJ, gB, fM, gH, gQ, ZO, fD, fF, fG, fE, eZ, eT, fB, eX, eQ, eH, if_true, if_false, ZM, ZS, ZN, ZP, ZR, ZQ, ZL, ZK, eA, dV, aB, dE, dJ, cB, eB, eS, eD, dN, eE, fA, dG, eI, bR, dL, bC, dR, aL, aH, eK, aZ, cI, eJ, aG, eL, dQ, aR, bD, eC, bG, bF, bJ, aP, aM, cG, fH, dY, cJ, cA, dB, cH, dT, bB, eM, bX, dS, bQ, bA, bT, aC, bU, bP, cF, bY, aU, aV, aX, bV, dD, cP, bO, aY, aN, aK, bH, aD, dC, dW, aJ, aI, aT, aF, cY, aE, cL, bW, bE, aO, cM, bZ, aA, dF, cU, cV, cC, dK, cD, dM, dU, cN, eF, eN, bN, aS, dZ, bS, aQ, bM, dI, dA, cS, cO, cR, bK, bL, cX, dO, cQ, dH, cZ, d1]
 unfold uW vL uR uZ vA
 simp (disch := omega) only [eY, gN, dX, stepR_skip, fO, gI, fP, gJ, gC, gE, gR, fZ, eU, fX, fU, gD, fR, fN, fW, fS, fV, gK, gG, fQ, fC, fY, gA, fL, iP, iS, iL, iT, iR, iM, iN, iQ, iO, eP, Result.ok.injEq, Next.value.injEq, true_and, and_true, fI, fJ, gB, fM, gH, gQ, ZO, fD, fF, fG, fE, eZ, eT, fB, eX, eQ, eH, if_true, if_false, ZM, ZS, ZN, ZP, ZR, ZQ, ZL, ZK, eA, dV, aB, dE, dJ, cB, eB, eS, eD, dN, eE, fA, dG, eI, bR, dL, bC, dR, aL, aH, eK, aZ, cI, eJ, aG, eL, dQ, aR, bD, eC, bG, bF, bJ, aP, aM, cG, fH, dY, cJ, cA, dB, cH, dT, bB, eM, bX, dS, bQ, bA, bT, aC, bU, bP, cF, bY, aU, aV, aX, bV, dD, cP, bO, aY, aN, aK, bH, aD, dC, dW, aJ, aI, aT, aF, cY, aE, cL, bW, bE, aO, cM, bZ, aA, dF, cU, cV, cC, dK, cD, dM, dU, cN, eF, eN, bN, aS, dZ, bS, aQ, bM, dI, dA, cS, cO, cR, bK, bL, cX, dO, cQ, dH, cZ]
 refine kC.rule (fun n (t : adS) w' => ∃ i : Nat, n = l.length - i /\ i <= l.length /\ t = .int .i64 (i : Nat) /\ l.take i = m.take i /\ gT w w' jL) l.length ⟨0, rfl, by omega, rfl, rfl, gT.refl _ _⟩ ?_
 rintro n t w' ⟨i, rfl, hi, rfl, hc, x'⟩
 unfold pS
 by_cases hlt : i < l.length
 .have d2 : decide ((i : Int) < (l.length : Int)) = true := by simp; omega
  have xd : gT w (dr w') jL := x'.seq (gT.dr _ _)
  have cell : ∀ {w' : adR}, gT w w' jL -> ∃ b off b' off', va = some ⟨b, off, none⟩ /\ ua = some ⟨b', off', none⟩ /\ w'.cell? ⟨b, off + i, none⟩ = some (.int .u8 ((l[i]'hlt).toNat : Nat)) /\ w'.cell? ⟨b', off' + i, none⟩ = some (.int .u8 ((m[i]'(by omega)).toNat : Nat)) := fun {w'} x => by
   obtain ⟨b, off, c', hv, hc', hcell⟩ := (h.ext x (jI _)).openV (by rw [ZT]; omega)
   obtain ⟨b', off', c'', hv', hc'', hcell'⟩ := (hu.ext x (jI _)).openV (by rw [ZT]; omega)
   have g1 := hcell i (by rw [ZT]; exact hlt)
   have g2 := hcell' i (by rw [ZT]; omega)
   rw [adG] at g1 g2
   rw [ZT] at hv hv'
   cases hv
   cases hv'
   exact ⟨_, _, _, _, rfl, rfl, g1, g2⟩
  obtain ⟨b, off, b', off', rfl, rfl, g1, g2⟩ := cell x'
  obtain ⟨_, _, _, _, e1, e2, g1', g2'⟩ := cell xd
  cases e1
  cases e2
  by_cases hq : l[i]'hlt = m[i]'(by omega)
  .have d3 : ((((l[i]'hlt).toNat : Nat) : Int) != (((m[i]'(by omega)).toNat : Nat) : Int)) = false := by rw [hq]; simp
   simp (disch := omega) only [eY, gN, dX, stepR_skip, fO, gI, fP, gJ, gC, gE, gR, fZ, eU, fX, fU, gD, fR, fN, fW, fS, fV, gK, gG, fQ, fC, fY, gA, fL, iP, iS, iL, iT, iR, iM, iN, iQ, iO, eP, Result.ok.injEq, Next.value.injEq, true_and, and_true, fI, fJ, gB, fM, gH, gQ, ZO, fD, fF, fG, fE, eZ, eT, fB, eX, eQ, eH, if_true, if_false, ZM, ZS, ZN, ZP, ZR, ZQ, ZL, ZK, eA, dV, aB, dE, dJ, cB, eB, eS, eD, dN, eE, fA, dG, eI, bR, dL, bC, dR, aL, aH, eK, aZ, cI, eJ, aG, eL, dQ, aR, bD, eC, bG, bF, bJ, aP, aM, cG, fH, dY, cJ, cA, dB, cH, dT, bB, eM, bX, dS, bQ, bA, bT, aC, bU, bP, cF, bY, aU, aV, aX, bV, dD, cP, bO, aY, aN, aK, bH, aD, dC, dW, aJ, aI, aT, aF, cY, aE, cL, bW, bE, aO, cM, bZ, aA, dF, cU, cV, cC, dK, cD, dM, dU, cN, eF, eN, bN, aS, dZ, bS, aQ, bM, dI, dA, cS, cO, cR, bK, bL, cX, dO, cQ, dH, cZ, d2, g1, g2, g1', g2', d3]
   refine ⟨l.length - (i + 1), by omega, i + 1, rfl, by omega, rfl, ?_, xd⟩
   rw [abH hlt, abH (by omega), hc, hq]
  .have d3 : ((((l[i]'hlt).toNat : Nat) : Int) != (((m[i]'(by omega)).toNat : Nat) : Int)) = true := by
    rw [bne_iff_ne]
    intro he
    exact hq (UInt8.toNat_inj.1 (by exact_mod_cast he))
   have e : (l == m) = false := beq_eq_false_iff_ne.2 fun e => hq (by subst e; rfl)
   simp (disch := omega) only [eY, gN, dX, stepR_skip, fO, gI, fP, gJ, gC, gE, gR, fZ, eU, fX, fU, gD, fR, fN, fW, fS, fV, gK, gG, fQ, fC, fY, gA, fL, iP, iS, iL, iT, iR, iM, iN, iQ, iO, eP, Result.ok.injEq, Next.value.injEq, true_and, and_true, fI, fJ, gB, fM, gH, gQ, ZO, fD, fF, fG, fE, eZ, eT, fB, eX, eQ, eH, if_true, if_false, ZM, ZS, ZN, ZP, ZR, ZQ, ZL, ZK, eA, dV, aB, dE, dJ, cB, eB, eS, eD, dN, eE, fA, dG, eI, bR, dL, bC, dR, aL, aH, eK, aZ, cI, eJ, aG, eL, dQ, aR, bD, eC, bG, bF, bJ, aP, aM, cG, fH, dY, cJ, cA, dB, cH, dT, bB, eM, bX, dS, bQ, bA, bT, aC, bU, bP, cF, bY, aU, aV, aX, bV, dD, cP, bO, aY, aN, aK, bH, aD, dC, dW, aJ, aI, aT, aF, cY, aE, cL, bW, bE, aO, cM, bZ, aA, dF, cU, cV, cC, dK, cD, dM, dU, cN, eF, eN, bN, aS, dZ, bS, aQ, bM, dI, dA, cS, cO, cR, bK, bL, cX, dO, cQ, dH, cZ, d2, g1, g2, g1', g2', d3]
   rw [hRR]
   exact ⟨by rw [e], xd⟩
 .have d2 : decide ((i : Int) < (l.length : Int)) = false := by simp; omega
  rw [ZY (by omega), ZY (by omega)] at hc
  unfold pR
  simp (disch := omega) only [eY, gN, dX, stepR_skip, fO, gI, fP, gJ, gC, gE, gR, fZ, eU, fX, fU, gD, fR, fN, fW, fS, fV, gK, gG, fQ, fC, fY, gA, fL, iP, iS, iL, iT, iR, iM, iN, iQ, iO, eP, Result.ok.injEq, Next.value.injEq, true_and, and_true, fI, fJ, gB, fM, gH, gQ, ZO, fD, fF, fG, fE, eZ, eT, fB, eX, eQ, eH, if_true, if_false, ZM, ZS, ZN, ZP, ZR, ZQ, ZL, ZK, eA, dV, aB, dE, dJ, cB, eB, eS, eD, dN, eE, fA, dG, eI, bR, dL, bC, dR, aL, aH, eK, aZ, cI, eJ, aG, eL, dQ, aR, bD, eC, bG, bF, bJ, aP, aM, cG, fH, dY, cJ, cA, dB, cH, dT, bB, eM, bX, dS, bQ, bA, bT, aC, bU, bP, cF, bY, aU, aV, aX, bV, dD, cP, bO, aY, aN, aK, bH, aD, dC, dW, aJ, aI, aT, aF, cY, aE, cL, bW, bE, aO, cM, bZ, aA, dF, cU, cV, cC, dK, cD, dM, dU, cN, eF, eN, bN, aS, dZ, bS, aQ, bM, dI, dA, cS, cO, cR, bK, bL, cX, dO, cQ, dH, cZ, d2]
  rw [hRR]
  exact ⟨by rw [hc]; simp, x'⟩
end Go.Proofs.YteelnmpbnaohpaaDoor
namespace Go.En
open Go
section
variable {P : Program} {w : adR} {t e : TypeId}
theorem Jj {i : TypeInfo} (hu : P.underlying t = some (.slice e)) (hi : P.info? e = some i)
 {K : adS -> adR -> Prop} (hk : ∀ w', jH w' w.heap.size [] -> gT w w' jL -> w'.heap.size = w.heap.size + 1 -> K (.slice (some ⟨w.heap.size, 0, none⟩) 0 0) w') :
 eY P (iJ t 0 []) w K := by
 have : (iJ t 0 []).run P w = .ok (.value (.slice (some ⟨w.heap.size, 0, none⟩) 0 0)) (w.alloc (.cells ([] : List adS).toArray e)) := by
  unfold iJ; rw [nJ]
  have h1 : ¬ (0 > 2 ^ 24) := by omega
  have e : ∀ f : Nat -> adS, Array.map f (Array.range 0) = #[] := fun f => by simp
  simp only [Instr.buildSlice, underlying, pure_bind, Sem.run_bind, run_program, Result.andThen_ok, hu, Sem.run_pure, kB hi, Nat.zero_mul, h1, if_false, if_true, newRow, run_newObj, Instr.fill, e]
  rfl
 unfold eY
 rw [this]
 exact hk _ (jH.alloc _ _ _) (gT.alloc _ _ _) (by simp)
def At (v : adS) (b : Nat) : Prop := ∀ M : Nat -> Prop, ¬ M b -> ¬ wC v M
theorem At.nil (c b : Nat) (a : Option Addr) : At (.slice a 0 c) b := fun M h => by unfold wC; split <;> simp_all
theorem At.at (b o n c : Nat) : At (.slice (some ⟨b, o, none⟩) n c) b := fun M h => by
 unfold wC; split
 .rename_i x m _ e
  obtain ⟨rfl, _⟩ : (⟨b, o, none⟩ : Addr) = x /\ _ := by simpa using e
  exact h
 .simp
theorem zF.at' {w : adR} {base sz n : Nat} {v : adS} {l : List adS} (h : zF w base sz v n l) (hb : base < w.heap.size) : ∃ b, base <= b /\ b < w.heap.size /\ At v b := by
 rcases h.2 with ⟨rfl, rfl⟩ | ⟨b, c, rest, rfl, h2, h3, h4, h5⟩
 .exact ⟨base, Z2 _, hb, At.nil _ _ _⟩
 .exact ⟨b, h2, h3.lt, At.at _ _ _ _⟩
end
end Go.En
namespace Go.Proofs.YteelnmpbnaohpaaDoor
open Go Go.En Go.Pu
set_option maxRecDepth 4000
theorem Vn (a b : Nat) : ((a : Int)).fdiv (b : Int) = ((a / b : Nat) : Int) := by rw [Int.fdiv_eq_ediv_of_nonneg _ (by omega)] <;> rfl
theorem WH (x j : Nat) (hj : j <= 64) : ((x : Int)).fdiv (2 ^ (min (j : Nat) IntKind.u64.bits)) = ((x / 2 ^ j : Nat) : Int) := by
 have e : min j IntKind.u64.bits = j := by simp only [IntKind.bits]; omega
 rw [e, <- Vn]; simp
theorem NF {v : adS} {l : List UInt8} {w : adR} (h : Bs w v l) (hl : l.length <= 1000000000) :
 gS pg kS #[v] w (fun r w' => zF w' w.heap.size 1 r l.length (l.map nU) /\ gT w w' jL) := by
 refine Ek ?_
 have h1 := h
 obtain ⟨a, n, c, rfl, hn, hc, hh⟩ := h
 rw [ZT] at hn
 unfold BZ qX
 cases a with
 | none =>
   have h0 : l = [] := by
    cases l with
    | nil => rfl
    | cons x l => obtain ⟨b, off, h, _⟩ := hh (by simp at hn; omega); cases h
   subst h0
   simp (disch := omega) only [eY, dC, ZP, dX, eQ]
   exact ⟨zF.nil _ _ _, gT.refl _ _⟩
 | some x =>
   simp (disch := omega) only [eY, dC, ZN, dX, eH]
   refine Jj Tryd.underlying22 I8 fun w1 o1 x1 s1 => ?_
   have hcl1 := (h1.ext x1 (jI _)).cl
   rw [ZT] at hcl1
   have hos : zF w1 w.heap.size 1 (.slice (some ⟨w.heap.size, 0, none⟩) 0 0) 0 [] := ⟨rfl, .inr ⟨_, 0, [], rfl, Z2 _, o1, rfl, Z2 _⟩⟩
   refine BM hos hcl1 (EV _) x1.size (by omega) fun v3 w3 o3 x3 => ?_
   rw [ZS, Z9] at o3
   exact ⟨o3, x1.trans x3 fun b hb h => Nat.not_le_of_lt hb h⟩
def XL (v : adS) (lo hi : Nat) : Prop := ∀ M : Nat -> Prop, (∀ b, lo <= b -> b < hi -> ¬ M b) -> ¬ wC v M
theorem zF.atI {w : adR} {base sz n : Nat} {v : adS} {l : List adS} (h : zF w base sz v n l) : XL v base w.heap.size := by
 intro M hM
 rcases h.2 with ⟨rfl, rfl⟩ | ⟨b, c, rest, rfl, h2, h3, h4, h5⟩
 .exact fun h => h
 .exact At.at b 0 n c M (hM b h2 h3.lt)
def Zq (w : adR) (lo hi : Nat) (l : List UInt8) (st : Nat) : Prop := ∃ v, jH w hi [v, .int .i64 st] /\ Bs w v l /\ XL v lo hi
theorem Zq.ext {w w' : adR} {lo hi st : Nat} {l : List UInt8} {M : Nat -> Prop} (h : Zq w lo hi l st) (hx : gT w w' M) (hM : ∀ b, lo <= b -> b <= hi -> ¬ M b) (hlh : lo <= hi) : Zq w' lo hi l st := by
 obtain ⟨v, h1, h2, h3⟩ := h
 exact ⟨v, h1.ext hx (hM _ hlh (Z2 _)), h2.ext hx (h3 M fun b hb hh => hM b hb (by omega)), h3⟩
theorem XL.sub {a : Option Addr} {n c m c' k sz lo hi : Nat} (h : XL (.slice a n c) lo hi) (hm : m <= n) : XL (.slice (jR a c k sz) m c') lo hi := by
 intro M hM hin
 cases m with
 | zero => unfold wC at hin; split at hin <;> simp_all
 | succ m =>
   obtain ⟨n', rfl⟩ : ∃ n', n = n' + 1 := ⟨n - 1, by omega⟩
   have h1 := h M hM
   cases a with
   | none => unfold jR at hin; split at hin <;> exact hin
   | some x =>
     unfold jR at hin
     have h2 : M x.block := by
      split at hin
      .exact hin
      .rw [aaS] at hin
       have e : (x.add (k * sz)).block = x.block := by unfold Addr.add; split <;> rfl
       have h3 : M (x.add (k * sz)).block := hin
       rwa [e] at h3
     exact h1 h2
def UD (v : adS) (S : Nat -> Prop) : Prop := ∀ M : Nat -> Prop, (∀ b, S b -> ¬ M b) -> ¬ wC v M
theorem XL.toS {v : adS} {lo hi : Nat} {S : Nat -> Prop} (h : XL v lo hi) (hS : ∀ b, lo <= b -> b < hi -> S b) : UD v S := fun M hM => h M fun b h1 h2 => hM b (hS b h1 h2)
theorem UD.mono {v : adS} {S T : Nat -> Prop} (h : UD v S) (hT : ∀ b, S b -> T b) : UD v T := fun M hM => h M fun b hb => hM b (hT b hb)
theorem UD.nil (S : Nat -> Prop) : UD (.slice none 0 0) S := fun M _ h => h
theorem UD.sub {a : Option Addr} {n c m c' k mx sz : Nat} {S : Nat -> Prop} (h : UD (.slice a n c) S) (hm : m <= n) : UD (.slice (jR a mx k sz) m c') S := by
 intro M hM hin
 cases m with
 | zero => unfold wC at hin; split at hin <;> simp_all
 | succ m =>
   obtain ⟨n', rfl⟩ : ∃ n', n = n' + 1 := ⟨n - 1, by omega⟩
   have h1 := h M hM
   cases a with
   | none => unfold jR at hin; split at hin <;> exact hin
   | some x =>
     unfold jR at hin
     have h2 : M x.block := by
      split at hin
      .exact hin
      .rw [aaS] at hin
       have e : (x.add (k * sz)).block = x.block := by unfold Addr.add; split <;> rfl
       have h3 : M (x.add (k * sz)).block := hin
       rwa [e] at h3
     exact h1 h2
theorem YR {w : adR} {a : Option Addr} {n c : Nat} {l : List adS} (h : Sl w (.slice a n c) l) {k : Nat} (hk : k <= n) : Sl w (.slice (jR a k 0 1) (k - 0) (k - 0)) (l.take k) := by
 obtain ⟨a', n', c', e, hn, hc, h⟩ := h
 cases e
 refine ⟨_, _, _, rfl, by rw [Z5]; omega, Z2 _, fun h0 => ?_⟩
 obtain ⟨b, off, rfl, h2⟩ := h (by omega)
 have hs : jR (some ⟨b, off, none⟩) k 0 1 = some ⟨b, off + 0 * 1, none⟩ := by unfold jR; rw [if_neg (by omega)] <;> rfl
 refine ⟨b, off, by rw [hs]; simp, fun i hi => ?_⟩
 rw [abM (by omega)]
 exact h2 i (by omega)
def UL (w : adR) (lo hi p : Nat) (l : List UInt8) (e : Int) : Prop := lo <= p /\ p < hi /\ ∃ v, jH w p [v, .int .i64 e] /\ Bs w v l /\ UD v (fun b => lo <= b /\ b < hi /\ b ≠ p)
theorem UL.ext {w w' : adR} {lo hi p : Nat} {l : List UInt8} {e : Int} {M : Nat -> Prop} (h : UL w lo hi p l e) (x : gT w w' M) (hM : ∀ b, lo <= b -> b < hi -> ¬ M b) : UL w' lo hi p l e := by
 obtain ⟨h0, h0', v, h1, h2, h3⟩ := h
 exact ⟨h0, h0', v, h1.ext x (hM _ h0 h0'), h2.ext x (h3 M fun b hb => hM b hb.1 hb.2.1), h3⟩
theorem UL.lt {w : adR} {lo hi p : Nat} {l : List UInt8} {e : Int} (h : UL w lo hi p l e) : p < w.heap.size := by
 obtain ⟨_, _, v, h1, _⟩ := h; exact h1.lt
theorem UL.up {w : adR} {lo hi hi' p : Nat} {l : List UInt8} {e : Int} (h : UL w lo hi p l e) (hh : hi <= hi') : UL w lo hi' p l e := by
 obtain ⟨h0, h0', v, h1, h2, h3⟩ := h
 exact ⟨h0, by omega, v, h1, h2, h3.mono fun b hb => ⟨hb.1, by omega, hb.2.2⟩⟩
theorem RG {v : adS} {l : List UInt8} {w : adR} (h : Bs w v l) (hl : l.length <= 1000000000) :
 gS pg rO #[v] w (fun r w' => ∃ p, r = .pointer (some ⟨p, 0, none⟩) /\ UL w' w.heap.size w'.heap.size p l 0 /\ gT w w' jL) := by
 refine Ic ?_
 unfold Ga wO
 refine (NF h hl).mono ?_
 rintro r w1 ⟨ho, x1⟩
 have hat := zF.atI ho
 have hs := ho.sl
 obtain ⟨va, vc, rfl⟩ := ho.len
 simp (disch := omega) only [eY, bN, dX]
 refine oC fun w2 o2 x2 s2 => ?_
 have o2 : jH w2 w1.heap.size [.slice va l.length vc, .int .i64 0] := o2
 have hz := o2.lt
 exact ⟨w1.heap.size, rfl, ⟨x1.size, hz, _, o2, hs.ext x2 (jI _), hat.toS fun b h1 h2 => ⟨h1, by omega, by omega⟩⟩, x1.seq x2⟩
def QQ (l : List UInt8) (e : Int) (n : Nat) : List UInt8 × List UInt8 × Int := if e ≠ 0 then ([], l, e) else if l.length < n then ([], l, 10) else (l.take n, l.drop n, 0)
theorem VP {lo hi p n : Nat} {l : List UInt8} {e : Int} {w : adR} (h : UL w lo hi p l e) (hl : l.length <= 1000000000) (hn : n <= 1000000000) :
 gS pg pT #[.pointer (some ⟨p, 0, none⟩), .int .i64 n, .bool true] w (fun r w' => Bs w' r (QQ l e n).1 /\ UD r (fun b => lo <= b /\ b < hi /\ b ≠ p) /\ UL w' lo hi p (QQ l e n).2.1 (QQ l e n).2.2 /\ gT w w' (fun y => y = p)) := by
 refine FT ?_
 unfold DY tC
 have h' := h
 obtain ⟨h0, h0', v, o, hb, hat⟩ := h'
 obtain ⟨va, vc, rfl, hvc⟩ := hb.len
 rw [ZT] at hb hat o hvc
 have c0 := o.cell (off := 0)
 have c1 := o.cell (off := 1)
 simp only [ZK, ZL] at c0 c1
 by_cases he : e = 0
 rotate_left
 .have n1 : (e != 0) = true := by simpa using he
  have ht : QQ l e n = ([], l, e) := by unfold QQ; rw [if_pos he]
  rw [ht]
  simp (disch := omega) only [eY, fL, fQ, ZR, dX, bK, ZS, bL, dY, eH, dT, c1, eP, fR, n1, eQ]
  exact ⟨Sl.nil _, UD.nil _, h, gT.refl _ _⟩
 subst he
 have n1 : ((0 : Int) != 0) = false := rfl
 by_cases hsh : l.length < n
 .have d1 : decide ((l.length : Int) < (n : Int)) = true := by simp; omega
  have ht : QQ l 0 n = ([], l, 10) := by unfold QQ; rw [if_neg (by decide), if_pos hsh]
  rw [ht]
  simp (disch := omega) only [eY, fL, fQ, ZR, dX, bK, ZS, bL, dY, eH, dT, c1, eP, fR, n1, c0, eA, fS, d1, eQ]
  refine CH o rfl (by simp) fun w1 o1 x1 s1 => ?_
  simp only [Z7, aaR] at o1
  exact ⟨Sl.nil _, UD.nil _, ⟨h0, h0', _, o1, hb.ext x1 (hat _ fun b hb => hb.2.2), hat⟩, x1⟩
 .have d1 : decide ((l.length : Int) < (n : Int)) = false := by simp; omega
  have ht : QQ l 0 n = (l.take n, l.drop n, 0) := by unfold QQ; rw [if_neg (by decide), if_neg hsh]
  rw [ht]
  simp (disch := omega) only [eY, fL, fQ, ZR, dX, bK, ZS, bL, dY, eH, dT, c1, eP, fR, n1, c0, eA, fS, d1, cX, ZO, cY]
  refine MT o rfl (by simp [one]) fun w1 o1 x1 s1 => ?_
  simp only [Z7, aaR] at o1
  have hbn : Bs w (.slice (jR va n 0 1) (n - 0) (n - 0)) (l.take n) := by
   have := YR hb (k := n) (by omega)
   rwa [<- acR] at this
  have hbd : Bs w (.slice (jR va vc n 1) (l.length - n) (vc - n)) (l.drop n) := by
   have := hb.drop' (k := n) (by omega)
   rwa [<- acE] at this
  have hn1 := hat.sub (mx := n) (k := 0) (sz := 1) (m := n - 0) (c' := n - 0) (by omega)
  have hn2 := hat.sub (mx := vc) (k := n) (sz := 1) (m := l.length - n) (c' := vc - n) (by omega)
  exact ⟨hbn.ext x1 (hn1 _ fun b hb => hb.2.2), hn1, ⟨h0, h0', _, o1, hbd.ext x1 (hn2 _ fun b hb => hb.2.2), hn2⟩, x1⟩
theorem Oz {lo hi p n : Nat} {l : List UInt8} {e : Int} {w : adR} (h : UL w lo hi p l e) (hl : l.length <= 1000000000) (hn : 1 <= n /\ n <= 8) :
 gS pg mH #[.pointer (some ⟨p, 0, none⟩), .int .i64 n] w (fun r w' => r = .int .u64 (FD (QQ l e n).1 : Nat) /\ UL w' lo hi p (QQ l e n).2.1 (QQ l e n).2.2 /\ gT w w' (fun y => y = p)) := by
 refine Ee ?_
 unfold Bx qY qZ rA qW qU
 have d1 : decide ((1 : Int) <= (n : Int)) = true := by simp; omega
 have d2 : decide ((n : Int) <= 8) = true := by simp; omega
 simp (disch := omega) only [eY, aS, ZN, fV, d1, dX, fD, fC, if_true, eZ, fW, d2, eH]
 refine (VP h hl (by omega)).mono ?_
 rintro r w1 ⟨hb, hat, hr, x1⟩
 obtain ⟨t, ht⟩ : ∃ t, t = (QQ l e n).1 := ⟨_, rfl⟩
 have htl : t.length <= 8 := by
  rw [ht]; unfold QQ
  split
  .simp
  .split
   .simp
   .simp; omega
 rw [<- ht] at hb ⊢
 obtain ⟨va, vc, rfl, hvc⟩ := hb.len
 rw [ZT] at hb hvc hat
 simp (disch := omega) only [ZT, eA, dX]
 unfold rC qO
 refine kC.rule (fun m s w' => ∃ i : Nat, m = t.length - i /\ i <= t.length /\ s = (.int .u64 (FD (t.take i) : Nat), .int .i64 i) /\ w' = w1) t.length ⟨0, rfl, by omega, rfl, rfl⟩ ?_
 rintro m s w2 ⟨i, rfl, hi, rfl, hw⟩
 rw [hw]; clear hw w2
 unfold nR
 by_cases hlt : i < t.length
 .have d3 : decide ((i : Int) < (t.length : Int)) = true := by simp; omega
  obtain ⟨c, hc⟩ : ∃ c, c = t[i]'hlt := ⟨_, rfl⟩
  have htk : t.take (i + 1) = t.take i ++ [c] := by rw [acZ, ZU hlt, <- hc] <;> rfl
  have hor := Wx (t.take i) c
  rw [<- htk, Z5, aaM (by omega)] at hor
  have hcl : c.toNat < 256 := UInt8.toNat_lt c
  obtain ⟨b, off, c', hv, hcc, hcell⟩ := hb.openV (by rw [ZT]; omega)
  have g1 := hcell i (by rw [ZT]; exact hlt)
  rw [ZT] at hv
  cases hv
  rw [adG, <- hc] at g1
  simp only [nU] at g1
  generalize c.toNat = cx at *
  have hp : 2 ^ (8 * i) <= 2 ^ 56 := adP (by omega) (by omega)
  have hm : cx * 2 ^ (8 * i) <= 255 * 2 ^ 56 := Nat.mul_le_mul (by omega) hp
  have hb0 := Ho (t.take i)
  have hb1 := Ho (t.take (i + 1))
  rw [Z5, aaM (by omega)] at hb0 hb1
  have hq : 256 ^ i <= 256 ^ 7 := adP (by omega) (by omega)
  have e0 : ((8 : Int) * (i : Int)) = ((8 * i : Nat) : Int) := by omega
  have e5 : IntKind.u64.wrap ((cx : Int) * 2 ^ (min (8 * i) IntKind.u64.bits)) = ((cx * 2 ^ (8 * i) : Nat) : Int) := by
   rw [show min (8 * i) IntKind.u64.bits = 8 * i from aaM (by have : IntKind.u64.bits = 64 := rfl
                                                              omega)]
   have e : (cx : Int) * 2 ^ (8 * i) = ((cx * 2 ^ (8 * i) : Nat) : Int) := by simp
   rw [e]
   exact fJ (by omega) (by omega)
  have e6 := Wz (a := FD (t.take i)) (b := cx * 2 ^ (8 * i)) (by omega) (by omega)
  rw [hor] at e6
  have e7 : IntKind.u64.wrap (cx : Int) = (cx : Int) := fJ (by omega) (by omega)
  simp (disch := omega) only [eY, fN, d3, eB, ZO, fP, e0, fI, fO, dX, dZ, fJ, eS, g1, eP, cM, e7, fX, e5, gR, e6, and_true, eQ]
  exact ⟨t.length - (i + 1), by omega, i + 1, rfl, by omega, rfl⟩
 .have d3 : decide ((i : Int) < (t.length : Int)) = false := by simp; omega
  obtain rfl : i = t.length := by omega
  simp (disch := omega) only [eY, fN, d3, fP, fI, fO, dX, dZ, fJ, eH]
  unfold nP
  rw [List.take_length]
  exact ⟨rfl, hr, x1⟩
end Go.Proofs.YteelnmpbnaohpaaDoor
namespace Go.Pu
open Go Go.En
structure Ze (B : List Bool) (l : List UInt8) : Prop where
 len : l.length = (B.length + 7) / 8
 bits : XG l = B ++ List.replicate (8 * l.length - B.length) false
end Go.Pu
namespace Go.Proofs.YteelnmpbnaohpaaDoor
open Go Go.En Go.Pu
set_option maxRecDepth 4000
theorem wI {w w' : adR} {S M : Nat -> Prop} {sz n : Nat} {v : adS} {l : List adS} (h : IQ w S sz v n l) (hx : gT w w' M) (hM : ∀ b, S b -> ¬ M b) : IQ w' S sz v n l := by
 refine ⟨h.1, ?_⟩
 rcases h.2 with h2 | ⟨b, c, rest, h1, h2, h3, h4, h5⟩
 .exact .inl h2
 .exact .inr ⟨b, c, rest, h1, h2, h3.ext hx (hM b h2), h4, h5⟩
def Wr (w : adR) (lo p : Nat) (B : List Bool) : Prop := lo <= p /\ ∃ v bytes, jH w p [v, .int .i64 B.length] /\ IQ w (fun b => lo <= b /\ b ≠ p) 1 v bytes.length (bytes.map nU) /\ Ze B bytes
theorem Wr.ext {w w' : adR} {lo p : Nat} {B : List Bool} {M : Nat -> Prop} (h : Wr w lo p B) (hx : gT w w' M) (hM : ∀ b, lo <= b -> ¬ M b) : Wr w' lo p B := by
 obtain ⟨h0, v, bytes, h1, h2, h3⟩ := h
 exact ⟨h0, v, bytes, h1.ext hx (hM _ h0), wI h2 hx fun b hb => hM b hb.1, h3⟩
def Cw (w : adR) (p : Nat) (S : Nat -> Prop) (l : List UInt8) : Prop := ¬ S p /\ ∃ v, jH w p [v] /\ IQ w S 1 v l.length (l.map nU)
theorem Cw.ext {w w' : adR} {p : Nat} {S M : Nat -> Prop} {l : List UInt8} (h : Cw w p S l) (x : gT w w' M) (hp : ¬ M p) (hM : ∀ b, S b -> ¬ M b) : Cw w' p S l := by
 obtain ⟨h0, v, h1, h2⟩ := h
 exact ⟨h0, v, h1.ext x hp, wI h2 x hM⟩
theorem Cw.lt {w : adR} {p : Nat} {S : Nat -> Prop} {l : List UInt8} (h : Cw w p S l) : p < w.heap.size := by
 obtain ⟨_, v, h1, _⟩ := h; exact h1.lt
theorem Cw.turn {w : adR} {p : Nat} {S T : Nat -> Prop} {l : List UInt8} (h : Cw w p S l) (hT : ∀ b, S b -> b < w.heap.size -> T b) (hp : ¬ T p) : Cw w p T l := by
 obtain ⟨h0, v, h1, h2, h3⟩ := h
 refine ⟨hp, v, h1, h2, ?_⟩
 rcases h3 with h3 | ⟨b, c, rest, g1, g2, g3, g4, g5⟩
 .exact .inl h3
 .exact .inr ⟨b, c, rest, g1, hT b g2 g3.lt, g3, g4, g5⟩
theorem Db {w : adR} {S : Nat -> Prop} {sz n : Nat} {v : adS} {l : List adS} (o3 : IQ w S sz v n l) : ∃ a c, v = .slice a n c := by
 rcases o3.2 with ⟨rfl, rfl⟩ | ⟨b, c, rest, rfl, _⟩
 .exact ⟨_, _, rfl⟩
 .exact ⟨_, _, rfl⟩
theorem Ml {w : adR} {S : Nat -> Prop} {n : Nat} {v : adS} {l : List adS} (o3 : IQ w S 1 v n l) : Sl w v l := by
 have : zF w 0 1 v n l := ⟨o3.1, by
  rcases o3.2 with h | ⟨b, c, rest, g1, g2, g3⟩
  .exact .inl h
  .exact .inr ⟨b, c, rest, g1, by omega, g3⟩⟩
 exact this.sl
theorem Sp (w : adR) : gS pg rI #[] w (fun r w' => r = .pointer (some ⟨w.heap.size, 0, none⟩) /\ w.heap.size < w'.heap.size /\ Cw w' w.heap.size (fun b => w.heap.size < b) [] /\ gT w w' jL) := by
 refine HN ?_
 unfold GL wK
 simp (disch := omega) only [eY, bS, dX]
 refine oC fun w1 o1 x1 s1 => ?_
 simp only [Value.cells] at o1
 exact ⟨rfl, by omega, ⟨by omega, _, o1, ⟨rfl, .inl ⟨rfl, rfl⟩⟩⟩, x1⟩
theorem Is {p x n : Nat} {S : Nat -> Prop} {l : List UInt8} {w : adR} (h : Cw w p S l) (hS : ∀ b, w.heap.size <= b -> S b) (hx : x < 2 ^ 64) (hn : 1 <= n /\ n <= 8) (hl : l.length <= 100000000) :
 gS pg lF #[.pointer (some ⟨p, 0, none⟩), .int .u64 x, .int .i64 n] w (fun r w' => r = .tuple #[] /\ Cw w' p S (l ++ Bl x n) /\ gT w w' (fun y => y = p ∨ S y)) := by
 refine Eg ?_
 unfold BH qJ qN
 have d1 : decide ((n : Int) < 1) = false := by simp; omega
 have d2 : decide ((8 : Int) < (n : Int)) = false := by simp; omega
 simp (disch := omega) only [eY, aQ, ZN, true_and, dX, fE, fC, ZM, if_false, eZ, fN, d1, fS, d2, eH]
 unfold rB qT
 refine kC.rule (fun m (t : adS) w' => ∃ i : Nat, m = n - i /\ t = .int .i64 i /\ i <= n /\ Cw w' p S (l ++ Bl x i) /\ gT w w' (fun y => y = p ∨ S y)) n
  ⟨0, rfl, rfl, by omega, by rw [Bl, aaT]; exact h, gT.refl _ _⟩ ?_
 rintro m t w1 ⟨i, rfl, rfl, hi, hw, x1⟩
 unfold nN
 by_cases hlt : i < n
 .have d3 : decide ((i : Int) < (n : Int)) = true := by simp; omega
  have e0 : ((8 : Int) * (i : Int)) = ((8 * i : Nat) : Int) := by omega
  have e1 : (x : Int).fdiv (2 ^ (min (8 * i) IntKind.u64.bits)) = ((x / 256 ^ i : Nat) : Int) := by
   rw [Sk]; exact WH x (8 * i) (by omega)
  have e2 : IntKind.u8.wrap ((x / 256 ^ i : Nat) : Int) = (((UInt8.ofNat (x / 256 ^ i % 256)).toNat : Nat) : Int) := by
   rw [acI]
   generalize x / 256 ^ i = y
   rw [show IntKind.u8.wrap (y : Int) = (y : Int) % 256 from rfl]
   omega
  obtain ⟨c, hc⟩ : ∃ c, c = UInt8.ofNat (x / 256 ^ i % 256) := ⟨_, rfl⟩
  rw [<- hc] at e2
  obtain ⟨h0, v0, o, os⟩ := hw
  obtain ⟨va, vc, rfl⟩ := Db os
  have c0 := o.cell (off := 0)
  simp only [ZK, ZL] at c0
  have lp := o.lt
  have hsz := x1.size
  have hpl := kY i x
  rw [ZV, hpl] at os
  rw [ZV, hpl] at c0
  simp (disch := omega) only [eY, fN, d3, fL, fP, e0, fI, fO, dX, bM, dZ, fJ, fU, ZO, e1, cL, e2, dY, c0, eP, eQ]
  refine EL (cells := #[.int .u8 c.toNat]) (by decide) (by decide) (by kernel_rfl) fun w2 o2 x2 s2 => ?_
  refine EB (m := 1) (news := [nU c]) (i := Tryd.t5) Tryd.underlying22 Tryd.underlying22 I8 rfl rfl rfl (wI os x2 (fun _ _ h => h)) (o2.cl (off := 0) (l := [nU c]) (n := 1) rfl (fun i hi => by rw [ZS] <;> rfl)) (by simp [one, nU]) (fun b hb => hS b (by omega)) (by omega) (by rw [show Tryd.t5.bytes = 1 from rfl]; omega) (by decide) fun v3 w3 o3 x3 => ?_
  have x13 : gT w1 w3 S := (x2.mono fun _ _ h => h.elim).seq x3
  have op3 := o.ext x13 h0
  obtain ⟨a3, c3, rfl⟩ := Db o3
  refine MT op3 rfl (by simp) fun w4 o4 x4 s4 => ?_
  simp only [Z7, aaR] at o4
  have x14 : gT w1 w4 (fun y => y = p ∨ S y) := (x13.mono fun y _ h => .inr h).seq (x4.mono fun y _ h => .inl h)
  refine ⟨n - (i + 1), by omega, i + 1, rfl, rfl, by omega, ⟨h0, _, o4, ?_⟩, x1.seq x14⟩
  have := wI o3 x4 (fun b hb h => h0 (h ▸ hb))
  rw [P9, <- hc, <- aaC, aaY, ZV, ZV, kY]
  exact this
 .have d3 : decide ((i : Int) < (n : Int)) = false := by simp; omega
  obtain rfl : i = n := by omega
  simp (disch := omega) only [eY, fN, d3, fL, fP, fI, fO, dX, bM, dZ, fJ, fU, cL, dY, eH]
  exact ⟨hw, x1⟩
theorem R1 {p : Nat} {S : Nat -> Prop} {l : List UInt8} {w : adR} (h : Cw w p S l) (hl : l.length <= 1000000000) :
 gS pg nW #[.pointer (some ⟨p, 0, none⟩)] w (fun r w' => zF w' w.heap.size 1 r l.length (l.map nU) /\ gT w w' jL) := by
 refine G4 ?_
 unfold Ew vH
 obtain ⟨h0, v0, o, os⟩ := h
 obtain ⟨va, vc, rfl⟩ := Db os
 have c0 := o.cell (off := 0)
 simp only [ZK, ZL] at c0
 simp (disch := omega) only [eY, aQ, ZN, fL, dX, bM, dY, c0, eP, eH]
 exact NF (Ml os) hl
end Go.Proofs.YteelnmpbnaohpaaDoor
namespace Go.Proofs.YteelnmpbnaohpaaDoor
open Go Go.En
set_option maxRecDepth 4000
theorem Xh (l : List UInt8) : ∀ y ∈ l.map nU, one y = true := fun y hy => by
 obtain ⟨z, -, rfl⟩ := aaU.1 hy; rfl
end Go.Proofs.YteelnmpbnaohpaaDoor
namespace Go.Proofs.YteelnmpbnaohpaaDoor
open Go Go.En Go.Pu
set_option maxRecDepth 4000
abbrev V0 (k v : Nat) : adS := .agg #[.int .u8 (k : Int), .int .u64 (v : Int)]
abbrev A5 (r : Nat × Nat) : List adS := [.int .u8 (r.1 : Int), .int .u64 (r.2 : Int)]
theorem Rn {k v : Nat} {w : adR} (hg : rF w) (hk : k < 256) (hv : v < 2 ^ 64) :
 gS pg zO #[V0 k v] w (fun r w' => (if k = 1 ∨ k = 2 then ∃ b, r = .tuple #[b, .int .i64 0] /\ zF w' w.heap.size 1 b 13 ((uD iI k v).map nU) else r = .tuple #[.slice none 0 0, .int .i64 1]) /\ gT w w' jL) := by
 refine Nk ?_
 obtain ⟨RR, hRR⟩ : ∃ RR : adS -> adR -> Prop, RR = fun r w' => (if k = 1 ∨ k = 2 then ∃ b, r = .tuple #[b, .int .i64 0] /\ zF w' w.heap.size 1 b 13 ((uD iI k v).map nU) else r = .tuple #[.slice none 0 0, .int .i64 1]) /\ gT w w' jL := ⟨_, rfl⟩
 rw [<- hRR]
 unfold NQ FH
 refine oC fun w1 o1 x1 s1 => ?_
 have o1 : jH w1 w.heap.size (A5 (k, v)) := o1
 have c0 := o1.cell (off := 0)
 have c1 := o1.cell (off := 1)
 simp only [ZK, ZL] at c0 c1
 by_cases h1 : k < 1
 .have d1 : decide ((k : Int) < 1) = true := by simp; omega
  simp (disch := omega) only [eY, gN, dX, stepR_skip, fO, gI, fP, gJ, gC, gE, gR, fZ, eU, fX, fU, gD, fR, fN, fW, fS, fV, gK, gG, fQ, fC, fY, gA, fL, iP, iS, iL, iT, iR, iM, iN, iQ, iO, eP, Result.ok.injEq, Next.value.injEq, true_and, and_true, fI, fJ, gB, fM, gH, gQ, ZO, fD, fF, fG, fE, eZ, eT, fB, eX, eQ, eH, if_true, if_false, ZM, ZS, ZN, ZP, ZR, ZQ, ZL, ZK, eA, dV, aB, dE, dJ, cB, eB, eS, eD, dN, eE, fA, dG, eI, bR, dL, bC, dR, aL, aH, eK, aZ, cI, eJ, aG, eL, dQ, aR, bD, eC, bG, bF, bJ, aP, aM, cG, fH, dY, cJ, cA, dB, cH, dT, bB, eM, bX, dS, bQ, bA, bT, aC, bU, bP, cF, bY, aU, aV, aX, bV, dD, cP, bO, aY, aN, aK, bH, aD, dC, dW, aJ, aI, aT, aF, cY, aE, cL, bW, bE, aO, cM, bZ, aA, dF, cU, cV, cC, dK, cD, dM, dU, cN, eF, eN, bN, aS, dZ, bS, aQ, bM, dI, dA, cS, cO, cR, bK, bL, cX, dO, cQ, dH, cZ, c0, d1]
  rw [hRR]
  refine ⟨?_, x1⟩
  rw [if_neg (by omega)]
 have d1 : decide ((k : Int) < 1) = false := by simp; omega
 by_cases h2 : 2 < k
 .have d2 : decide ((2 : Int) < (k : Int)) = true := by simp; omega
  simp (disch := omega) only [eY, gN, dX, stepR_skip, fO, gI, fP, gJ, gC, gE, gR, fZ, eU, fX, fU, gD, fR, fN, fW, fS, fV, gK, gG, fQ, fC, fY, gA, fL, iP, iS, iL, iT, iR, iM, iN, iQ, iO, eP, Result.ok.injEq, Next.value.injEq, true_and, and_true, fI, fJ, gB, fM, gH, gQ, ZO, fD, fF, fG, fE, eZ, eT, fB, eX, eQ, eH, if_true, if_false, ZM, ZS, ZN, ZP, ZR, ZQ, ZL, ZK, eA, dV, aB, dE, dJ, cB, eB, eS, eD, dN, eE, fA, dG, eI, bR, dL, bC, dR, aL, aH, eK, aZ, cI, eJ, aG, eL, dQ, aR, bD, eC, bG, bF, bJ, aP, aM, cG, fH, dY, cJ, cA, dB, cH, dT, bB, eM, bX, dS, bQ, bA, bT, aC, bU, bP, cF, bY, aU, aV, aX, bV, dD, cP, bO, aY, aN, aK, bH, aD, dC, dW, aJ, aI, aT, aF, cY, aE, cL, bW, bE, aO, cM, bZ, aA, dF, cU, cV, cC, dK, cD, dM, dU, cN, eF, eN, bN, aS, dZ, bS, aQ, bM, dI, dA, cS, cO, cR, bK, bL, cX, dO, cQ, dH, cZ, c0, d1, d2]
  rw [hRR]
  refine ⟨?_, x1⟩
  rw [if_neg (by omega)]
 have d2 : decide ((2 : Int) < (k : Int)) = false := by simp; omega
 have e1 : IntKind.u64.wrap (k : Int) = (k : Int) := fJ (by omega) (by omega)
 simp (disch := omega) only [eY, gN, dX, stepR_skip, fO, gI, fP, gJ, gC, gE, gR, fZ, eU, fX, fU, gD, fR, fN, fW, fS, fV, gK, gG, fQ, fC, fY, gA, fL, iP, iS, iL, iT, iR, iM, iN, iQ, iO, eP, Result.ok.injEq, Next.value.injEq, true_and, and_true, fI, fJ, gB, fM, gH, gQ, ZO, fD, fF, fG, fE, eZ, eT, fB, eX, eQ, eH, if_true, if_false, ZM, ZS, ZN, ZP, ZR, ZQ, ZL, ZK, eA, dV, aB, dE, dJ, cB, eB, eS, eD, dN, eE, fA, dG, eI, bR, dL, bC, dR, aL, aH, eK, aZ, cI, eJ, aG, eL, dQ, aR, bD, eC, bG, bF, bJ, aP, aM, cG, fH, dY, cJ, cA, dB, cH, dT, bB, eM, bX, dS, bQ, bA, bT, aC, bU, bP, cF, bY, aU, aV, aX, bV, dD, cP, bO, aY, aN, aK, bH, aD, dC, dW, aJ, aI, aT, aF, cY, aE, cL, bW, bE, aO, cM, bZ, aA, dF, cU, cV, cC, dK, cD, dM, dU, cN, eF, eN, bN, aS, dZ, bS, aQ, bM, dI, dA, cS, cO, cR, bK, bL, cX, dO, cQ, dH, cZ, c0, d1, d2]
 refine (Sp w1).mono ?_
 rintro r w2 ⟨rfl, s2, h2', x2⟩
 have p2 : w2.cell? ⟨w.heap.size, 0, none⟩ = _ := (o1.ext x2 (fun h => h)).cell (off := 0)
 simp only [ZK, ZL] at p2
 simp (disch := omega) only [eY, gN, dX, stepR_skip, fO, gI, fP, gJ, gC, gE, gR, fZ, eU, fX, fU, gD, fR, fN, fW, fS, fV, gK, gG, fQ, fC, fY, gA, fL, iP, iS, iL, iT, iR, iM, iN, iQ, iO, eP, Result.ok.injEq, Next.value.injEq, true_and, and_true, fI, fJ, gB, fM, gH, gQ, ZO, fD, fF, fG, fE, eZ, eT, fB, eX, eQ, eH, if_true, if_false, ZM, ZS, ZN, ZP, ZR, ZQ, ZL, ZK, eA, dV, aB, dE, dJ, cB, eB, eS, eD, dN, eE, fA, dG, eI, bR, dL, bC, dR, aL, aH, eK, aZ, cI, eJ, aG, eL, dQ, aR, bD, eC, bG, bF, bJ, aP, aM, cG, fH, dY, cJ, cA, dB, cH, dT, bB, eM, bX, dS, bQ, bA, bT, aC, bU, bP, cF, bY, aU, aV, aX, bV, dD, cP, bO, aY, aN, aK, bH, aD, dC, dW, aJ, aI, aT, aF, cY, aE, cL, bW, bE, aO, cM, bZ, aA, dF, cU, cV, cC, dK, cD, dM, dU, cN, eF, eN, bN, aS, dZ, bS, aQ, bM, dI, dA, cS, cO, cR, bK, bL, cX, dO, cQ, dH, cZ, p2, e1]
 refine (Is (x := k) (n := 1) h2' (fun b hb => by omega) (by omega) ⟨by omega, by omega⟩ (by simp)).mono ?_
 rintro r w3 ⟨rfl, h3, x3⟩
 have z3 := x3.size
 have o3 := (o1.ext x2 (fun h => h)).ext x3 (by omega)
 have p3 := o3.cell (off := 1)
 simp only [ZK, ZL] at p3
 simp (disch := omega) only [eY, gN, dX, stepR_skip, fO, gI, fP, gJ, gC, gE, gR, fZ, eU, fX, fU, gD, fR, fN, fW, fS, fV, gK, gG, fQ, fC, fY, gA, fL, iP, iS, iL, iT, iR, iM, iN, iQ, iO, eP, Result.ok.injEq, Next.value.injEq, true_and, and_true, fI, fJ, gB, fM, gH, gQ, ZO, fD, fF, fG, fE, eZ, eT, fB, eX, eQ, eH, if_true, if_false, ZM, ZS, ZN, ZP, ZR, ZQ, ZL, ZK, eA, dV, aB, dE, dJ, cB, eB, eS, eD, dN, eE, fA, dG, eI, bR, dL, bC, dR, aL, aH, eK, aZ, cI, eJ, aG, eL, dQ, aR, bD, eC, bG, bF, bJ, aP, aM, cG, fH, dY, cJ, cA, dB, cH, dT, bB, eM, bX, dS, bQ, bA, bT, aC, bU, bP, cF, bY, aU, aV, aX, bV, dD, cP, bO, aY, aN, aK, bH, aD, dC, dW, aJ, aI, aT, aF, cY, aE, cL, bW, bE, aO, cM, bZ, aA, dF, cU, cV, cC, dK, cD, dM, dU, cN, eF, eN, bN, aS, dZ, bS, aQ, bM, dI, dA, cS, cO, cR, bK, bL, cX, dO, cQ, dH, cZ, p3]
 refine (Is (x := v) (n := 8) h3 (fun b hb => by omega) hv ⟨by omega, by omega⟩ (by simp [kY])).mono ?_
 rintro r w4 ⟨rfl, h4, x4⟩
 have z4 := x4.size
 have hH : [] ++ Bl k 1 ++ Bl v 8 = Kw k v := rfl
 rw [hH] at h4
 have hHl : (Kw k v).length = 9 := by unfold Kw; rw [ZV, kY, kY]
 have x14 : gT w1 w4 jL := (x2.trans x3 fun y hy h => by omega).trans x4 fun y hy h => by omega
 refine (R1 h4 (by omega)).mono ?_
 rintro r w5 ⟨ho5, x5⟩
 refine (WM (l := Kw k v) (hg.ext ((x1.seq x14).seq x5)) ho5.sl (by omega)).mono ?_
 rintro r w6 ⟨rfl, x6⟩
 have hcr := Wt (Kw k v)
 have hM : uF = 4294967296 := rfl
 have e2 : IntKind.u64.wrap ((iI (Kw k v) : Nat) : Int) = ((iI (Kw k v) : Nat) : Int) := fJ (by omega) (by omega)
 have h6 := (h4.ext x5 (fun h => h) (fun _ _ h => h)).ext x6 (fun h => h) (fun _ _ h => h)
 have z5 := x5.size
 have z6 := x6.size
 simp (disch := omega) only [eY, gN, dX, stepR_skip, fO, gI, fP, gJ, gC, gE, gR, fZ, eU, fX, fU, gD, fR, fN, fW, fS, fV, gK, gG, fQ, fC, fY, gA, fL, iP, iS, iL, iT, iR, iM, iN, iQ, iO, eP, Result.ok.injEq, Next.value.injEq, true_and, and_true, fI, fJ, gB, fM, gH, gQ, ZO, fD, fF, fG, fE, eZ, eT, fB, eX, eQ, eH, if_true, if_false, ZM, ZS, ZN, ZP, ZR, ZQ, ZL, ZK, eA, dV, aB, dE, dJ, cB, eB, eS, eD, dN, eE, fA, dG, eI, bR, dL, bC, dR, aL, aH, eK, aZ, cI, eJ, aG, eL, dQ, aR, bD, eC, bG, bF, bJ, aP, aM, cG, fH, dY, cJ, cA, dB, cH, dT, bB, eM, bX, dS, bQ, bA, bT, aC, bU, bP, cF, bY, aU, aV, aX, bV, dD, cP, bO, aY, aN, aK, bH, aD, dC, dW, aJ, aI, aT, aF, cY, aE, cL, bW, bE, aO, cM, bZ, aA, dF, cU, cV, cC, dK, cD, dM, dU, cN, eF, eN, bN, aS, dZ, bS, aQ, bM, dI, dA, cS, cO, cR, bK, bL, cX, dO, cQ, dH, cZ, e2]
 refine (Is (x := iI (Kw k v)) (n := 4) h6 (fun b hb => by omega) (by omega) ⟨by omega, by omega⟩ (by omega)).mono ?_
 rintro r w7 ⟨rfl, h7, x7⟩
 have z7 := x7.size
 have hR : Kw k v ++ Bl (iI (Kw k v)) 4 = uD iI k v := rfl
 rw [hR] at h7
 have h13 := rG iI k v
 refine (R1 h7 (by omega)).mono ?_
 rintro r w8 ⟨ho8, x8⟩
 have x17 : gT w1 w7 jL := ((x14.seq x5).seq x6).trans x7 fun y hy h => by omega
 rw [h13] at ho8
 rw [hRR]
 refine ⟨?_, (x1.seq x17).seq x8⟩
 rw [if_pos (by omega)]
 refine ⟨r, rfl, ho8.1, ?_⟩
 rcases ho8.2 with h | ⟨b, c, rest, g1, g2, g3⟩
 .exact .inl h
 .exact .inr ⟨b, c, rest, g1, by have := x1.size; have := x17.size; omega, g3⟩
theorem SB {k : Nat} {l : List (Nat × Nat)} {i : Nat} (h : i < l.length) : kA k (l.take (i + 1)) = if l[i].1 = k then max l[i].2 (kA k (l.take i)) else kA k (l.take i) := by
 rw [abH h, Ku]
theorem PJ {l : List (Nat × Nat)} {i : Nat} (h : i < l.length) : ((l.flatMap A5).drop (i * 2)).take 2 = A5 l[i] := by
 induction l generalizing i with
 | nil => simp at h
 | cons a l ih =>
   cases i with
   | zero => rfl
   | succ i =>
     rw [adB, show (i + 1) * 2 = 2 + i * 2 from by omega, <- acN]
     have : ((A5 a ++ l.flatMap A5).drop 2) = l.flatMap A5 := rfl
     rw [this, ih (by simpa using h)] <;> rfl
theorem KT (l : List (Nat × Nat)) : (l.flatMap A5).length = l.length * 2 := by
 induction l with
 | nil => rfl
 | cons a l ih =>
   rw [adB, ZV, ih, aaG]
   simp only [aaG, abR]; omega
theorem UE {v : adS} {l : List (Nat × Nat)} {k : Nat} {w : adR} (hv : ∃ S, IQ w S 2 v l.length (l.flatMap A5)) (hl : l.length <= 100000000) (ho : ∀ r ∈ l, r.1 < 256 /\ r.2 < 2 ^ 64) (hk : k < 256) :
 gS pg Bu #[v, .int .u8 (k : Nat)] w (fun r w' => (∃ t, r = .tuple #[.int .u64 (kA k l : Nat), .bool t]) /\ gT w w' jL) := by
 refine Mu ?_
 obtain ⟨S, hs⟩ := hv
 unfold M1 B7 B1 Dk DM Dd DQ D5
 obtain ⟨a, c, rfl⟩ := Db hs
 simp (disch := omega) only [eY, gN, dX, stepR_skip, fO, gI, fP, gJ, gC, gE, gR, fZ, eU, fX, fU, gD, fR, fN, fW, fS, fV, gK, gG, fQ, fC, fY, gA, fL, iP, iS, iL, iT, iR, iM, iN, iQ, iO, eP, Result.ok.injEq, Next.value.injEq, true_and, and_true, fI, fJ, gB, fM, gH, gQ, ZO, fD, fF, fG, fE, eZ, eT, fB, eX, eQ, eH, if_true, if_false, ZM, ZS, ZN, ZP, ZR, ZQ, ZL, ZK, eA, dV, aB, dE, dJ, cB, eB, eS, eD, dN, eE, fA, dG, eI, bR, dL, bC, dR, aL, aH, eK, aZ, cI, eJ, aG, eL, dQ, aR, bD, eC, bG, bF, bJ, aP, aM, cG, fH, dY, cJ, cA, dB, cH, dT, bB, eM, bX, dS, bQ, bA, bT, aC, bU, bP, cF, bY, aU, aV, aX, bV, dD, cP, bO, aY, aN, aK, bH, aD, dC, dW, aJ, aI, aT, aF, cY, aE, cL, bW, bE, aO, cM, bZ, aA, dF, cU, cV, cC, dK, cD, dM, dU, cN, eF, eN, bN, aS, dZ, bS, aQ, bM, dI, dA, cS, cO, cR, bK, bL, cX, dO, cQ, dH, cZ]
 refine kC.rule (fun m (t : adS × adS × adS) w' => ∃ (i : Nat) (tb : Bool), m = l.length - i /\ i <= l.length /\ t = (.int .u64 (kA k (l.take i) : Nat), .bool tb, .int .i64 (i : Nat)) /\ gT w w' jL) l.length ⟨0, false, rfl, by omega, rfl, gT.refl _ _⟩ ?_
 rintro m t w1 ⟨i, tb, rfl, hi, rfl, x1⟩
 unfold Av Dx
 by_cases hlt : i < l.length
 .have d1 : decide ((i : Int) < (l.length : Int)) = true := by simp; omega
  obtain ⟨h1, h2⟩ := ho _ (abG hlt)
  rcases (hs.ext x1 (fun _ _ h => h)).2 with ⟨_, h0⟩ | ⟨b, c', rest, hv, hb, ob, hbl, hbc⟩
  .omega
  cases hv
  have l1 := uA (off := i * 2) ob (by rw [ZV, KT]; omega)
  rw [aaL (by rw [KT]; omega), aaJ (by rw [Z3, KT]; omega), PJ hlt] at l1
  have hlast := SB (k := k) hlt
  obtain ⟨M, hM⟩ : ∃ M, M = kA k (l.take i) := ⟨_, rfl⟩
  rw [<- hM] at hlast ⊢
  simp (disch := omega) only [eY, gN, dX, stepR_skip, fO, gI, fP, gJ, gC, gE, gR, fZ, eU, fX, fU, gD, fR, fN, fW, fS, fV, gK, gG, fQ, fC, fY, gA, fL, iP, iS, iL, iT, iR, iM, iN, iQ, iO, eP, Result.ok.injEq, Next.value.injEq, true_and, and_true, fI, fJ, gB, fM, gH, gQ, ZO, fD, fF, fG, fE, eZ, eT, fB, eX, eQ, eH, if_true, if_false, ZM, ZS, ZN, ZP, ZR, ZQ, ZL, ZK, eA, dV, aB, dE, dJ, cB, eB, eS, eD, dN, eE, fA, dG, eI, bR, dL, bC, dR, aL, aH, eK, aZ, cI, eJ, aG, eL, dQ, aR, bD, eC, bG, bF, bJ, aP, aM, cG, fH, dY, cJ, cA, dB, cH, dT, bB, eM, bX, dS, bQ, bA, bT, aC, bU, bP, cF, bY, aU, aV, aX, bV, dD, cP, bO, aY, aN, aK, bH, aD, dC, dW, aJ, aI, aT, aF, cY, aE, cL, bW, bE, aO, cM, bZ, aA, dF, cU, cV, cC, dK, cD, dM, dU, cN, eF, eN, bN, aS, dZ, bS, aQ, bM, dI, dA, cS, cO, cR, bK, bL, cX, dO, cQ, dH, cZ, d1, l1]
  refine Ba fun w2 o2 x2 s2 => ?_
  refine Az o2 rfl (by simp [one]) (by decide) fun w3 o3 x3 s3 => ?_
  have x13 : gT w w3 jL := (x1.seq x2).trans x3 fun y hy h => by have := x1.size; omega
  have o3 : jH w3 w1.heap.size (A5 l[i]) := o3
  have c0 := o3.cell (off := 0)
  have c1 := o3.cell (off := 1)
  simp only [ZK, ZL] at c0 c1
  have e3 : (if (((l[i]'hlt).2 : Nat) : Int) > (M : Int) then (((l[i]'hlt).2 : Nat) : Int) else (M : Int)) = ((max (l[i]'hlt).2 M : Nat) : Int) := by split <;> omega
  by_cases hq : (l[i]'hlt).1 = k
  .have n1 : ((((l[i]'hlt).1 : Nat) : Int) == (k : Int)) = true := by rw [hq]; simp
   rw [if_pos hq] at hlast
   unfold vI
   simp (disch := omega) only [eY, gN, dX, stepR_skip, fO, gI, fP, gJ, gC, gE, gR, fZ, eU, fX, fU, gD, fR, fN, fW, fS, fV, gK, gG, fQ, fC, fY, gA, fL, iP, iS, iL, iT, iR, iM, iN, iQ, iO, eP, Result.ok.injEq, Next.value.injEq, true_and, and_true, fI, fJ, gB, fM, gH, gQ, ZO, fD, fF, fG, fE, eZ, eT, fB, eX, eQ, eH, if_true, if_false, ZM, ZS, ZN, ZP, ZR, ZQ, ZL, ZK, eA, dV, aB, dE, dJ, cB, eB, eS, eD, dN, eE, fA, dG, eI, bR, dL, bC, dR, aL, aH, eK, aZ, cI, eJ, aG, eL, dQ, aR, bD, eC, bG, bF, bJ, aP, aM, cG, fH, dY, cJ, cA, dB, cH, dT, bB, eM, bX, dS, bQ, bA, bT, aC, bU, bP, cF, bY, aU, aV, aX, bV, dD, cP, bO, aY, aN, aK, bH, aD, dC, dW, aJ, aI, aT, aF, cY, aE, cL, bW, bE, aO, cM, bZ, aA, dF, cU, cV, cC, dK, cD, dM, dU, cN, eF, eN, bN, aS, dZ, bS, aQ, bM, dI, dA, cS, cO, cR, bK, bL, cX, dO, cQ, dH, cZ, c0, c1, n1, e3]
   exact ⟨l.length - (i + 1), by omega, i + 1, true, rfl, by omega, by rw [hlast] <;> rfl, x13⟩
  .have n1 : ((((l[i]'hlt).1 : Nat) : Int) == (k : Int)) = false := by rw [beq_eq_false_iff_ne]; omega
   rw [if_neg hq] at hlast
   unfold vI
   simp (disch := omega) only [eY, gN, dX, stepR_skip, fO, gI, fP, gJ, gC, gE, gR, fZ, eU, fX, fU, gD, fR, fN, fW, fS, fV, gK, gG, fQ, fC, fY, gA, fL, iP, iS, iL, iT, iR, iM, iN, iQ, iO, eP, Result.ok.injEq, Next.value.injEq, true_and, and_true, fI, fJ, gB, fM, gH, gQ, ZO, fD, fF, fG, fE, eZ, eT, fB, eX, eQ, eH, if_true, if_false, ZM, ZS, ZN, ZP, ZR, ZQ, ZL, ZK, eA, dV, aB, dE, dJ, cB, eB, eS, eD, dN, eE, fA, dG, eI, bR, dL, bC, dR, aL, aH, eK, aZ, cI, eJ, aG, eL, dQ, aR, bD, eC, bG, bF, bJ, aP, aM, cG, fH, dY, cJ, cA, dB, cH, dT, bB, eM, bX, dS, bQ, bA, bT, aC, bU, bP, cF, bY, aU, aV, aX, bV, dD, cP, bO, aY, aN, aK, bH, aD, dC, dW, aJ, aI, aT, aF, cY, aE, cL, bW, bE, aO, cM, bZ, aA, dF, cU, cV, cC, dK, cD, dM, dU, cN, eF, eN, bN, aS, dZ, bS, aQ, bM, dI, dA, cS, cO, cR, bK, bL, cX, dO, cQ, dH, cZ, c0, c1, n1, e3]
   exact ⟨l.length - (i + 1), by omega, i + 1, tb, rfl, by omega, by rw [hlast] <;> rfl, x13⟩
 .have d1 : decide ((i : Int) < (l.length : Int)) = false := by simp; omega
  unfold Ah
  rw [ZY (by omega)]
  simp (disch := omega) only [eY, gN, dX, stepR_skip, fO, gI, fP, gJ, gC, gE, gR, fZ, eU, fX, fU, gD, fR, fN, fW, fS, fV, gK, gG, fQ, fC, fY, gA, fL, iP, iS, iL, iT, iR, iM, iN, iQ, iO, eP, Result.ok.injEq, Next.value.injEq, true_and, and_true, fI, fJ, gB, fM, gH, gQ, ZO, fD, fF, fG, fE, eZ, eT, fB, eX, eQ, eH, if_true, if_false, ZM, ZS, ZN, ZP, ZR, ZQ, ZL, ZK, eA, dV, aB, dE, dJ, cB, eB, eS, eD, dN, eE, fA, dG, eI, bR, dL, bC, dR, aL, aH, eK, aZ, cI, eJ, aG, eL, dQ, aR, bD, eC, bG, bF, bJ, aP, aM, cG, fH, dY, cJ, cA, dB, cH, dT, bB, eM, bX, dS, bQ, bA, bT, aC, bU, bP, cF, bY, aU, aV, aX, bV, dD, cP, bO, aY, aN, aK, bH, aD, dC, dW, aJ, aI, aT, aF, cY, aE, cL, bW, bE, aO, cM, bZ, aA, dF, cU, cV, cC, dK, cD, dM, dU, cN, eF, eN, bN, aS, dZ, bS, aQ, bM, dI, dA, cS, cO, cR, bK, bL, cX, dO, cQ, dH, cZ, d1]
  exact ⟨⟨tb, rfl⟩, x1⟩
theorem SK {v : adS} {l : List UInt8} {w : adR} (hg : rF w) (hv : Bs w v l) (hl : l.length <= 100000000) :
 gS pg rX #[v] w (fun r w' => r = .agg ((gZ l).map nU).toArray /\ gT w w' jL) := by
 refine Mw ?_
 unfold M7 Dc
 refine Hk fun w1 o1 x1 s1 => ?_
 have o1 : jH w1 w.heap.size (List.replicate 32 (.int .u8 0)) := o1
 refine EL (cells := #[.int .u8 0]) (by decide) (by decide) (by kernel_rfl) fun w2 o2 x2 s2 => ?_
 have o2 : jH w2 w1.heap.size [.int .u8 0] := o2
 have hos : zF w2 w1.heap.size 1 (.slice (some ⟨w1.heap.size, 0, none⟩) 1 1) 1 [.int .u8 0] := ⟨rfl, .inr ⟨_, 1, [], rfl, Z2 _, o2, rfl, Z2 _⟩⟩
 have hcl := (hv.ext (x1.seq x2) (jI _)).cl
 rw [ZT] at hcl
 refine BM hos hcl (Xh _) (by omega) (by omega) fun v3 w3 o3 x3 => ?_
 have o3 : zF w3 w1.heap.size 1 v3 (1 + l.length) ((0 :: l).map nU) := o3
 have z3 := x3.size
 have x03 : gT w w3 jL := (x1.seq x2).trans x3 fun y hy h => by omega
 have z0 : w1.heap.size = w.heap.size + 1 := s1
 refine (WJ (l := 0 :: l) (hg.ext x03) o3.sl (by simp; omega)).mono ?_
 rintro r w4 ⟨rfl, x4⟩
 have r4 := ((o1.ext x2 (fun h => h)).ext x3 (by omega)).ext x4 (fun h => h)
 have hl32 : ((gZ l).map nU).length = 32 := by rw [ZT]; exact wT _
 refine I4 r4 (by rw [abV]; exact hl32) (fun y hy => EV _ y (by simpa using hy)) (by simp) fun w5 o5 x5 s5 => ?_
 rw [aaP, G6 _ _ (by rw [ZT, wT]; simp)] at o5
 refine ID o5 (by rw [ZT]; have := wT (0 :: l); omega) ?_
 rw [abP, ZY (by rw [ZT]; have := wT (0 :: l); omega)]
 exact ⟨rfl, (x03.seq x4).trans x5 fun y hy h => by omega⟩
end Go.Proofs.YteelnmpbnaohpaaDoor
namespace Go.En
open Go
section
variable {P : Program}
theorem Ry {a : Array adS} {t x : Nat} {v : adS} (h : t < a.size) : JT (a.setIfInBounds t v) x = if x = t then v else JT a x := by
 unfold JT
 rw [ZX, ZX]
 by_cases hx : x = t
 .subst hx; rw [Z6 h, if_pos rfl] <;> rfl
 .rw [Z8 (fun e => hx e.symm), if_neg hx]
theorem UN {N x : Nat} {g : Env} (h : x < N) : JT (tmpsOf N g) x = g x := by
 unfold JT tmpsOf
 rw [ZX, Z4 (by simpa using h)]
 simp
theorem Ww {f : FuncId} {fn : Func} (hf : P.funcs[f]? = some fn) (hb : fn.body.isSome = true) (hn : (fn.name == "runtime.NumGoroutine") = false) (cap : Array adS) (args : List adS) (w : adR) :
 (xY (.func (.func f) #[] cap) args).run P w = .ok (.enter f (args.toArray ++ cap)) w := by
 unfold xY Deferred.ofValue
 simp only [pure_bind, invoke, Array.empty_append]
 exact G9 hf hb hn _ _
def OR (r : Loop) (args : List adS) : Array adS := (r.params.zip args.toArray).foldl (fun tmps (t, a) => tmps.setIfInBounds t a) r.tmps
theorem Xm {r : Loop} {a : Tmp} {t : Array adS} (hp : r.params = #[a]) (ht : r.tmps = t) (x : adS) : OR r [x] = t.setIfInBounds a x := by
 unfold OR; rw [hp, ht]; simp
theorem Tw {l : Nat} {r : Loop} {args : List adS} {w : adR} (h : w.heap[l]? = some (.loop r)) (hs : args.length = r.params.size) :
 (xY (Dh l) args).run P w = .ok (.round l r.fn (OR r args) r.assign r.body) w := by
 unfold xY Dh Deferred.ofValue
 simp only [pure_bind, invoke, Array.empty_append]
 exact run_yield h (by simpa using hs)
theorem VT {f fi : FuncId} {fn : Func} {gf : Operand} {ps : Array Tmp} {ZJ bd : Code} {Q : Exit -> Env -> adR -> Prop} {g : Env} {w : adR} {cap : Array adS}
 (hm : noMark (g DS) = true) (he : ev g gf = .func (.func fi) #[] cap) (hf : P.funcs[fi]? = some fn) (hb : fn.body.isSome = true) (hn : (fn.name == "runtime.NumGoroutine") = false)
 (h : gS P fi (#[Dh (w.heap.size + 1)] ++ cap) (U0 f (MG P f) ps ZJ bd g w) fun _ w3 => Vo (w.heap.size + 1) Q (put g (some DS) (.pointer (some ⟨w.heap.size, 0, none⟩))) w3) :
 RF P f gf ps ZJ bd Q g w := by
 unfold RF
 rw [hm]
 simp only
 rw [he, Ww hf hb hn]
 exact h
theorem gT.putObj (w : adR) (l : Nat) (o : Obj) : gT w (w.putObj l o) (fun y => y = l) :=
 ⟨rfl, rfl, rfl, by simp, fun b hb hM => World.putObj_heap_other hM⟩
theorem B2 {w w' : adR} {l : Nat} {o : Obj} {M : Nat -> Prop} (h : w.heap[l]? = some o) (hx : gT w w' M) (hM : ¬ M l) : w'.heap[l]? = some o := by
 have : l < w.heap.size := by
  rcases aaW l w.heap.size with h' | h'
  .exact h'
  .rw [aaI h'] at h; cases h
 rw [hx.keep l this hM]; exact h
theorem U6 {w : adR} {l : Nat} {o : Obj} (h : w.heap[l]? = some o) : l < w.heap.size := by
 rcases aaW l w.heap.size with h' | h'
 .exact h'
 .rw [aaI h'] at h; cases h
theorem Ui (f : FuncId) (N : Nat) (ps : Array Tmp) (ZJ bd : Code) (g : Env) (w : adR) :
 gT w (U0 f N ps ZJ bd g w) jL /\ (U0 f N ps ZJ bd g w).heap.size = w.heap.size + 2 /\ (U0 f N ps ZJ bd g w).heap[w.heap.size]? = some (.deferred (some [])) /\
  (U0 f N ps ZJ bd g w).heap[w.heap.size + 1]? = some (.loop { state := .ready, pending := none, fn := f, tmps := tmpsOf N g, params := ps, assign := ZJ, body := bd, defers := w.heap.size }) := by
 unfold U0
 have x1 := gT.alloc w (.deferred (some [])) jL
 have h1 := World.alloc_heap_new w (.deferred (some []))
 have z1 : (w.alloc (.deferred (some []))).heap.size = w.heap.size + 1 := by simp
 generalize w.alloc (.deferred (some [])) = w1 at *
 refine ⟨x1.seq (gT.alloc w1 _ jL), by simp [z1], B2 h1 (gT.alloc w1 _ jL) (fun h => h), ?_⟩
 have := World.alloc_heap_new w1 (.loop { state := .ready, pending := none, fn := f, tmps := tmpsOf N g, params := ps, assign := ZJ, body := bd, defers := w.heap.size })
 rw [z1] at this
 exact this
theorem TV {l : Nat} {r : Loop} {w : adR} {K : adR -> Prop} (h : w.heap[l]? = some (.loop r)) (hr : r.state = .ready)
 (hk : ∀ w', w'.heap[l]? = some (.loop { r with state := .busy }) -> gT w w' (fun y => y = l) -> w'.heap.size = w.heap.size -> K w') : Zj l w K :=
 ⟨r, h, hr, hk _ (World.putObj_heap_same (U6 h)) (gT.putObj _ _ _) (by simp)⟩
theorem Oc {l : Nat} {r : Loop} {j : Option Code} {w : adR} {R : adS -> adR -> Prop} (h : w.heap[l]? = some (.loop r))
 (hk : ∀ w', w'.heap[l]? = some (.loop { r with state := Zv j, pending := j }) -> gT w w' (fun y => y = l) -> w'.heap.size = w.heap.size -> R (.bool j.isNone) w') : RW l j R w :=
 ⟨r, h, hk _ (World.putObj_heap_same (U6 h)) (gT.putObj _ _ _) (by simp)⟩
theorem M5 {l : Nat} {r : Loop} {w : adR} {Q : Exit -> Env -> adR -> Prop} {g : Env} (h : w.heap[l]? = some (.loop r)) (hb : r.state ≠ .busy)
 (hk : ∀ w', gT w w' (fun y => y = l) -> w'.heap.size = w.heap.size -> Yn Q g r.pending w') : Vo l Q g w :=
 ⟨r, h, hb, hk _ (gT.putObj _ _ _) (by simp)⟩
theorem SQ {b : Nat} {w : adR} {K : adR -> Prop} (h : w.heap[b]? = some (.deferred (some []))) (hk : ∀ w', gT w w' (fun y => y = b) -> w'.heap.size = w.heap.size -> K w') :
 Cq (.pointer (some ⟨b, 0, none⟩)) w K := ⟨h, hk _ (gT.putObj _ _ _) (by simp)⟩
theorem Mj {f : FuncId} (first captured : List adS) (w : adR) : (I7 (.func f) first captured).run P w = .ok (.value (.func (.func f) first.toArray captured.toArray)) w := by
 unfold I7 V Instr.makeFunc
 simp [Sem.run_bind, Sem.run_pure]
end
end Go.En
namespace Go.En
open Go
theorem RO {P : Program} {w : adR} {t e : TypeId} {k k' k'' : IntKind} {lo hi mx : Int} {i : TypeInfo} (hu : P.underlying t = some (.slice e)) (hi' : P.info? e = some i) (x : Option Addr) (n c : Nat) (h0 : 0 <= lo) (h0' : lo <= hi) (h1 : hi <= mx) (h2 : mx <= c) :
 (lL t (.slice x n c) (some (.int k lo)) (some (.int k' hi)) (some (.int k'' mx))).run P w = .ok (.value (.slice (jR x mx.toNat lo.toNat i.size) (hi.toNat - lo.toNat) (mx.toNat - lo.toNat))) w := by
 have h3 : (0 : Int) <= mx := by omega
 have h4 : hi <= (mx.toNat : Int) := by omega
 have h5 : (0 : Int) <= hi := by omega
 have h6 : lo <= (hi.toNat : Int) := by omega
 simp only [lL, nJ, Instr.sliceAt, underlying, hu, Sem.run_bind, run_program, Result.andThen_ok, Sem.run_pure, Instr.slice, Instr.sliceBounds, pure_bind, sB h3 h2, sB h5 h4, sB h0 h6, kB hi', jR]
theorem XZ {w : adR} {a : Option Addr} {n c : Nat} {l : List adS} (h : Sl w (.slice a n c) l) {i j : Nat} (hij : i < j) (hj : j <= n) : Sl w (.slice (jR a j i 1) (j - i) (j - i)) ((l.drop i).take (j - i)) := by
 obtain ⟨a', n', c', e, hn, hc, h⟩ := h
 cases e
 refine ⟨_, _, _, rfl, by rw [Z5, Z3]; omega, Z2 _, fun h0 => ?_⟩
 obtain ⟨b, off, rfl, h2⟩ := h (by omega)
 have hs : jR (some ⟨b, off, none⟩) j i 1 = some ⟨b, off + i, none⟩ := by unfold jR; rw [if_neg (by omega), aaS]; unfold Addr.add; simp
 refine ⟨b, off + i, hs, fun q hq => ?_⟩
 rw [abM (by omega), acH, acD]
 exact h2 (i + q) (by omega)
theorem Xf {a : Option Addr} {n c i j : Nat} {M : Nat -> Prop} (hij : i < j) (hj : j <= n) (h : wC (.slice (jR a j i 1) (j - i) (j - i)) M) : wC (.slice a n c) M := by
 obtain ⟨n', rfl⟩ : ∃ n', n = n' + 1 := ⟨n - 1, by omega⟩
 obtain ⟨d, hd⟩ : ∃ d, j - i = d + 1 := ⟨j - i - 1, by omega⟩
 rw [hd] at h
 cases a with
 | none => unfold jR at h; rw [if_neg (by omega)] at h; exact h
 | some x =>
   have hs : jR (some x) j i 1 = some (x.add (i * 1)) := by unfold jR; rw [if_neg (by omega)] <;> rfl
   rw [hs] at h
   have e : (x.add (i * 1)).block = x.block := by unfold Addr.add; split <;> rfl
   have h3 : M (x.add (i * 1)).block := h
   rw [e] at h3
   exact h3
end Go.En
namespace Go.Proofs.YteelnmpbnaohpaaDoor
open Go Go.En Go.Pu
set_option maxRecDepth 4000
set_option linter.unusedSimpArgs false
set_option linter.unusedVariables false
theorem Ws {l : List UInt8} {v : adS} {box bn lp : Nat} {r0 : Loop} {w : adR} (I : Nat -> adR -> Prop) (S : adR -> Prop)
 (hI : ∀ i W, I i W -> jH W box [v] /\ jH W bn [.int .i64 13] /\ Bs W v l /\ W.heap[lp]? = some (.loop r0)) (hD : ∀ i W, I i W -> I i (dr W)) (hp : r0.params.size = 1) (hl : l.length <= 1000000000) (h0 : I 0 w)
 (hs : ∀ i W pv, i < l.length -> I i W -> Bs W pv ((l.drop i).take 13) -> (∀ M : Nat -> Prop, wC pv M -> wC v M) -> PM pg lp r0.fn (OR r0 [pv]) r0.assign r0.body W (fun b W' => (b = .bool true /\ I (i + 13) W') ∨ (b = .bool false /\ S W'))) :
 gS pg mB #[Dh lp, .pointer (some ⟨box, 0, none⟩), .pointer (some ⟨bn, 0, none⟩)] w (fun r W => r = .tuple #[] /\ ((∃ i, l.length <= i /\ I i W) ∨ S W)) := by
 refine Ej ?_
 obtain ⟨RR, hRR⟩ : ∃ RR : adS -> adR -> Prop, RR = fun r W => r = .tuple #[] /\ ((∃ i, l.length <= i /\ I i W) ∨ S W) := ⟨_, rfl⟩
 rw [<- hRR]
 unfold BQ rE qS qM qV
 simp (disch := omega) only [eY, gN, dX, stepR_skip, fO, gI, fP, gJ, gC, gE, gR, fZ, eU, fX, fU, gD, fR, fN, fW, fS, fV, gK, gG, fQ, fC, fY, gA, fL, iP, iS, iL, iT, iR, iM, iN, iQ, iO, eP, Result.ok.injEq, Next.value.injEq, true_and, and_true, fI, fJ, gB, fM, gH, gQ, ZO, fD, fF, fG, fE, eZ, eT, fB, eX, eQ, eH, if_true, if_false, ZM, ZS, ZN, ZP, ZR, ZQ, ZL, ZK, eA, dV, aB, dE, dJ, cB, eB, eS, eD, dN, eE, fA, dG, eI, bR, dL, bC, dR, aL, aH, eK, aZ, cI, eJ, aG, eL, dQ, aR, bD, eC, bG, bF, bJ, aP, aM, cG, fH, dY, cJ, cA, dB, cH, dT, bB, eM, bX, dS, bQ, bA, bT, aC, bU, bP, cF, bY, aU, aV, aX, bV, dD, cP, bO, aY, aN, aK, bH, aD, dC, dW, aJ, aI, aT, aF, cY, aE, cL, bW, bE, aO, cM, bZ, aA, dF, cU, cV, cC, dK, cD, dM, dU, cN, eF, eN, bN, aS, dZ, bS, aQ, bM, dI, dA, cS, cO, cR, bK, bL, cX, dO, cQ, dH, cZ]
 refine kC.rule (fun m (t : adS) w' => ∃ i : Nat, m = l.length - i /\ t = .int .i64 (i : Nat) /\ i <= l.length + 13 /\ I i w') l.length ⟨0, rfl, rfl, by omega, h0⟩ ?_
 rintro m t w1 ⟨i, rfl, rfl, hi, hIw⟩
 obtain ⟨o, on, hb, hlp⟩ := hI _ _ hIw
 obtain ⟨a, c, rfl, hc⟩ := hb.len
 rw [ZT] at hb hc o
 have c1 := o.cell (off := 0)
 have c1d := (kI o).cell (off := 0)
 have c2 := on.cell (off := 0)
 have c2d := (kI on).cell (off := 0)
 simp only [ZK] at c1 c1d c2 c2d
 unfold nO
 by_cases hlt : i < l.length
 .have d1 : decide ((i : Int) < (l.length : Int)) = true := by simp; omega
  obtain ⟨q, hq⟩ : ∃ q, q = min 13 (l.length - i) := ⟨_, rfl⟩
  have e1 : ((l.length - i : Nat) : Int) = ((l.length - i : Nat) : Int) := rfl
  have e2 : (if ((l.length - i : Nat) : Int) < (13 : Int) then ((l.length - i : Nat) : Int) else (13 : Int)) = (q : Int) := by split <;> omega
  have e3 : (i : Int) + (q : Int) = ((i + q : Nat) : Int) := by omega
  have l1 := fun w => RO (P := pg) (w := w) (k := .i64) (k' := .i64) (k'' := .i64) (lo := (i : Int)) (hi := ((i + q : Nat) : Int)) (mx := ((i + q : Nat) : Int)) Tryd.underlying22 I8 a l.length c (by omega) (by omega) (by omega) (by omega)
  rw [ZT] at hI hs
  obtain ⟨pv, hpv⟩ : ∃ pv, pv = Value.slice (jR a (i + q) i 1) (i + q - i) (i + q - i) := ⟨_, rfl⟩
  have l1 : ∀ w, (lL 22 (.slice a l.length c) (some (.int .i64 (i : Nat))) (some (.int .i64 ((i + q : Nat) : Int))) (some (.int .i64 ((i + q : Nat) : Int)))).run pg w = .ok (.value pv) w := fun w => by rw [hpv]; exact l1 w
  have hpb : Bs w1 pv ((l.drop i).take 13) := by
   have := XZ hb (i := i) (j := i + q) (by omega) (by omega)
   rw [<- acE, <- acR] at this
   rw [hpv]
   have e : (l.drop i).take 13 = (l.drop i).take (i + q - i) := by
    rw [hq]
    by_cases h13 : 13 <= l.length - i
    .rw [aaM h13, abF]
    .rw [Nat.min_eq_right (by omega), ZY (by rw [Z3]; omega), ZY (by rw [Z3]; omega)]
   rw [e]; exact this
  have hpn : ∀ M : Nat -> Prop, wC pv M -> wC (.slice a l.length c) M := fun M h => Xf (i := i) (j := i + q) (by omega) (by omega) (by rw [hpv] at h; exact h)
  have qd : (dr w1).heap[lp]? = some (.loop r0) := hlp
  have q1 := Tw (P := pg) (args := [pv]) hlp (by rw [hp] <;> rfl)
  have q1d := Tw (P := pg) (args := [pv]) qd (by rw [hp] <;> rfl)
  simp (disch := omega) only [eY, gN, dX, stepR_skip, fO, gI, fP, gJ, gC, gE, gR, fZ, eU, fX, fU, gD, fR, fN, fW, fS, fV, gK, gG, fQ, fC, fY, gA, fL, iP, iS, iL, iT, iR, iM, iN, iQ, iO, eP, Result.ok.injEq, Next.value.injEq, true_and, and_true, fI, fJ, gB, fM, gH, gQ, ZO, fD, fF, fG, fE, eZ, eT, fB, eX, eQ, eH, if_true, if_false, ZM, ZS, ZN, ZP, ZR, ZQ, ZL, ZK, eA, dV, aB, dE, dJ, cB, eB, eS, eD, dN, eE, fA, dG, eI, bR, dL, bC, dR, aL, aH, eK, aZ, cI, eJ, aG, eL, dQ, aR, bD, eC, bG, bF, bJ, aP, aM, cG, fH, dY, cJ, cA, dB, cH, dT, bB, eM, bX, dS, bQ, bA, bT, aC, bU, bP, cF, bY, aU, aV, aX, bV, dD, cP, bO, aY, aN, aK, bH, aD, dC, dW, aJ, aI, aT, aF, cY, aE, cL, bW, bE, aO, cM, bZ, aA, dF, cU, cV, cC, dK, cD, dM, dU, cN, eF, eN, bN, aS, dZ, bS, aQ, bM, dI, dA, cS, cO, cR, bK, bL, cX, dO, cQ, dH, cZ, d1, c1, c1d, c2d, e2, e3, l1, q1, q1d, Rz]
  obtain ⟨b', w2, hret, hR⟩ := hs i (dr w1) pv hlt (hD _ _ hIw) (hpb.ext (gT.dr _ jL) (jI _)) hpn
  refine ⟨b', w2, hret, ?_⟩
  rcases hR with ⟨rfl, hI2⟩ | ⟨rfl, hS⟩
  .obtain ⟨_, on2, _, _⟩ := hI _ _ hI2
   have c3 := on2.cell (off := 0)
   simp only [ZK] at c3
   have e4 : (i : Int) + 13 = ((i + 13 : Nat) : Int) := by omega
   simp (disch := omega) only [eY, gN, dX, stepR_skip, fO, gI, fP, gJ, gC, gE, gR, fZ, eU, fX, fU, gD, fR, fN, fW, fS, fV, gK, gG, fQ, fC, fY, gA, fL, iP, iS, iL, iT, iR, iM, iN, iQ, iO, eP, Result.ok.injEq, Next.value.injEq, true_and, and_true, fI, fJ, gB, fM, gH, gQ, ZO, fD, fF, fG, fE, eZ, eT, fB, eX, eQ, eH, if_true, if_false, ZM, ZS, ZN, ZP, ZR, ZQ, ZL, ZK, eA, dV, aB, dE, dJ, cB, eB, eS, eD, dN, eE, fA, dG, eI, bR, dL, bC, dR, aL, aH, eK, aZ, cI, eJ, aG, eL, dQ, aR, bD, eC, bG, bF, bJ, aP, aM, cG, fH, dY, cJ, cA, dB, cH, dT, bB, eM, bX, dS, bQ, bA, bT, aC, bU, bP, cF, bY, aU, aV, aX, bV, dD, cP, bO, aY, aN, aK, bH, aD, dC, dW, aJ, aI, aT, aF, cY, aE, cL, bW, bE, aO, cM, bZ, aA, dF, cU, cV, cC, dK, cD, dM, dU, cN, eF, eN, bN, aS, dZ, bS, aQ, bM, dI, dA, cS, cO, cR, bK, bL, cX, dO, cQ, dH, cZ, c3, e4]
   exact ⟨l.length - (i + 13), by omega, i + 13, rfl, rfl, by omega, hI2⟩
  .simp (disch := omega) only [eY, gN, dX, stepR_skip, fO, gI, fP, gJ, gC, gE, gR, fZ, eU, fX, fU, gD, fR, fN, fW, fS, fV, gK, gG, fQ, fC, fY, gA, fL, iP, iS, iL, iT, iR, iM, iN, iQ, iO, eP, Result.ok.injEq, Next.value.injEq, true_and, and_true, fI, fJ, gB, fM, gH, gQ, ZO, fD, fF, fG, fE, eZ, eT, fB, eX, eQ, eH, if_true, if_false, ZM, ZS, ZN, ZP, ZR, ZQ, ZL, ZK, eA, dV, aB, dE, dJ, cB, eB, eS, eD, dN, eE, fA, dG, eI, bR, dL, bC, dR, aL, aH, eK, aZ, cI, eJ, aG, eL, dQ, aR, bD, eC, bG, bF, bJ, aP, aM, cG, fH, dY, cJ, cA, dB, cH, dT, bB, eM, bX, dS, bQ, bA, bT, aC, bU, bP, cF, bY, aU, aV, aX, bV, dD, cP, bO, aY, aN, aK, bH, aD, dC, dW, aJ, aI, aT, aF, cY, aE, cL, bW, bE, aO, cM, bZ, aA, dF, cU, cV, cC, dK, cD, dM, dU, cN, eF, eN, bN, aS, dZ, bS, aQ, bM, dI, dA, cS, cO, cR, bK, bL, cX, dO, cQ, dH, cZ]
   rw [hRR]
   exact ⟨rfl, .inr hS⟩
 .have d1 : decide ((i : Int) < (l.length : Int)) = false := by simp; omega
  simp (disch := omega) only [eY, gN, dX, stepR_skip, fO, gI, fP, gJ, gC, gE, gR, fZ, eU, fX, fU, gD, fR, fN, fW, fS, fV, gK, gG, fQ, fC, fY, gA, fL, iP, iS, iL, iT, iR, iM, iN, iQ, iO, eP, Result.ok.injEq, Next.value.injEq, true_and, and_true, fI, fJ, gB, fM, gH, gQ, ZO, fD, fF, fG, fE, eZ, eT, fB, eX, eQ, eH, if_true, if_false, ZM, ZS, ZN, ZP, ZR, ZQ, ZL, ZK, eA, dV, aB, dE, dJ, cB, eB, eS, eD, dN, eE, fA, dG, eI, bR, dL, bC, dR, aL, aH, eK, aZ, cI, eJ, aG, eL, dQ, aR, bD, eC, bG, bF, bJ, aP, aM, cG, fH, dY, cJ, cA, dB, cH, dT, bB, eM, bX, dS, bQ, bA, bT, aC, bU, bP, cF, bY, aU, aV, aX, bV, dD, cP, bO, aY, aN, aK, bH, aD, dC, dW, aJ, aI, aT, aF, cY, aE, cL, bW, bE, aO, cM, bZ, aA, dF, cU, cV, cC, dK, cD, dM, dU, cN, eF, eN, bN, aS, dZ, bS, aQ, bM, dI, dA, cS, cO, cR, bK, bL, cX, dO, cQ, dH, cZ, c1, d1]
  rw [hRR]
  exact ⟨rfl, .inl ⟨i, by omega, hIw⟩⟩
end Go.Proofs.YteelnmpbnaohpaaDoor
namespace Go.Proofs.YteelnmpbnaohpaaDoor
open Go Go.En Go.Pu
set_option maxRecDepth 4000
theorem WG {ox oy : Operand} (a b a' b' : Int) (w : adR) : (gO .eql 77 ox oy (.agg #[.int .u8 a, .int .u64 b]) (.agg #[.int .u8 a', .int .u64 b'])).run pg w = .ok (.value (.bool (a == a' && b == b'))) w := by
 have a3 : ∀ w, (isAgg 24).run pg w = .ok false w := fun w => by kernel_rfl
 have a5 : ∀ w, (isAgg 5).run pg w = .ok false w := fun w => by kernel_rfl
 have u3 := Tryd.underlying24
 have u5 := Tryd.underlying5
 have g0 : pg.eqGuardType pg.depth 77 = false := by kernel_rfl
 have g1 : pg.underlying 77 = some (.struct (pg.fieldsOf 77)) := by kernel_rfl
 have g2 : pg.stoodInHeld 77 = false := by kernel_rfl
 unfold gO
 simp only [B4, nJ, Sem.run_bind, run_eqGuard_agg w .eql 77 ox oy _ _ g0, Result.andThen_ok, run_eql_struct]
 rw [run_equalIn_agg w 9999 77 _ _ g1 g2]
 simp only [Program.fieldsOf, Tryd.underlying77, Op.eqFields]
 simp [part, a3, a5, run_equalIn_int w 9998 24 _ _ _ _ u3, run_equalIn_int w 9998 5 _ _ _ _ u5]
 by_cases h1 : a = a' <;> by_cases h2 : b = b' <;> simp [h1, h2]
theorem Me (cf : List UInt8 -> Nat) : ∀ (n m : Nat) (b : List UInt8), b.length <= n -> b.length <= m -> Io cf n b = Io cf m b
 | 0, m, b, h, _ => by
   have : b = [] := aaB.1 (by omega)
   subst this
   cases m <;> simp [Io]
 | n + 1, 0, b, _, h => by
   have : b = [] := aaB.1 (by omega)
   subst this
   simp [Io]
 | n + 1, m + 1, b, h, h' => by
   rw [Io, Io]
   by_cases hb : b = []
   .rw [if_pos hb, if_pos hb]
   .have hl : 0 < b.length := List.length_pos_iff.2 hb
    rw [if_neg hb, if_neg hb, Me cf n m (b.drop 13) (by rw [Z3]; omega) (by rw [Z3]; omega)]
theorem US {cf : List UInt8 -> Nat} {b : List UInt8} (h : b ≠ []) : mT cf b = if Kh cf (b.take 13) then (Wp (b.take 13), VB (b.take 13)) :: mT cf (b.drop 13) else [] := by
 have hl : 0 < b.length := List.length_pos_iff.2 h
 unfold mT
 rw [Me cf b.length (b.length - 1 + 1) b (Z2 _) (by omega), Io, if_neg h, Me cf (b.length - 1) (b.drop 13).length (b.drop 13) (by rw [Z3]; omega) (Z2 _)]
theorem ZB {p : List UInt8} (h : 0 < p.length) : QQ p 0 1 = (p.take 1, p.drop 1, 0) := by
 unfold QQ; rw [if_neg (by decide), if_neg (by omega)]
theorem ZH {p : List UInt8} : FD (QQ (p.drop 1) 0 8).1 = VB p := by
 unfold QQ VB
 rw [if_neg (by decide), Z3]
 by_cases h : p.length < 9
 .rw [if_pos (by omega), if_pos h] <;> rfl
 .rw [if_neg (by omega), if_neg h]
theorem Vk : Wn hZ = #[13] := by kernel_rfl
theorem XO : MG pg kV = 46 := by kernel_rfl
def XA (w : adR) (base : Nat) (o : adS) (R : List (Nat × Nat)) : Prop := IQ w (fun b => base <= b) 2 o R.length (R.flatMap A5)
theorem Ub {l : List UInt8} {v : adS} {w : adR} (hg : rF w) (hb : Bs w v l) (hl : l.length <= 100000000) :
 gS pg kV #[v] w (fun r w' => ∃ o, r = .tuple #[o, .int .i64 ((13 * (mT iI l).length : Nat) : Int)] /\ XA w' w.heap.size o (mT iI l) /\ gT w w' jL) := by
 refine L7 ?_
 obtain ⟨RR, hRR⟩ : ∃ RR : adS -> adR -> Prop, RR = fun r w' => ∃ o, r = .tuple #[o, .int .i64 ((13 * (mT iI l).length : Nat) : Int)] /\ XA w' w.heap.size o (mT iI l) /\ gT w w' jL := ⟨_, rfl⟩
 rw [<- hRR]
 unfold MQ Cg B3 CV I2 D9
 refine JN fun w1 o1 x1 s1 => ?_
 refine XI fun w2 o2 x2 s2 => ?_
 refine KC o2 rfl (by simp) fun w3 o3 x3 s3 => ?_
 simp only [Z7] at o3
 unfold C5 CY DF
 refine He ?_
 unfold EJ uX uJ
 obtain ⟨va, vn, vc, hv, -⟩ := id hb
 subst hv
 refine oC fun w4 o4 x4 s4 => ?_
 simp only [Value.cells] at o4
 refine oC fun w5 o5 x5 s5 => ?_
 simp only [Value.cells] at o5
 have c5 := o5.cell (off := 0)
 simp only [ZK] at c5
 have d5 : decide ((13 : Int) < 1) = false := rfl
 have q1 := fun w => Mj (P := pg) (f := mB) [] [.pointer (some ⟨w3.heap.size, 0, none⟩), .pointer (some ⟨w4.heap.size, 0, none⟩)] w
 unfold pU
 simp (disch := omega) only [eY, gN, dX, stepR_skip, fO, gI, fP, gJ, gC, gE, gR, fZ, eU, fX, fU, gD, fR, fN, fW, fS, fV, gK, gG, fQ, fC, fY, gA, fL, iP, iS, iL, iT, iR, iM, iN, iQ, iO, eP, Result.ok.injEq, Next.value.injEq, true_and, and_true, fI, fJ, gB, fM, gH, gQ, ZO, fD, fF, fG, fE, eZ, eT, fB, eX, eQ, eH, if_true, if_false, ZM, ZS, ZN, ZP, ZR, ZQ, ZL, ZK, eA, dV, aB, dE, dJ, cB, eB, eS, eD, dN, eE, fA, dG, eI, bR, dL, bC, dR, aL, aH, eK, aZ, cI, eJ, aG, eL, dQ, aR, bD, eC, bG, bF, bJ, aP, aM, cG, fH, dY, cJ, cA, dB, cH, dT, bB, eM, bX, dS, bQ, bA, bT, aC, bU, bP, cF, bY, aU, aV, aX, bV, dD, cP, bO, aY, aN, aK, bH, aD, dC, dW, aJ, aI, aT, aF, cY, aE, cL, bW, bE, aO, cM, bZ, aA, dF, cU, cV, cC, dK, cD, dM, dU, cN, eF, eN, bN, aS, dZ, bS, aQ, bM, dI, dA, cS, cO, cR, bK, bL, cX, dO, cQ, dH, cZ, c5, d5, q1]
 unfold DA Eb
 intro g g4 g5 g12 gm
 generalize hn0 : w.heap.size = n0 at *
 have e1 : w1.heap.size = n0 + 1 := by omega
 have e3 : w3.heap.size = n0 + 2 := by omega
 have e4 : w4.heap.size = n0 + 3 := by omega
 have e5 : w5.heap.size = n0 + 4 := by omega
 rw [e1] at o2 o3 x3 g5
 rw [e3] at o4 g12
 rw [e4] at o5 g12
 have x03 : gT w w3 jL := (x1.seq x2).trans x3 fun y hy h => by omega
 have x05 : gT w w5 jL := (x03.seq x4).seq x5
 have b1 : jH w5 n0 [.slice none 0 0] := (((o1.ext x2 (fun h => h)).ext x3 (by omega)).ext x4 (fun h => h)).ext x5 (fun h => h)
 have b2 : jH w5 (n0 + 1) [.int .i64 0] := (o3.ext x4 (fun h => h)).ext x5 (fun h => h)
 have b3 : jH w5 (n0 + 2) [.slice va vn vc] := o4.ext x5 (fun h => h)
 refine VT (fi := mB) (cap := #[.pointer (some ⟨n0 + 2, 0, none⟩), .pointer (some ⟨n0 + 3, 0, none⟩)]) (by show noMark (g 1000003) = true; rw [gm] <;> rfl) g12 Tryd.func67 (by kernel_rfl) (by kernel_rfl) ?_
 obtain ⟨x8, s8, d8, l8⟩ := Ui kV (MG pg kV) (Wn hZ) (Ua hZ) (SL hZ) g w5
 rw [e5] at s8 d8 l8 ⊢
 generalize U0 kV (MG pg kV) (Wn hZ) (Ua hZ) (SL hZ) g w5 = w8 at *
 obtain ⟨r0, hr0⟩ : ∃ r0 : Loop, r0 = { state := .ready, pending := none, fn := kV, tmps := tmpsOf (MG pg kV) g, params := Wn hZ, assign := Ua hZ, body := SL hZ, defers := n0 + 4 } := ⟨_, rfl⟩
 rw [<- hr0] at l8
 have x08 : gT w w8 jL := x05.seq x8
 let M : Nat -> Prop := fun y => y = n0 + 5 ∨ y = n0 ∨ y = n0 + 1 ∨ n0 + 5 < y
 let Q : Nat -> adR -> List (Nat × Nat) -> Prop := fun base W R => ∃ ov, gT w8 W M /\ jH W n0 [ov] /\ jH W (n0 + 1) [.int .i64 ((13 * R.length : Nat) : Int)] /\ IQ W (fun b => n0 + 5 < b) 2 ov R.length (R.flatMap A5)
 let I : Nat -> adR -> Prop := fun i W => ∃ R, mT iI l = R ++ mT iI (l.drop i) /\ W.heap[n0 + 5]? = some (.loop r0) /\ R.length <= i /\ Q n0 W R
 let S : adR -> Prop := fun W => W.heap[n0 + 5]? = some (.loop { r0 with state := .done, pending := some (.exit 0) }) /\ Q n0 W (mT iI l)
 have hQd : ∀ {W R}, Q n0 W R -> Q n0 (dr W) R := fun {W R} ⟨ov, h1, h2, h3, h4⟩ => ⟨ov, h1.seq (gT.dr _ _), h2.ext (gT.dr _ jL) (fun h => h), h3.ext (gT.dr _ jL) (fun h => h), h4.ext (gT.dr _ jL) (fun _ _ h => h)⟩
 have hmain := Ws (l := l) (v := .slice va vn vc) (box := n0 + 2) (bn := n0 + 3) (lp := n0 + 5) (r0 := r0) (w := w8) I S ?hI ?hD ?hp (by omega) ?h0 ?hs
 case hI =>
  rintro i W ⟨R, hR, hlp, hRl, ov, hx, q1, q2, q3⟩
  exact ⟨(b3.ext x8 (fun h => h)).ext hx (by omega), (o5.ext x8 (fun h => h)).ext hx (by omega), hb.ext (x08.trans hx fun y hy h => by omega) (jI _), hlp⟩
 case hD =>
  rintro i W ⟨R, hR, hlp, hRl, hq⟩
  exact ⟨R, hR, hlp, hRl, hQd hq⟩
 case hp => rw [hr0, Vk] <;> rfl
 case h0 => exact ⟨[], rfl, l8, Z2 _, _, gT.refl _ _, b1.ext x8 (fun h => h), b2.ext x8 (fun h => h), ⟨rfl, .inl ⟨rfl, rfl⟩⟩⟩
 case hs =>
  rintro i W pv hi ⟨R, hR, hlp, hRl, ov, hx, q1, q2, q3⟩ hpb hpn
  have zW := hx.size
  have y08 : gT w W jL := x08.trans hx fun y hy h => by omega
  have hT : OR r0 [pv] = (tmpsOf 46 g).setIfInBounds 13 pv := Xm (by rw [hr0]; exact Vk) (by rw [hr0]; simp only; rw [XO]) _
  have hE : ∀ {x : Nat} {u v : adS}, x < 13 -> g x = u -> JT ((tmpsOf 46 g).setIfInBounds 13 v) x = u := fun {x u v} h1 h2 => by
   rw [Ry (by simp [tmpsOf]), if_neg (by omega), UN (by omega), h2]
  have hE13 : ∀ {v : adS}, JT ((tmpsOf 46 g).setIfInBounds 13 v) 13 = v := fun {v} => by
   rw [Ry (by simp [tmpsOf]), if_pos rfl]
  rw [hT]
  subst hr0
  refine Le (by simp [tmpsOf]) ?_
  rw [hE (by omega) g4, hE (by omega) g5, hE13]
  unfold Hu zK
  refine TV hlp rfl fun W1 l1 y1 z1 => ?_
  obtain ⟨p, hp⟩ : ∃ p, p = (l.drop i).take 13 := ⟨_, rfl⟩
  rw [<- hp] at hpb
  have hpl : p.length = min 13 (l.length - i) := by rw [hp, Z5, Z3]
  have hne : l.drop i ≠ [] := fun h => by have := congrArg List.length h; rw [Z3] at this; simp at this; omega
  have hstep := US (cf := iI) hne
  rw [<- hp, acN] at hstep
  have y01 : gT w W1 jL := y08.trans y1 fun y hy h => by omega
  have hpv0 : ∀ {N : Nat -> Prop}, (∀ y, N y -> n0 <= y) -> ¬ wC pv N := fun {N} hN h => hb.old (zJ (hpn _ h) fun y hy => by rw [hn0]; exact hN y hy)
  have hp1 : Bs W1 pv p := hpb.ext y1 (hpv0 fun y hy => by omega)
  have q1 := q1.ext y1 (by omega)
  have q2 := q2.ext y1 (by omega)
  have q3 := q3.ext y1 (fun b hb h => by omega)
  unfold tX
  refine (RG hp1 (by omega)).mono ?_
  rintro r W2 ⟨pr, rfl, hr2, y2⟩
  refine (Oz (n := 1) hr2 (by omega) ⟨by omega, by omega⟩).mono ?_
  rintro r W3 ⟨rfl, hr3, y3⟩
  have tk := ZB (p := p) (by omega)
  rw [tk] at hr3 ⊢
  have hk1 : FD (p.take 1) = Wp p := rfl
  have hk256 : Wp p < 256 := by
   have := Ho (p.take 1)
   rw [Z5, aaM (by omega)] at this
   rw [<- hk1]; simpa using this
  rw [hk1]
  obtain ⟨K, hK⟩ : ∃ K, K = Wp p := ⟨_, rfl⟩
  rw [<- hK] at hk256 ⊢
  have e6 : IntKind.u8.wrap (K : Int) = (K : Int) := gQ (by omega) (by omega)
  simp (disch := omega) only [eY, gN, dX, stepR_skip, fO, gI, fP, gJ, gC, gE, gR, fZ, eU, fX, fU, gD, fR, fN, fW, fS, fV, gK, gG, fQ, fC, fY, gA, fL, iP, iS, iL, iT, iR, iM, iN, iQ, iO, eP, Result.ok.injEq, Next.value.injEq, true_and, and_true, fI, fJ, gB, fM, gH, gQ, ZO, fD, fF, fG, fE, eZ, eT, fB, eX, eQ, eH, if_true, if_false, ZM, ZS, ZN, ZP, ZR, ZQ, ZL, ZK, eA, dV, aB, dE, dJ, cB, eB, eS, eD, dN, eE, fA, dG, eI, bR, dL, bC, dR, aL, aH, eK, aZ, cI, eJ, aG, eL, dQ, aR, bD, eC, bG, bF, bJ, aP, aM, cG, fH, dY, cJ, cA, dB, cH, dT, bB, eM, bX, dS, bQ, bA, bT, aC, bU, bP, cF, bY, aU, aV, aX, bV, dD, cP, bO, aY, aN, aK, bH, aD, dC, dW, aJ, aI, aT, aF, cY, aE, cL, bW, bE, aO, cM, bZ, aA, dF, cU, cV, cC, dK, cD, dM, dU, cN, eF, eN, bN, aS, dZ, bS, aQ, bM, dI, dA, cS, cO, cR, bK, bL, cX, dO, cQ, dH, cZ, e6]
  refine (Oz (n := 8) hr3 (by rw [Z3]; omega) ⟨by omega, by omega⟩).mono ?_
  rintro r W4 ⟨rfl, hr4, y4⟩
  rw [ZH]
  obtain ⟨V, hV⟩ : ∃ V, V = VB p := ⟨_, rfl⟩
  have hV64 : V < 2 ^ 64 := by
   rw [hV]
   unfold VB
   split
   .omega
   .have := Ho ((p.drop 1).take 8)
    rw [Z5, Z3, aaM (by omega)] at this
    omega
  rw [<- hV]
  obtain ⟨hr0a, hr0b, _⟩ := hr2
  have zW1 := y1.size
  have zW2 := y2.size
  have zW3 := y3.size
  have zW4 := y4.size
  have y14 : gT W1 W4 jL := (y2.trans y3 fun y hy h => by omega).trans y4 fun y hy h => by omega
  simp (disch := omega) only [eY, gN, dX, stepR_skip, fO, gI, fP, gJ, gC, gE, gR, fZ, eU, fX, fU, gD, fR, fN, fW, fS, fV, gK, gG, fQ, fC, fY, gA, fL, iP, iS, iL, iT, iR, iM, iN, iQ, iO, eP, Result.ok.injEq, Next.value.injEq, true_and, and_true, fI, fJ, gB, fM, gH, gQ, ZO, fD, fF, fG, fE, eZ, eT, fB, eX, eQ, eH, if_true, if_false, ZM, ZS, ZN, ZP, ZR, ZQ, ZL, ZK, eA, dV, aB, dE, dJ, cB, eB, eS, eD, dN, eE, fA, dG, eI, bR, dL, bC, dR, aL, aH, eK, aZ, cI, eJ, aG, eL, dQ, aR, bD, eC, bG, bF, bJ, aP, aM, cG, fH, dY, cJ, cA, dB, cH, dT, bB, eM, bX, dS, bQ, bA, bT, aC, bU, bP, cF, bY, aU, aV, aX, bV, dD, cP, bO, aY, aN, aK, bH, aD, dC, dW, aJ, aI, aT, aF, cY, aE, cL, bW, bE, aO, cM, bZ, aA, dF, cU, cV, cC, dK, cD, dM, dU, cN, eF, eN, bN, aS, dZ, bS, aQ, bM, dI, dA, cS, cO, cR, bK, bL, cX, dO, cQ, dH, cZ]
  refine Ba fun W5 o5 y5 z5 => ?_
  refine Az o5 rfl (by simp [one]) (by decide) fun W6 o6 y6 z6 => ?_
  obtain ⟨pc, hpc⟩ : ∃ pc, pc = W4.heap.size := ⟨_, rfl⟩
  rw [<- hpc] at o6 y6 ⊢
  have o6 : jH W6 pc (A5 (K, V)) := o6
  have y16 : gT W1 W6 jL := (y14.seq y5).trans y6 fun y hy h => by omega
  have y06 : gT w W6 jL := y01.seq y16
  have lr := uA (off := 0) o6 (by simp)
  have lr : (fK 77 (.pointer (some ⟨pc, 0, none⟩))).run pg W6 = .ok (.value (V0 K V)) W6 := lr
  have hz := fun ox oy => WG (ox := ox) (oy := oy) (K : Int) (V : Int) 0 0 W6
  have q1 := q1.ext y16 (fun h => h)
  have q2 := q2.ext y16 (fun h => h)
  have q3 := q3.ext y16 (fun _ _ h => h)
  have l6 := B2 l1 y16 (fun h => h)
  have x86 : gT w8 W6 M := (hx.trans y1 fun y hy h => .inl h).seq (y16.mono fun _ _ h => h.elim)
  have hbad : Kh iI p = false -> ∀ W7, gT W6 W7 jL -> RW (n0 + 5) (some (.exit 0)) (fun b W' => (b = .bool true /\ I (i + 13) W') ∨ (b = .bool false /\ S W')) W7 := by
   intro hbd W7 y7
   have hLR : mT iI l = R := by rw [hR, hstep, if_neg (by rw [hbd]; decide), aaT]
   refine Oc (B2 l6 y7 (fun h => h)) fun W8 l8' y8 z8 => .inr ⟨rfl, l8', ?_⟩
   rw [hLR]
   exact ⟨ov, (x86.trans y7 fun y hy h => h.elim).trans y8 fun y hy h => .inl h, (q1.ext y7 (fun h => h)).ext y8 (by omega), (q2.ext y7 (fun h => h)).ext y8 (by omega), (q3.ext y7 (fun _ _ h => h)).ext y8 (fun b hb h => by omega)⟩
  have hgd : Kh iI p = ((K == 1 || K == 2) && uD iI K V == p) := by rw [hK, hV] <;> rfl
  by_cases hz0 : K = 0 /\ V = 0
  .have d1 : (((K : Nat) : Int) == 0 && ((V : Nat) : Int) == 0) = true := by rw [hz0.1, hz0.2] <;> rfl
   simp only [d1] at hz
   simp (disch := omega) only [eY, gN, dX, stepR_skip, fO, gI, fP, gJ, gC, gE, gR, fZ, eU, fX, fU, gD, fR, fN, fW, fS, fV, gK, gG, fQ, fC, fY, gA, fL, iP, iS, iL, iT, iR, iM, iN, iQ, iO, eP, Result.ok.injEq, Next.value.injEq, true_and, and_true, fI, fJ, gB, fM, gH, gQ, ZO, fD, fF, fG, fE, eZ, eT, fB, eX, eQ, eH, if_true, if_false, ZM, ZS, ZN, ZP, ZR, ZQ, ZL, ZK, eA, dV, aB, dE, dJ, cB, eB, eS, eD, dN, eE, fA, dG, eI, bR, dL, bC, dR, aL, aH, eK, aZ, cI, eJ, aG, eL, dQ, aR, bD, eC, bG, bF, bJ, aP, aM, cG, fH, dY, cJ, cA, dB, cH, dT, bB, eM, bX, dS, bQ, bA, bT, aC, bU, bP, cF, bY, aU, aV, aX, bV, dD, cP, bO, aY, aN, aK, bH, aD, dC, dW, aJ, aI, aT, aF, cY, aE, cL, bW, bE, aO, cM, bZ, aA, dF, cU, cV, cC, dK, cD, dM, dU, cN, eF, eN, bN, aS, dZ, bS, aQ, bM, dI, dA, cS, cO, cR, bK, bL, cX, dO, cQ, dH, cZ, lr, hz]
   exact hbad (by rw [hgd, hz0.1] <;> rfl) W6 (gT.refl _ _)
  have d1 : (((K : Nat) : Int) == 0 && ((V : Nat) : Int) == 0) = false := by
   rw [adJ, beq_eq_false_iff_ne, beq_eq_false_iff_ne]
   omega
  simp only [d1] at hz
  simp (disch := omega) only [eY, gN, dX, stepR_skip, fO, gI, fP, gJ, gC, gE, gR, fZ, eU, fX, fU, gD, fR, fN, fW, fS, fV, gK, gG, fQ, fC, fY, gA, fL, iP, iS, iL, iT, iR, iM, iN, iQ, iO, eP, Result.ok.injEq, Next.value.injEq, true_and, and_true, fI, fJ, gB, fM, gH, gQ, ZO, fD, fF, fG, fE, eZ, eT, fB, eX, eQ, eH, if_true, if_false, ZM, ZS, ZN, ZP, ZR, ZQ, ZL, ZK, eA, dV, aB, dE, dJ, cB, eB, eS, eD, dN, eE, fA, dG, eI, bR, dL, bC, dR, aL, aH, eK, aZ, cI, eJ, aG, eL, dQ, aR, bD, eC, bG, bF, bJ, aP, aM, cG, fH, dY, cJ, cA, dB, cH, dT, bB, eM, bX, dS, bQ, bA, bT, aC, bU, bP, cF, bY, aU, aV, aX, bV, dD, cP, bO, aY, aN, aK, bH, aD, dC, dW, aJ, aI, aT, aF, cY, aE, cL, bW, bE, aO, cM, bZ, aA, dF, cU, cV, cC, dK, cD, dM, dU, cN, eF, eN, bN, aS, dZ, bS, aQ, bM, dI, dA, cS, cO, cR, bK, bL, cX, dO, cQ, dH, cZ, lr, hz]
  refine (Rn (hg.ext y06) hk256 hV64).mono ?_
  rintro r W7 ⟨hr7, y7⟩
  by_cases hk12 : K = 1 ∨ K = 2
  rotate_left
  .rw [if_neg hk12] at hr7
   subst hr7
   have n1 : ((1 : Int) != 0) = true := rfl
   simp (disch := omega) only [eY, gN, dX, stepR_skip, fO, gI, fP, gJ, gC, gE, gR, fZ, eU, fX, fU, gD, fR, fN, fW, fS, fV, gK, gG, fQ, fC, fY, gA, fL, iP, iS, iL, iT, iR, iM, iN, iQ, iO, eP, Result.ok.injEq, Next.value.injEq, true_and, and_true, fI, fJ, gB, fM, gH, gQ, ZO, fD, fF, fG, fE, eZ, eT, fB, eX, eQ, eH, if_true, if_false, ZM, ZS, ZN, ZP, ZR, ZQ, ZL, ZK, eA, dV, aB, dE, dJ, cB, eB, eS, eD, dN, eE, fA, dG, eI, bR, dL, bC, dR, aL, aH, eK, aZ, cI, eJ, aG, eL, dQ, aR, bD, eC, bG, bF, bJ, aP, aM, cG, fH, dY, cJ, cA, dB, cH, dT, bB, eM, bX, dS, bQ, bA, bT, aC, bU, bP, cF, bY, aU, aV, aX, bV, dD, cP, bO, aY, aN, aK, bH, aD, dC, dW, aJ, aI, aT, aF, cY, aE, cL, bW, bE, aO, cM, bZ, aA, dF, cU, cV, cC, dK, cD, dM, dU, cN, eF, eN, bN, aS, dZ, bS, aQ, bM, dI, dA, cS, cO, cR, bK, bL, cX, dO, cQ, dH, cZ, n1]
   refine hbad ?_ W7 y7
   rw [hgd]
   have : (K == 1 || K == 2) = false := by rw [acO, beq_eq_false_iff_ne, beq_eq_false_iff_ne]; omega
   rw [this] <;> rfl
  rw [if_pos hk12] at hr7
  obtain ⟨pb, rfl, hpbs⟩ := hr7
  have h13 := rG iI K V
  have n0' : ((0 : Int) != 0) = false := rfl
  have y17 : gT W1 W7 jL := y16.seq y7
  simp (disch := omega) only [eY, gN, dX, stepR_skip, fO, gI, fP, gJ, gC, gE, gR, fZ, eU, fX, fU, gD, fR, fN, fW, fS, fV, gK, gG, fQ, fC, fY, gA, fL, iP, iS, iL, iT, iR, iM, iN, iQ, iO, eP, Result.ok.injEq, Next.value.injEq, true_and, and_true, fI, fJ, gB, fM, gH, gQ, ZO, fD, fF, fG, fE, eZ, eT, fB, eX, eQ, eH, if_true, if_false, ZM, ZS, ZN, ZP, ZR, ZQ, ZL, ZK, eA, dV, aB, dE, dJ, cB, eB, eS, eD, dN, eE, fA, dG, eI, bR, dL, bC, dR, aL, aH, eK, aZ, cI, eJ, aG, eL, dQ, aR, bD, eC, bG, bF, bJ, aP, aM, cG, fH, dY, cJ, cA, dB, cH, dT, bB, eM, bX, dS, bQ, bA, bT, aC, bU, bP, cF, bY, aU, aV, aX, bV, dD, cP, bO, aY, aN, aK, bH, aD, dC, dW, aJ, aI, aT, aF, cY, aE, cL, bW, bE, aO, cM, bZ, aA, dF, cU, cV, cC, dK, cD, dM, dU, cN, eF, eN, bN, aS, dZ, bS, aQ, bM, dI, dA, cS, cO, cR, bK, bL, cX, dO, cQ, dH, cZ, n0']
  refine (T7 (show Bs W7 pb (uD iI K V) from hpbs.sl) (hp1.ext y17 (jI _)) (by omega) (by omega)).mono ?_
  rintro r W8 ⟨rfl, y8⟩
  have y68 : gT W6 W8 jL := y7.seq y8
  cases hq : (uD iI K V == p) with
  | false =>
    simp (disch := omega) only [eY, gN, dX, stepR_skip, fO, gI, fP, gJ, gC, gE, gR, fZ, eU, fX, fU, gD, fR, fN, fW, fS, fV, gK, gG, fQ, fC, fY, gA, fL, iP, iS, iL, iT, iR, iM, iN, iQ, iO, eP, Result.ok.injEq, Next.value.injEq, true_and, and_true, fI, fJ, gB, fM, gH, gQ, ZO, fD, fF, fG, fE, eZ, eT, fB, eX, eQ, eH, if_true, if_false, ZM, ZS, ZN, ZP, ZR, ZQ, ZL, ZK, eA, dV, aB, dE, dJ, cB, eB, eS, eD, dN, eE, fA, dG, eI, bR, dL, bC, dR, aL, aH, eK, aZ, cI, eJ, aG, eL, dQ, aR, bD, eC, bG, bF, bJ, aP, aM, cG, fH, dY, cJ, cA, dB, cH, dT, bB, eM, bX, dS, bQ, bA, bT, aC, bU, bP, cF, bY, aU, aV, aX, bV, dD, cP, bO, aY, aN, aK, bH, aD, dC, dW, aJ, aI, aT, aF, cY, aE, cL, bW, bE, aO, cM, bZ, aA, dF, cU, cV, cC, dK, cD, dM, dU, cN, eF, eN, bN, aS, dZ, bS, aQ, bM, dI, dA, cS, cO, cR, bK, bL, cX, dO, cQ, dH, cZ]
    exact hbad (by rw [hgd, hq, Bool.and_false]) W8 y68
  | true =>
    have hgood : Kh iI p = true := by
     rw [hgd, hq, Bool.and_true, aaX, beq_iff_eq, beq_iff_eq]; exact hk12
    have hp13 := MB iI hgood
    have q1 := q1.ext y68 (fun h => h)
    have q2 := q2.ext y68 (fun h => h)
    have q3 := q3.ext y68 (fun _ _ h => h)
    have l8 := B2 l6 y68 (fun h => h)
    have lr8 := uA (off := 0) (o6.ext y68 (fun h => h)) (by simp)
    have lr8 : (fK 77 (.pointer (some ⟨pc, 0, none⟩))).run pg W8 = .ok (.value (V0 K V)) W8 := lr8
    have c1 := q1.cell (off := 0)
    simp only [ZK] at c1
    simp (disch := omega) only [eY, gN, dX, stepR_skip, fO, gI, fP, gJ, gC, gE, gR, fZ, eU, fX, fU, gD, fR, fN, fW, fS, fV, gK, gG, fQ, fC, fY, gA, fL, iP, iS, iL, iT, iR, iM, iN, iQ, iO, eP, Result.ok.injEq, Next.value.injEq, true_and, and_true, fI, fJ, gB, fM, gH, gQ, ZO, fD, fF, fG, fE, eZ, eT, fB, eX, eQ, eH, if_true, if_false, ZM, ZS, ZN, ZP, ZR, ZQ, ZL, ZK, eA, dV, aB, dE, dJ, cB, eB, eS, eD, dN, eE, fA, dG, eI, bR, dL, bC, dR, aL, aH, eK, aZ, cI, eJ, aG, eL, dQ, aR, bD, eC, bG, bF, bJ, aP, aM, cG, fH, dY, cJ, cA, dB, cH, dT, bB, eM, bX, dS, bQ, bA, bT, aC, bU, bP, cF, bY, aU, aV, aX, bV, dD, cP, bO, aY, aN, aK, bH, aD, dC, dW, aJ, aI, aT, aF, cY, aE, cL, bW, bE, aO, cM, bZ, aA, dF, cU, cV, cC, dK, cD, dM, dU, cN, eF, eN, bN, aS, dZ, bS, aQ, bM, dI, dA, cS, cO, cR, bK, bL, cX, dO, cQ, dH, cZ, c1, lr8]
    refine JH (cells := #[.int .u8 (K : Nat), .int .u64 (V : Nat)]) (by decide) (by decide) (by kernel_rfl) fun W9 o9 y9 z9 => ?_
    have o9 : jH W9 W8.heap.size (A5 (K, V)) := o9
    have z85 : n0 + 5 < W8.heap.size := by
     have := y17.size
     have := y8.size
     have := U6 l1
     omega
    obtain ⟨oa, oc, rfl⟩ := Db q3
    have q3 := q3.ext y9 (fun _ _ h => h)
    refine EB (m := 1) (news := A5 (K, V)) (i := Tryd.t77) Tryd.underlying72 Tryd.underlying72 Og rfl rfl rfl q3 (o9.cl (off := 0) (n := 1) rfl (fun i hi => by rw [ZS])) (by simp [one]) (fun b hb => by omega) (by omega) (by rw [show Tryd.t77.bytes = 16 from rfl]; omega) (by decide) fun v' W10 o' y10 => ?_
    obtain ⟨oa', oc', rfl⟩ := Db o'
    have q1 := (q1.ext y9 (fun h => h)).ext y10 (by omega)
    have q2 := (q2.ext y9 (fun h => h)).ext y10 (by omega)
    refine JL q1 rfl (by simp) fun W11 q1 y11 z11 => ?_
    simp only [Z7] at q1
    have q2 := q2.ext y11 (by omega)
    have o' := wI o' y11 (fun b hb h => by omega)
    have c2 := q2.cell (off := 0)
    simp only [ZK] at c2
    have e13 : ((13 * R.length : Nat) : Int) + 13 = ((13 * (R.length + 1) : Nat) : Int) := by omega
    simp (disch := omega) only [eY, gN, dX, stepR_skip, fO, gI, fP, gJ, gC, gE, gR, fZ, eU, fX, fU, gD, fR, fN, fW, fS, fV, gK, gG, fQ, fC, fY, gA, fL, iP, iS, iL, iT, iR, iM, iN, iQ, iO, eP, Result.ok.injEq, Next.value.injEq, true_and, and_true, fI, fJ, gB, fM, gH, gQ, ZO, fD, fF, fG, fE, eZ, eT, fB, eX, eQ, eH, if_true, if_false, ZM, ZS, ZN, ZP, ZR, ZQ, ZL, ZK, eA, dV, aB, dE, dJ, cB, eB, eS, eD, dN, eE, fA, dG, eI, bR, dL, bC, dR, aL, aH, eK, aZ, cI, eJ, aG, eL, dQ, aR, bD, eC, bG, bF, bJ, aP, aM, cG, fH, dY, cJ, cA, dB, cH, dT, bB, eM, bX, dS, bQ, bA, bT, aC, bU, bP, cF, bY, aU, aV, aX, bV, dD, cP, bO, aY, aN, aK, bH, aD, dC, dW, aJ, aI, aT, aF, cY, aE, cL, bW, bE, aO, cM, bZ, aA, dF, cU, cV, cC, dK, cD, dM, dU, cN, eF, eN, bN, aS, dZ, bS, aQ, bM, dI, dA, cS, cO, cR, bK, bL, cX, dO, cQ, dH, cZ, c2, e13]
    refine KC q2 rfl (by simp) fun W12 q2 y12 z12 => ?_
    simp only [Z7] at q2
    have y812 : gT W8 W12 M := (((y9.mono fun _ _ h => h.elim).seq (y10.mono fun y _ h => .inr (.inr (.inr h)))).seq (y11.mono fun y _ h => .inr (.inl h))).seq (y12.mono fun y _ h => .inr (.inr (.inl h)))
    have l12 := B2 (B2 (B2 (B2 l8 y9 (fun h => h)) y10 (by omega)) y11 (by omega)) y12 (by omega)
    refine Oc l12 fun W13 l13 y13 z13 => .inl ⟨rfl, R ++ [(K, V)], ?_, l13, ?_, _, ((x86.trans y68 fun y hy h => h.elim).seq y812).seq (y13.mono fun y _ h => .inl h), q1.ext y12 (by omega) |>.ext y13 (by omega), ?_, ?_⟩
    .rw [hR, hstep, if_pos hgood, aaC, <- hK, <- hV] <;> rfl
    .rw [ZV]; simp; omega
    .rw [ZV]; exact q2.ext y13 (by omega)
    .rw [ZV, List.flatMap_append]
     exact wI (wI o' y12 (fun b hb h => by omega)) y13 (fun b hb h => by omega)
 refine hmain.mono ?_
 rintro r w9 ⟨rfl, h⟩
 have fin : ∀ {wa : adR}, wa.heap[n0 + 4]? = some (.deferred (some [])) -> Q n0 wa (mT iI l) -> oS RR (.pointer (some ⟨n0, 0, none⟩)) (.pointer (some ⟨n0 + 1, 0, none⟩)) (.pointer (some ⟨n0 + 4, 0, none⟩)) wa := fun {wa} hd ⟨ov, hx, q1, q2, q3⟩ => by
  unfold oS
  have c1 := (kI q1).cell (off := 0)
  have c2 := (kI q2).cell (off := 0)
  simp only [ZK] at c1 c2
  simp (disch := omega) only [eY, gN, dX, stepR_skip, fO, gI, fP, gJ, gC, gE, gR, fZ, eU, fX, fU, gD, fR, fN, fW, fS, fV, gK, gG, fQ, fC, fY, gA, fL, iP, iS, iL, iT, iR, iM, iN, iQ, iO, eP, Result.ok.injEq, Next.value.injEq, true_and, and_true, fI, fJ, gB, fM, gH, gQ, ZO, fD, fF, fG, fE, eZ, eT, fB, eX, eQ, eH, if_true, if_false, ZM, ZS, ZN, ZP, ZR, ZQ, ZL, ZK, eA, dV, aB, dE, dJ, cB, eB, eS, eD, dN, eE, fA, dG, eI, bR, dL, bC, dR, aL, aH, eK, aZ, cI, eJ, aG, eL, dQ, aR, bD, eC, bG, bF, bJ, aP, aM, cG, fH, dY, cJ, cA, dB, cH, dT, bB, eM, bX, dS, bQ, bA, bT, aC, bU, bP, cF, bY, aU, aV, aX, bV, dD, cP, bO, aY, aN, aK, bH, aD, dC, dW, aJ, aI, aT, aF, cY, aE, cL, bW, bE, aO, cM, bZ, aA, dF, cU, cV, cC, dK, cD, dM, dU, cN, eF, eN, bN, aS, dZ, bS, aQ, bM, dI, dA, cS, cO, cR, bK, bL, cX, dO, cQ, dH, cZ, c1, c2]
  refine SQ hd fun we ye ze => ?_
  rw [hRR]
  refine ⟨ov, rfl, ?_, ((x08.trans hx fun y hy h => by omega).seq (gT.dr _ _)).trans ye fun y hy h => by omega⟩
  have o' := wI (wI q3 (gT.dr _ jL) (fun _ _ h => h)) ye (fun b hb h => by omega)
  refine ⟨o'.1, ?_⟩
  rcases o'.2 with h | ⟨b, c, rest, g1, g2, g3⟩
  .exact .inl h
  .exact .inr ⟨b, c, rest, g1, by omega, g3⟩
 have hz4 : put g (some DS) (.pointer (some ⟨n0 + 4, 0, none⟩)) 4 = g 4 := rfl
 have hz5 : put g (some DS) (.pointer (some ⟨n0 + 4, 0, none⟩)) 5 = g 5 := rfl
 have hzm : put g (some DS) (.pointer (some ⟨n0 + 4, 0, none⟩)) 1000003 = .pointer (some ⟨n0 + 4, 0, none⟩) := rfl
 have hQx : ∀ {W W' R}, Q n0 W R -> gT W W' (fun y => y = n0 + 5) -> Q n0 W' R := fun {W W' R} ⟨ov, h1, h2, h3, h4⟩ x => ⟨ov, h1.seq (x.mono fun y _ h => .inl h), h2.ext x (by omega), h3.ext x (by omega), wI h4 x (fun b hb h => by omega)⟩
 rcases h with ⟨i, hil, R, hR, hlp, hRl, hQ⟩ | ⟨hlp, hQ⟩
 .have hnil : l.drop i = [] := List.drop_eq_nil_of_le hil
  have hLR : mT iI l = R := by rw [hR, hnil]; exact aaT _
  obtain ⟨ov, hx, _⟩ := id hQ
  refine M5 hlp (by rw [hr0]; simp) fun wa ya za => ?_
  rw [hr0]
  show oS RR (put g (some DS) (.pointer (some ⟨n0 + 4, 0, none⟩)) 4) (put g (some DS) (.pointer (some ⟨n0 + 4, 0, none⟩)) 5) (put g (some DS) (.pointer (some ⟨n0 + 4, 0, none⟩)) 1000003) wa
  rw [hz4, hz5, hzm, g4, g5]
  refine fin (B2 (B2 d8 hx (by omega)) ya (by omega)) ?_
  rw [hLR]
  exact hQx hQ ya
 .obtain ⟨ov, hx, _⟩ := id hQ
  refine M5 hlp (by simp) fun wa ya za => ?_
  show oS RR (put g (some DS) (.pointer (some ⟨n0 + 4, 0, none⟩)) 4) (put g (some DS) (.pointer (some ⟨n0 + 4, 0, none⟩)) 5) (put g (some DS) (.pointer (some ⟨n0 + 4, 0, none⟩)) 1000003) wa
  rw [hz4, hz5, hzm, g4, g5]
  exact fin (B2 (B2 d8 hx (by omega)) ya (by omega)) (hQx hQ ya)
end Go.Proofs.YteelnmpbnaohpaaDoor
namespace Go.En
open Go Go.Pu
theorem Ym {v : adS} {P Q : Nat -> Prop} (h : wC v fun b => P b ∨ Q b) : wC v P ∨ wC v Q := by
 unfold wC at *
 split
 .exact h
 .rename_i hne
  split at h
  .exact absurd rfl (hne _ _ _)
  .exact h.elim
def GN (w : adR) (X : Nat -> Prop) (v : adS) (b : List UInt8) : Prop := Bs w v b /\ ¬ wC v X
theorem GN.ext {w w' : adR} {X M : Nat -> Prop} {v : adS} {b : List UInt8} (h : GN w X v b) (x : gT w w' M) (hM : ∀ b, M b -> X b) : GN w' X v b := ⟨h.1.ext x fun h' => h.2 (zJ h' hM), h.2⟩
theorem GN.sub {w : adR} {X Y : Nat -> Prop} {v : adS} {b : List UInt8} (h : GN w X v b) (hY : ∀ b, Y b -> X b ∨ w.heap.size <= b) : GN w Y v b :=
 ⟨h.1, fun h' => by
   rcases Ym (zJ h' hY) with h' | h'
   .exact h.2 h'
   .exact h.1.old h'⟩
def CN (w : adR) (X : Nat -> Prop) : List (ByteArray × adS) -> tY -> Prop
 | [], [] => True
 | p :: l, q :: c => p.1 = q.1 /\ GN w X p.2 q.2 /\ CN w X l c
 | _, _ => False
theorem CN.map {w w' : adR} {X Y : Nat -> Prop} (hd : ∀ v b, GN w X v b -> GN w' Y v b) : ∀ {l : List (ByteArray × adS)} {c : tY}, CN w X l c -> CN w' Y l c
 | [], [], _ => trivial
 | p :: l, q :: c, h => ⟨h.1, hd _ _ h.2.1, CN.map hd h.2.2⟩
theorem CN.ext {w w' : adR} {X M : Nat -> Prop} {l : List (ByteArray × adS)} {c : tY} (h : CN w X l c) (x : gT w w' M) (hM : ∀ b, M b -> X b) : CN w' X l c := h.map fun _ _ h => h.ext x hM
theorem CN.sub {w : adR} {X Y : Nat -> Prop} {l : List (ByteArray × adS)} {c : tY} (h : CN w X l c) (hY : ∀ b, Y b -> X b ∨ w.heap.size <= b) : CN w Y l c := h.map fun _ _ h => h.sub hY
theorem CN.get {w : adR} {X : Nat -> Prop} (k : ByteArray) : ∀ {l : List (ByteArray × adS)} {c : tY}, CN w X l c -> (HE k l = none /\ jF k c = none) ∨ ∃ v b, HE k l = some v /\ jF k c = some b /\ GN w X v b
 | [], [], _ => .inl ⟨rfl, rfl⟩
 | p :: l, q :: c, h => by
   obtain ⟨h1, h2, h3⟩ := h
   simp only [HE, jF, <- h1]
   by_cases hk : k = p.1
   .rw [if_pos hk, if_pos hk]; exact .inr ⟨_, _, rfl, rfl, h2⟩
   .rw [if_neg hk, if_neg hk]; exact CN.get k h3
theorem CN.set {w : adR} {X : Nat -> Prop} {k : ByteArray} {v : adS} {b : List UInt8} (hd : GN w X v b) : ∀ {l : List (ByteArray × adS)} {c : tY}, CN w X l c -> CN w X (Sn k v l) (pH k b c)
 | [], [], _ => ⟨rfl, hd, trivial⟩
 | p :: l, q :: c, h => by
   obtain ⟨h1, h2, h3⟩ := h
   simp only [Sn, pH, <- h1]
   by_cases hk : k = p.1
   .rw [if_pos hk, if_pos hk]; exact ⟨rfl, hd, h3⟩
   .rw [if_neg hk, if_neg hk]; exact ⟨h1, h2, CN.set hd h3⟩
theorem CN.del {w : adR} {X : Nat -> Prop} {k : ByteArray} : ∀ {l : List (ByteArray × adS)} {c : tY}, CN w X l c -> CN w X (del k l) (CF k c)
 | [], [], _ => trivial
 | p :: l, q :: c, h => by
   obtain ⟨h1, h2, h3⟩ := h
   simp only [Go.En.del, CF, <- h1]
   by_cases hk : k = p.1
   .rw [if_pos hk, if_pos hk]; exact h3
   .rw [if_neg hk, if_neg hk]; exact ⟨h1, h2, CN.del h3⟩
theorem CN.len {w : adR} {X : Nat -> Prop} : ∀ {l : List (ByteArray × adS)} {c : tY}, CN w X l c -> l.length = c.length
 | [], [], _ => rfl
 | p :: l, q :: c, h => by rw [aaG, aaG, CN.len h.2.2]
theorem CN.at {w : adR} {X : Nat -> Prop} : ∀ {l : List (ByteArray × adS)} {c : tY} {j : Nat} (h : CN w X l c) (h1 : j < l.length) (h2 : j < c.length), l[j].1 = c[j].1 /\ GN w X l[j].2 c[j].2
 | [], [], j, _, h1, _ => by simp at h1
 | p :: l, q :: c, 0, h, _, _ => ⟨h.1, h.2.1⟩
 | p :: l, q :: c, j + 1, h, h1, h2 => CN.at h.2.2 (by simpa using h1) (by simpa using h2)
theorem CN.erase {w : adR} {X : Nat -> Prop} : ∀ {l : List (ByteArray × adS)} {c : tY} (j : Nat) (h : CN w X l c), CN w X (l.eraseIdx j) (c.eraseIdx j)
 | [], [], j, _ => by simp [CN]
 | p :: l, q :: c, 0, h => h.2.2
 | p :: l, q :: c, j + 1, h => by
   rw [abE, abE]
   exact ⟨h.1, h.2.1, CN.erase j h.2.2⟩
def Pa (o : RS) (v : adS) : List adS := [.int .i64 o.kind, .string o.name, .string o.other, .int .i64 o.at', v]
def Nq (w : adR) (X : Nat -> Prop) : List adS -> List RS -> Prop
 | cs, [] => cs = []
 | cs, o :: os => ∃ v cs', (∃ x n k, v = .slice x n k) /\ cs = Pa o v ++ cs' /\ GN w X v o.bytes /\ Nq w X cs' os
theorem Nq.nil (w : adR) (X : Nat -> Prop) : Nq w X [] [] := rfl
theorem Nq.map {w w' : adR} {X Y : Nat -> Prop} (hd : ∀ v b, GN w X v b -> GN w' Y v b) : ∀ {os : List RS} {cs : List adS}, Nq w X cs os -> Nq w' Y cs os
 | [], cs, h => h
 | o :: os, cs, ⟨v, cs', h1, h2, h3, h4⟩ => ⟨v, cs', h1, h2, hd _ _ h3, Nq.map hd h4⟩
theorem Nq.ext {w w' : adR} {X M : Nat -> Prop} {os : List RS} {cs : List adS} (h : Nq w X cs os) (x : gT w w' M) (hM : ∀ b, M b -> X b) : Nq w' X cs os := h.map fun _ _ h => h.ext x hM
theorem Nq.sub {w : adR} {X Y : Nat -> Prop} {os : List RS} {cs : List adS} (h : Nq w X cs os) (hY : ∀ b, Y b -> X b ∨ w.heap.size <= b) : Nq w Y cs os := h.map fun _ _ h => h.sub hY
theorem Nq.len {w : adR} {X : Nat -> Prop} : ∀ {os : List RS} {cs : List adS}, Nq w X cs os -> cs.length = os.length * 5
 | [], cs, h => by rw [show cs = [] from h] <;> rfl
 | o :: os, cs, ⟨v, cs', h1, h2, h3, h4⟩ => by rw [h2, ZV, Nq.len h4, aaG]; show 5 + _ = _; omega
theorem Nq.snoc {w : adR} {X : Nat -> Prop} {o : RS} {v : adS} (hv : ∃ x n k, v = .slice x n k) (hd : GN w X v o.bytes) : ∀ {os : List RS} {cs : List adS}, Nq w X cs os -> Nq w X (cs ++ Pa o v) (os ++ [o])
 | [], cs, h => ⟨v, [], hv, by rw [show cs = [] from h, Z9, aaT], hd, rfl⟩
 | o' :: os, cs, ⟨v', cs', h1, h2, h3, h4⟩ => ⟨v', cs' ++ Pa o v, h1, by rw [h2, aaC], h3, Nq.snoc hv hd h4⟩
theorem Nq.at {w : adR} {X : Nat -> Prop} : ∀ {os : List RS} {cs : List adS} {i : Nat} (h : Nq w X cs os) (hi : i < os.length), ∃ v, (∃ x n k, v = .slice x n k) /\ (cs.drop (i * 5)).take 5 = Pa os[i] v /\ GN w X v os[i].bytes
 | [], cs, i, _, hi => by simp at hi
 | o :: os, cs, 0, ⟨v, cs', h1, h2, h3, h4⟩, _ => ⟨v, h1, by rw [h2] <;> rfl, h3⟩
 | o :: os, cs, i + 1, ⟨v, cs', h1, h2, h3, h4⟩, hi => by
   obtain ⟨v', q1, q2, q3⟩ := Nq.at h4 (i := i) (by simpa using hi)
   refine ⟨v', q1, ?_, q3⟩
   rw [show (i + 1) * 5 = 5 + i * 5 from by omega, <- acN, h2]
   exact q2
structure kD where
 room : Int
 sure : tY
 seen : tY
 under : List RS
 left : Int
 down : Bool
abbrev OI : ByteArray -> adS := fun s => .string s
def lX (w : adR) (p : Nat) (X D : Nat -> Prop) (S : kD) : Prop :=
 ∃ (ms mn : Nat) (sv : adS) (ls ln : List (ByteArray × adS)) (cs : List adS), X p /\ X ms /\ X mn /\ p ≠ ms /\ p ≠ mn /\ ms ≠ mn /\ (∀ b, X b -> D b) /\ (∀ b, D b -> b < w.heap.size) /\
   jH w p [.int .i64 S.room, .map (some ms), .map (some mn), sv, .int .i64 S.left, .bool S.down] /\ Mp w ms OI ls /\ Mp w mn OI ln /\ CN w D ls S.sure /\ CN w D ln S.seen /\
   IQ w (fun b => X b /\ b ≠ p /\ b ≠ ms /\ b ≠ mn) 5 sv S.under.length cs /\ Nq w D cs S.under
theorem lX.ext {w w' : adR} {p : Nat} {X D M : Nat -> Prop} {S : kD} (h : lX w p X D S) (x : gT w w' M) (hM : ∀ b, M b -> D b /\ ¬ X b) : lX w' p X D S := by
 obtain ⟨ms, mn, sv, ls, ln, cs, h1, h2, h3, h4, h5, h6, h7, h7', h8, h9, h10, h11, h12, h13, h14⟩ := h
 have hx : ∀ {b}, X b -> ¬ M b := fun hb hm => (hM _ hm).2 hb
 have hd : ∀ v b, GN w D v b -> GN w' D v b := fun _ _ hd => hd.ext x fun b h => (hM b h).1
 exact ⟨ms, mn, sv, ls, ln, cs, h1, h2, h3, h4, h5, h6, h7, fun b hb => abY (h7' b hb) x.size, h8.ext x (hx h1), h9.ext x (hx h2), h10.ext x (hx h3), h11.map hd, h12.map hd, h13.ext x (fun b hb => hx hb.1), h14.map hd⟩
theorem lX.new {w w' : adR} {p : Nat} {X D : Nat -> Prop} {S : kD} (h : lX w p X D S) (x : gT w w' jL) : lX w' p X D S := h.ext x fun _ h => h.elim
theorem lX.more {w w' : adR} {p q : Nat} {X D : Nat -> Prop} {S : kD} (h : lX w p X D S) (x : gT w w' jL) (hq : w.heap.size <= q) (hq' : q < w'.heap.size) : lX w' p X (fun b => D b ∨ b = q) S := by
 obtain ⟨ms, mn, sv, ls, ln, cs, h1, h2, h3, h4, h5, h6, h7, h7', h8, h9, h10, h11, h12, h13, h14⟩ := h
 have hd : ∀ v b, GN w D v b -> GN w' (fun b => D b ∨ b = q) v b := fun v b hd => (hd.sub (Y := fun b => D b ∨ b = q) fun b h => by
  rcases h with h | h
  .exact .inl h
  .exact .inr (by omega)).ext x fun _ h => h.elim
 have z := x.size
 exact ⟨ms, mn, sv, ls, ln, cs, h1, h2, h3, h4, h5, h6, fun b h => .inl (h7 b h), fun b hb => by
  rcases hb with hb | hb
  .have := h7' b hb; omega
  .omega, h8.ext x (fun h => h), h9.ext x (fun h => h), h10.ext x (fun h => h), h11.map hd, h12.map hd, h13.ext x (fun b _ h => h), h14.map hd⟩
end Go.En
namespace Go.Proofs.YteelnmpbnaohpaaDoor
open Go Go.En Go.Pu
set_option maxRecDepth 4000
def KZ (s : ByteArray) : Bool := decide (1 <= s.size /\ s.size <= 32)
theorem VQ (s : ByteArray) (w : adR) : gS pg A9 #[.string s] w (fun r w' => r = .bool (KZ s) /\ w' = w) := by
 refine Pj ?_
 unfold Sb Jp KZ
 by_cases h1 : 1 <= s.size
 .have d1 : decide ((1 : Int) <= (s.size : Int)) = true := by simp; omega
  by_cases h2 : s.size <= 32
  .have d2 : decide ((s.size : Int) <= 32) = true := by simp; omega
   rw [decide_eq_true ⟨h1, h2⟩]
   simp (disch := omega) only [eY, gN, dX, stepR_skip, fO, gI, fP, gJ, gC, gE, gR, fZ, eU, fX, fU, gD, fR, fN, fW, fS, fV, gK, gG, fQ, fC, fY, gA, fL, iP, iS, iL, iT, iR, iM, iN, iQ, iO, eP, Result.ok.injEq, Next.value.injEq, true_and, and_true, fI, fJ, gB, fM, gH, gQ, ZO, fD, fF, fG, fE, eZ, eT, fB, eX, eQ, eH, if_true, if_false, ZM, ZS, ZN, ZP, ZR, ZQ, ZL, ZK, eA, dV, aB, dE, dJ, cB, eB, eS, eD, dN, eE, fA, dG, eI, bR, dL, bC, dR, aL, aH, eK, aZ, cI, eJ, aG, eL, dQ, aR, bD, eC, bG, bF, bJ, aP, aM, cG, fH, dY, cJ, cA, dB, cH, dT, bB, eM, bX, dS, bQ, bA, bT, aC, bU, bP, cF, bY, aU, aV, aX, bV, dD, cP, bO, aY, aN, aK, bH, aD, dC, dW, aJ, aI, aT, aF, cY, aE, cL, bW, bE, aO, cM, bZ, aA, dF, cU, cV, cC, dK, cD, dM, dU, cN, eF, eN, bN, aS, dZ, bS, aQ, bM, dI, dA, cS, cO, cR, bK, bL, cX, dO, cQ, dH, cZ, d1, d2]
  .have d2 : decide ((s.size : Int) <= 32) = false := by simp; omega
   rw [decide_eq_false (fun h => h2 h.2)]
   simp (disch := omega) only [eY, gN, dX, stepR_skip, fO, gI, fP, gJ, gC, gE, gR, fZ, eU, fX, fU, gD, fR, fN, fW, fS, fV, gK, gG, fQ, fC, fY, gA, fL, iP, iS, iL, iT, iR, iM, iN, iQ, iO, eP, Result.ok.injEq, Next.value.injEq, true_and, and_true, fI, fJ, gB, fM, gH, gQ, ZO, fD, fF, fG, fE, eZ, eT, fB, eX, eQ, eH, if_true, if_false, ZM, ZS, ZN, ZP, ZR, ZQ, ZL, ZK, eA, dV, aB, dE, dJ, cB, eB, eS, eD, dN, eE, fA, dG, eI, bR, dL, bC, dR, aL, aH, eK, aZ, cI, eJ, aG, eL, dQ, aR, bD, eC, bG, bF, bJ, aP, aM, cG, fH, dY, cJ, cA, dB, cH, dT, bB, eM, bX, dS, bQ, bA, bT, aC, bU, bP, cF, bY, aU, aV, aX, bV, dD, cP, bO, aY, aN, aK, bH, aD, dC, dW, aJ, aI, aT, aF, cY, aE, cL, bW, bE, aO, cM, bZ, aA, dF, cU, cV, cC, dK, cD, dM, dU, cN, eF, eN, bN, aS, dZ, bS, aQ, bM, dI, dA, cS, cO, cR, bK, bL, cX, dO, cQ, dH, cZ, d1, d2]
 .have d1 : decide ((1 : Int) <= (s.size : Int)) = false := by simp; omega
  rw [decide_eq_false (fun h => h1 h.1)]
  simp (disch := omega) only [eY, gN, dX, stepR_skip, fO, gI, fP, gJ, gC, gE, gR, fZ, eU, fX, fU, gD, fR, fN, fW, fS, fV, gK, gG, fQ, fC, fY, gA, fL, iP, iS, iL, iT, iR, iM, iN, iQ, iO, eP, Result.ok.injEq, Next.value.injEq, true_and, and_true, fI, fJ, gB, fM, gH, gQ, ZO, fD, fF, fG, fE, eZ, eT, fB, eX, eQ, eH, if_true, if_false, ZM, ZS, ZN, ZP, ZR, ZQ, ZL, ZK, eA, dV, aB, dE, dJ, cB, eB, eS, eD, dN, eE, fA, dG, eI, bR, dL, bC, dR, aL, aH, eK, aZ, cI, eJ, aG, eL, dQ, aR, bD, eC, bG, bF, bJ, aP, aM, cG, fH, dY, cJ, cA, dB, cH, dT, bB, eM, bX, dS, bQ, bA, bT, aC, bU, bP, cF, bY, aU, aV, aX, bV, dD, cP, bO, aY, aN, aK, bH, aD, dC, dW, aJ, aI, aT, aF, cY, aE, cL, bW, bE, aO, cM, bZ, aA, dF, cU, cV, cC, dK, cD, dM, dU, cN, eF, eN, bN, aS, dZ, bS, aQ, bM, dI, dA, cS, cO, cR, bK, bL, cX, dO, cQ, dH, cZ, d1]
theorem Yl {m : Nat} {X : Nat -> Prop} {ls : List (ByteArray × adS)} {c : tY} {w : adR} (hm : Mp w m OI ls) (hf : CN w X ls c) (hs : iY c <= 1099511627776) :
 gS pg tP #[.map (some m)] w (fun r w' => r = .int .i64 (iY c : Nat) /\ gT w w' jL) := by
 refine IG ?_
 unfold Hw xN yC yE xI xO
 have hlt := hm.lt
 refine Pd hm fun w1 hi x1 s1 => ?_
 unfold yP xR
 have hf1 : CN w1 (fun b => X b ∨ w.heap.size <= b) ls c := (hf.sub (Y := fun b => X b ∨ w.heap.size <= b) fun _ h => h).ext x1 fun _ h => h.elim
 refine kC.rule (fun k (t : adS) w' => ∃ (rest : List (ByteArray × adS)) (cr : tY) (n : Nat), k = rest.length /\ t = .int .i64 n /\ Xy w' w.heap.size m OI rest /\ CN w' (fun b => X b ∨ w.heap.size <= b) rest cr /\ n + iY cr = iY c /\ gT w1 w' (fun y => y = w.heap.size)) ls.length
  ⟨ls, c, 0, rfl, rfl, hi, hf1, by omega, gT.refl _ _⟩ ?_
 rintro k t w2 ⟨rest, cr, n, rfl, rfl, hi2, hf2, hn, x2⟩
 unfold rT
 refine V3 hi2 (by omega) (fun h0 => ?_) fun w3 j hj hi3 hc x3 s3 => ?_
 .have hl := hf2.len
  rw [h0] at hl
  have hcr : cr = [] := aaB.1 hl.symm
  have hz : iY cr = 0 := by rw [hcr] <;> rfl
  unfold rK
  have e1 : n = iY c := by omega
  simp (disch := omega) only [eY, gN, dX, stepR_skip, fO, gI, fP, gJ, gC, gE, gR, fZ, eU, fX, fU, gD, fR, fN, fW, fS, fV, gK, gG, fQ, fC, fY, gA, fL, iP, iS, iL, iT, iR, iM, iN, iQ, iO, eP, Result.ok.injEq, Next.value.injEq, true_and, and_true, fI, fJ, gB, fM, gH, gQ, ZO, fD, fF, fG, fE, eZ, eT, fB, eX, eQ, eH, if_true, if_false, ZM, ZS, ZN, ZP, ZR, ZQ, ZL, ZK, eA, dV, aB, dE, dJ, cB, eB, eS, eD, dN, eE, fA, dG, eI, bR, dL, bC, dR, aL, aH, eK, aZ, cI, eJ, aG, eL, dQ, aR, bD, eC, bG, bF, bJ, aP, aM, cG, fH, dY, cJ, cA, dB, cH, dT, bB, eM, bX, dS, bQ, bA, bT, aC, bU, bP, cF, bY, aU, aV, aX, bV, dD, cP, bO, aY, aN, aK, bH, aD, dC, dW, aJ, aI, aT, aF, cY, aE, cL, bW, bE, aO, cM, bZ, aA, dF, cU, cV, cC, dK, cD, dM, dU, cN, eF, eN, bN, aS, dZ, bS, aQ, bM, dI, dA, cS, cO, cR, bK, bL, cX, dO, cQ, dH, cZ, e1]
  exact x1.new x2 (Z2 _)
 .have hl := hf2.len
  have hat := hf2.at hj (by omega)
  obtain ⟨va, vc, hv, _⟩ := hat.2.1.len
  rw [ZT] at hv
  have he := Xg (P := pg) hc
  rw [hv] at he
  have hse := Re (c := cr) (j := j) (by omega)
  generalize (cr[j]'(by omega)).2.length = q at *
  have e1 : (n : Int) + (q : Int) = ((n + q : Nat) : Int) := by omega
  simp (disch := omega) only [eY, gN, dX, stepR_skip, fO, gI, fP, gJ, gC, gE, gR, fZ, eU, fX, fU, gD, fR, fN, fW, fS, fV, gK, gG, fQ, fC, fY, gA, fL, iP, iS, iL, iT, iR, iM, iN, iQ, iO, eP, Result.ok.injEq, Next.value.injEq, true_and, and_true, fI, fJ, gB, fM, gH, gQ, ZO, fD, fF, fG, fE, eZ, eT, fB, eX, eQ, eH, if_true, if_false, ZM, ZS, ZN, ZP, ZR, ZQ, ZL, ZK, eA, dV, aB, dE, dJ, cB, eB, eS, eD, dN, eE, fA, dG, eI, bR, dL, bC, dR, aL, aH, eK, aZ, cI, eJ, aG, eL, dQ, aR, bD, eC, bG, bF, bJ, aP, aM, cG, fH, dY, cJ, cA, dB, cH, dT, bB, eM, bX, dS, bQ, bA, bT, aC, bU, bP, cF, bY, aU, aV, aX, bV, dD, cP, bO, aY, aN, aK, bH, aD, dC, dW, aJ, aI, aT, aF, cY, aE, cL, bW, bE, aO, cM, bZ, aA, dF, cU, cV, cC, dK, cD, dM, dU, cN, eF, eN, bN, aS, dZ, bS, aQ, bM, dI, dA, cS, cO, cR, bK, bL, cX, dO, cQ, dH, cZ, he, e1]
  refine ⟨(rest.eraseIdx j).length, by rw [List.length_eraseIdx_of_lt hj]; omega, _, cr.eraseIdx j, n + q, rfl, rfl, hi3, (hf2.erase j).ext x3 (fun b h => .inr (by omega)), by omega, x2.seq x3⟩
theorem SE (cs : List adS) (n : Nat) : nE cs n [] = cs := by unfold nE; rfl
theorem TB (n : Nat) : (List.replicate n (0 : UInt8)).map nU = List.replicate n (Value.int .u8 0) := by rw [acW] <;> rfl
theorem Zs {m : Nat} {X : Nat -> Prop} {ls : List (ByteArray × adS)} {c : tY} {o : RS} {va : Option Addr} {vc : Nat} {w : adR} (hm : Mp w m OI ls) (hmX : X m) (hX : ∀ b, X b -> b < w.heap.size) (hf : CN w X ls c)
 (hd : GN w X (.slice va o.bytes.length vc) o.bytes) (hs : iY c <= 1099511627776) (ha : o.at' <= 1099511627776) (hb : o.bytes.length <= 1099511627776) :
 gS pg xE #[.map (some m), .agg (Pa o (.slice va o.bytes.length vc)).toArray] w (fun r w' => r = .tuple #[] /\ ∃ ls', Mp w' m OI ls' /\ CN w' X ls' (Ny o c) /\ gT w w' (fun b => b = m)) := by
 refine KN ?_
 unfold Kf A7
 refine oC fun w1 o1 x1 s1 => ?_
 have o1 : jH w1 w.heap.size [.int .i64 o.kind, .string o.name, .string o.other, .int .i64 o.at', .slice va o.bytes.length vc] := o1
 have hlt := hm.lt
 have hm1 := hm.ext x1 (fun h => h)
 have fin : ∀ {w' : adR} {ls' : List (ByteArray × adS)}, Mp w' m OI ls' -> CN w' X ls' (Ny o c) -> gT w w' (fun b => b = m) -> ∃ ls', Mp w' m OI ls' /\ CN w' X ls' (Ny o c) /\ gT w w' (fun b => b = m) := fun h1 h2 h3 => ⟨_, h1, h2, h3⟩
 have hfx : ∀ {w' : adR}, gT w w' (fun b => b = m) -> CN w' X ls c := fun x => hf.ext x fun b h => h ▸ hmX
 obtain ⟨oa, oc, ob, th, l0, hbo, hnx, hob, hth⟩ : ∃ (oa : Option Addr) (oc : Nat) (ob : List UInt8) (th : Bool), (zZ 61 (.map (some m)) (.string o.name) true).run pg w1 = .ok (.value (.tuple #[.slice oa ob.length oc, .bool th])) w1 /\ Bs w (.slice oa ob.length oc) ob /\ ¬ wC (.slice oa ob.length oc) X /\
  (jF o.name c).getD [] = ob /\ (th = true /\ jF o.name c = some ob ∨ th = false /\ jF o.name c = none) := by
  have l0 := Bn hm1 o.name
  rcases hf.get o.name with ⟨h1, h2⟩ | ⟨v, b, h1, h2, h3⟩
  .rw [h1] at l0
   exact ⟨none, 0, [], false, l0, Sl.nil _, fun h => h, by rw [h2] <;> rfl, .inr ⟨rfl, h2⟩⟩
  .obtain ⟨a', c', hv, _⟩ := h3.1.len
   rw [ZT] at hv
   subst hv
   rw [h1] at l0
   exact ⟨a', c', b, true, l0, h3.1, h3.2, by rw [h2] <;> rfl, .inl ⟨rfl, h2⟩⟩
 have c0 := o1.cell (off := 0)
 have c1 := o1.cell (off := 1)
 have c2 := o1.cell (off := 2)
 have c3 := o1.cell (off := 3)
 have c4 := o1.cell (off := 4)
 simp only [ZK, ZL] at c0 c1 c2 c3 c4
 have holdlen : ob.length <= 1099511627776 := by rw [<- hob]; have := CK (k := o.name) (c := c); omega
 by_cases k0 : o.kind = 0
 .have n1 : (((o.kind : Nat) : Int) == 0) = true := by rw [k0] <;> rfl
  obtain ⟨M, hM⟩ : ∃ M, M = max ob.length (o.at' + o.bytes.length) := ⟨_, rfl⟩
  have e1 : (o.at' : Int) + (o.bytes.length : Int) = ((o.at' + o.bytes.length : Nat) : Int) := by omega
  have hmax : (if ((o.at' + o.bytes.length : Nat) : Int) > (ob.length : Int) then ((o.at' + o.bytes.length : Nat) : Int) else (ob.length : Int)) = ((M : Nat) : Int) := by
   split <;> omega
  simp (disch := omega) only [eY, gN, dX, stepR_skip, fO, gI, fP, gJ, gC, gE, gR, fZ, eU, fX, fU, gD, fR, fN, fW, fS, fV, gK, gG, fQ, fC, fY, gA, fL, iP, iS, iL, iT, iR, iM, iN, iQ, iO, eP, Result.ok.injEq, Next.value.injEq, true_and, and_true, fI, fJ, gB, fM, gH, gQ, ZO, fD, fF, fG, fE, eZ, eT, fB, eX, eQ, eH, if_true, if_false, ZM, ZS, ZN, ZP, ZR, ZQ, ZL, ZK, eA, dV, aB, dE, dJ, cB, eB, eS, eD, dN, eE, fA, dG, eI, bR, dL, bC, dR, aL, aH, eK, aZ, cI, eJ, aG, eL, dQ, aR, bD, eC, bG, bF, bJ, aP, aM, cG, fH, dY, cJ, cA, dB, cH, dT, bB, eM, bX, dS, bQ, bA, bT, aC, bU, bP, cF, bY, aU, aV, aX, bV, dD, cP, bO, aY, aN, aK, bH, aD, dC, dW, aJ, aI, aT, aF, cY, aE, cL, bW, bE, aO, cM, bZ, aA, dF, cU, cV, cC, dK, cD, dM, dU, cN, eF, eN, bN, aS, dZ, bS, aQ, bM, dI, dA, cS, cO, cR, bK, bL, cX, dO, cQ, dH, cZ, c0, c1, c3, c4, l0, n1, e1, hmax]
  refine Nf (by omega) (by omega) fun w2 o2 x2 s2 => ?_
  rw [ZO] at o2 ⊢
  have x02 := x1.seq x2
  have hnb : ¬ wC (.slice oa ob.length oc) (fun y => y = w1.heap.size) := fun h => hbo.old (zJ h fun b hb => by omega)
  refine Ey o2 (by rw [aaF]; omega) (hbo.ext x02 (jI _)) (EV _) fun w3 o3 x3 s3 => ?_
  have P3 : nE (List.replicate M (Value.int .u8 0)) 0 ((ob.map nU).take (min (ob.map nU).length M)) = (ob ++ List.replicate (M - ob.length) 0).map nU := by
   rw [ZT, aaM (by omega), ZY (by rw [ZT]; omega)]
   have := oM (ob.map nU) [] (List.replicate M (Value.int .u8 0)) (by rw [ZT, aaF]; omega)
   rw [Z9, Z9, abR] at this
   rw [this, aaY, TB, List.drop_replicate, ZT]
  rw [P3] at o3
  have x03 : gT w w3 jL := x02.new x3 (by omega)
  have o13 := (o1.ext x2 (fun h => h)).ext x3 (by omega)
  have hm3 := hm.ext x03 (fun h => h)
  have q1 := o13.cell (off := 1)
  have q3 := o13.cell (off := 3)
  have q4 := o13.cell (off := 4)
  have q3d := (kI o13).cell (off := 3)
  have q4d := (kI o13).cell (off := 4)
  simp only [ZK, ZL] at q1 q3 q4 q3d q4d
  have hbd : Bs (dr w3) (.slice va o.bytes.length vc) o.bytes := (hd.1.ext x03 (jI _)).ext (gT.dr _ jL) (jI _)
  have hhm : o.at' <= M := by omega
  have hP : (ob ++ List.replicate (M - ob.length) (0 : UInt8)).length = M := by rw [ZV, aaF]; omega
  have hov : over ob o.at' o.bytes = (ob ++ List.replicate (M - ob.length) 0).take o.at' ++ o.bytes ++ (ob ++ List.replicate (M - ob.length) 0).drop (o.at' + o.bytes.length) := by unfold over; rw [<- hM]
  have hol := IV ob o.at' o.bytes
  generalize ob ++ List.replicate (M - ob.length) (0 : UInt8) = P at *
  have ending : ∀ (w4 : adR), jH w4 w1.heap.size ((over ob o.at' o.bytes).map nU) -> gT w w4 jL →
      eY pg (KE 61 (.map (some m)) (.string o.name) (.slice (some ⟨w1.heap.size, 0, none⟩) M M)) w4 fun _ w' => ∃ ls', Mp w' m OI ls' /\ CN w' X ls' (Ny o c) /\ gT w w' (fun b => b = m) := fun w4 o4 x4 => by
   refine J8 (hm.ext x4 (fun h => h)) o.name _ fun w5 hm5 x5 s5 => ?_
   have x05 : gT w w5 (fun b => b = m) := (x4.mono fun _ _ h => h.elim).seq x5
   have hdo : Ny o c = pH o.name (over ob o.at' o.bytes) c := by unfold Ny; rw [if_pos k0, hob]
   rw [hdo]
   refine ⟨_, hm5, CN.set ⟨?_, fun h => ?_⟩ (hfx x05), x05⟩
   .have := jH.whole (c := M) (o4.ext x5 (by omega)) (by omega)
    rw [hol, <- hM] at this
    exact this
   .obtain ⟨M', hM'⟩ : ∃ M', M = M' + 1 ∨ M = 0 := ⟨M - 1, by omega⟩
    rcases hM' with h' | h'
    .rw [h'] at h
     have h : X w1.heap.size := h
     have := hX _ h
     omega
    .rw [h'] at h
     exact h
  by_cases hat : o.at' < M
  .have hsh : jR (some ⟨w1.heap.size, 0, none⟩) M o.at' 1 = some ⟨w1.heap.size, 0 + o.at', none⟩ := Sw (by omega)
   simp (disch := omega) only [eY, gN, dX, stepR_skip, fO, gI, fP, gJ, gC, gE, gR, fZ, eU, fX, fU, gD, fR, fN, fW, fS, fV, gK, gG, fQ, fC, fY, gA, fL, iP, iS, iL, iT, iR, iM, iN, iQ, iO, eP, Result.ok.injEq, Next.value.injEq, true_and, and_true, fI, fJ, gB, fM, gH, gQ, ZO, fD, fF, fG, fE, eZ, eT, fB, eX, eQ, eH, if_true, if_false, ZM, ZS, ZN, ZP, ZR, ZQ, ZL, ZK, eA, dV, aB, dE, dJ, cB, eB, eS, eD, dN, eE, fA, dG, eI, bR, dL, bC, dR, aL, aH, eK, aZ, cI, eJ, aG, eL, dQ, aR, bD, eC, bG, bF, bJ, aP, aM, cG, fH, dY, cJ, cA, dB, cH, dT, bB, eM, bX, dS, bQ, bA, bT, aC, bU, bP, cF, bY, aU, aV, aX, bV, dD, cP, bO, aY, aN, aK, bH, aD, dC, dW, aJ, aI, aT, aF, cY, aE, cL, bW, bE, aO, cM, bZ, aA, dF, cU, cV, cC, dK, cD, dM, dU, cN, eF, eN, bN, aS, dZ, bS, aQ, bM, dI, dA, cS, cO, cR, bK, bL, cX, dO, cQ, dH, cZ, q3, q4, q3d, q4d, hsh]
   refine Ey (off := o.at') (kI o3) (by rw [ZT]; omega) hbd (EV _) fun w4 o4 x4 s4 => ?_
   have P4 : nE (P.map nU) o.at' ((o.bytes.map nU).take (min (o.bytes.map nU).length (M - o.at'))) = (over ob o.at' o.bytes).map nU := by
    rw [ZT, aaM (by omega), ZY (by rw [ZT]; omega)]
    have := oM (o.bytes.map nU) ((P.take o.at').map nU) ((P.drop o.at').map nU) (by rw [ZT, ZT, Z3]; omega)
    rw [<- aaY, adI, ZT, Z5, aaM (by omega)] at this
    rw [this, hov, ZT, aaY, aaY, <- acE, acN]
   rw [P4] at o4
   have x34 : gT w3 w4 (fun y => y = w1.heap.size) := (gT.dr _ _).seq x4
   have x04 : gT w w4 jL := x03.new x34 (by omega)
   have o14 := o13.ext x34 (by omega)
   have q1 := o14.cell (off := 1)
   have q1d := (kI o14).cell (off := 1)
   simp only [ZK, ZL] at q1 q1d
   have e4 := ending w4 o4 x04
   simp (disch := omega) only [eY, gN, dX, stepR_skip, fO, gI, fP, gJ, gC, gE, gR, fZ, eU, fX, fU, gD, fR, fN, fW, fS, fV, gK, gG, fQ, fC, fY, gA, fL, iP, iS, iL, iT, iR, iM, iN, iQ, iO, eP, Result.ok.injEq, Next.value.injEq, true_and, and_true, fI, fJ, gB, fM, gH, gQ, ZO, fD, fF, fG, fE, eZ, eT, fB, eX, eQ, eH, if_true, if_false, ZM, ZS, ZN, ZP, ZR, ZQ, ZL, ZK, eA, dV, aB, dE, dJ, cB, eB, eS, eD, dN, eE, fA, dG, eI, bR, dL, bC, dR, aL, aH, eK, aZ, cI, eJ, aG, eL, dQ, aR, bD, eC, bG, bF, bJ, aP, aM, cG, fH, dY, cJ, cA, dB, cH, dT, bB, eM, bX, dS, bQ, bA, bT, aC, bU, bP, cF, bY, aU, aV, aX, bV, dD, cP, bO, aY, aN, aK, bH, aD, dC, dW, aJ, aI, aT, aF, cY, aE, cL, bW, bE, aO, cM, bZ, aA, dF, cU, cV, cC, dK, cD, dM, dU, cN, eF, eN, bN, aS, dZ, bS, aQ, bM, dI, dA, cS, cO, cR, bK, bL, cX, dO, cQ, dH, cZ, q1, q1d]
   exact e4
  .have hE : o.at' = M := by omega
   have hb0 : o.bytes = [] := aaB.1 (by omega)
   have hsh : jR (some ⟨w1.heap.size, 0, none⟩) M o.at' 1 = some ⟨w1.heap.size, 0, none⟩ := by unfold jR; rw [if_pos hE.symm]
   simp (disch := omega) only [eY, gN, dX, stepR_skip, fO, gI, fP, gJ, gC, gE, gR, fZ, eU, fX, fU, gD, fR, fN, fW, fS, fV, gK, gG, fQ, fC, fY, gA, fL, iP, iS, iL, iT, iR, iM, iN, iQ, iO, eP, Result.ok.injEq, Next.value.injEq, true_and, and_true, fI, fJ, gB, fM, gH, gQ, ZO, fD, fF, fG, fE, eZ, eT, fB, eX, eQ, eH, if_true, if_false, ZM, ZS, ZN, ZP, ZR, ZQ, ZL, ZK, eA, dV, aB, dE, dJ, cB, eB, eS, eD, dN, eE, fA, dG, eI, bR, dL, bC, dR, aL, aH, eK, aZ, cI, eJ, aG, eL, dQ, aR, bD, eC, bG, bF, bJ, aP, aM, cG, fH, dY, cJ, cA, dB, cH, dT, bB, eM, bX, dS, bQ, bA, bT, aC, bU, bP, cF, bY, aU, aV, aX, bV, dD, cP, bO, aY, aN, aK, bH, aD, dC, dW, aJ, aI, aT, aF, cY, aE, cL, bW, bE, aO, cM, bZ, aA, dF, cU, cV, cC, dK, cD, dM, dU, cN, eF, eN, bN, aS, dZ, bS, aQ, bM, dI, dA, cS, cO, cR, bK, bL, cX, dO, cQ, dH, cZ, q3, q4, q3d, q4d, hsh]
   refine Ey (off := 0) (kI o3) (by rw [ZT]; omega) hbd (EV _) fun w4 o4 x4 s4 => ?_
   have P4 : nE (P.map nU) 0 ((o.bytes.map nU).take (min (o.bytes.map nU).length (M - o.at'))) = (over ob o.at' o.bytes).map nU := by
    rw [hov, hb0]
    show nE (P.map nU) 0 (List.take (min 0 (M - o.at')) []) = _
    rw [List.take_nil, SE, aaT, abR, Nat.add_zero, adI]
   rw [P4] at o4
   have x34 : gT w3 w4 (fun y => y = w1.heap.size) := (gT.dr _ _).seq x4
   have x04 : gT w w4 jL := x03.new x34 (by omega)
   have o14 := o13.ext x34 (by omega)
   have q1 := o14.cell (off := 1)
   have q1d := (kI o14).cell (off := 1)
   simp only [ZK, ZL] at q1 q1d
   have e4 := ending w4 o4 x04
   simp (disch := omega) only [eY, gN, dX, stepR_skip, fO, gI, fP, gJ, gC, gE, gR, fZ, eU, fX, fU, gD, fR, fN, fW, fS, fV, gK, gG, fQ, fC, fY, gA, fL, iP, iS, iL, iT, iR, iM, iN, iQ, iO, eP, Result.ok.injEq, Next.value.injEq, true_and, and_true, fI, fJ, gB, fM, gH, gQ, ZO, fD, fF, fG, fE, eZ, eT, fB, eX, eQ, eH, if_true, if_false, ZM, ZS, ZN, ZP, ZR, ZQ, ZL, ZK, eA, dV, aB, dE, dJ, cB, eB, eS, eD, dN, eE, fA, dG, eI, bR, dL, bC, dR, aL, aH, eK, aZ, cI, eJ, aG, eL, dQ, aR, bD, eC, bG, bF, bJ, aP, aM, cG, fH, dY, cJ, cA, dB, cH, dT, bB, eM, bX, dS, bQ, bA, bT, aC, bU, bP, cF, bY, aU, aV, aX, bV, dD, cP, bO, aY, aN, aK, bH, aD, dC, dW, aJ, aI, aT, aF, cY, aE, cL, bW, bE, aO, cM, bZ, aA, dF, cU, cV, cC, dK, cD, dM, dU, cN, eF, eN, bN, aS, dZ, bS, aQ, bM, dI, dA, cS, cO, cR, bK, bL, cX, dO, cQ, dH, cZ, q1, q1d]
   exact e4
 have n1 : (((o.kind : Nat) : Int) == 0) = false := beq_eq_false_iff_ne.2 (by omega)
 have self : gT w w1 (fun b => b = m) := x1.mono fun _ _ h => h.elim
 by_cases k1 : o.kind = 1
 .have n2 : (((o.kind : Nat) : Int) == 1) = true := by rw [k1] <;> rfl
  rcases hth with ⟨rfl, hg⟩ | ⟨rfl, hg⟩
  .have hdo : Ny o c = pH o.other ob (CF o.name c) := by unfold Ny; rw [if_neg k0, if_pos k1, hg]
   simp (disch := omega) only [eY, gN, dX, stepR_skip, fO, gI, fP, gJ, gC, gE, gR, fZ, eU, fX, fU, gD, fR, fN, fW, fS, fV, gK, gG, fQ, fC, fY, gA, fL, iP, iS, iL, iT, iR, iM, iN, iQ, iO, eP, Result.ok.injEq, Next.value.injEq, true_and, and_true, fI, fJ, gB, fM, gH, gQ, ZO, fD, fF, fG, fE, eZ, eT, fB, eX, eQ, eH, if_true, if_false, ZM, ZS, ZN, ZP, ZR, ZQ, ZL, ZK, eA, dV, aB, dE, dJ, cB, eB, eS, eD, dN, eE, fA, dG, eI, bR, dL, bC, dR, aL, aH, eK, aZ, cI, eJ, aG, eL, dQ, aR, bD, eC, bG, bF, bJ, aP, aM, cG, fH, dY, cJ, cA, dB, cH, dT, bB, eM, bX, dS, bQ, bA, bT, aC, bU, bP, cF, bY, aU, aV, aX, bV, dD, cP, bO, aY, aN, aK, bH, aD, dC, dW, aJ, aI, aT, aF, cY, aE, cL, bW, bE, aO, cM, bZ, aA, dF, cU, cV, cC, dK, cD, dM, dU, cN, eF, eN, bN, aS, dZ, bS, aQ, bM, dI, dA, cS, cO, cR, bK, bL, cX, dO, cQ, dH, cZ, c0, c1, c2, c3, c4, l0, n1, n2]
   refine Kd hm1 o.name fun w2 hm2 x2 s2 => ?_
   have x02 := self.seq x2
   have q2 := (o1.ext x2 (by omega)).cell (off := 2)
   simp only [ZK, ZL] at q2
   simp (disch := omega) only [eY, gN, dX, stepR_skip, fO, gI, fP, gJ, gC, gE, gR, fZ, eU, fX, fU, gD, fR, fN, fW, fS, fV, gK, gG, fQ, fC, fY, gA, fL, iP, iS, iL, iT, iR, iM, iN, iQ, iO, eP, Result.ok.injEq, Next.value.injEq, true_and, and_true, fI, fJ, gB, fM, gH, gQ, ZO, fD, fF, fG, fE, eZ, eT, fB, eX, eQ, eH, if_true, if_false, ZM, ZS, ZN, ZP, ZR, ZQ, ZL, ZK, eA, dV, aB, dE, dJ, cB, eB, eS, eD, dN, eE, fA, dG, eI, bR, dL, bC, dR, aL, aH, eK, aZ, cI, eJ, aG, eL, dQ, aR, bD, eC, bG, bF, bJ, aP, aM, cG, fH, dY, cJ, cA, dB, cH, dT, bB, eM, bX, dS, bQ, bA, bT, aC, bU, bP, cF, bY, aU, aV, aX, bV, dD, cP, bO, aY, aN, aK, bH, aD, dC, dW, aJ, aI, aT, aF, cY, aE, cL, bW, bE, aO, cM, bZ, aA, dF, cU, cV, cC, dK, cD, dM, dU, cN, eF, eN, bN, aS, dZ, bS, aQ, bM, dI, dA, cS, cO, cR, bK, bL, cX, dO, cQ, dH, cZ, q2]
   refine J8 hm2 o.other _ fun w3 hm3 x3 s3 => ?_
   have x03 := x02.seq x3
   rw [hdo]
   refine fin (w' := w3) hm3 ?_ x03 |> fun h => by rw [hdo] at h; exact h
   rw [hdo]
   exact CN.set ⟨hbo.ext x03 (fun h => hnx (zJ h fun b hb => by rw [hb]; exact hmX)), hnx⟩ (CN.del (hfx x03))
  .have hdo : Ny o c = c := by unfold Ny; rw [if_neg k0, if_pos k1, hg]
   simp (disch := omega) only [eY, gN, dX, stepR_skip, fO, gI, fP, gJ, gC, gE, gR, fZ, eU, fX, fU, gD, fR, fN, fW, fS, fV, gK, gG, fQ, fC, fY, gA, fL, iP, iS, iL, iT, iR, iM, iN, iQ, iO, eP, Result.ok.injEq, Next.value.injEq, true_and, and_true, fI, fJ, gB, fM, gH, gQ, ZO, fD, fF, fG, fE, eZ, eT, fB, eX, eQ, eH, if_true, if_false, ZM, ZS, ZN, ZP, ZR, ZQ, ZL, ZK, eA, dV, aB, dE, dJ, cB, eB, eS, eD, dN, eE, fA, dG, eI, bR, dL, bC, dR, aL, aH, eK, aZ, cI, eJ, aG, eL, dQ, aR, bD, eC, bG, bF, bJ, aP, aM, cG, fH, dY, cJ, cA, dB, cH, dT, bB, eM, bX, dS, bQ, bA, bT, aC, bU, bP, cF, bY, aU, aV, aX, bV, dD, cP, bO, aY, aN, aK, bH, aD, dC, dW, aJ, aI, aT, aF, cY, aE, cL, bW, bE, aO, cM, bZ, aA, dF, cU, cV, cC, dK, cD, dM, dU, cN, eF, eN, bN, aS, dZ, bS, aQ, bM, dI, dA, cS, cO, cR, bK, bL, cX, dO, cQ, dH, cZ, c0, c1, c2, c3, c4, l0, n1, n2]
   exact fin hm1 (by rw [hdo]; exact hfx self) self
 have n2 : (((o.kind : Nat) : Int) == 1) = false := beq_eq_false_iff_ne.2 (by omega)
 by_cases k2 : o.kind = 2
 .have n3 : (((o.kind : Nat) : Int) == 2) = true := by rw [k2] <;> rfl
  have hdo : Ny o c = CF o.name c := by unfold Ny; rw [if_neg k0, if_neg k1, if_pos k2]
  simp (disch := omega) only [eY, gN, dX, stepR_skip, fO, gI, fP, gJ, gC, gE, gR, fZ, eU, fX, fU, gD, fR, fN, fW, fS, fV, gK, gG, fQ, fC, fY, gA, fL, iP, iS, iL, iT, iR, iM, iN, iQ, iO, eP, Result.ok.injEq, Next.value.injEq, true_and, and_true, fI, fJ, gB, fM, gH, gQ, ZO, fD, fF, fG, fE, eZ, eT, fB, eX, eQ, eH, if_true, if_false, ZM, ZS, ZN, ZP, ZR, ZQ, ZL, ZK, eA, dV, aB, dE, dJ, cB, eB, eS, eD, dN, eE, fA, dG, eI, bR, dL, bC, dR, aL, aH, eK, aZ, cI, eJ, aG, eL, dQ, aR, bD, eC, bG, bF, bJ, aP, aM, cG, fH, dY, cJ, cA, dB, cH, dT, bB, eM, bX, dS, bQ, bA, bT, aC, bU, bP, cF, bY, aU, aV, aX, bV, dD, cP, bO, aY, aN, aK, bH, aD, dC, dW, aJ, aI, aT, aF, cY, aE, cL, bW, bE, aO, cM, bZ, aA, dF, cU, cV, cC, dK, cD, dM, dU, cN, eF, eN, bN, aS, dZ, bS, aQ, bM, dI, dA, cS, cO, cR, bK, bL, cX, dO, cQ, dH, cZ, c0, c1, c2, c3, c4, l0, n1, n2, n3]
  refine Kd hm1 o.name fun w2 hm2 x2 s2 => ?_
  have x02 := self.seq x2
  exact fin hm2 (by rw [hdo]; exact CN.del (hfx x02)) x02
 .have n3 : (((o.kind : Nat) : Int) == 2) = false := beq_eq_false_iff_ne.2 (by omega)
  have hdo : Ny o c = c := by unfold Ny; rw [if_neg k0, if_neg k1, if_neg k2]
  simp (disch := omega) only [eY, gN, dX, stepR_skip, fO, gI, fP, gJ, gC, gE, gR, fZ, eU, fX, fU, gD, fR, fN, fW, fS, fV, gK, gG, fQ, fC, fY, gA, fL, iP, iS, iL, iT, iR, iM, iN, iQ, iO, eP, Result.ok.injEq, Next.value.injEq, true_and, and_true, fI, fJ, gB, fM, gH, gQ, ZO, fD, fF, fG, fE, eZ, eT, fB, eX, eQ, eH, if_true, if_false, ZM, ZS, ZN, ZP, ZR, ZQ, ZL, ZK, eA, dV, aB, dE, dJ, cB, eB, eS, eD, dN, eE, fA, dG, eI, bR, dL, bC, dR, aL, aH, eK, aZ, cI, eJ, aG, eL, dQ, aR, bD, eC, bG, bF, bJ, aP, aM, cG, fH, dY, cJ, cA, dB, cH, dT, bB, eM, bX, dS, bQ, bA, bT, aC, bU, bP, cF, bY, aU, aV, aX, bV, dD, cP, bO, aY, aN, aK, bH, aD, dC, dW, aJ, aI, aT, aF, cY, aE, cL, bW, bE, aO, cM, bZ, aA, dF, cU, cV, cC, dK, cD, dM, dU, cN, eF, eN, bN, aS, dZ, bS, aQ, bM, dI, dA, cS, cO, cR, bK, bL, cX, dO, cQ, dH, cZ, c0, c1, c2, c3, c4, l0, n1, n2, n3]
  exact fin hm1 (by rw [hdo]; exact hfx self) self
abbrev dP (p : Nat) : adS := .pointer (some ⟨p, 0, none⟩)
def Bw (w : adR) (p : Nat) (X D : Nat -> Prop) (S' : kD) (w' : adR) : Prop := ∃ X' D', lX w' p X' D' S' /\ (∀ b, X' b -> X b ∨ w.heap.size <= b) /\ (∀ b, D b -> D' b) /\ gT w w' X
theorem Bw.refl {w : adR} {p : Nat} {X D : Nat -> Prop} {S : kD} (h : lX w p X D S) : Bw w p X D S w := ⟨X, D, h, fun _ h => .inl h, fun _ h => h, gT.refl _ _⟩
theorem Bw.step {w w1 w2 : adR} {p : Nat} {X D X1 D1 : Nat -> Prop} {S2 : kD} (x : gT w w1 X) (hX : ∀ b, X1 b -> X b ∨ w.heap.size <= b) (hD : ∀ b, D b -> D1 b) (h : Bw w1 p X1 D1 S2 w2) : Bw w p X D S2 w2 := by
 obtain ⟨X2, D2, h1, h2, h4, h3⟩ := h
 have z := x.size
 refine ⟨X2, D2, h1, fun b hb => ?_, fun b hb => h4 b (hD b hb), x.trans h3 fun b hb hx => ?_⟩
 .rcases h2 b hb with h | h
  .exact hX b h
  .exact .inr (by omega)
 .rcases hX b hx with h | h
  .exact h
  .omega
theorem Tr {w : adR} {S T : Nat -> Prop} {sz n : Nat} {v : adS} {l : List adS} (h : IQ w S sz v n l) (hT : ∀ b, S b -> T b) : IQ w T sz v n l := by
 refine ⟨h.1, ?_⟩
 rcases h.2 with h2 | ⟨b, c, rest, h1, h2, h3⟩
 .exact .inl h2
 .exact .inr ⟨b, c, rest, h1, hT b h2, h3⟩
theorem NA {w : adR} {S : Nat -> Prop} {sz n : Nat} {v : adS} {l : List adS} (h : IQ w S sz v n l) : IQ w (fun b => S b /\ b < w.heap.size) sz v n l := by
 refine ⟨h.1, ?_⟩
 rcases h.2 with h2 | ⟨b, c, rest, h1, h2, h3, h4⟩
 .exact .inl h2
 .exact .inr ⟨b, c, rest, h1, ⟨h2, h3.lt⟩, h3, h4⟩
theorem Vh {p : Nat} {X D : Nat -> Prop} {S : kD} {w : adR} (h : lX w p X D S) : gS pg nG #[dP p] w (fun r w' => r = .int .i64 (if S.down then 20 else 0) /\ w' = w) := by
 refine LH ?_
 unfold KS Ci
 obtain ⟨ms, mn, sv, ls, ln, cs, h1, h2, h3, h4, h5, h6, hXD, hDl, o, hms, hmn, hfs, hfn, hu, ho⟩ := h
 have c5 := o.cell (off := 5)
 simp only [ZK, ZL] at c5
 cases hd : S.down with
 | true =>
   rw [hd] at c5
   simp (disch := omega) only [eY, gN, dX, stepR_skip, fO, gI, fP, gJ, gC, gE, gR, fZ, eU, fX, fU, gD, fR, fN, fW, fS, fV, gK, gG, fQ, fC, fY, gA, fL, iP, iS, iL, iT, iR, iM, iN, iQ, iO, eP, Result.ok.injEq, Next.value.injEq, true_and, and_true, fI, fJ, gB, fM, gH, gQ, ZO, fD, fF, fG, fE, eZ, eT, fB, eX, eQ, eH, if_true, if_false, ZM, ZS, ZN, ZP, ZR, ZQ, ZL, ZK, eA, dV, aB, dE, dJ, cB, eB, eS, eD, dN, eE, fA, dG, eI, bR, dL, bC, dR, aL, aH, eK, aZ, cI, eJ, aG, eL, dQ, aR, bD, eC, bG, bF, bJ, aP, aM, cG, fH, dY, cJ, cA, dB, cH, dT, bB, eM, bX, dS, bQ, bA, bT, aC, bU, bP, cF, bY, aU, aV, aX, bV, dD, cP, bO, aY, aN, aK, bH, aD, dC, dW, aJ, aI, aT, aF, cY, aE, cL, bW, bE, aO, cM, bZ, aA, dF, cU, cV, cC, dK, cD, dM, dU, cN, eF, eN, bN, aS, dZ, bS, aQ, bM, dI, dA, cS, cO, cR, bK, bL, cX, dO, cQ, dH, cZ, c5]
 | false =>
   rw [hd] at c5
   simp (disch := omega) only [eY, gN, dX, stepR_skip, fO, gI, fP, gJ, gC, gE, gR, fZ, eU, fX, fU, gD, fR, fN, fW, fS, fV, gK, gG, fQ, fC, fY, gA, fL, iP, iS, iL, iT, iR, iM, iN, iQ, iO, eP, Result.ok.injEq, Next.value.injEq, true_and, and_true, fI, fJ, gB, fM, gH, gQ, ZO, fD, fF, fG, fE, eZ, eT, fB, eX, eQ, eH, if_true, if_false, ZM, ZS, ZN, ZP, ZR, ZQ, ZL, ZK, eA, dV, aB, dE, dJ, cB, eB, eS, eD, dN, eE, fA, dG, eI, bR, dL, bC, dR, aL, aH, eK, aZ, cI, eJ, aG, eL, dQ, aR, bD, eC, bG, bF, bJ, aP, aM, cG, fH, dY, cJ, cA, dB, cH, dT, bB, eM, bX, dS, bQ, bA, bT, aC, bU, bP, cF, bY, aU, aV, aX, bV, dD, cP, bO, aY, aN, aK, bH, aD, dC, dW, aJ, aI, aT, aF, cY, aE, cL, bW, bE, aO, cM, bZ, aA, dF, cU, cV, cC, dK, cD, dM, dU, cN, eF, eN, bN, aS, dZ, bS, aQ, bM, dI, dA, cS, cO, cR, bK, bL, cX, dO, cQ, dH, cZ, c5]
def It (l : Int) : Int := if 0 < l then l - 1 else l
def Tz (S : kD) : Bool := S.down || S.left == 0
theorem TG {p : Nat} {a b c d : adS} {left : Int} {down : Bool} {w : adR} (o : jH w p [a, b, c, d, .int .i64 left, .bool down]) (hl : -1 <= left /\ left <= 9223372036854775807) :
 gS pg pQ #[dP p] w (fun r w' => r = .bool (down || left == 0) /\ jH w' p [a, b, c, d, .int .i64 (It left), .bool (down || left == 0)] /\ gT w w' (fun y => y = p)) := by
 refine IY ?_
 unfold HH xJ yI It
 have c4 := o.cell (off := 4)
 simp only [ZK, ZL] at c4
 by_cases h0 : left = 0
 .subst h0
  have n1 : ((0 : Int) == 0) = true := rfl
  simp (disch := omega) only [eY, gN, dX, stepR_skip, fO, gI, fP, gJ, gC, gE, gR, fZ, eU, fX, fU, gD, fR, fN, fW, fS, fV, gK, gG, fQ, fC, fY, gA, fL, iP, iS, iL, iT, iR, iM, iN, iQ, iO, eP, Result.ok.injEq, Next.value.injEq, true_and, and_true, fI, fJ, gB, fM, gH, gQ, ZO, fD, fF, fG, fE, eZ, eT, fB, eX, eQ, eH, if_true, if_false, ZM, ZS, ZN, ZP, ZR, ZQ, ZL, ZK, eA, dV, aB, dE, dJ, cB, eB, eS, eD, dN, eE, fA, dG, eI, bR, dL, bC, dR, aL, aH, eK, aZ, cI, eJ, aG, eL, dQ, aR, bD, eC, bG, bF, bJ, aP, aM, cG, fH, dY, cJ, cA, dB, cH, dT, bB, eM, bX, dS, bQ, bA, bT, aC, bU, bP, cF, bY, aU, aV, aX, bV, dD, cP, bO, aY, aN, aK, bH, aD, dC, dW, aJ, aI, aT, aF, cY, aE, cL, bW, bE, aO, cM, bZ, aA, dF, cU, cV, cC, dK, cD, dM, dU, cN, eF, eN, bN, aS, dZ, bS, aQ, bM, dI, dA, cS, cO, cR, bK, bL, cX, dO, cQ, dH, cZ, c4, n1]
  refine Er o rfl (by simp) fun w1 o1 x1 s1 => ?_
  simp only [Z7, aaR] at o1
  have c5 := o1.cell (off := 5)
  simp only [ZK, ZL] at c5
  unfold mU
  simp (disch := omega) only [eY, gN, dX, stepR_skip, fO, gI, fP, gJ, gC, gE, gR, fZ, eU, fX, fU, gD, fR, fN, fW, fS, fV, gK, gG, fQ, fC, fY, gA, fL, iP, iS, iL, iT, iR, iM, iN, iQ, iO, eP, Result.ok.injEq, Next.value.injEq, true_and, and_true, fI, fJ, gB, fM, gH, gQ, ZO, fD, fF, fG, fE, eZ, eT, fB, eX, eQ, eH, if_true, if_false, ZM, ZS, ZN, ZP, ZR, ZQ, ZL, ZK, eA, dV, aB, dE, dJ, cB, eB, eS, eD, dN, eE, fA, dG, eI, bR, dL, bC, dR, aL, aH, eK, aZ, cI, eJ, aG, eL, dQ, aR, bD, eC, bG, bF, bJ, aP, aM, cG, fH, dY, cJ, cA, dB, cH, dT, bB, eM, bX, dS, bQ, bA, bT, aC, bU, bP, cF, bY, aU, aV, aX, bV, dD, cP, bO, aY, aN, aK, bH, aD, dC, dW, aJ, aI, aT, aF, cY, aE, cL, bW, bE, aO, cM, bZ, aA, dF, cU, cV, cC, dK, cD, dM, dU, cN, eF, eN, bN, aS, dZ, bS, aQ, bM, dI, dA, cS, cO, cR, bK, bL, cX, dO, cQ, dH, cZ, c5]
  rw [Bool.or_true]
  exact ⟨rfl, o1, x1⟩
 have n1 : (left == 0) = false := beq_eq_false_iff_ne.2 h0
 rw [n1, acT]
 by_cases h1 : 0 < left
 .have d1 : decide (0 < left) = true := by simpa using h1
  simp (disch := omega) only [eY, gN, dX, stepR_skip, fO, gI, fP, gJ, gC, gE, gR, fZ, eU, fX, fU, gD, fR, fN, fW, fS, fV, gK, gG, fQ, fC, fY, gA, fL, iP, iS, iL, iT, iR, iM, iN, iQ, iO, eP, Result.ok.injEq, Next.value.injEq, true_and, and_true, fI, fJ, gB, fM, gH, gQ, ZO, fD, fF, fG, fE, eZ, eT, fB, eX, eQ, eH, if_true, if_false, ZM, ZS, ZN, ZP, ZR, ZQ, ZL, ZK, eA, dV, aB, dE, dJ, cB, eB, eS, eD, dN, eE, fA, dG, eI, bR, dL, bC, dR, aL, aH, eK, aZ, cI, eJ, aG, eL, dQ, aR, bD, eC, bG, bF, bJ, aP, aM, cG, fH, dY, cJ, cA, dB, cH, dT, bB, eM, bX, dS, bQ, bA, bT, aC, bU, bP, cF, bY, aU, aV, aX, bV, dD, cP, bO, aY, aN, aK, bH, aD, dC, dW, aJ, aI, aT, aF, cY, aE, cL, bW, bE, aO, cM, bZ, aA, dF, cU, cV, cC, dK, cD, dM, dU, cN, eF, eN, bN, aS, dZ, bS, aQ, bM, dI, dA, cS, cO, cR, bK, bL, cX, dO, cQ, dH, cZ, c4, n1, d1]
  refine KC o rfl (by simp) fun w1 o1 x1 s1 => ?_
  simp only [Z7, aaR] at o1
  have c5 := o1.cell (off := 5)
  simp only [ZK, ZL] at c5
  unfold mU
  rw [if_pos h1]
  simp (disch := omega) only [eY, gN, dX, stepR_skip, fO, gI, fP, gJ, gC, gE, gR, fZ, eU, fX, fU, gD, fR, fN, fW, fS, fV, gK, gG, fQ, fC, fY, gA, fL, iP, iS, iL, iT, iR, iM, iN, iQ, iO, eP, Result.ok.injEq, Next.value.injEq, true_and, and_true, fI, fJ, gB, fM, gH, gQ, ZO, fD, fF, fG, fE, eZ, eT, fB, eX, eQ, eH, if_true, if_false, ZM, ZS, ZN, ZP, ZR, ZQ, ZL, ZK, eA, dV, aB, dE, dJ, cB, eB, eS, eD, dN, eE, fA, dG, eI, bR, dL, bC, dR, aL, aH, eK, aZ, cI, eJ, aG, eL, dQ, aR, bD, eC, bG, bF, bJ, aP, aM, cG, fH, dY, cJ, cA, dB, cH, dT, bB, eM, bX, dS, bQ, bA, bT, aC, bU, bP, cF, bY, aU, aV, aX, bV, dD, cP, bO, aY, aN, aK, bH, aD, dC, dW, aJ, aI, aT, aF, cY, aE, cL, bW, bE, aO, cM, bZ, aA, dF, cU, cV, cC, dK, cD, dM, dU, cN, eF, eN, bN, aS, dZ, bS, aQ, bM, dI, dA, cS, cO, cR, bK, bL, cX, dO, cQ, dH, cZ, c5]
  exact ⟨o1, x1⟩
 .have d1 : decide (0 < left) = false := by simpa using h1
  have c5 := o.cell (off := 5)
  simp only [ZK, ZL] at c5
  unfold mU
  rw [if_neg h1]
  simp (disch := omega) only [eY, gN, dX, stepR_skip, fO, gI, fP, gJ, gC, gE, gR, fZ, eU, fX, fU, gD, fR, fN, fW, fS, fV, gK, gG, fQ, fC, fY, gA, fL, iP, iS, iL, iT, iR, iM, iN, iQ, iO, eP, Result.ok.injEq, Next.value.injEq, true_and, and_true, fI, fJ, gB, fM, gH, gQ, ZO, fD, fF, fG, fE, eZ, eT, fB, eX, eQ, eH, if_true, if_false, ZM, ZS, ZN, ZP, ZR, ZQ, ZL, ZK, eA, dV, aB, dE, dJ, cB, eB, eS, eD, dN, eE, fA, dG, eI, bR, dL, bC, dR, aL, aH, eK, aZ, cI, eJ, aG, eL, dQ, aR, bD, eC, bG, bF, bJ, aP, aM, cG, fH, dY, cJ, cA, dB, cH, dT, bB, eM, bX, dS, bQ, bA, bT, aC, bU, bP, cF, bY, aU, aV, aX, bV, dD, cP, bO, aY, aN, aK, bH, aD, dC, dW, aJ, aI, aT, aF, cY, aE, cL, bW, bE, aO, cM, bZ, aA, dF, cU, cV, cC, dK, cD, dM, dU, cN, eF, eN, bN, aS, dZ, bS, aQ, bM, dI, dA, cS, cO, cR, bK, bL, cX, dO, cQ, dH, cZ, c4, c5, n1, d1]
  exact ⟨o, gT.refl _ _⟩
def AK (S : kD) (o : RS) : kD × Int :=
 if Tz S then ({ S with left := It S.left, down := Tz S }, 20)
 else ({ S with left := It S.left, down := Tz S, under := S.under ++ [o], seen := Ny o S.seen }, 0)
theorem Sm {p : Nat} {X D : Nat -> Prop} {S : kD} {o : RS} {va : Option Addr} {vc : Nat} {w : adR} (h : lX w p X D S) (hd : GN w D (.slice va o.bytes.length vc) o.bytes) (hl : -1 <= S.left /\ S.left <= 9223372036854775807)
 (hs : iY S.seen <= 1099511627776) (ha : o.at' <= 1099511627776) (hb : o.bytes.length <= 1099511627776) (hu : S.under.length <= 1000000) :
 gS pg oP #[dP p, .agg (Pa o (.slice va o.bytes.length vc)).toArray] w (fun r w' => r = .int .i64 (AK S o).2 /\ Bw w p X D (AK S o).1 w') := by
 refine JR ?_
 unfold Jb zN
 refine oC fun w1 o1 x1 s1 => ?_
 have o1 : jH w1 w.heap.size (Pa o (.slice va o.bytes.length vc)) := o1
 obtain ⟨ms, mn, sv, ls, ln, cs, h1, h2, h3, h4, h5, h6, hXD, hDl, op, hms, hmn, hfs, hfn, hun, hop⟩ := h.new x1
 have h7 := fun b (hb : X b) => hDl b (hXD b hb)
 have hX0 : ∀ b, X b -> b < w.heap.size := by obtain ⟨_, _, _, _, _, _, _, _, _, _, _, _, q1, q2, _⟩ := h; exact fun b hb => q2 b (q1 b hb)
 refine (TG op hl).mono ?_
 rintro r w2 ⟨rfl, op2, x2⟩
 have x2X : gT w1 w2 X := x2.mono fun b _ hb => hb ▸ h1
 have x2D : gT w1 w2 D := x2X.mono fun b _ hb => hXD b hb
 have x02 : gT w w2 X := (x1.mono fun _ _ h => h.elim).seq x2X
 have z2 := x2.size
 have hms2 := hms.ext x2 (fun h => h4 h.symm)
 have hmn2 := hmn.ext x2 (fun h => h5 h.symm)
 have hfs2 := hfs.ext x2D (fun b h => h)
 have hfn2 := hfn.ext x2D (fun b h => h)
 have hun2 := hun.ext x2 (fun b hb h => hb.2.1 h)
 have hop2 := hop.ext x2D (fun b h => h)
 have h72 : ∀ b, X b -> b < w2.heap.size := fun b hb => by have := h7 b hb; omega
 have hD2 : ∀ b, D b -> b < w2.heap.size := fun b hb => by have := hDl b hb; omega
 have hdn : (S.down || S.left == 0) = Tz S := rfl
 rw [hdn] at *
 cases hD : Tz S with
 | true =>
   have hE : AK S o = ({ S with left := It S.left, down := Tz S }, 20) := by unfold AK; rw [if_pos hD]
   rw [hE]
   simp (disch := omega) only [eY, gN, dX, stepR_skip, fO, gI, fP, gJ, gC, gE, gR, fZ, eU, fX, fU, gD, fR, fN, fW, fS, fV, gK, gG, fQ, fC, fY, gA, fL, iP, iS, iL, iT, iR, iM, iN, iQ, iO, eP, Result.ok.injEq, Next.value.injEq, true_and, and_true, fI, fJ, gB, fM, gH, gQ, ZO, fD, fF, fG, fE, eZ, eT, fB, eX, eQ, eH, if_true, if_false, ZM, ZS, ZN, ZP, ZR, ZQ, ZL, ZK, eA, dV, aB, dE, dJ, cB, eB, eS, eD, dN, eE, fA, dG, eI, bR, dL, bC, dR, aL, aH, eK, aZ, cI, eJ, aG, eL, dQ, aR, bD, eC, bG, bF, bJ, aP, aM, cG, fH, dY, cJ, cA, dB, cH, dT, bB, eM, bX, dS, bQ, bA, bT, aC, bU, bP, cF, bY, aU, aV, aX, bV, dD, cP, bO, aY, aN, aK, bH, aD, dC, dW, aJ, aI, aT, aF, cY, aE, cL, bW, bE, aO, cM, bZ, aA, dF, cU, cV, cC, dK, cD, dM, dU, cN, eF, eN, bN, aS, dZ, bS, aQ, bM, dI, dA, cS, cO, cR, bK, bL, cX, dO, cQ, dH, cZ]
   exact ⟨X, D, ⟨ms, mn, sv, ls, ln, cs, h1, h2, h3, h4, h5, h6, hXD, hD2, op2, hms2, hmn2, hfs2, hfn2, hun2, hop2⟩, fun _ h => .inl h, fun _ h => h, x02⟩
 | false =>
   have hE : AK S o = ({ S with left := It S.left, down := Tz S, under := S.under ++ [o], seen := Ny o S.seen }, 0) := by unfold AK; rw [if_neg (by rw [hD]; decide)]
   rw [hE]
   have hb3 : ¬ (w.heap.size = p) := fun h => by have := hX0 p h1; omega
   have o12 := kI (o1.ext x2 hb3)
   have l1 := Df (off := 0) o12 (by unfold Pa; simp)
   have l1' : ((Pa o (.slice va o.bytes.length vc)).drop 0).take 5 = Pa o (.slice va o.bytes.length vc) := rfl
   rw [l1'] at l1
   have op2d := kI op2
   have q3 := op2d.cell (off := 3)
   simp only [ZK, ZL] at q3
   simp (disch := omega) only [eY, gN, dX, stepR_skip, fO, gI, fP, gJ, gC, gE, gR, fZ, eU, fX, fU, gD, fR, fN, fW, fS, fV, gK, gG, fQ, fC, fY, gA, fL, iP, iS, iL, iT, iR, iM, iN, iQ, iO, eP, Result.ok.injEq, Next.value.injEq, true_and, and_true, fI, fJ, gB, fM, gH, gQ, ZO, fD, fF, fG, fE, eZ, eT, fB, eX, eQ, eH, if_true, if_false, ZM, ZS, ZN, ZP, ZR, ZQ, ZL, ZK, eA, dV, aB, dE, dJ, cB, eB, eS, eD, dN, eE, fA, dG, eI, bR, dL, bC, dR, aL, aH, eK, aZ, cI, eJ, aG, eL, dQ, aR, bD, eC, bG, bF, bJ, aP, aM, cG, fH, dY, cJ, cA, dB, cH, dT, bB, eM, bX, dS, bQ, bA, bT, aC, bU, bP, cF, bY, aU, aV, aX, bV, dD, cP, bO, aY, aN, aK, bH, aD, dC, dW, aJ, aI, aT, aF, cY, aE, cL, bW, bE, aO, cM, bZ, aA, dF, cU, cV, cC, dK, cD, dM, dU, cN, eF, eN, bN, aS, dZ, bS, aQ, bM, dI, dA, cS, cO, cR, bK, bL, cX, dO, cQ, dH, cZ, q3, l1]
   refine Iz (cells := (Pa o (.slice va o.bytes.length vc)).toArray) (by decide) (by decide) (by kernel_rfl) fun w3 o3 x3 s3 => ?_
   have x3 : gT w2 w3 jL := (gT.dr _ _).seq x3
   have z3 := x3.size
   have s3 : w3.heap.size = w2.heap.size + 1 := s3
   have x03 : gT w w3 X := x02.trans x3 fun _ _ h => h.elim
   have op3 := op2.ext x3 (fun h => h)
   have q3 := op3.cell (off := 3)
   have q3d := (kI op3).cell (off := 3)
   simp only [ZK, ZL] at q3 q3d
   have hu3 : IQ w3 (fun b => (X b /\ b ≠ p /\ b ≠ ms /\ b ≠ mn) ∨ w3.heap.size <= b) 5 sv S.under.length cs := Tr (hun2.ext x3 (fun b _ h => h)) fun b h => .inl h
   have o3 : jH w3 w2.heap.size (Pa o (.slice va o.bytes.length vc)) := o3
   simp (disch := omega) only [eY, gN, dX, stepR_skip, fO, gI, fP, gJ, gC, gE, gR, fZ, eU, fX, fU, gD, fR, fN, fW, fS, fV, gK, gG, fQ, fC, fY, gA, fL, iP, iS, iL, iT, iR, iM, iN, iQ, iO, eP, Result.ok.injEq, Next.value.injEq, true_and, and_true, fI, fJ, gB, fM, gH, gQ, ZO, fD, fF, fG, fE, eZ, eT, fB, eX, eQ, eH, if_true, if_false, ZM, ZS, ZN, ZP, ZR, ZQ, ZL, ZK, eA, dV, aB, dE, dJ, cB, eB, eS, eD, dN, eE, fA, dG, eI, bR, dL, bC, dR, aL, aH, eK, aZ, cI, eJ, aG, eL, dQ, aR, bD, eC, bG, bF, bJ, aP, aM, cG, fH, dY, cJ, cA, dB, cH, dT, bB, eM, bX, dS, bQ, bA, bT, aC, bU, bP, cF, bY, aU, aV, aX, bV, dD, cP, bO, aY, aN, aK, bH, aD, dC, dW, aJ, aI, aT, aF, cY, aE, cL, bW, bE, aO, cM, bZ, aA, dF, cU, cV, cC, dK, cD, dM, dU, cN, eF, eN, bN, aS, dZ, bS, aQ, bM, dI, dA, cS, cO, cR, bK, bL, cX, dO, cQ, dH, cZ, q3, q3d]
   refine EB (m := 1) (news := Pa o (.slice va o.bytes.length vc)) (i := Tryd.t88) Tryd.underlying62 Tryd.underlying62 TQ rfl rfl rfl hu3 (o3.cl (off := 0) (n := 1) rfl (fun i hi => by rw [ZS])) (by unfold Pa; simp [one]) (fun b hb => .inr hb) (by omega) (by rw [show Tryd.t88.bytes = 72 from rfl]; omega) (by decide) fun v4 w4 o4 x4 => ?_
   have z4 := x4.size
   have hp3 : p < w3.heap.size := op3.lt
   have hms3 := hms2.ext x3 (fun h => h)
   have hmn3 := hmn2.ext x3 (fun h => h)
   have hmsl := hms3.lt
   have hmnl := hmn3.lt
   have op4 := op3.ext x4 (by rintro (⟨_, h, _⟩ | h) <;> omega)
   have hms4 := hms3.ext x4 (by rintro (⟨_, _, h, _⟩ | h) <;> omega)
   have hmn4 := hmn3.ext x4 (by rintro (⟨_, _, _, h⟩ | h) <;> omega)
   obtain ⟨Y, hY⟩ : ∃ Y : Nat -> Prop, Y = fun b => X b ∨ (w3.heap.size <= b /\ b < w4.heap.size) := ⟨_, rfl⟩
   have hYX : ∀ b, X b -> Y b := fun b h => by rw [hY]; exact .inl h
   have hY3 : ∀ b, Y b -> X b ∨ w3.heap.size <= b := fun b h => by rw [hY] at h; rcases h with h | h; exact .inl h; exact .inr h.1
   have hY4 : ∀ b, Y b -> b < w4.heap.size := fun b h => by
    rw [hY] at h
    rcases h with h | h
    .have := h72 b h; omega
    .exact h.2
   obtain ⟨E, hE'⟩ : ∃ E : Nat -> Prop, E = fun b => D b ∨ (w3.heap.size <= b /\ b < w4.heap.size) := ⟨_, rfl⟩
   have hED : ∀ b, D b -> E b := fun b h => by rw [hE']; exact .inl h
   have hYE : ∀ b, Y b -> E b := fun b h => by
    rw [hY] at h; rw [hE']
    rcases h with h | h
    .exact .inl (hXD b h)
    .exact .inr h
   have hE3 : ∀ b, E b -> D b ∨ w3.heap.size <= b := fun b h => by rw [hE'] at h; rcases h with h | h; exact .inl h; exact .inr h.1
   have hE4 : ∀ b, E b -> b < w4.heap.size := fun b h => by
    rw [hE'] at h
    rcases h with h | h
    .have := hD2 b h; omega
    .exact h.2
   have dat4 : ∀ v b, GN w3 D v b -> GN w4 E v b := fun v b hd => by
    have h1 := (hd.sub (Y := fun b => D b ∨ w3.heap.size <= b) fun _ h => h).ext x4 (fun b h => by rcases h with h | h; exact .inl (hXD b h.1); exact .inr h)
    exact h1.sub fun b h => .inl (hE3 b h)
   have dat0 : ∀ v b, GN w2 D v b -> GN w4 E v b := fun v b hd => dat4 v b (hd.ext x3 fun _ h => h.elim)
   refine BX op4 (by obtain ⟨a, c, e⟩ := o4.len; rw [e] <;> rfl) (by simp) fun w5 op5 x5 s5 => ?_
   simp only [Z7, aaR] at op5
   have hne4 : p ≠ ms /\ p ≠ mn := ⟨h4, h5⟩
   have hms5 := hms4.ext x5 (fun h => h4 h.symm)
   have hmn5 := hmn4.ext x5 (fun h => h5 h.symm)
   have x5Y : gT w4 w5 E := x5.mono fun b _ h => by rw [h]; exact hYE _ (hYX _ h1)
   have dat5 : ∀ v b, GN w2 D v b -> GN w5 E v b := fun v b hd => (dat0 v b hd).ext x5Y fun _ h => h
   have o15 : jH w5 w.heap.size (Pa o (.slice va o.bytes.length vc)) := by
    have h1 := (o1.ext x2 hb3).ext x3 (fun h => h)
    have h2 := h1.ext x4 (by rintro (⟨h, _⟩ | h); exact absurd (hX0 _ h) (by omega); omega)
    exact h2.ext x5 hb3
   have l5 := Df (off := 0) (kI o15) (by unfold Pa; simp)
   rw [l1'] at l5
   have r2 := (kI op5).cell (off := 2)
   simp only [ZK, ZL] at r2
   simp (disch := omega) only [eY, gN, dX, stepR_skip, fO, gI, fP, gJ, gC, gE, gR, fZ, eU, fX, fU, gD, fR, fN, fW, fS, fV, gK, gG, fQ, fC, fY, gA, fL, iP, iS, iL, iT, iR, iM, iN, iQ, iO, eP, Result.ok.injEq, Next.value.injEq, true_and, and_true, fI, fJ, gB, fM, gH, gQ, ZO, fD, fF, fG, fE, eZ, eT, fB, eX, eQ, eH, if_true, if_false, ZM, ZS, ZN, ZP, ZR, ZQ, ZL, ZK, eA, dV, aB, dE, dJ, cB, eB, eS, eD, dN, eE, fA, dG, eI, bR, dL, bC, dR, aL, aH, eK, aZ, cI, eJ, aG, eL, dQ, aR, bD, eC, bG, bF, bJ, aP, aM, cG, fH, dY, cJ, cA, dB, cH, dT, bB, eM, bX, dS, bQ, bA, bT, aC, bU, bP, cF, bY, aU, aV, aX, bV, dD, cP, bO, aY, aN, aK, bH, aD, dC, dW, aJ, aI, aT, aF, cY, aE, cL, bW, bE, aO, cM, bZ, aA, dF, cU, cV, cC, dK, cD, dM, dU, cN, eF, eN, bN, aS, dZ, bS, aQ, bM, dI, dA, cS, cO, cR, bK, bL, cX, dO, cQ, dH, cZ, r2, l5]
   have hd5 : GN w5 E (.slice va o.bytes.length vc) o.bytes := dat5 _ _ ((hd.ext x1 fun _ h => h.elim).ext x2D fun _ h => h)
   have hE5 : ∀ b, E b -> b < w5.heap.size := fun b h => by rw [s5]; exact hE4 b h
   refine (Zs (X := E) (c := S.seen) (o := o) (hmn5.dr) (hYE _ (hYX _ h3)) hE5 ((hfn2.map dat5).ext (gT.dr _ jL) fun _ h => h.elim) (hd5.ext (gT.dr _ jL) fun _ h => h.elim) hs ha hb).mono ?_
   rintro r w6 ⟨rfl, ln', hmn6, hfn6, x6⟩
   have x6 : gT w5 w6 (fun b => b = mn) := (gT.dr _ _).seq x6
   have x6Y : gT w5 w6 E := x6.mono fun b _ h => by rw [h]; exact hYE _ (hYX _ h3)
   have z6 := x6.size
   have hou : IQ w4 (fun b => Y b /\ b ≠ p /\ b ≠ ms /\ b ≠ mn) 5 v4 (S.under.length + 1) (cs ++ Pa o (.slice va o.bytes.length vc)) := Tr (NA o4) fun b h => by
    rw [hY]
    rcases h with ⟨h | h, h'⟩
    .exact ⟨.inl h.1, h.2⟩
    .exact ⟨.inr ⟨h, h'⟩, by omega, by omega, by omega⟩
   refine ⟨Y, E, ⟨ms, mn, v4, ls, ln', cs ++ Pa o (.slice va o.bytes.length vc), hYX _ h1, hYX _ h2, hYX _ h3, h4, h5, h6, hYE, fun b h => by have := hE5 b h; omega, op5.ext x6 (fun h => h5 h), hms5.ext x6 (fun h => h6 h), hmn6, (hfs2.map dat5).ext x6Y fun _ h => h, hfn6, ?_, ?_⟩, fun b h => ?_, hED, ?_⟩
   .show IQ w6 _ 5 v4 (S.under ++ [o]).length _
    rw [ZV]
    exact (hou.ext x5 (fun b h e => h.2.1 e)).ext x6 (fun b h e => h.2.2.2 e)
   .exact (Nq.snoc ⟨_, _, _, rfl⟩ hd5 (hop2.map dat5)).ext x6Y fun _ h => h
   .rcases hY3 b h with h | h
    .exact .inl h
    .exact .inr (by omega)
   .refine ((x03.trans x4 fun b hb h => ?_).trans x5 fun b hb h => by rw [h]; exact h1).trans x6 fun b hb h => by rw [h]; exact h3
    rcases h with h | h
    .exact h.1
    .omega
end Go.Proofs.YteelnmpbnaohpaaDoor
namespace Go.Proofs.YteelnmpbnaohpaaDoor
open Go Go.En
def Zp : Go.Shelf.Ren := ⟨fun x => if x = 5 then Aw else if x = 7 then QD else x, fun x => if x = 23 then 61 else if x = 25 then 9 else if x = 3 then 22 else if x = 4 then 4 else 20, fun x => x⟩
theorem Zk : SlLaysW.n5 pg Zp where
 mixed := Tryd.checked.mixed
 f5 := ⟨Tryd.f46.name, by kernel_rfl, by kernel_rfl⟩
 f7 := by kernel_rfl
 t4 := by kernel_rfl
 a4 := fun w => by kernel_rfl
 z4 := fun w => by kernel_rfl
 v4 := fun w => by kernel_rfl
 t20 := by kernel_rfl
 a20 := fun w => by kernel_rfl
 z20 := fun w => by kernel_rfl
 v20 := fun w => by kernel_rfl
 t23 := by kernel_rfl
 a23 := fun w => by kernel_rfl
 z23 := fun w => by kernel_rfl
 v23 := fun w => by kernel_rfl
theorem VU {m : Nat} {l : List (ByteArray × adS)} {w : adR} (hm : Mp w m OI l) :
 gS pg Aw #[.map (some m)] w (fun r w' => r = .map (some w.heap.size) /\ Mp w' w.heap.size OI l /\ gT w w' jL /\ w'.heap.size = w.heap.size + 1) := by
 obtain ⟨es, c, hb, he, hg, hnd⟩ := hm
 refine ⟨_, _, AnyW.maps_Clone Zk m es c w hb, rfl, ⟨es, c, ?_, he, hg, hnd⟩, gT.alloc _ _ _, ?_⟩
 .show (w.heap.push _)[w.heap.size]? = _
  simp
 .show (w.heap.push _).size = _
  simp
end Go.Proofs.YteelnmpbnaohpaaDoor
namespace Go.Proofs.YteelnmpbnaohpaaDoor
open Go Go.En Go.Pu
set_option maxRecDepth 4000
def Qw (room : Int) : kD := ⟨room, [], [], [], -1, false⟩
theorem Yg {room : Int} {w : adR} (h0 : 0 <= room) (h1 : room <= 16777216) : gS pg Bb #[.int .i64 room] w (fun r w' => ∃ p X, r = .tuple #[dP p, .int .i64 0] /\ lX w' p X X (Qw room) /\ (∀ b, X b -> w.heap.size <= b) /\ gT w w' jL) := by
 refine Pb ?_
 unfold QR IK
 have d1 : decide (room < 0) = false := by simp; omega
 have d2 : decide (16777216 < room) = false := by simp; omega
 simp (disch := omega) only [eY, gN, dX, stepR_skip, fO, gI, fP, gJ, gC, gE, gR, fZ, eU, fX, fU, gD, fR, fN, fW, fS, fV, gK, gG, fQ, fC, fY, gA, fL, iP, iS, iL, iT, iR, iM, iN, iQ, iO, eP, Result.ok.injEq, Next.value.injEq, true_and, and_true, fI, fJ, gB, fM, gH, gQ, ZO, fD, fF, fG, fE, eZ, eT, fB, eX, eQ, eH, if_true, if_false, ZM, ZS, ZN, ZP, ZR, ZQ, ZL, ZK, eA, dV, aB, dE, dJ, cB, eB, eS, eD, dN, eE, fA, dG, eI, bR, dL, bC, dR, aL, aH, eK, aZ, cI, eJ, aG, eL, dQ, aR, bD, eC, bG, bF, bJ, aP, aM, cG, fH, dY, cJ, cA, dB, cH, dT, bB, eM, bX, dS, bQ, bA, bT, aC, bU, bP, cF, bY, aU, aV, aX, bV, dD, cP, bO, aY, aN, aK, bH, aD, dC, dW, aJ, aI, aT, aF, cY, aE, cL, bW, bE, aO, cM, bZ, aA, dF, cU, cV, cC, dK, cD, dM, dU, cN, eF, eN, bN, aS, dZ, bS, aQ, bM, dI, dA, cS, cO, cR, bK, bL, cX, dO, cQ, dH, cZ, d1, d2]
 refine Kb fun w1 m1 x1 s1 => ?_
 refine Kb fun w2 m2 x2 s2 => ?_
 simp (disch := omega) only [eY, gN, dX, stepR_skip, fO, gI, fP, gJ, gC, gE, gR, fZ, eU, fX, fU, gD, fR, fN, fW, fS, fV, gK, gG, fQ, fC, fY, gA, fL, iP, iS, iL, iT, iR, iM, iN, iQ, iO, eP, Result.ok.injEq, Next.value.injEq, true_and, and_true, fI, fJ, gB, fM, gH, gQ, ZO, fD, fF, fG, fE, eZ, eT, fB, eX, eQ, eH, if_true, if_false, ZM, ZS, ZN, ZP, ZR, ZQ, ZL, ZK, eA, dV, aB, dE, dJ, cB, eB, eS, eD, dN, eE, fA, dG, eI, bR, dL, bC, dR, aL, aH, eK, aZ, cI, eJ, aG, eL, dQ, aR, bD, eC, bG, bF, bJ, aP, aM, cG, fH, dY, cJ, cA, dB, cH, dT, bB, eM, bX, dS, bQ, bA, bT, aC, bU, bP, cF, bY, aU, aV, aX, bV, dD, cP, bO, aY, aN, aK, bH, aD, dC, dW, aJ, aI, aT, aF, cY, aE, cL, bW, bE, aO, cM, bZ, aA, dF, cU, cV, cC, dK, cD, dM, dU, cN, eF, eN, bN, aS, dZ, bS, aQ, bM, dI, dA, cS, cO, cR, bK, bL, cX, dO, cQ, dH, cZ]
 refine oC fun w3 o3 x3 s3 => ?_
 have o3 : jH w3 w2.heap.size [.int .i64 room, .map (some w.heap.size), .map (some w1.heap.size), .slice none 0 0, .int .i64 (-1), .bool false] := o3
 refine ⟨w2.heap.size, fun b => w.heap.size <= b /\ b < w3.heap.size, rfl, ⟨w.heap.size, w1.heap.size, .slice none 0 0, [], [], [], ⟨by omega, by omega⟩, ⟨by omega, by omega⟩, ⟨by omega, by omega⟩, by omega, by omega, by omega, fun _ h => h, fun b h => h.2, o3, (m1.ext x2 (fun h => h)).ext x3 (fun h => h), m2.ext x3 (fun h => h), trivial, trivial, ⟨rfl, .inl ⟨rfl, rfl⟩⟩, rfl⟩, fun b h => h.1, (x1.seq x2).seq x3⟩
structure Yo (S : kD) : Prop where
 left : -1 <= S.left /\ S.left <= 9223372036854775807
 seen : iY S.seen <= 1099511627776
 under : S.under.length <= 1000000
 room : 0 <= S.room /\ S.room <= 16777216
theorem GN.slice {w : adR} {X : Nat -> Prop} {v : adS} {b : List UInt8} (h : GN w X v b) : ∃ a c, v = .slice a b.length c := by
 obtain ⟨a, c, e, _⟩ := h.1.len
 rw [ZT] at e
 exact ⟨a, c, e⟩
theorem zF.dat {w w0 : adR} {X : Nat -> Prop} {v : adS} {l : List UInt8} (h : zF w w0.heap.size 1 v l.length (l.map nU)) (hX : ∀ b, X b -> b < w0.heap.size) : GN w X v l := by
 refine ⟨h.sl, fun hi => ?_⟩
 rcases h.2 with ⟨rfl, _⟩ | ⟨b, c, rest, rfl, h2, _⟩
 .exact hi
 .unfold wC at hi
  split at hi
  .rename_i e
   simp only [Value.slice.injEq, aaH] at e
   obtain ⟨rfl, _⟩ := e
   have hi : X b := hi
   have := hX _ hi
   omega
  .exact hi
theorem lX.lt {w : adR} {p : Nat} {X D : Nat -> Prop} {S : kD} (h : lX w p X D S) : ∀ b, D b -> b < w.heap.size := by
 obtain ⟨_, _, _, _, _, _, _, _, _, _, _, _, _, h7, _⟩ := h; exact h7
def rV (S : kD) (name : ByteArray) : List UInt8 := (jF name S.seen).getD []
def Yb (S : kD) (name : ByteArray) (a : Int) (n : Nat) : Int :=
 if S.down then 20 else if KZ name = false ∨ a < 0 then 1 else if ((rV S name).length : Int) < a then 17
 else if S.room < iY S.seen + max (a + n - (rV S name).length) 0 then 22 else 0
def GS (S : kD) (name : ByteArray) (a : Int) (l : List UInt8) : kD × Int :=
 if Yb S name a l.length = 0 then AK S ⟨0, name, ⟨#[]⟩, a.toNat, l⟩ else (S, Yb S name a l.length)
theorem Lo {p : Nat} {X D : Nat -> Prop} {S : kD} {name : ByteArray} {a : Int} {bv : adS} {l : List UInt8} {w : adR} (h : lX w p X D S) (hB : Yo S) (hb : Bs w bv l) (hl : l.length <= 1000000000) (ha : a <= 9000000000000000000) (ha' : -9223372036854775808 <= a) :
 gS pg kM #[dP p, .string name, .int .i64 a, bv] w (fun r w' => r = .int .i64 (GS S name a l).2 /\ Bw w p X D (GS S name a l).1 w') := by
 refine IM ?_
 unfold Hz xK
 obtain ⟨ba, bc, rfl, _⟩ := hb.len
 rw [ZT] at hb
 rw [ZT]
 obtain ⟨E, hE⟩ : ∃ E, Yb S name a l.length = E := ⟨_, rfl⟩
 have hW : ∀ e, E = e -> e ≠ 0 -> GS S name a l = (S, e) := fun e h1 h2 => by unfold GS; rw [hE, h1, if_neg h2]
 refine (Vh h).mono ?_
 rintro r w1 ⟨rfl, rfl⟩
 have hE0 := hE
 unfold Yb at hE
 by_cases hd : S.down = true
 .rw [if_pos hd] at hE
  rw [hW 20 hE.symm (by decide), if_pos hd]
  have n1 : ((20 : Int) != 0) = true := rfl
  simp (disch := omega) only [eY, gN, dX, stepR_skip, fO, gI, fP, gJ, gC, gE, gR, fZ, eU, fX, fU, gD, fR, fN, fW, fS, fV, gK, gG, fQ, fC, fY, gA, fL, iP, iS, iL, iT, iR, iM, iN, iQ, iO, eP, Result.ok.injEq, Next.value.injEq, true_and, and_true, fI, fJ, gB, fM, gH, gQ, ZO, fD, fF, fG, fE, eZ, eT, fB, eX, eQ, eH, if_true, if_false, ZM, ZS, ZN, ZP, ZR, ZQ, ZL, ZK, eA, dV, aB, dE, dJ, cB, eB, eS, eD, dN, eE, fA, dG, eI, bR, dL, bC, dR, aL, aH, eK, aZ, cI, eJ, aG, eL, dQ, aR, bD, eC, bG, bF, bJ, aP, aM, cG, fH, dY, cJ, cA, dB, cH, dT, bB, eM, bX, dS, bQ, bA, bT, aC, bU, bP, cF, bY, aU, aV, aX, bV, dD, cP, bO, aY, aN, aK, bH, aD, dC, dW, aJ, aI, aT, aF, cY, aE, cL, bW, bE, aO, cM, bZ, aA, dF, cU, cV, cC, dK, cD, dM, dU, cN, eF, eN, bN, aS, dZ, bS, aQ, bM, dI, dA, cS, cO, cR, bK, bL, cX, dO, cQ, dH, cZ, n1]
  exact Bw.refl h
 rw [if_neg hd] at hE
 rw [if_neg hd]
 have n1 : ((0 : Int) != 0) = false := rfl
 have h' := h
 obtain ⟨ms, mn, sv, ls, ln, cs, h1, h2, h3, h4, h5, h6, hXD, hDl, op, hms, hmn, hfs, hfn, hun, hop⟩ := h'
 have h7 : ∀ b, X b -> b < w1.heap.size := fun b hb => hDl b (hXD b hb)
 have c2 := op.cell (off := 2)
 have c0d := (kI op).cell (off := 0)
 have c2d := (kI op).cell (off := 2)
 simp only [ZK, ZL] at c2 c0d c2d
 obtain ⟨oa, oc, ob, l0, hob⟩ : ∃ (oa : Option Addr) (oc : Nat) (ob : List UInt8), (zZ 61 (.map (some mn)) (.string name) false).run pg w1 = .ok (.value (.slice oa ob.length oc)) w1 /\ rV S name = ob := by
  have l0 := NL hmn name
  unfold rV
  rcases hfn.get name with ⟨q1, q2⟩ | ⟨v, b, q1, q2, q3⟩
  .rw [q1] at l0
   exact ⟨none, 0, [], l0, by rw [q2] <;> rfl⟩
  .obtain ⟨a', c', rfl⟩ := GN.slice q3
   rw [q1] at l0
   exact ⟨a', c', b, l0, by rw [q2] <;> rfl⟩
 rw [hob] at hE
 have holdlen : ob.length <= 1099511627776 := by rw [<- hob]; have := CK (k := name) (c := S.seen); have := hB.seen; unfold rV; omega
 simp (disch := omega) only [eY, gN, dX, stepR_skip, fO, gI, fP, gJ, gC, gE, gR, fZ, eU, fX, fU, gD, fR, fN, fW, fS, fV, gK, gG, fQ, fC, fY, gA, fL, iP, iS, iL, iT, iR, iM, iN, iQ, iO, eP, Result.ok.injEq, Next.value.injEq, true_and, and_true, fI, fJ, gB, fM, gH, gQ, ZO, fD, fF, fG, fE, eZ, eT, fB, eX, eQ, eH, if_true, if_false, ZM, ZS, ZN, ZP, ZR, ZQ, ZL, ZK, eA, dV, aB, dE, dJ, cB, eB, eS, eD, dN, eE, fA, dG, eI, bR, dL, bC, dR, aL, aH, eK, aZ, cI, eJ, aG, eL, dQ, aR, bD, eC, bG, bF, bJ, aP, aM, cG, fH, dY, cJ, cA, dB, cH, dT, bB, eM, bX, dS, bQ, bA, bT, aC, bU, bP, cF, bY, aU, aV, aX, bV, dD, cP, bO, aY, aN, aK, bH, aD, dC, dW, aJ, aI, aT, aF, cY, aE, cL, bW, bE, aO, cM, bZ, aA, dF, cU, cV, cC, dK, cD, dM, dU, cN, eF, eN, bN, aS, dZ, bS, aQ, bM, dI, dA, cS, cO, cR, bK, bL, cX, dO, cQ, dH, cZ, n1, c2, l0]
 refine (VQ name _).mono ?_
 rintro r w2 ⟨rfl, hw⟩
 rw [hw]; clear hw w2
 by_cases hmay : KZ name = false
 .rw [if_pos (.inl hmay)] at hE
  rw [hW 1 hE.symm (by decide), hmay]
  simp (disch := omega) only [eY, gN, dX, stepR_skip, fO, gI, fP, gJ, gC, gE, gR, fZ, eU, fX, fU, gD, fR, fN, fW, fS, fV, gK, gG, fQ, fC, fY, gA, fL, iP, iS, iL, iT, iR, iM, iN, iQ, iO, eP, Result.ok.injEq, Next.value.injEq, true_and, and_true, fI, fJ, gB, fM, gH, gQ, ZO, fD, fF, fG, fE, eZ, eT, fB, eX, eQ, eH, if_true, if_false, ZM, ZS, ZN, ZP, ZR, ZQ, ZL, ZK, eA, dV, aB, dE, dJ, cB, eB, eS, eD, dN, eE, fA, dG, eI, bR, dL, bC, dR, aL, aH, eK, aZ, cI, eJ, aG, eL, dQ, aR, bD, eC, bG, bF, bJ, aP, aM, cG, fH, dY, cJ, cA, dB, cH, dT, bB, eM, bX, dS, bQ, bA, bT, aC, bU, bP, cF, bY, aU, aV, aX, bV, dD, cP, bO, aY, aN, aK, bH, aD, dC, dW, aJ, aI, aT, aF, cY, aE, cL, bW, bE, aO, cM, bZ, aA, dF, cU, cV, cC, dK, cD, dM, dU, cN, eF, eN, bN, aS, dZ, bS, aQ, bM, dI, dA, cS, cO, cR, bK, bL, cX, dO, cQ, dH, cZ]
  exact Bw.refl h
 have hmay : KZ name = true := by cases hq : KZ name with | true => rfl | false => exact absurd hq hmay
 rw [hmay] at hE ⊢
 by_cases ha0 : a < 0
 .have d1 : decide (a < 0) = true := by simpa using ha0
  rw [if_pos (.inr ha0)] at hE
  rw [hW 1 hE.symm (by decide)]
  simp (disch := omega) only [eY, gN, dX, stepR_skip, fO, gI, fP, gJ, gC, gE, gR, fZ, eU, fX, fU, gD, fR, fN, fW, fS, fV, gK, gG, fQ, fC, fY, gA, fL, iP, iS, iL, iT, iR, iM, iN, iQ, iO, eP, Result.ok.injEq, Next.value.injEq, true_and, and_true, fI, fJ, gB, fM, gH, gQ, ZO, fD, fF, fG, fE, eZ, eT, fB, eX, eQ, eH, if_true, if_false, ZM, ZS, ZN, ZP, ZR, ZQ, ZL, ZK, eA, dV, aB, dE, dJ, cB, eB, eS, eD, dN, eE, fA, dG, eI, bR, dL, bC, dR, aL, aH, eK, aZ, cI, eJ, aG, eL, dQ, aR, bD, eC, bG, bF, bJ, aP, aM, cG, fH, dY, cJ, cA, dB, cH, dT, bB, eM, bX, dS, bQ, bA, bT, aC, bU, bP, cF, bY, aU, aV, aX, bV, dD, cP, bO, aY, aN, aK, bH, aD, dC, dW, aJ, aI, aT, aF, cY, aE, cL, bW, bE, aO, cM, bZ, aA, dF, cU, cV, cC, dK, cD, dM, dU, cN, eF, eN, bN, aS, dZ, bS, aQ, bM, dI, dA, cS, cO, cR, bK, bL, cX, dO, cQ, dH, cZ, d1]
  exact Bw.refl h
 have d1 : decide (a < 0) = false := by simpa using ha0
 rw [if_neg (by rintro (h | h); cases h; exact ha0 h)] at hE
 by_cases ha1 : (ob.length : Int) < a
 .have d2 : decide ((ob.length : Int) < a) = true := by simpa using ha1
  rw [if_pos ha1] at hE
  rw [hW 17 hE.symm (by decide)]
  simp (disch := omega) only [eY, gN, dX, stepR_skip, fO, gI, fP, gJ, gC, gE, gR, fZ, eU, fX, fU, gD, fR, fN, fW, fS, fV, gK, gG, fQ, fC, fY, gA, fL, iP, iS, iL, iT, iR, iM, iN, iQ, iO, eP, Result.ok.injEq, Next.value.injEq, true_and, and_true, fI, fJ, gB, fM, gH, gQ, ZO, fD, fF, fG, fE, eZ, eT, fB, eX, eQ, eH, if_true, if_false, ZM, ZS, ZN, ZP, ZR, ZQ, ZL, ZK, eA, dV, aB, dE, dJ, cB, eB, eS, eD, dN, eE, fA, dG, eI, bR, dL, bC, dR, aL, aH, eK, aZ, cI, eJ, aG, eL, dQ, aR, bD, eC, bG, bF, bJ, aP, aM, cG, fH, dY, cJ, cA, dB, cH, dT, bB, eM, bX, dS, bQ, bA, bT, aC, bU, bP, cF, bY, aU, aV, aX, bV, dD, cP, bO, aY, aN, aK, bH, aD, dC, dW, aJ, aI, aT, aF, cY, aE, cL, bW, bE, aO, cM, bZ, aA, dF, cU, cV, cC, dK, cD, dM, dU, cN, eF, eN, bN, aS, dZ, bS, aQ, bM, dI, dA, cS, cO, cR, bK, bL, cX, dO, cQ, dH, cZ, d1, d2]
  exact Bw.refl h
 have d2 : decide ((ob.length : Int) < a) = false := by simpa using ha1
 rw [if_neg ha1] at hE
 have hbs := hB.seen
 have hbr := hB.room
 obtain ⟨k, rfl⟩ : ∃ k : Nat, a = k := ⟨a.toNat, by omega⟩
 simp (disch := omega) only [eY, gN, dX, stepR_skip, fO, gI, fP, gJ, gC, gE, gR, fZ, eU, fX, fU, gD, fR, fN, fW, fS, fV, gK, gG, fQ, fC, fY, gA, fL, iP, iS, iL, iT, iR, iM, iN, iQ, iO, eP, Result.ok.injEq, Next.value.injEq, true_and, and_true, fI, fJ, gB, fM, gH, gQ, ZO, fD, fF, fG, fE, eZ, eT, fB, eX, eQ, eH, if_true, if_false, ZM, ZS, ZN, ZP, ZR, ZQ, ZL, ZK, eA, dV, aB, dE, dJ, cB, eB, eS, eD, dN, eE, fA, dG, eI, bR, dL, bC, dR, aL, aH, eK, aZ, cI, eJ, aG, eL, dQ, aR, bD, eC, bG, bF, bJ, aP, aM, cG, fH, dY, cJ, cA, dB, cH, dT, bB, eM, bX, dS, bQ, bA, bT, aC, bU, bP, cF, bY, aU, aV, aX, bV, dD, cP, bO, aY, aN, aK, bH, aD, dC, dW, aJ, aI, aT, aF, cY, aE, cL, bW, bE, aO, cM, bZ, aA, dF, cU, cV, cC, dK, cD, dM, dU, cN, eF, eN, bN, aS, dZ, bS, aQ, bM, dI, dA, cS, cO, cR, bK, bL, cX, dO, cQ, dH, cZ, d1, d2, c2d]
 refine (Yl (c := S.seen) hmn.dr (hfn.ext (gT.dr _ jL) fun _ h => h.elim) hbs).mono ?_
 rintro r w2 ⟨rfl, x2⟩
 have x2 : gT w1 w2 jL := (gT.dr _ _).seq x2
 have op2 := op.ext x2 (fun h => h)
 have r0 := op2.cell (off := 0)
 have r0d := (kI op2).cell (off := 0)
 simp only [ZK, ZL] at r0 r0d
 have e1 : (k : Int) + (l.length : Int) = ((k + l.length : Nat) : Int) := by omega
 obtain ⟨q, hq⟩ : ∃ q : Nat, max (((k + l.length : Nat) : Int) - (ob.length : Int)) 0 = q := ⟨(max (((k + l.length : Nat) : Int) - (ob.length : Int)) 0).toNat, by omega⟩
 have hmax : (if (0 : Int) > ((k + l.length : Nat) : Int) - (ob.length : Int) then (0 : Int) else ((k + l.length : Nat) : Int) - (ob.length : Int)) = (q : Nat) := by
  split <;> omega
 have e2 : ((iY S.seen : Nat) : Int) + (q : Int) = ((iY S.seen + q : Nat) : Int) := by omega
 rw [e1, hq, e2] at hE
 by_cases hsp : S.room < ((iY S.seen + q : Nat) : Int)
 .have d3 : decide (S.room < ((iY S.seen + q : Nat) : Int)) = true := by simpa using hsp
  rw [if_pos hsp] at hE
  rw [hW 22 hE.symm (by decide)]
  simp (disch := omega) only [eY, gN, dX, stepR_skip, fO, gI, fP, gJ, gC, gE, gR, fZ, eU, fX, fU, gD, fR, fN, fW, fS, fV, gK, gG, fQ, fC, fY, gA, fL, iP, iS, iL, iT, iR, iM, iN, iQ, iO, eP, Result.ok.injEq, Next.value.injEq, true_and, and_true, fI, fJ, gB, fM, gH, gQ, ZO, fD, fF, fG, fE, eZ, eT, fB, eX, eQ, eH, if_true, if_false, ZM, ZS, ZN, ZP, ZR, ZQ, ZL, ZK, eA, dV, aB, dE, dJ, cB, eB, eS, eD, dN, eE, fA, dG, eI, bR, dL, bC, dR, aL, aH, eK, aZ, cI, eJ, aG, eL, dQ, aR, bD, eC, bG, bF, bJ, aP, aM, cG, fH, dY, cJ, cA, dB, cH, dT, bB, eM, bX, dS, bQ, bA, bT, aC, bU, bP, cF, bY, aU, aV, aX, bV, dD, cP, bO, aY, aN, aK, bH, aD, dC, dW, aJ, aI, aT, aF, cY, aE, cL, bW, bE, aO, cM, bZ, aA, dF, cU, cV, cC, dK, cD, dM, dU, cN, eF, eN, bN, aS, dZ, bS, aQ, bM, dI, dA, cS, cO, cR, bK, bL, cX, dO, cQ, dH, cZ, d1, d2, r0, r0d, c0d, e1, hmax, e2, d3]
  exact ⟨X, D, h.new x2, fun _ h => .inl h, fun _ h => h, x2.mono fun _ _ h => h.elim⟩
 have d3 : decide (S.room < ((iY S.seen + q : Nat) : Int)) = false := by simpa using hsp
 rw [if_neg hsp] at hE
 have hW0 : GS S name k l = AK S ⟨0, name, ⟨#[]⟩, k, l⟩ := by unfold GS; rw [hE0, <- hE, if_pos rfl, ZO]
 rw [hW0]
 simp (disch := omega) only [eY, gN, dX, stepR_skip, fO, gI, fP, gJ, gC, gE, gR, fZ, eU, fX, fU, gD, fR, fN, fW, fS, fV, gK, gG, fQ, fC, fY, gA, fL, iP, iS, iL, iT, iR, iM, iN, iQ, iO, eP, Result.ok.injEq, Next.value.injEq, true_and, and_true, fI, fJ, gB, fM, gH, gQ, ZO, fD, fF, fG, fE, eZ, eT, fB, eX, eQ, eH, if_true, if_false, ZM, ZS, ZN, ZP, ZR, ZQ, ZL, ZK, eA, dV, aB, dE, dJ, cB, eB, eS, eD, dN, eE, fA, dG, eI, bR, dL, bC, dR, aL, aH, eK, aZ, cI, eJ, aG, eL, dQ, aR, bD, eC, bG, bF, bJ, aP, aM, cG, fH, dY, cJ, cA, dB, cH, dT, bB, eM, bX, dS, bQ, bA, bT, aC, bU, bP, cF, bY, aU, aV, aX, bV, dD, cP, bO, aY, aN, aK, bH, aD, dC, dW, aJ, aI, aT, aF, cY, aE, cL, bW, bE, aO, cM, bZ, aA, dF, cU, cV, cC, dK, cD, dM, dU, cN, eF, eN, bN, aS, dZ, bS, aQ, bM, dI, dA, cS, cO, cR, bK, bL, cX, dO, cQ, dH, cZ, d1, d2, r0, r0d, c0d, e1, hmax, e2, d3]
 refine (NF (hb.ext x2 (jI _)) hl).mono ?_
 rintro r w3 ⟨ho, x3⟩
 obtain ⟨va, vc, rfl⟩ := ho.len
 have h2' := h.new x2
 have hd3 : GN w3 D (.slice va l.length vc) l := zF.dat ho fun b hb => lX.lt h2' b hb
 have opE : Pa ⟨0, name, ⟨#[]⟩, k, l⟩ (.slice va l.length vc) = [.int .i64 0, .string name, .string ⟨#[]⟩, .int .i64 k, .slice va l.length vc] := rfl
 have hdn := Sm (o := ⟨0, name, ⟨#[]⟩, k, l⟩) (h2'.new x3) hd3 hB.left hbs (show k <= 1099511627776 by omega) (show l.length <= 1099511627776 by omega) hB.under
 rw [opE] at hdn
 simp (disch := omega) only [eY, gN, dX, stepR_skip, fO, gI, fP, gJ, gC, gE, gR, fZ, eU, fX, fU, gD, fR, fN, fW, fS, fV, gK, gG, fQ, fC, fY, gA, fL, iP, iS, iL, iT, iR, iM, iN, iQ, iO, eP, Result.ok.injEq, Next.value.injEq, true_and, and_true, fI, fJ, gB, fM, gH, gQ, ZO, fD, fF, fG, fE, eZ, eT, fB, eX, eQ, eH, if_true, if_false, ZM, ZS, ZN, ZP, ZR, ZQ, ZL, ZK, eA, dV, aB, dE, dJ, cB, eB, eS, eD, dN, eE, fA, dG, eI, bR, dL, bC, dR, aL, aH, eK, aZ, cI, eJ, aG, eL, dQ, aR, bD, eC, bG, bF, bJ, aP, aM, cG, fH, dY, cJ, cA, dB, cH, dT, bB, eM, bX, dS, bQ, bA, bT, aC, bU, bP, cF, bY, aU, aV, aX, bV, dD, cP, bO, aY, aN, aK, bH, aD, dC, dW, aJ, aI, aT, aF, cY, aE, cL, bW, bE, aO, cM, bZ, aA, dF, cU, cV, cC, dK, cD, dM, dU, cN, eF, eN, bN, aS, dZ, bS, aQ, bM, dI, dA, cS, cO, cR, bK, bL, cX, dO, cQ, dH, cZ]
 refine hdn.mono ?_
 rintro r w4 ⟨rfl, hp⟩
 exact ⟨rfl, Bw.step ((x2.seq x3).mono fun _ _ h => h.elim) (fun _ h => .inl h) (fun _ h => h) hp⟩
theorem QF {p : Nat} {X D : Nat -> Prop} {S : kD} {name : ByteArray} {w : adR} (h : lX w p X D S) (hB : Yo S) (hsz : ∀ b, jF name S.seen = some b -> b.length <= 1000000000) :
 gS pg lE #[dP p, .string name] w (fun r w' => ((S.down = true /\ r = .tuple #[.slice none 0 0, .int .i64 20]) ∨ (S.down = false /\ jF name S.seen = none /\ r = .tuple #[.slice none 0 0, .int .i64 21]) ∨
  (S.down = false /\ ∃ b v, jF name S.seen = some b /\ r = .tuple #[v, .int .i64 0] /\ zF w' w.heap.size 1 v b.length (b.map nU))) /\ gT w w' jL) := by
 refine JV ?_
 obtain ⟨RR, hRR⟩ : ∃ RR : adS -> adR -> Prop, RR = fun r w' => ((S.down = true /\ r = .tuple #[.slice none 0 0, .int .i64 20]) ∨ (S.down = false /\ jF name S.seen = none /\ r = .tuple #[.slice none 0 0, .int .i64 21]) ∨
  (S.down = false /\ ∃ b v, jF name S.seen = some b /\ r = .tuple #[v, .int .i64 0] /\ zF w' w.heap.size 1 v b.length (b.map nU))) /\ gT w w' jL := ⟨_, rfl⟩
 rw [<- hRR]
 unfold I6 Ae
 refine (Vh h).mono ?_
 rintro r w1 ⟨rfl, rfl⟩
 by_cases hd : S.down = true
 .rw [if_pos hd]
  have n1 : ((20 : Int) != 0) = true := rfl
  simp (disch := omega) only [eY, gN, dX, stepR_skip, fO, gI, fP, gJ, gC, gE, gR, fZ, eU, fX, fU, gD, fR, fN, fW, fS, fV, gK, gG, fQ, fC, fY, gA, fL, iP, iS, iL, iT, iR, iM, iN, iQ, iO, eP, Result.ok.injEq, Next.value.injEq, true_and, and_true, fI, fJ, gB, fM, gH, gQ, ZO, fD, fF, fG, fE, eZ, eT, fB, eX, eQ, eH, if_true, if_false, ZM, ZS, ZN, ZP, ZR, ZQ, ZL, ZK, eA, dV, aB, dE, dJ, cB, eB, eS, eD, dN, eE, fA, dG, eI, bR, dL, bC, dR, aL, aH, eK, aZ, cI, eJ, aG, eL, dQ, aR, bD, eC, bG, bF, bJ, aP, aM, cG, fH, dY, cJ, cA, dB, cH, dT, bB, eM, bX, dS, bQ, bA, bT, aC, bU, bP, cF, bY, aU, aV, aX, bV, dD, cP, bO, aY, aN, aK, bH, aD, dC, dW, aJ, aI, aT, aF, cY, aE, cL, bW, bE, aO, cM, bZ, aA, dF, cU, cV, cC, dK, cD, dM, dU, cN, eF, eN, bN, aS, dZ, bS, aQ, bM, dI, dA, cS, cO, cR, bK, bL, cX, dO, cQ, dH, cZ, n1]
  rw [hRR]
  exact ⟨.inl ⟨hd, rfl⟩, gT.refl _ _⟩
 have hd' : S.down = false := by cases hq : S.down with | true => exact absurd hq hd | false => rfl
 rw [if_neg hd]
 have n1 : ((0 : Int) != 0) = false := rfl
 obtain ⟨ms, mn, sv, ls, ln, cs, h1, h2, h3, h4, h5, h6, hXD, hDl, op, hms, hmn, hfs, hfn, hun, hop⟩ := h
 have h7 := fun b (hb : X b) => hDl b (hXD b hb)
 have c2 := op.cell (off := 2)
 simp only [ZK, ZL] at c2
 have l0 := Bn hmn name
 rcases hfn.get name with ⟨q1, q2⟩ | ⟨v, b, q1, q2, q3⟩
 .rw [q1] at l0
  have l0 : (zZ 61 (.map (some mn)) (.string name) true).run pg w1 = .ok (.value (.tuple #[.slice none 0 0, .bool false])) w1 := l0
  simp (disch := omega) only [eY, gN, dX, stepR_skip, fO, gI, fP, gJ, gC, gE, gR, fZ, eU, fX, fU, gD, fR, fN, fW, fS, fV, gK, gG, fQ, fC, fY, gA, fL, iP, iS, iL, iT, iR, iM, iN, iQ, iO, eP, Result.ok.injEq, Next.value.injEq, true_and, and_true, fI, fJ, gB, fM, gH, gQ, ZO, fD, fF, fG, fE, eZ, eT, fB, eX, eQ, eH, if_true, if_false, ZM, ZS, ZN, ZP, ZR, ZQ, ZL, ZK, eA, dV, aB, dE, dJ, cB, eB, eS, eD, dN, eE, fA, dG, eI, bR, dL, bC, dR, aL, aH, eK, aZ, cI, eJ, aG, eL, dQ, aR, bD, eC, bG, bF, bJ, aP, aM, cG, fH, dY, cJ, cA, dB, cH, dT, bB, eM, bX, dS, bQ, bA, bT, aC, bU, bP, cF, bY, aU, aV, aX, bV, dD, cP, bO, aY, aN, aK, bH, aD, dC, dW, aJ, aI, aT, aF, cY, aE, cL, bW, bE, aO, cM, bZ, aA, dF, cU, cV, cC, dK, cD, dM, dU, cN, eF, eN, bN, aS, dZ, bS, aQ, bM, dI, dA, cS, cO, cR, bK, bL, cX, dO, cQ, dH, cZ, n1, c2, l0]
  rw [hRR]
  exact ⟨.inr (.inl ⟨hd', q2, rfl⟩), gT.refl _ _⟩
 .obtain ⟨a', c', rfl⟩ := GN.slice q3
  rw [q1] at l0
  have l0 : (zZ 61 (.map (some mn)) (.string name) true).run pg w1 = .ok (.value (.tuple #[.slice a' b.length c', .bool true])) w1 := l0
  simp (disch := omega) only [eY, gN, dX, stepR_skip, fO, gI, fP, gJ, gC, gE, gR, fZ, eU, fX, fU, gD, fR, fN, fW, fS, fV, gK, gG, fQ, fC, fY, gA, fL, iP, iS, iL, iT, iR, iM, iN, iQ, iO, eP, Result.ok.injEq, Next.value.injEq, true_and, and_true, fI, fJ, gB, fM, gH, gQ, ZO, fD, fF, fG, fE, eZ, eT, fB, eX, eQ, eH, if_true, if_false, ZM, ZS, ZN, ZP, ZR, ZQ, ZL, ZK, eA, dV, aB, dE, dJ, cB, eB, eS, eD, dN, eE, fA, dG, eI, bR, dL, bC, dR, aL, aH, eK, aZ, cI, eJ, aG, eL, dQ, aR, bD, eC, bG, bF, bJ, aP, aM, cG, fH, dY, cJ, cA, dB, cH, dT, bB, eM, bX, dS, bQ, bA, bT, aC, bU, bP, cF, bY, aU, aV, aX, bV, dD, cP, bO, aY, aN, aK, bH, aD, dC, dW, aJ, aI, aT, aF, cY, aE, cL, bW, bE, aO, cM, bZ, aA, dF, cU, cV, cC, dK, cD, dM, dU, cN, eF, eN, bN, aS, dZ, bS, aQ, bM, dI, dA, cS, cO, cR, bK, bL, cX, dO, cQ, dH, cZ, n1, c2, l0]
  refine (NF q3.1 (hsz b q2)).mono ?_
  rintro r w2 ⟨ho, x2⟩
  rw [hRR]
  exact ⟨.inr (.inr ⟨hd', b, r, q2, rfl, ho⟩), x2⟩
def UO (S : kD) (name : ByteArray) : kD × Int := if S.down then (S, 20) else if (jF name S.seen).isNone then (S, 21) else AK S ⟨2, name, ⟨#[]⟩, 0, []⟩
theorem Ud {p : Nat} {X D : Nat -> Prop} {S : kD} {name : ByteArray} {w : adR} (h : lX w p X D S) (hB : Yo S) :
 gS pg rQ #[dP p, .string name] w (fun r w' => r = .int .i64 (UO S name).2 /\ Bw w p X D (UO S name).1 w') := by
 refine H7 ?_
 unfold FN wL UO
 refine (Vh h).mono ?_
 rintro r w1 ⟨rfl, rfl⟩
 by_cases hd : S.down = true
 .rw [if_pos hd, if_pos hd]
  have n1 : ((20 : Int) != 0) = true := rfl
  simp (disch := omega) only [eY, gN, dX, stepR_skip, fO, gI, fP, gJ, gC, gE, gR, fZ, eU, fX, fU, gD, fR, fN, fW, fS, fV, gK, gG, fQ, fC, fY, gA, fL, iP, iS, iL, iT, iR, iM, iN, iQ, iO, eP, Result.ok.injEq, Next.value.injEq, true_and, and_true, fI, fJ, gB, fM, gH, gQ, ZO, fD, fF, fG, fE, eZ, eT, fB, eX, eQ, eH, if_true, if_false, ZM, ZS, ZN, ZP, ZR, ZQ, ZL, ZK, eA, dV, aB, dE, dJ, cB, eB, eS, eD, dN, eE, fA, dG, eI, bR, dL, bC, dR, aL, aH, eK, aZ, cI, eJ, aG, eL, dQ, aR, bD, eC, bG, bF, bJ, aP, aM, cG, fH, dY, cJ, cA, dB, cH, dT, bB, eM, bX, dS, bQ, bA, bT, aC, bU, bP, cF, bY, aU, aV, aX, bV, dD, cP, bO, aY, aN, aK, bH, aD, dC, dW, aJ, aI, aT, aF, cY, aE, cL, bW, bE, aO, cM, bZ, aA, dF, cU, cV, cC, dK, cD, dM, dU, cN, eF, eN, bN, aS, dZ, bS, aQ, bM, dI, dA, cS, cO, cR, bK, bL, cX, dO, cQ, dH, cZ, n1]
  exact Bw.refl h
 rw [if_neg hd, if_neg hd]
 have n1 : ((0 : Int) != 0) = false := rfl
 have h' := h
 obtain ⟨ms, mn, sv, ls, ln, cs, h1, h2, h3, h4, h5, h6, hXD, hDl, op, hms, hmn, hfs, hfn, hun, hop⟩ := h'
 have h7 : ∀ b, X b -> b < w1.heap.size := fun b hb => hDl b (hXD b hb)
 have c2 := op.cell (off := 2)
 simp only [ZK, ZL] at c2
 have l0 := Bn hmn name
 rcases hfn.get name with ⟨q1, q2⟩ | ⟨v, b, q1, q2, q3⟩
 .rw [q1] at l0
  have l0 : (zZ 61 (.map (some mn)) (.string name) true).run pg w1 = .ok (.value (.tuple #[.slice none 0 0, .bool false])) w1 := l0
  rw [q2, if_pos (show (none : Option (List UInt8)).isNone = true from rfl)]
  simp (disch := omega) only [eY, gN, dX, stepR_skip, fO, gI, fP, gJ, gC, gE, gR, fZ, eU, fX, fU, gD, fR, fN, fW, fS, fV, gK, gG, fQ, fC, fY, gA, fL, iP, iS, iL, iT, iR, iM, iN, iQ, iO, eP, Result.ok.injEq, Next.value.injEq, true_and, and_true, fI, fJ, gB, fM, gH, gQ, ZO, fD, fF, fG, fE, eZ, eT, fB, eX, eQ, eH, if_true, if_false, ZM, ZS, ZN, ZP, ZR, ZQ, ZL, ZK, eA, dV, aB, dE, dJ, cB, eB, eS, eD, dN, eE, fA, dG, eI, bR, dL, bC, dR, aL, aH, eK, aZ, cI, eJ, aG, eL, dQ, aR, bD, eC, bG, bF, bJ, aP, aM, cG, fH, dY, cJ, cA, dB, cH, dT, bB, eM, bX, dS, bQ, bA, bT, aC, bU, bP, cF, bY, aU, aV, aX, bV, dD, cP, bO, aY, aN, aK, bH, aD, dC, dW, aJ, aI, aT, aF, cY, aE, cL, bW, bE, aO, cM, bZ, aA, dF, cU, cV, cC, dK, cD, dM, dU, cN, eF, eN, bN, aS, dZ, bS, aQ, bM, dI, dA, cS, cO, cR, bK, bL, cX, dO, cQ, dH, cZ, n1, c2, l0]
  exact Bw.refl h
 .obtain ⟨a', c', rfl⟩ := GN.slice q3
  rw [q1] at l0
  have l0 : (zZ 61 (.map (some mn)) (.string name) true).run pg w1 = .ok (.value (.tuple #[.slice a' b.length c', .bool true])) w1 := l0
  rw [q2, if_neg (show ¬ (some b).isNone = true by simp)]
  have hdn := Sm (o := ⟨2, name, ⟨#[]⟩, 0, []⟩) (va := none) (vc := 0) h ⟨Sl.nil _, fun h => h⟩ hB.left hB.seen (show 0 <= _ by omega) (show 0 <= _ by omega) hB.under
  have opE : Pa ⟨2, name, ⟨#[]⟩, 0, []⟩ (.slice none ([] : List UInt8).length 0) = [.int .i64 2, .string name, .string ⟨#[]⟩, .int .i64 0, .slice none 0 0] := rfl
  rw [opE] at hdn
  simp (disch := omega) only [eY, gN, dX, stepR_skip, fO, gI, fP, gJ, gC, gE, gR, fZ, eU, fX, fU, gD, fR, fN, fW, fS, fV, gK, gG, fQ, fC, fY, gA, fL, iP, iS, iL, iT, iR, iM, iN, iQ, iO, eP, Result.ok.injEq, Next.value.injEq, true_and, and_true, fI, fJ, gB, fM, gH, gQ, ZO, fD, fF, fG, fE, eZ, eT, fB, eX, eQ, eH, if_true, if_false, ZM, ZS, ZN, ZP, ZR, ZQ, ZL, ZK, eA, dV, aB, dE, dJ, cB, eB, eS, eD, dN, eE, fA, dG, eI, bR, dL, bC, dR, aL, aH, eK, aZ, cI, eJ, aG, eL, dQ, aR, bD, eC, bG, bF, bJ, aP, aM, cG, fH, dY, cJ, cA, dB, cH, dT, bB, eM, bX, dS, bQ, bA, bT, aC, bU, bP, cF, bY, aU, aV, aX, bV, dD, cP, bO, aY, aN, aK, bH, aD, dC, dW, aJ, aI, aT, aF, cY, aE, cL, bW, bE, aO, cM, bZ, aA, dF, cU, cV, cC, dK, cD, dM, dU, cN, eF, eN, bN, aS, dZ, bS, aQ, bM, dI, dA, cS, cO, cR, bK, bL, cX, dO, cQ, dH, cZ, n1, c2, l0]
  exact hdn
def M4 (S : kD) (old name : ByteArray) : kD × Int := if S.down then (S, 20) else if KZ old = false ∨ KZ name = false then (S, 1) else if (jF old S.seen).isNone then (S, 21) else AK S ⟨1, old, name, 0, []⟩
theorem UA {p : Nat} {X D : Nat -> Prop} {S : kD} {old name : ByteArray} {w : adR} (h : lX w p X D S) (hB : Yo S) :
 gS pg rP #[dP p, .string old, .string name] w (fun r w' => r = .int .i64 (M4 S old name).2 /\ Bw w p X D (M4 S old name).1 w') := by
 refine HO ?_
 unfold FQ wJ M4
 refine (Vh h).mono ?_
 rintro r w1 ⟨rfl, rfl⟩
 by_cases hd : S.down = true
 .rw [if_pos hd, if_pos hd]
  have n1 : ((20 : Int) != 0) = true := rfl
  simp (disch := omega) only [eY, gN, dX, stepR_skip, fO, gI, fP, gJ, gC, gE, gR, fZ, eU, fX, fU, gD, fR, fN, fW, fS, fV, gK, gG, fQ, fC, fY, gA, fL, iP, iS, iL, iT, iR, iM, iN, iQ, iO, eP, Result.ok.injEq, Next.value.injEq, true_and, and_true, fI, fJ, gB, fM, gH, gQ, ZO, fD, fF, fG, fE, eZ, eT, fB, eX, eQ, eH, if_true, if_false, ZM, ZS, ZN, ZP, ZR, ZQ, ZL, ZK, eA, dV, aB, dE, dJ, cB, eB, eS, eD, dN, eE, fA, dG, eI, bR, dL, bC, dR, aL, aH, eK, aZ, cI, eJ, aG, eL, dQ, aR, bD, eC, bG, bF, bJ, aP, aM, cG, fH, dY, cJ, cA, dB, cH, dT, bB, eM, bX, dS, bQ, bA, bT, aC, bU, bP, cF, bY, aU, aV, aX, bV, dD, cP, bO, aY, aN, aK, bH, aD, dC, dW, aJ, aI, aT, aF, cY, aE, cL, bW, bE, aO, cM, bZ, aA, dF, cU, cV, cC, dK, cD, dM, dU, cN, eF, eN, bN, aS, dZ, bS, aQ, bM, dI, dA, cS, cO, cR, bK, bL, cX, dO, cQ, dH, cZ, n1]
  exact Bw.refl h
 rw [if_neg hd, if_neg hd]
 have n1 : ((0 : Int) != 0) = false := rfl
 have h' := h
 obtain ⟨ms, mn, sv, ls, ln, cs, h1, h2, h3, h4, h5, h6, hXD, hDl, op, hms, hmn, hfs, hfn, hun, hop⟩ := h'
 have h7 : ∀ b, X b -> b < w1.heap.size := fun b hb => hDl b (hXD b hb)
 have c2 := op.cell (off := 2)
 simp only [ZK, ZL] at c2
 simp (disch := omega) only [eY, gN, dX, stepR_skip, fO, gI, fP, gJ, gC, gE, gR, fZ, eU, fX, fU, gD, fR, fN, fW, fS, fV, gK, gG, fQ, fC, fY, gA, fL, iP, iS, iL, iT, iR, iM, iN, iQ, iO, eP, Result.ok.injEq, Next.value.injEq, true_and, and_true, fI, fJ, gB, fM, gH, gQ, ZO, fD, fF, fG, fE, eZ, eT, fB, eX, eQ, eH, if_true, if_false, ZM, ZS, ZN, ZP, ZR, ZQ, ZL, ZK, eA, dV, aB, dE, dJ, cB, eB, eS, eD, dN, eE, fA, dG, eI, bR, dL, bC, dR, aL, aH, eK, aZ, cI, eJ, aG, eL, dQ, aR, bD, eC, bG, bF, bJ, aP, aM, cG, fH, dY, cJ, cA, dB, cH, dT, bB, eM, bX, dS, bQ, bA, bT, aC, bU, bP, cF, bY, aU, aV, aX, bV, dD, cP, bO, aY, aN, aK, bH, aD, dC, dW, aJ, aI, aT, aF, cY, aE, cL, bW, bE, aO, cM, bZ, aA, dF, cU, cV, cC, dK, cD, dM, dU, cN, eF, eN, bN, aS, dZ, bS, aQ, bM, dI, dA, cS, cO, cR, bK, bL, cX, dO, cQ, dH, cZ, n1]
 refine (VQ old _).mono ?_
 rintro r w2 ⟨rfl, hw⟩
 rw [hw]; clear hw w2
 cases hm1 : KZ old with
 | false =>
   rw [if_pos (.inl rfl)]
   simp (disch := omega) only [eY, gN, dX, stepR_skip, fO, gI, fP, gJ, gC, gE, gR, fZ, eU, fX, fU, gD, fR, fN, fW, fS, fV, gK, gG, fQ, fC, fY, gA, fL, iP, iS, iL, iT, iR, iM, iN, iQ, iO, eP, Result.ok.injEq, Next.value.injEq, true_and, and_true, fI, fJ, gB, fM, gH, gQ, ZO, fD, fF, fG, fE, eZ, eT, fB, eX, eQ, eH, if_true, if_false, ZM, ZS, ZN, ZP, ZR, ZQ, ZL, ZK, eA, dV, aB, dE, dJ, cB, eB, eS, eD, dN, eE, fA, dG, eI, bR, dL, bC, dR, aL, aH, eK, aZ, cI, eJ, aG, eL, dQ, aR, bD, eC, bG, bF, bJ, aP, aM, cG, fH, dY, cJ, cA, dB, cH, dT, bB, eM, bX, dS, bQ, bA, bT, aC, bU, bP, cF, bY, aU, aV, aX, bV, dD, cP, bO, aY, aN, aK, bH, aD, dC, dW, aJ, aI, aT, aF, cY, aE, cL, bW, bE, aO, cM, bZ, aA, dF, cU, cV, cC, dK, cD, dM, dU, cN, eF, eN, bN, aS, dZ, bS, aQ, bM, dI, dA, cS, cO, cR, bK, bL, cX, dO, cQ, dH, cZ]
   exact Bw.refl h
 | true =>
   simp (disch := omega) only [eY, gN, dX, stepR_skip, fO, gI, fP, gJ, gC, gE, gR, fZ, eU, fX, fU, gD, fR, fN, fW, fS, fV, gK, gG, fQ, fC, fY, gA, fL, iP, iS, iL, iT, iR, iM, iN, iQ, iO, eP, Result.ok.injEq, Next.value.injEq, true_and, and_true, fI, fJ, gB, fM, gH, gQ, ZO, fD, fF, fG, fE, eZ, eT, fB, eX, eQ, eH, if_true, if_false, ZM, ZS, ZN, ZP, ZR, ZQ, ZL, ZK, eA, dV, aB, dE, dJ, cB, eB, eS, eD, dN, eE, fA, dG, eI, bR, dL, bC, dR, aL, aH, eK, aZ, cI, eJ, aG, eL, dQ, aR, bD, eC, bG, bF, bJ, aP, aM, cG, fH, dY, cJ, cA, dB, cH, dT, bB, eM, bX, dS, bQ, bA, bT, aC, bU, bP, cF, bY, aU, aV, aX, bV, dD, cP, bO, aY, aN, aK, bH, aD, dC, dW, aJ, aI, aT, aF, cY, aE, cL, bW, bE, aO, cM, bZ, aA, dF, cU, cV, cC, dK, cD, dM, dU, cN, eF, eN, bN, aS, dZ, bS, aQ, bM, dI, dA, cS, cO, cR, bK, bL, cX, dO, cQ, dH, cZ]
   refine (VQ name _).mono ?_
   rintro r w2 ⟨rfl, hw⟩
   rw [hw]; clear hw w2
   cases hm2 : KZ name with
   | false =>
     rw [if_pos (.inr rfl)]
     simp (disch := omega) only [eY, gN, dX, stepR_skip, fO, gI, fP, gJ, gC, gE, gR, fZ, eU, fX, fU, gD, fR, fN, fW, fS, fV, gK, gG, fQ, fC, fY, gA, fL, iP, iS, iL, iT, iR, iM, iN, iQ, iO, eP, Result.ok.injEq, Next.value.injEq, true_and, and_true, fI, fJ, gB, fM, gH, gQ, ZO, fD, fF, fG, fE, eZ, eT, fB, eX, eQ, eH, if_true, if_false, ZM, ZS, ZN, ZP, ZR, ZQ, ZL, ZK, eA, dV, aB, dE, dJ, cB, eB, eS, eD, dN, eE, fA, dG, eI, bR, dL, bC, dR, aL, aH, eK, aZ, cI, eJ, aG, eL, dQ, aR, bD, eC, bG, bF, bJ, aP, aM, cG, fH, dY, cJ, cA, dB, cH, dT, bB, eM, bX, dS, bQ, bA, bT, aC, bU, bP, cF, bY, aU, aV, aX, bV, dD, cP, bO, aY, aN, aK, bH, aD, dC, dW, aJ, aI, aT, aF, cY, aE, cL, bW, bE, aO, cM, bZ, aA, dF, cU, cV, cC, dK, cD, dM, dU, cN, eF, eN, bN, aS, dZ, bS, aQ, bM, dI, dA, cS, cO, cR, bK, bL, cX, dO, cQ, dH, cZ]
     exact Bw.refl h
   | true =>
     rw [if_neg (by simp)]
     have l0 := Bn hmn old
     rcases hfn.get old with ⟨q1, q2⟩ | ⟨v, b, q1, q2, q3⟩
     .rw [q1] at l0
      have l0 : (zZ 61 (.map (some mn)) (.string old) true).run pg w1 = .ok (.value (.tuple #[.slice none 0 0, .bool false])) w1 := l0
      rw [q2, if_pos (show (none : Option (List UInt8)).isNone = true from rfl)]
      simp (disch := omega) only [eY, gN, dX, stepR_skip, fO, gI, fP, gJ, gC, gE, gR, fZ, eU, fX, fU, gD, fR, fN, fW, fS, fV, gK, gG, fQ, fC, fY, gA, fL, iP, iS, iL, iT, iR, iM, iN, iQ, iO, eP, Result.ok.injEq, Next.value.injEq, true_and, and_true, fI, fJ, gB, fM, gH, gQ, ZO, fD, fF, fG, fE, eZ, eT, fB, eX, eQ, eH, if_true, if_false, ZM, ZS, ZN, ZP, ZR, ZQ, ZL, ZK, eA, dV, aB, dE, dJ, cB, eB, eS, eD, dN, eE, fA, dG, eI, bR, dL, bC, dR, aL, aH, eK, aZ, cI, eJ, aG, eL, dQ, aR, bD, eC, bG, bF, bJ, aP, aM, cG, fH, dY, cJ, cA, dB, cH, dT, bB, eM, bX, dS, bQ, bA, bT, aC, bU, bP, cF, bY, aU, aV, aX, bV, dD, cP, bO, aY, aN, aK, bH, aD, dC, dW, aJ, aI, aT, aF, cY, aE, cL, bW, bE, aO, cM, bZ, aA, dF, cU, cV, cC, dK, cD, dM, dU, cN, eF, eN, bN, aS, dZ, bS, aQ, bM, dI, dA, cS, cO, cR, bK, bL, cX, dO, cQ, dH, cZ, n1, c2, l0]
      exact Bw.refl h
     .obtain ⟨a', c', rfl⟩ := GN.slice q3
      rw [q1] at l0
      have l0 : (zZ 61 (.map (some mn)) (.string old) true).run pg w1 = .ok (.value (.tuple #[.slice a' b.length c', .bool true])) w1 := l0
      rw [q2, if_neg (show ¬ (some b).isNone = true by simp)]
      have hdn := Sm (o := ⟨1, old, name, 0, []⟩) (va := none) (vc := 0) h ⟨Sl.nil _, fun h => h⟩ hB.left hB.seen (show 0 <= _ by omega) (show 0 <= _ by omega) hB.under
      have opE : Pa ⟨1, old, name, 0, []⟩ (.slice none ([] : List UInt8).length 0) = [.int .i64 1, .string old, .string name, .int .i64 0, .slice none 0 0] := rfl
      rw [opE] at hdn
      simp (disch := omega) only [eY, gN, dX, stepR_skip, fO, gI, fP, gJ, gC, gE, gR, fZ, eU, fX, fU, gD, fR, fN, fW, fS, fV, gK, gG, fQ, fC, fY, gA, fL, iP, iS, iL, iT, iR, iM, iN, iQ, iO, eP, Result.ok.injEq, Next.value.injEq, true_and, and_true, fI, fJ, gB, fM, gH, gQ, ZO, fD, fF, fG, fE, eZ, eT, fB, eX, eQ, eH, if_true, if_false, ZM, ZS, ZN, ZP, ZR, ZQ, ZL, ZK, eA, dV, aB, dE, dJ, cB, eB, eS, eD, dN, eE, fA, dG, eI, bR, dL, bC, dR, aL, aH, eK, aZ, cI, eJ, aG, eL, dQ, aR, bD, eC, bG, bF, bJ, aP, aM, cG, fH, dY, cJ, cA, dB, cH, dT, bB, eM, bX, dS, bQ, bA, bT, aC, bU, bP, cF, bY, aU, aV, aX, bV, dD, cP, bO, aY, aN, aK, bH, aD, dC, dW, aJ, aI, aT, aF, cY, aE, cL, bW, bE, aO, cM, bZ, aA, dF, cU, cV, cC, dK, cD, dM, dU, cN, eF, eN, bN, aS, dZ, bS, aQ, bM, dI, dA, cS, cO, cR, bK, bL, cX, dO, cQ, dH, cZ, n1, c2, l0]
      exact hdn
def EE (S : kD) : kD × Int :=
 if S.down then (S, 20) else if Tz S then ({ S with left := It S.left, down := Tz S }, 20)
 else ({ S with left := It S.left, down := Tz S, sure := S.seen, under := [] }, 0)
theorem X4 {p : Nat} {X D : Nat -> Prop} {S : kD} {w : adR} (h : lX w p X D S) (hB : Yo S) :
 gS pg jP #[dP p] w (fun r w' => r = .int .i64 (EE S).2 /\ Bw w p X D (EE S).1 w') := by
 refine JQ ?_
 unfold Jk Af EE
 refine (Vh h).mono ?_
 rintro r w1 ⟨rfl, rfl⟩
 by_cases hd : S.down = true
 .rw [if_pos hd, if_pos hd]
  have n1 : ((20 : Int) != 0) = true := rfl
  simp (disch := omega) only [eY, gN, dX, stepR_skip, fO, gI, fP, gJ, gC, gE, gR, fZ, eU, fX, fU, gD, fR, fN, fW, fS, fV, gK, gG, fQ, fC, fY, gA, fL, iP, iS, iL, iT, iR, iM, iN, iQ, iO, eP, Result.ok.injEq, Next.value.injEq, true_and, and_true, fI, fJ, gB, fM, gH, gQ, ZO, fD, fF, fG, fE, eZ, eT, fB, eX, eQ, eH, if_true, if_false, ZM, ZS, ZN, ZP, ZR, ZQ, ZL, ZK, eA, dV, aB, dE, dJ, cB, eB, eS, eD, dN, eE, fA, dG, eI, bR, dL, bC, dR, aL, aH, eK, aZ, cI, eJ, aG, eL, dQ, aR, bD, eC, bG, bF, bJ, aP, aM, cG, fH, dY, cJ, cA, dB, cH, dT, bB, eM, bX, dS, bQ, bA, bT, aC, bU, bP, cF, bY, aU, aV, aX, bV, dD, cP, bO, aY, aN, aK, bH, aD, dC, dW, aJ, aI, aT, aF, cY, aE, cL, bW, bE, aO, cM, bZ, aA, dF, cU, cV, cC, dK, cD, dM, dU, cN, eF, eN, bN, aS, dZ, bS, aQ, bM, dI, dA, cS, cO, cR, bK, bL, cX, dO, cQ, dH, cZ, n1]
  exact Bw.refl h
 rw [if_neg hd, if_neg hd]
 have n1 : ((0 : Int) != 0) = false := rfl
 obtain ⟨ms, mn, sv, ls, ln, cs, h1, h2, h3, h4, h5, h6, hXD, hDl, op, hms, hmn, hfs, hfn, hun, hop⟩ := h
 have h7 := fun b (hb : X b) => hDl b (hXD b hb)
 simp (disch := omega) only [eY, gN, dX, stepR_skip, fO, gI, fP, gJ, gC, gE, gR, fZ, eU, fX, fU, gD, fR, fN, fW, fS, fV, gK, gG, fQ, fC, fY, gA, fL, iP, iS, iL, iT, iR, iM, iN, iQ, iO, eP, Result.ok.injEq, Next.value.injEq, true_and, and_true, fI, fJ, gB, fM, gH, gQ, ZO, fD, fF, fG, fE, eZ, eT, fB, eX, eQ, eH, if_true, if_false, ZM, ZS, ZN, ZP, ZR, ZQ, ZL, ZK, eA, dV, aB, dE, dJ, cB, eB, eS, eD, dN, eE, fA, dG, eI, bR, dL, bC, dR, aL, aH, eK, aZ, cI, eJ, aG, eL, dQ, aR, bD, eC, bG, bF, bJ, aP, aM, cG, fH, dY, cJ, cA, dB, cH, dT, bB, eM, bX, dS, bQ, bA, bT, aC, bU, bP, cF, bY, aU, aV, aX, bV, dD, cP, bO, aY, aN, aK, bH, aD, dC, dW, aJ, aI, aT, aF, cY, aE, cL, bW, bE, aO, cM, bZ, aA, dF, cU, cV, cC, dK, cD, dM, dU, cN, eF, eN, bN, aS, dZ, bS, aQ, bM, dI, dA, cS, cO, cR, bK, bL, cX, dO, cQ, dH, cZ, n1]
 refine (TG op hB.left).mono ?_
 rintro r w2 ⟨rfl, op2, x2⟩
 have hdn : (S.down || S.left == 0) = Tz S := rfl
 rw [hdn] at op2 ⊢
 have xX : gT w1 w2 X := x2.mono fun b _ h => h ▸ h1
 have xD : gT w1 w2 D := xX.mono fun b _ h => hXD b h
 have z2 := x2.size
 have h72 : ∀ b, X b -> b < w2.heap.size := fun b hb => by have := h7 b hb; omega
 have hD2 : ∀ b, D b -> b < w2.heap.size := fun b hb => by have := hDl b hb; omega
 have hms2 := hms.ext x2 (fun h => h4 h.symm)
 have hmn2 := hmn.ext x2 (fun h => h5 h.symm)
 have hfs2 := hfs.ext xD fun _ h => h
 have hfn2 := hfn.ext xD fun _ h => h
 cases hD : Tz S with
 | true =>
   rw [hD] at op2
   rw [if_pos rfl]
   simp (disch := omega) only [eY, gN, dX, stepR_skip, fO, gI, fP, gJ, gC, gE, gR, fZ, eU, fX, fU, gD, fR, fN, fW, fS, fV, gK, gG, fQ, fC, fY, gA, fL, iP, iS, iL, iT, iR, iM, iN, iQ, iO, eP, Result.ok.injEq, Next.value.injEq, true_and, and_true, fI, fJ, gB, fM, gH, gQ, ZO, fD, fF, fG, fE, eZ, eT, fB, eX, eQ, eH, if_true, if_false, ZM, ZS, ZN, ZP, ZR, ZQ, ZL, ZK, eA, dV, aB, dE, dJ, cB, eB, eS, eD, dN, eE, fA, dG, eI, bR, dL, bC, dR, aL, aH, eK, aZ, cI, eJ, aG, eL, dQ, aR, bD, eC, bG, bF, bJ, aP, aM, cG, fH, dY, cJ, cA, dB, cH, dT, bB, eM, bX, dS, bQ, bA, bT, aC, bU, bP, cF, bY, aU, aV, aX, bV, dD, cP, bO, aY, aN, aK, bH, aD, dC, dW, aJ, aI, aT, aF, cY, aE, cL, bW, bE, aO, cM, bZ, aA, dF, cU, cV, cC, dK, cD, dM, dU, cN, eF, eN, bN, aS, dZ, bS, aQ, bM, dI, dA, cS, cO, cR, bK, bL, cX, dO, cQ, dH, cZ]
   exact ⟨X, D, ⟨ms, mn, sv, ls, ln, cs, h1, h2, h3, h4, h5, h6, hXD, hD2, op2, hms2, hmn2, hfs2, hfn2, hun.ext x2 (fun b hb h => hb.2.1 h), hop.ext xD fun _ h => h⟩, fun _ h => .inl h, fun _ h => h, xX⟩
 | false =>
   rw [hD] at op2
   rw [if_neg (by decide)]
   have c2 := op2.cell (off := 2)
   simp only [ZK, ZL] at c2
   simp (disch := omega) only [eY, gN, dX, stepR_skip, fO, gI, fP, gJ, gC, gE, gR, fZ, eU, fX, fU, gD, fR, fN, fW, fS, fV, gK, gG, fQ, fC, fY, gA, fL, iP, iS, iL, iT, iR, iM, iN, iQ, iO, eP, Result.ok.injEq, Next.value.injEq, true_and, and_true, fI, fJ, gB, fM, gH, gQ, ZO, fD, fF, fG, fE, eZ, eT, fB, eX, eQ, eH, if_true, if_false, ZM, ZS, ZN, ZP, ZR, ZQ, ZL, ZK, eA, dV, aB, dE, dJ, cB, eB, eS, eD, dN, eE, fA, dG, eI, bR, dL, bC, dR, aL, aH, eK, aZ, cI, eJ, aG, eL, dQ, aR, bD, eC, bG, bF, bJ, aP, aM, cG, fH, dY, cJ, cA, dB, cH, dT, bB, eM, bX, dS, bQ, bA, bT, aC, bU, bP, cF, bY, aU, aV, aX, bV, dD, cP, bO, aY, aN, aK, bH, aD, dC, dW, aJ, aI, aT, aF, cY, aE, cL, bW, bE, aO, cM, bZ, aA, dF, cU, cV, cC, dK, cD, dM, dU, cN, eF, eN, bN, aS, dZ, bS, aQ, bM, dI, dA, cS, cO, cR, bK, bL, cX, dO, cQ, dH, cZ, c2]
   refine (VU hmn2).mono ?_
   rintro r w3 ⟨rfl, hmc, x3, s3⟩
   have op3 := op2.ext x3 (fun h => h)
   refine Po op3 rfl (by simp) fun w4 op4 x4 s4 => ?_
   simp only [Z7, aaR] at op4
   refine BX op4 rfl (by simp) fun w5 op5 x5 s5 => ?_
   simp only [Z7, aaR] at op5
   have hp2 : p < w2.heap.size := op2.lt
   have hmn2l := hmn2.lt
   have x45 : gT w3 w5 (fun y => y = p) := x4.seq x5
   obtain ⟨Y, hY⟩ : ∃ Y : Nat -> Prop, Y = fun b => X b ∨ b = w2.heap.size := ⟨_, rfl⟩
   have hYX : ∀ b, X b -> Y b := fun b h => by rw [hY]; exact .inl h
   have hY2 : ∀ b, Y b -> X b ∨ w2.heap.size <= b := fun b h => by rw [hY] at h; rcases h with h | h; exact .inl h; exact .inr (by omega)
   obtain ⟨E, hE⟩ : ∃ E : Nat -> Prop, E = fun b => D b ∨ b = w2.heap.size := ⟨_, rfl⟩
   have hED : ∀ b, D b -> E b := fun b h => by rw [hE]; exact .inl h
   have hYE : ∀ b, Y b -> E b := fun b h => by rw [hY] at h; rw [hE]; rcases h with h | h; exact .inl (hXD b h); exact .inr h
   have hE2 : ∀ b, E b -> D b ∨ w2.heap.size <= b := fun b h => by rw [hE] at h; rcases h with h | h; exact .inl h; exact .inr (by omega)
   have x3Y : gT w2 w3 E := x3.mono fun _ _ h => h.elim
   have x45Y : gT w3 w5 E := x45.mono fun b _ h => by rw [h]; exact hED _ (hXD _ h1)
   have dat : ∀ v b, GN w2 D v b -> GN w5 E v b := fun v b hd => ((hd.sub hE2).ext x3Y fun _ h => h).ext x45Y fun _ h => h
   refine ⟨Y, E, ⟨w2.heap.size, mn, .slice none 0 0, ln, ln, [], hYX _ h1, by rw [hY]; exact .inr rfl, hYX _ h3, by omega, h5, by omega, hYE, fun b h => ?_, op5, hmc.ext x45 (by omega), (hmn2.ext x3 (fun h => h)).ext x45 (fun h => h5 h.symm), hfn2.map dat, hfn2.map dat, ⟨rfl, .inl ⟨rfl, rfl⟩⟩, rfl⟩, fun b h => ?_, hED, (xX.trans x3 fun _ _ h => h.elim).trans x45 fun b _ h => by rw [h]; exact h1⟩
   .rw [hE] at h
    rcases h with h | h
    .have := hD2 b h; omega
    .omega
   .rcases hY2 b h with h | h
    .exact .inl h
    .exact .inr (by omega)
end Go.Proofs.YteelnmpbnaohpaaDoor
namespace Go.Proofs.YteelnmpbnaohpaaDoor
open Go Go.En Go.Pu
structure Ul where
 size : Nat
 part : Nat
 leaves : List (List UInt8)
structure oQ where
 nm : ByteArray
 man : Ul
 epoch : Nat
 hv : List Bool
 log : Nat
 fin : Bool
 err : Int
def iC (n : ByteArray) : ByteArray := n ++ ⟨#[46, 112, 97, 114, 116]⟩
def jJ (n : ByteArray) : ByteArray := n ++ ⟨#[46, 108, 111, 103]⟩
section
variable (lf : List UInt8 -> List UInt8) (cf : List UInt8 -> Nat)
def AA (m : Ul) (i : Nat) (b : List UInt8) : Bool := b.length == Iq m.size m.part i && lf b == m.leaves.getD i []
def wholeAt (m : Ul) (b : List UInt8) (i : Nat) : Bool := decide (m.part * i + Iq m.size m.part i <= b.length) && AA lf m i (vV m.size m.part i b)
def jB (m : Ul) (b : List UInt8) : List Bool := (List.range m.leaves.length).map (wholeAt lf m b)
def CD (l : List Bool) : Bool := !l.contains false
def iX (S : kD) (n : ByteArray) : List UInt8 × Bool × Int := if S.down then ([], false, 20) else match jF n S.seen with
 | none => ([], false, 0)
 | some b => (b, true, 0)
def kR (S : kD) (s : oQ) (k v : Nat) : kD × oQ × Int :=
 let r := GS S (jJ s.nm) s.log (uD cf k v)
 if r.2 = 0 then (r.1, { s with log := s.log + 13 }, 0) else (r.1, s, r.2)
def jU (S : kD) (s : oQ) : kD × List UInt8 × Int :=
 let r := iX S (iC s.nm)
 if r.2.2 ≠ 0 then (S, [], r.2.2)
 else if s.man.size < r.1.length then
  let d := UO S (iC s.nm)
  if d.2 ≠ 0 then (d.1, [], d.2) else
    let e := GS d.1 (iC s.nm) 0 (List.replicate s.man.size 0)
    (e.1, [], e.2)
 else if r.1.length < s.man.size ∨ r.2.1 = false then
  let e := GS S (iC s.nm) r.1.length (List.replicate (s.man.size - r.1.length) 0)
  (e.1, r.1, e.2)
 else (S, r.1, 0)
def pJ (l : List (Nat × Nat)) (w : List Bool) (n : Nat) : List Bool := (List.range n).map fun i => l.any (fun r => r.1 == 2 && r.2 == i) && w.getD i false
def Du (S : kD) (n : ByteArray) (m : Ul) : kD × Option oQ × Int :=
 let r := iX S n
 if r.2.2 ≠ 0 then (S, none, r.2.2) else
 let hv := jB lf m r.1
 let fin := r.2.1 && r.1.length == m.size && CD hv
 let g := iX S (jJ n)
 if g.2.2 ≠ 0 then (S, none, g.2.2) else
 let l := mT cf g.1
 let last := kA 1 l
 if last = 18446744073709551615 then (S, none, 23) else
 let s : oQ := ⟨n, m, last + 1, hv, 13 * l.length, fin, 0⟩
 let q := kR cf S s 1 (last + 1)
 if q.2.2 ≠ 0 then (q.1, none, q.2.2) else
 if fin then
   let y := EE q.1
   if y.2 ≠ 0 then (y.1, none, y.2) else (y.1, some q.2.1, 0)
 else
  let f := jU q.1 q.2.1
  if f.2.2 ≠ 0 then (f.1, none, f.2.2) else
  let y := EE f.1
  if y.2 ≠ 0 then (y.1, none, y.2) else (y.1, some { q.2.1 with hv := pJ l (jB lf m f.2.1) m.leaves.length }, 0)
def mL (S : kD) (s : oQ) (i : Nat) (b : List UInt8) : kD × oQ × Int :=
 let r := GS S (iC s.nm) (s.man.part * i : Nat) b
 if r.2 ≠ 0 then (r.1, s, r.2) else
 let y := EE r.1
 if y.2 ≠ 0 then (y.1, s, y.2) else
 let q := kR cf y.1 s 2 i
 if q.2.2 ≠ 0 then (q.1, q.2.1, q.2.2) else
 let z := EE q.1
 (z.1, q.2.1, z.2)
def By (S : kD) (s : oQ) (i : Int) (b : List UInt8) : kD × oQ × Int :=
 if s.err ≠ 0 then (S, s, s.err)
 else if i < 0 ∨ (s.hv.length : Int) <= i then (S, s, 17)
 else if s.fin || s.hv.getD i.toNat false then (S, s, 0)
 else if AA lf s.man i.toNat b = false then (S, s, 13)
 else
  let q := mL cf S s i.toNat b
  (q.1, { q.2.1 with err := q.2.2, hv := q.2.1.hv.set i.toNat (q.2.2 == 0) }, q.2.2)
def mN (S : kD) (s : oQ) : kD × oQ × Int :=
 if s.err ≠ 0 then (S, s, s.err)
 else if s.fin then (S, s, 0)
 else if CD s.hv = false then (S, s, 30)
 else if S.down then (S, { s with err := 20 }, 20)
 else match jF (iC s.nm) S.seen with
 | none => (S, { s with err := 21 }, 21)
 | some b =>
   if CD (jB lf s.man b) = false then (S, { s with hv := jB lf s.man b }, 13)
   else
    let r := M4 S (iC s.nm) s.nm
    if r.2 ≠ 0 then (r.1, { s with hv := jB lf s.man b, err := r.2, fin := false }, r.2) else
    let y := EE r.1
    (y.1, { s with hv := jB lf s.man b, err := y.2, fin := y.2 == 0 }, y.2)
def kL (f : List UInt8) (k : Nat) : Ul := ⟨f.length, k, (List.range (mF f.length k)).map fun i => lf (vV f.length k i f)⟩
end
end Go.Proofs.YteelnmpbnaohpaaDoor
