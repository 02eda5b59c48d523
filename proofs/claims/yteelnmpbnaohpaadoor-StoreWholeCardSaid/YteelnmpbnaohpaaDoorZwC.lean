/- Parts of the proof of StoreWhole: merged and given short names by a program of ours. -/
import Derived.WalkKit
import Derived.ProofKit
import Derived.OpenShut
import Derived.Laws.StructEq
import Derived.Shelf.SlMaps.Clone
import Derived.Test.YteelnmpbnaohpaaDoorZwB
set_option linter.unusedVariables false
set_option linter.unusedSimpArgs false
open Array renaming getD_eq_getD_getElem? → Z2, getElem?_eq_getElem → aaA, getElem?_setIfInBounds_self_of_lt → aaC, getElem?_setIfInBounds_ne → aaE, getElem?_eq_none → aaL
open Bool renaming and_eq_true → Z4, false_eq_true → ZS, not_false → ZW, not_true → ZX, or_eq_true → abC, or_eq_false_iff → acT, or_false → acZ, false_or → adH, and_eq_false_iff → adN
open Int renaming toNat_natCast → ZV
open List renaming getElem?_eq_getElem → Z0, length_append → Z1, take_of_length_le → Z3, getD_eq_getElem?_getD → Z5, map_cons → Z6, mem_cons_of_mem → Z7, length_drop → Z9, getElem?_cons_zero → ZQ, getElem?_cons_succ → ZR, length_map → ZZ, length_take → aaB, set_cons_zero → aaD, nil_append → aaF, length_eq_zero_iff → aaG, append_assoc → aaH, length_replicate → aaJ, length_cons → aaK, take_append_of_le_length → aaM, getElem?_append_left → aaO, drop_append_of_le_length → aaP, mem_cons → aaR, toList_toArray → aaT, getElem?_map → aaV, set_cons_succ → aaW, mem_map → aaY, getElem?_eq_none → aaZ, getElem?_append_right → abA, map_append → abD, append_nil → abE, map_congr_left → abF, mem_cons_self → abH, eraseIdx_cons_succ → abJ, take_succ_eq_append_getElem → abM, mem_append → abN, length_nil → abO, getElem?_toArray → abP, set_append_right → abQ, getElem?_take_of_lt → abR, drop_zero → abT, drop_of_length_le → abW, getElem_mem → abX, mem_append_left → acA, size_toArray → acB, nodup_cons → acF, map_drop → acH, getElem?_drop → acK, ext_getElem? → acO, mem_append_right → acQ, drop_drop → acS, cons_append → acV, map_take → acX, sum_cons → acY, take_add_one → adD, flatMap_cons → adE, getElem_map → adJ, take_append_drop → adM, mem_of_mem_take → adP
open Nat renaming le_refl → Z8, zero_add → ZY, min_eq_left → aaQ, lt_or_ge → abB, add_sub_cancel_left → abK, mod_eq_of_lt → abS, mul_le_mul_left → acC, lt_of_lt_of_le → acD, add_assoc → acI, mul_add → acN, mod_lt → acU, sub_self → adQ, pow_le_pow_right → adT
open Option renaming isNone_some → ZT, isNone_none → ZU, map_some → aaX
open Option.some renaming injEq → aaN
open UInt8 renaming toNat_ofNat' → acM
namespace Go.Proofs.YteelnmpbnaohpaaDoor
open Go Go.En Go.Pu
set_option maxRecDepth 4000
abbrev u32 (x : Nat) : adW := .int .u32 (x : Int)
theorem EE {l : List Nat} {i : Nat} (h : i < l.length) : (l.map u32)[i]? = some (u32 (l.getD i 0)) := by
 rw [aaV, Z0 h, Z5, Z0 h] <;> rfl
theorem L2 (l : List Nat) : ∀ y ∈ l.map u32, one y = true := fun y hy => by
 obtain ⟨z, -, rfl⟩ := aaY.1 hy; rfl
theorem Xh (n : Nat) : (List.replicate n 0).map u32 = List.replicate n (.int .u32 0) := by rw [List.map_replicate] <;> rfl
theorem Uy {s : List Nat} {b : List UInt8} {w : adV} (hg : rD w) (hs : s.length = 8) (h32 : CM s) (hb : b.length = 64) :
 gU pg vQ #[.agg (s.map u32).toArray, .agg (b.map oY).toArray] w (fun r w' => r = .agg ((Kj s b).map u32).toArray /\ gX w w' jK) := by
 refine J1 ?_
 obtain ⟨hg0, hg1⟩ := hg.lt
 unfold I1 xQ xS
 refine oE fun w1 o1 x1 s1 => ?_
 refine oE fun w2 o2 x2 s2 => ?_
 refine La fun w3 o3 x3 s3 => ?_
 refine O3 fun w4 o4 x4 s4 => ?_
 generalize hn : w.heap.size = n at *
 rw [s1] at o2
 rw [show w2.heap.size = n + 2 from by omega] at o3 ⊢
 rw [show w3.heap.size = n + 3 from by omega] at o4 ⊢
 rw [s1]
 have o1 : jG w4 n (s.map u32) := ((jG.ext (cs := s.map u32) o1 x2 (fun h => h)).ext x3 (fun h => h)).ext x4 (fun h => h)
 have o2 : jG w4 (n + 1) (b.map oY) := (jG.ext (cs := b.map oY) o2 x3 (fun h => h)).ext x4 (fun h => h)
 have o3 : jG w4 (n + 2) (List.replicate 8 (.int .u32 0)) := jG.ext (cs := List.replicate 8 (.int .u32 0)) o3 x4 (fun h => h)
 have o4 : jG w4 (n + 3) ((SW b 0).map u32) := by
  rw [SW, Xh]; exact o4
 have x04 : gX w w4 jK := ((x1.seq x2).seq x3).seq x4
 have z4 : w4.heap.size = n + 4 := by omega
 have lb := Jk (off := 0) o2 (by rw [ZZ]; omega)
 rw [abT, Z3 (by rw [ZZ]; omega)] at lb
 unfold xW yA yG yH yE
 simp (disch := omega) only [eY, gN, dX, stepR_skip, fP, fZ, fO, gK, gE, gC, gR, gA, eU, fV, fT, gG, fS, fM, fU, fR, fX, gH, fY, fQ, fC, gB, gI, fL, iS, iQ, iO, iR, iM, iN, iP, iU, iT, eP, Result.ok.injEq, Next.value.injEq, true_and, and_true, fK, fJ, gJ, fN, gD, gS, ZV, fE, fH, fF, fD, eZ, eX, fB, eT, eQ, eH, if_true, if_false, ZS, ZY, ZT, ZU, ZX, ZW, ZR, ZQ, eA, dV, aB, dI, dE, cJ, eB, eS, eE, dK, eD, fA, dQ, eN, bQ, dG, bJ, dL, aI, aH, eL, aV, bZ, eI, aF, eJ, dF, aR, bF, eF, bH, bE, bB, aO, aL, cD, fG, dY, cA, cI, dA, cH, dT, bC, eK, bX, dH, bP, aU, bU, aC, bY, bO, cF, bW, aY, bA, aX, bV, dM, cU, bR, aZ, aK, aJ, bG, aE, dC, dW, aN, aM, aT, aD, cY, aG, cL, bT, bD, aP, cM, cG, aA, dN, cQ, cV, cC, dO, cB, dJ, dU, cP, eC, eM, bN, aS, dZ, bS, aQ, bL, dS, dB, cO, cS, cN, bK, bM, cX, dR, cR, dD, cZ, lb]
 refine jW.rule (fun m (t : adW) w' => ∃ i : Nat, m = 64 - i /\ t = .int .i64 (i : Nat) /\ i <= 64 /\ jG w' (n + 3) ((SW b i).map u32) /\ gX w4 w' (fun y => y = n + 3)) 64 ⟨0, rfl, rfl, by omega, o4, gX.refl _ _⟩ ?_
 rintro m t w5 ⟨i, rfl, rfl, hi, o5, x5⟩
 unfold rN
 have hl5 := TD b i
 by_cases hlt : i < 64
 .have d1 : decide ((i : Int) < 64) = true := by simp; omega
  have hq : (i : Int).tdiv 4 = ((i / 4 : Nat) : Int) := by rw [Int.tdiv_eq_ediv_of_nonneg (by omega)]; omega
  have gb : (b.map oY).toArray[i]? = some (.int .u8 ((b.getD i 0).toNat : Nat)) := by
   rw [abP, aaV, Z0 (by omega), Z5, Z0 (by omega)] <;> rfl
  have c5 := o5.cell (off := i / 4)
  rw [EE (by omega)] at c5
  have hx := (Ti b i).getD (i / 4)
  have e1 := RP ((SW b i).getD (i / 4) 0) 8
  have m1 : min (8 : Int).toNat IntKind.u32.bits = 8 := rfl
  have e2 := TZ (EK ((SW b i).getD (i / 4) 0 * 2 ^ 8)) (JF (b.getD i 0))
  have hby := (b.getD i 0).toNat_lt
  simp (disch := omega) only [eY, gN, dX, stepR_skip, fP, fZ, fO, gK, gE, gC, gR, gA, eU, fV, fT, gG, fS, fM, fU, fR, fX, gH, fY, fQ, fC, gB, gI, fL, iS, iQ, iO, iR, iM, iN, iP, iU, iT, eP, Result.ok.injEq, Next.value.injEq, true_and, and_true, fK, fJ, gJ, fN, gD, gS, ZV, fE, fH, fF, fD, eZ, eX, fB, eT, eQ, eH, if_true, if_false, ZS, ZY, ZT, ZU, ZX, ZW, ZR, ZQ, eA, dV, aB, dI, dE, cJ, eB, eS, eE, dK, eD, fA, dQ, eN, bQ, dG, bJ, dL, aI, aH, eL, aV, bZ, eI, aF, eJ, dF, aR, bF, eF, bH, bE, bB, aO, aL, cD, fG, dY, cA, cI, dA, cH, dT, bC, eK, bX, dH, bP, aU, bU, aC, bY, bO, cF, bW, aY, bA, aX, bV, dM, cU, bR, aZ, aK, aJ, bG, aE, dC, dW, aN, aM, aT, aD, cY, aG, cL, bT, bD, aP, cM, cG, aA, dN, cQ, cV, cC, dO, cB, dJ, dU, cP, eC, eM, bN, aS, dZ, bS, aQ, bL, dS, dB, cO, cS, cN, bK, bM, cX, dR, cR, dD, cZ, d1, hq, gb, c5, m1, e1, e2]
  refine yZ o5 rfl (by rw [ZZ]; omega) fun w6 o6 x6 s6 => ?_
  refine ⟨64 - (i + 1), by omega, i + 1, rfl, rfl, by omega, ?_, x5.seq x6⟩
  rw [SW, List.map_set]
  exact o6
 have d1 : decide ((i : Int) < 64) = false := by simp; omega
 obtain rfl : i = 64 := by omega
 simp (disch := omega) only [eY, gN, dX, stepR_skip, fP, fZ, fO, gK, gE, gC, gR, gA, eU, fV, fT, gG, fS, fM, fU, fR, fX, gH, fY, fQ, fC, gB, gI, fL, iS, iQ, iO, iR, iM, iN, iP, iU, iT, eP, Result.ok.injEq, Next.value.injEq, true_and, and_true, fK, fJ, gJ, fN, gD, gS, ZV, fE, fH, fF, fD, eZ, eX, fB, eT, eQ, eH, if_true, if_false, ZS, ZY, ZT, ZU, ZX, ZW, ZR, ZQ, eA, dV, aB, dI, dE, cJ, eB, eS, eE, dK, eD, fA, dQ, eN, bQ, dG, bJ, dL, aI, aH, eL, aV, bZ, eI, aF, eJ, dF, aR, bF, eF, bH, bE, bB, aO, aL, cD, fG, dY, cA, cI, dA, cH, dT, bC, eK, bX, dH, bP, aU, bU, aC, bY, bO, cF, bW, aY, bA, aX, bV, dM, cU, bR, aZ, aK, aJ, bG, aE, dC, dW, aN, aM, aT, aD, cY, aG, cL, bT, bD, aP, cM, cG, aA, dN, cQ, cV, cC, dO, cB, dJ, dU, cP, eC, eM, bN, aS, dZ, bS, aQ, bL, dS, dB, cO, cS, cN, bK, bM, cX, dR, cR, dD, cZ, d1]
 clear lb
 unfold yD yL xJ yJ yM
 simp (disch := omega) only [eY, gN, dX, stepR_skip, fP, fZ, fO, gK, gE, gC, gR, gA, eU, fV, fT, gG, fS, fM, fU, fR, fX, gH, fY, fQ, fC, gB, gI, fL, iS, iQ, iO, iR, iM, iN, iP, iU, iT, eP, Result.ok.injEq, Next.value.injEq, true_and, and_true, fK, fJ, gJ, fN, gD, gS, ZV, fE, fH, fF, fD, eZ, eX, fB, eT, eQ, eH, if_true, if_false, ZS, ZY, ZT, ZU, ZX, ZW, ZR, ZQ, eA, dV, aB, dI, dE, cJ, eB, eS, eE, dK, eD, fA, dQ, eN, bQ, dG, bJ, dL, aI, aH, eL, aV, bZ, eI, aF, eJ, dF, aR, bF, eF, bH, bE, bB, aO, aL, cD, fG, dY, cA, cI, dA, cH, dT, bC, eK, bX, dH, bP, aU, bU, aC, bY, bO, cF, bW, aY, bA, aX, bV, dM, cU, bR, aZ, aK, aJ, bG, aE, dC, dW, aN, aM, aT, aD, cY, aG, cL, bT, bD, aP, cM, cG, aA, dN, cQ, cV, cC, dO, cB, dJ, dU, cP, eC, eM, bN, aS, dZ, bS, aQ, bL, dS, dB, cO, cS, cN, bK, bM, cX, dR, cR, dD, cZ]
 obtain ⟨W0, hW0⟩ : ∃ W0, W0 = SW b 64 := ⟨_, rfl⟩
 have hW0l : CM W0 := hW0 ▸ Ti b 64
 rw [<- hW0] at o5 hl5
 refine jW.rule (fun m (t : adW) w' => ∃ j : Nat, m = 48 - j /\ t = .int .i64 ((16 + j : Nat) : Int) /\ j <= 48 /\ jG w' (n + 3) ((T1 W0 j).map u32) /\ gX w4 w' (fun y => y = n + 3)) 48 ⟨0, rfl, rfl, by omega, o5, x5⟩ ?_
 clear o5 x5
 rintro m t w5 ⟨j, rfl, rfl, hj, o5, x5⟩
 unfold rU
 have hl6 : (T1 W0 j).length = 64 := by rw [TG]; exact hl5
 by_cases hlt : j < 48
 .have d1 : decide (((16 + j : Nat) : Int) < 64) = true := by simp; omega
  have q1 : ((16 + j : Nat) : Int) - 16 = ((j : Nat) : Int) := by omega
  have q2 : ((16 + j : Nat) : Int) - 15 = ((j + 1 : Nat) : Int) := by omega
  have q3 : ((16 + j : Nat) : Int) - 7 = ((j + 9 : Nat) : Int) := by omega
  have q4 : ((16 + j : Nat) : Int) - 2 = ((j + 14 : Nat) : Int) := by omega
  have q5 : ((16 + j : Nat) : Int) + 1 = ((16 + (j + 1) : Nat) : Int) := by omega
  have od := kJ o5
  have c1 := o5.cell (off := j)
  have c2 := o5.cell (off := j + 1)
  have c3 := o5.cell (off := j + 9)
  have c4 := o5.cell (off := j + 14)
  have d1' := od.cell (off := j)
  have d2' := od.cell (off := j + 1)
  have d3' := od.cell (off := j + 9)
  have d4' := od.cell (off := j + 14)
  rw [EE (by omega)] at c1 c2 c3 c4 d1' d2' d3' d4'
  have hl := VB hW0l j
  have h1 := hl.getD j
  have h2 := hl.getD (j + 1)
  have h4 := hl.getD (j + 14)
  have f1 := OA
  simp (disch := omega) only [eY, gN, dX, stepR_skip, fP, fZ, fO, gK, gE, gC, gR, gA, eU, fV, fT, gG, fS, fM, fU, fR, fX, gH, fY, fQ, fC, gB, gI, fL, iS, iQ, iO, iR, iM, iN, iP, iU, iT, eP, Result.ok.injEq, Next.value.injEq, true_and, and_true, fK, fJ, gJ, fN, gD, gS, ZV, fE, fH, fF, fD, eZ, eX, fB, eT, eQ, eH, if_true, if_false, ZS, ZY, ZT, ZU, ZX, ZW, ZR, ZQ, eA, dV, aB, dI, dE, cJ, eB, eS, eE, dK, eD, fA, dQ, eN, bQ, dG, bJ, dL, aI, aH, eL, aV, bZ, eI, aF, eJ, dF, aR, bF, eF, bH, bE, bB, aO, aL, cD, fG, dY, cA, cI, dA, cH, dT, bC, eK, bX, dH, bP, aU, bU, aC, bY, bO, cF, bW, aY, bA, aX, bV, dM, cU, bR, aZ, aK, aJ, bG, aE, dC, dW, aN, aM, aT, aD, cY, aG, cL, bT, bD, aP, cM, cG, aA, dN, cQ, cV, cC, dO, cB, dJ, dU, cP, eC, eM, bN, aS, dZ, bS, aQ, bL, dS, dB, cO, cS, cN, bK, bM, cX, dR, cR, dD, cZ, d1, q1, q2, q3, q4, d1', d2', d3', d4', c1, c2, c3, c4]
  refine (PR h2 ⟨by decide, by decide⟩ ⟨by decide, by decide⟩ (by decide) _).mono ?_
  rintro r w6 ⟨rfl, x6⟩
  have o6 := od.ext x6 (fun h => h)
  have p1 := o6.cell (off := j)
  have p3 := o6.cell (off := j + 9)
  have p4 := o6.cell (off := j + 14)
  rw [EE (by omega)] at p1 p3 p4
  simp (disch := omega) only [eY, gN, dX, stepR_skip, fP, fZ, fO, gK, gE, gC, gR, gA, eU, fV, fT, gG, fS, fM, fU, fR, fX, gH, fY, fQ, fC, gB, gI, fL, iS, iQ, iO, iR, iM, iN, iP, iU, iT, eP, Result.ok.injEq, Next.value.injEq, true_and, and_true, fK, fJ, gJ, fN, gD, gS, ZV, fE, fH, fF, fD, eZ, eX, fB, eT, eQ, eH, if_true, if_false, ZS, ZY, ZT, ZU, ZX, ZW, ZR, ZQ, eA, dV, aB, dI, dE, cJ, eB, eS, eE, dK, eD, fA, dQ, eN, bQ, dG, bJ, dL, aI, aH, eL, aV, bZ, eI, aF, eJ, dF, aR, bF, eF, bH, bE, bB, aO, aL, cD, fG, dY, cA, cI, dA, cH, dT, bC, eK, bX, dH, bP, aU, bU, aC, bY, bO, cF, bW, aY, bA, aX, bV, dM, cU, bR, aZ, aK, aJ, bG, aE, dC, dW, aN, aM, aT, aD, cY, aG, cL, bT, bD, aP, cM, cG, aA, dN, cQ, cV, cC, dO, cB, dJ, dU, cP, eC, eM, bN, aS, dZ, bS, aQ, bL, dS, dB, cO, cS, cN, bK, bM, cX, dR, cR, dD, cZ, d1, q1, q2, q3, q4, d1', d2', d3', d4', c1, c2, c3, c4, p1, p3, p4, f1]
  refine (PR h4 ⟨by decide, by decide⟩ ⟨by decide, by decide⟩ (by decide) _).mono ?_
  rintro r w7 ⟨rfl, x7⟩
  have o7 := o6.ext x7 (fun h => h)
  have r1 := o7.cell (off := j)
  have r3 := o7.cell (off := j + 9)
  have r4 := o7.cell (off := j + 14)
  rw [EE (by omega)] at r1 r3 r4
  simp (disch := omega) only [eY, gN, dX, stepR_skip, fP, fZ, fO, gK, gE, gC, gR, gA, eU, fV, fT, gG, fS, fM, fU, fR, fX, gH, fY, fQ, fC, gB, gI, fL, iS, iQ, iO, iR, iM, iN, iP, iU, iT, eP, Result.ok.injEq, Next.value.injEq, true_and, and_true, fK, fJ, gJ, fN, gD, gS, ZV, fE, fH, fF, fD, eZ, eX, fB, eT, eQ, eH, if_true, if_false, ZS, ZY, ZT, ZU, ZX, ZW, ZR, ZQ, eA, dV, aB, dI, dE, cJ, eB, eS, eE, dK, eD, fA, dQ, eN, bQ, dG, bJ, dL, aI, aH, eL, aV, bZ, eI, aF, eJ, dF, aR, bF, eF, bH, bE, bB, aO, aL, cD, fG, dY, cA, cI, dA, cH, dT, bC, eK, bX, dH, bP, aU, bU, aC, bY, bO, cF, bW, aY, bA, aX, bV, dM, cU, bR, aZ, aK, aJ, bG, aE, dC, dW, aN, aM, aT, aD, cY, aG, cL, bT, bD, aP, cM, cG, aA, dN, cQ, cV, cC, dO, cB, dJ, dU, cP, eC, eM, bN, aS, dZ, bS, aQ, bL, dS, dB, cO, cS, cN, bK, bM, cX, dR, cR, dD, cZ, q1, q2, q3, q4, q5, r1, r3, r4, f1]
  refine yZ o7 rfl (by rw [ZZ]; omega) fun w8 o8 x8 s8 => ?_
  refine ⟨48 - (j + 1), by omega, j + 1, rfl, rfl, by omega, ?_, x5.seq ((((gX.dr _ jK).seq x6).seq x7).mono (fun _ _ h => h.elim) |>.seq x8)⟩
  rw [T1, List.map_set]
  exact o8
 have d1 : decide (((16 + j : Nat) : Int) < 64) = false := by simp; omega
 obtain rfl : j = 48 := by omega
 simp (disch := omega) only [eY, gN, dX, stepR_skip, fP, fZ, fO, gK, gE, gC, gR, gA, eU, fV, fT, gG, fS, fM, fU, fR, fX, gH, fY, fQ, fC, gB, gI, fL, iS, iQ, iO, iR, iM, iN, iP, iU, iT, eP, Result.ok.injEq, Next.value.injEq, true_and, and_true, fK, fJ, gJ, fN, gD, gS, ZV, fE, fH, fF, fD, eZ, eX, fB, eT, eQ, eH, if_true, if_false, ZS, ZY, ZT, ZU, ZX, ZW, ZR, ZQ, eA, dV, aB, dI, dE, cJ, eB, eS, eE, dK, eD, fA, dQ, eN, bQ, dG, bJ, dL, aI, aH, eL, aV, bZ, eI, aF, eJ, dF, aR, bF, eF, bH, bE, bB, aO, aL, cD, fG, dY, cA, cI, dA, cH, dT, bC, eK, bX, dH, bP, aU, bU, aC, bY, bO, cF, bW, aY, bA, aX, bV, dM, cU, bR, aZ, aK, aJ, bG, aE, dC, dW, aN, aM, aT, aD, cY, aG, cL, bT, bD, aP, cM, cG, aA, dN, cQ, cV, cC, dO, cB, dJ, dU, cP, eC, eM, bN, aS, dZ, bS, aQ, bL, dS, dB, cO, cS, cN, bK, bM, cX, dR, cR, dD, cZ, d1]
 obtain ⟨W, hW⟩ : ∃ W, W = T1 W0 48 := ⟨_, rfl⟩
 have hwith : Kj s b = BN (wZ W s 64) s 8 := by rw [hW, hW0] <;> rfl
 rw [<- hW] at o5 hl6
 have x05 : gX w w5 jK := x04.trans x5 fun y hy h => by omega
 have a1 := o1.ext x5 (by omega)
 have a3 := o3.ext x5 (by omega)
 have z5 := x5.size
 clear d1 hlt hj hW hW0 hW0l hl5 x5 o1 o2 o3 o4 x04
 unfold yO yT
 have ls := Fm (off := 0) a1 (by rw [ZZ]; omega)
 rw [abT, Z3 (by rw [ZZ]; omega)] at ls
 simp (disch := omega) only [eY, gN, dX, stepR_skip, fP, fZ, fO, gK, gE, gC, gR, gA, eU, fV, fT, gG, fS, fM, fU, fR, fX, gH, fY, fQ, fC, gB, gI, fL, iS, iQ, iO, iR, iM, iN, iP, iU, iT, eP, Result.ok.injEq, Next.value.injEq, true_and, and_true, fK, fJ, gJ, fN, gD, gS, ZV, fE, fH, fF, fD, eZ, eX, fB, eT, eQ, eH, if_true, if_false, ZS, ZY, ZT, ZU, ZX, ZW, ZR, ZQ, eA, dV, aB, dI, dE, cJ, eB, eS, eE, dK, eD, fA, dQ, eN, bQ, dG, bJ, dL, aI, aH, eL, aV, bZ, eI, aF, eJ, dF, aR, bF, eF, bH, bE, bB, aO, aL, cD, fG, dY, cA, cI, dA, cH, dT, bC, eK, bX, dH, bP, aU, bU, aC, bY, bO, cF, bW, aY, bA, aX, bV, dM, cU, bR, aZ, aK, aJ, bG, aE, dC, dW, aN, aM, aT, aD, cY, aG, cL, bT, bD, aP, cM, cG, aA, dN, cQ, cV, cC, dO, cB, dJ, dU, cP, eC, eM, bN, aS, dZ, bS, aQ, bL, dS, dB, cO, cS, cN, bK, bM, cX, dR, cR, dD, cZ, ls]
 refine La fun w6 o6 x6 s6 => ?_
 have a1 := a1.ext x6 (fun h => h)
 have a3 := a3.ext x6 (fun h => h)
 have aW := o5.ext x6 (fun h => h)
 obtain ⟨v, hv⟩ : ∃ v, v = w5.heap.size := ⟨_, rfl⟩
 rw [<- hv] at o6 ⊢
 refine Ff o6 (by simp [hs]) (fun y hy => L2 s y (by simpa using hy)) (by simp) fun w7 o7 x7 s7 => ?_
 have hset : mZ [(.int .u32 0), (.int .u32 0), (.int .u32 0), (.int .u32 0), (.int .u32 0), (.int .u32 0), (.int .u32 0), (.int .u32 0)] 0 (s.map u32).toArray.toList = s.map u32 := by
  rw [aaT]
  have := oL (s.map u32) [] [(.int .u32 0), (.int .u32 0), (.int .u32 0), (.int .u32 0), (.int .u32 0), (.int .u32 0), (.int .u32 0), (.int .u32 0)] (by rw [ZZ, hs]; decide)
  rw [aaF, aaF, abO, ZZ, hs] at this
  rw [this]; simp
 rw [hset] at o7
 have x07 : gX w w7 jK := (x05.seq x6).trans x7 fun y hy h => by omega
 have a1 := a1.ext x7 (by omega)
 have a3 := a3.ext x7 (by omega)
 have aW := aW.ext x7 (by omega)
 have hg7 := hg.ext x07
 have z7 : w7.heap.size = v + 1 := by omega
 have hvn : n + 4 <= v := by omega
 clear o5 o6 x6 x7 s6 s7 x05 hset ls
 unfold xT yN yR xL Ag
 simp (disch := omega) only [eY, gN, dX, stepR_skip, fP, fZ, fO, gK, gE, gC, gR, gA, eU, fV, fT, gG, fS, fM, fU, fR, fX, gH, fY, fQ, fC, gB, gI, fL, iS, iQ, iO, iR, iM, iN, iP, iU, iT, eP, Result.ok.injEq, Next.value.injEq, true_and, and_true, fK, fJ, gJ, fN, gD, gS, ZV, fE, fH, fF, fD, eZ, eX, fB, eT, eQ, eH, if_true, if_false, ZS, ZY, ZT, ZU, ZX, ZW, ZR, ZQ, eA, dV, aB, dI, dE, cJ, eB, eS, eE, dK, eD, fA, dQ, eN, bQ, dG, bJ, dL, aI, aH, eL, aV, bZ, eI, aF, eJ, dF, aR, bF, eF, bH, bE, bB, aO, aL, cD, fG, dY, cA, cI, dA, cH, dT, bC, eK, bX, dH, bP, aU, bU, aC, bY, bO, cF, bW, aY, bA, aX, bV, dM, cU, bR, aZ, aK, aJ, bG, aE, dC, dW, aN, aM, aT, aD, cY, aG, cL, bT, bD, aP, cM, cG, aA, dN, cQ, cV, cC, dO, cB, dJ, dU, cP, eC, eM, bN, aS, dZ, bS, aQ, bL, dS, dB, cO, cS, cN, bK, bM, cX, dR, cR, dD, cZ]
 refine jW.rule (fun m (t : adW) w' => ∃ i : Nat, m = 64 - i /\ t = .int .i64 (i : Nat) /\ i <= 64 /\ jG w' v ((wZ W s i).map u32) /\ gX w7 w' (fun y => y = v)) 64 ⟨0, rfl, rfl, by omega, o7, gX.refl _ _⟩ ?_
 clear o7
 rintro m t w8 ⟨i, rfl, rfl, hi, o8, x8⟩
 unfold tF
 have hl8 : (wZ W s i).length = 8 := Nq hs i
 have hlt8 := KI (W := W) h32 i
 by_cases hlt : i < 64
 .have d1 : decide ((i : Int) < 64) = true := by simp; omega
  have hnext : wZ W s (i + 1) = Rv (wZ W s i) (kN.getD i 0) (W.getD i 0) := rfl
  generalize wZ W s i = V at *
  have cW : ∀ {w' : adV}, gX w7 w' (fun y => y = v) -> w'.cell? ⟨n + 3, i, none⟩ = some (u32 (W.getD i 0)) := fun {w'} x => by
   rw [(aW.ext x (by omega)).cell, EE (by omega)]
  have cK : ∀ {w' : adV}, gX w7 w' (fun y => y = v) -> w'.cell? ⟨0, i, none⟩ = some (u32 (kN.getD i 0)) := fun {w'} x => Bo (hg7.sh i hlt) x (by omega)
  obtain ⟨v0, v1, v2, v3, v4, v5, v6, v7, rfl⟩ : ∃ v0 v1 v2 v3 v4 v5 v6 v7, V = [v0, v1, v2, v3, v4, v5, v6, v7] := by
   match V, hl8 with
   | [a, b, c, d, e, f, g, h], _ => exact ⟨a, b, c, d, e, f, g, h, rfl⟩
  have b0 : v0 < tL := hlt8 _ (by simp)
  have b1 : v1 < tL := hlt8 _ (by simp)
  have b2 : v2 < tL := hlt8 _ (by simp)
  have b4 : v4 < tL := hlt8 _ (by simp)
  have b5 : v5 < tL := hlt8 _ (by simp)
  have b6 : v6 < tL := hlt8 _ (by simp)
  have q1 := kJ o8
  have q2 := kJ q1
  have q3 := kJ q2
  have y2 : gX w7 (dr (dr w8)) (fun y => y = v) := (x8.seq (gX.dr _ _)).seq (gX.dr _ _)
  have kk := cK y2
  have ww := cW y2
  obtain ⟨K, hK⟩ : ∃ K, K = kN.getD i 0 := ⟨_, rfl⟩
  obtain ⟨Wi, hWi⟩ : ∃ Wi, Wi = W.getD i 0 := ⟨_, rfl⟩
  rw [<- hK] at kk hnext
  rw [<- hWi] at ww hnext
  obtain ⟨one, hone⟩ : ∃ one, one = XV [v0, v1, v2, v3, v4, v5, v6, v7] K Wi := ⟨_, rfl⟩
  obtain ⟨two, htwo⟩ : ∃ two, two = YK [v0, v1, v2, v3, v4, v5, v6, v7] := ⟨_, rfl⟩
  have hnext : wZ W s (i + 1) = [(one + two) % tL, v0, v1, v2, (v3 + one) % tL, v4, v5, v6] := by rw [hnext, hone, htwo] <;> rfl
  have hone : one = ((((v7 + PH v4 6 11 25) % tL + ((v4 &&& v5) ^^^ ((4294967295 ^^^ v4) &&& v6))) % tL + K) % tL + Wi) % tL := hone
  have htwo : two = (PH v0 2 13 22 + ((v0 &&& v1) ^^^ (v0 &&& v2) ^^^ (v1 &&& v2))) % tL := htwo
  have c10 := q1.cell (off := 0)
  have c14 := q1.cell (off := 4)
  have c27 := q2.cell (off := 7)
  have c25 := q2.cell (off := 5)
  have c26 := q2.cell (off := 6)
  have c31 := q3.cell (off := 1)
  have c32 := q3.cell (off := 2)
  simp only [Z6, List.map_nil, ZQ, ZR] at c10 c14 c27 c25 c26 c31 c32
  have t0 : (0 : Int).toNat = 0 := rfl
  have t1 : (1 : Int).toNat = 1 := rfl
  have t2 : (2 : Int).toNat = 2 := rfl
  have t4 : (4 : Int).toNat = 4 := rfl
  have t5 : (5 : Int).toNat = 5 := rfl
  have t6 : (6 : Int).toNat = 6 := rfl
  have t7 : (7 : Int).toNat = 7 := rfl
  have g1 : IntKind.u32.signed = false := rfl
  have g2 : IntKind.u32.max = 4294967295 := rfl
  have e1 := Gv b4 b5
  have n4 : 4294967295 ^^^ v4 < tL := IT (by decide) b4
  have e2 : QH .u32 (4294967295 : Int) (v4 : Int) = ((4294967295 ^^^ v4 : Nat) : Int) := uT (a := 4294967295) (by decide) b4
  have e3 := Gv n4 b6
  have e4 := uT (KJ v4 b5) (KJ (4294967295 ^^^ v4) b6)
  have e5 := Gv b0 b1
  have e6 := Gv b0 b2
  have e7 := Gv b1 b2
  have e8 := uT (KJ v0 b1) (KJ v0 b2)
  have e9 := uT (IT (KJ v0 b1) (KJ v0 b2)) (KJ v1 b2)
  have f1 := OA
  simp (disch := omega) only [eY, gN, dX, stepR_skip, fP, fZ, fO, gK, gE, gC, gR, gA, eU, fV, fT, gG, fS, fM, fU, fR, fX, gH, fY, fQ, fC, gB, gI, fL, iS, iQ, iO, iR, iM, iN, iP, iU, iT, eP, Result.ok.injEq, Next.value.injEq, true_and, and_true, fK, fJ, gJ, fN, gD, gS, ZV, fE, fH, fF, fD, eZ, eX, fB, eT, eQ, eH, if_true, if_false, ZS, ZY, ZT, ZU, ZX, ZW, ZR, ZQ, eA, dV, aB, dI, dE, cJ, eB, eS, eE, dK, eD, fA, dQ, eN, bQ, dG, bJ, dL, aI, aH, eL, aV, bZ, eI, aF, eJ, dF, aR, bF, eF, bH, bE, bB, aO, aL, cD, fG, dY, cA, cI, dA, cH, dT, bC, eK, bX, dH, bP, aU, bU, aC, bY, bO, cF, bW, aY, bA, aX, bV, dM, cU, bR, aZ, aK, aJ, bG, aE, dC, dW, aN, aM, aT, aD, cY, aG, cL, bT, bD, aP, cM, cG, aA, dN, cQ, cV, cC, dO, cB, dJ, dU, cP, eC, eM, bN, aS, dZ, bS, aQ, bL, dS, dB, cO, cS, cN, bK, bM, cX, dR, cR, dD, cZ, d1, c10, c14, c27, c25, c26, c31, c32, t0, t1, t2, t4, t5, t6, t7]
  refine (Sf b4 ⟨by decide, by decide⟩ ⟨by decide, by decide⟩ ⟨by decide, by decide⟩ _).mono ?_
  rintro r w9 ⟨rfl, hw⟩
  rw [hw]; clear hw w9
  simp (disch := omega) only [eY, gN, dX, stepR_skip, fP, fZ, fO, gK, gE, gC, gR, gA, eU, fV, fT, gG, fS, fM, fU, fR, fX, gH, fY, fQ, fC, gB, gI, fL, iS, iQ, iO, iR, iM, iN, iP, iU, iT, eP, Result.ok.injEq, Next.value.injEq, true_and, and_true, fK, fJ, gJ, fN, gD, gS, ZV, fE, fH, fF, fD, eZ, eX, fB, eT, eQ, eH, if_true, if_false, ZS, ZY, ZT, ZU, ZX, ZW, ZR, ZQ, eA, dV, aB, dI, dE, cJ, eB, eS, eE, dK, eD, fA, dQ, eN, bQ, dG, bJ, dL, aI, aH, eL, aV, bZ, eI, aF, eJ, dF, aR, bF, eF, bH, bE, bB, aO, aL, cD, fG, dY, cA, cI, dA, cH, dT, bC, eK, bX, dH, bP, aU, bU, aC, bY, bO, cF, bW, aY, bA, aX, bV, dM, cU, bR, aZ, aK, aJ, bG, aE, dC, dW, aN, aM, aT, aD, cY, aG, cL, bT, bD, aP, cM, cG, aA, dN, cQ, cV, cC, dO, cB, dJ, dU, cP, eC, eM, bN, aS, dZ, bS, aQ, bL, dS, dB, cO, cS, cN, bK, bM, cX, dR, cR, dD, cZ, c10, c14, c27, c25, c26, c31, c32, t0, t1, t2, t4, t5, t6, t7, g1, g2, e1, e2, e3, e4, f1, kk, ww]
  rw [<- hone]
  refine (Sf b0 ⟨by decide, by decide⟩ ⟨by decide, by decide⟩ ⟨by decide, by decide⟩ _).mono ?_
  rintro r w9 ⟨rfl, hw⟩
  rw [hw]; clear hw w9
  have sh1 : Ci ⟨v, 0, none⟩ 8 1 1 = ⟨v, 0 + 1, none⟩ := KV (by omega)
  have sh0 : Ci ⟨v, 0, none⟩ 8 0 1 = ⟨v, 0 + 0, none⟩ := KV (by omega)
  simp (disch := omega) only [eY, gN, dX, stepR_skip, fP, fZ, fO, gK, gE, gC, gR, gA, eU, fV, fT, gG, fS, fM, fU, fR, fX, gH, fY, fQ, fC, gB, gI, fL, iS, iQ, iO, iR, iM, iN, iP, iU, iT, eP, Result.ok.injEq, Next.value.injEq, true_and, and_true, fK, fJ, gJ, fN, gD, gS, ZV, fE, fH, fF, fD, eZ, eX, fB, eT, eQ, eH, if_true, if_false, ZS, ZY, ZT, ZU, ZX, ZW, ZR, ZQ, eA, dV, aB, dI, dE, cJ, eB, eS, eE, dK, eD, fA, dQ, eN, bQ, dG, bJ, dL, aI, aH, eL, aV, bZ, eI, aF, eJ, dF, aR, bF, eF, bH, bE, bB, aO, aL, cD, fG, dY, cA, cI, dA, cH, dT, bC, eK, bX, dH, bP, aU, bU, aC, bY, bO, cF, bW, aY, bA, aX, bV, dM, cU, bR, aZ, aK, aJ, bG, aE, dC, dW, aN, aM, aT, aD, cY, aG, cL, bT, bD, aP, cM, cG, aA, dN, cQ, cV, cC, dO, cB, dJ, dU, cP, eC, eM, bN, aS, dZ, bS, aQ, bL, dS, dB, cO, cS, cN, bK, bM, cX, dR, cR, dD, cZ, c31, c32, t0, t1, t2, t7, e5, e6, e7, e8, e9, f1, sh1, sh0]
  rw [<- htwo]
  have q4 := kJ q3
  have src : Sl (dr (dr (dr (dr w8)))) (.slice (some ⟨v, 0, none⟩) (7 - 0) (8 - 0)) ([v0, v1, v2, v3, v4, v5, v6].map u32) := by
   refine ⟨_, _, _, rfl, rfl, by omega, fun _ => ⟨_, _, rfl, fun k hk => ?_⟩⟩
   rw [ZY, q4.cell]
   have hk : k < 7 := hk
   match k, hk with
   | 0, _ => rfl
   | 1, _ => rfl
   | 2, _ => rfl
   | 3, _ => rfl
   | 4, _ => rfl
   | 5, _ => rfl
   | 6, _ => rfl
  refine QG (off := 1) q4 (by simp) src (L2 _) fun w9 o9 x9 s9 => ?_
  have o9 : jG w9 v ([v0, v0, v1, v2, v3, v4, v5, v6].map u32) := o9
  have c4 := o9.cell (off := 4)
  simp only [Z6, List.map_nil, ZQ, ZR] at c4
  simp (disch := omega) only [eY, gN, dX, stepR_skip, fP, fZ, fO, gK, gE, gC, gR, gA, eU, fV, fT, gG, fS, fM, fU, fR, fX, gH, fY, fQ, fC, gB, gI, fL, iS, iQ, iO, iR, iM, iN, iP, iU, iT, eP, Result.ok.injEq, Next.value.injEq, true_and, and_true, fK, fJ, gJ, fN, gD, gS, ZV, fE, fH, fF, fD, eZ, eX, fB, eT, eQ, eH, if_true, if_false, ZS, ZY, ZT, ZU, ZX, ZW, ZR, ZQ, eA, dV, aB, dI, dE, cJ, eB, eS, eE, dK, eD, fA, dQ, eN, bQ, dG, bJ, dL, aI, aH, eL, aV, bZ, eI, aF, eJ, dF, aR, bF, eF, bH, bE, bB, aO, aL, cD, fG, dY, cA, cI, dA, cH, dT, bC, eK, bX, dH, bP, aU, bU, aC, bY, bO, cF, bW, aY, bA, aX, bV, dM, cU, bR, aZ, aK, aJ, bG, aE, dC, dW, aN, aM, aT, aD, cY, aG, cL, bT, bD, aP, cM, cG, aA, dN, cQ, cV, cC, dO, cB, dJ, dU, cP, eC, eM, bN, aS, dZ, bS, aQ, bL, dS, dB, cO, cS, cN, bK, bM, cX, dR, cR, dD, cZ, c4, f1]
  refine yZ o9 rfl (by simp) fun w10 o10 x10 s10 => ?_
  refine yZ o10 rfl (by simp) fun w11 o11 x11 s11 => ?_
  refine ⟨64 - (i + 1), by omega, i + 1, rfl, rfl, by omega, ?_, ((((((x8.seq (gX.dr _ _)).seq (gX.dr _ _)).seq (gX.dr _ _)).seq (gX.dr _ _)).seq x9).seq x10).seq x11⟩
  rw [hnext]
  exact o11
 have d1 : decide ((i : Int) < 64) = false := by simp; omega
 obtain rfl : i = 64 := by omega
 simp (disch := omega) only [eY, gN, dX, stepR_skip, fP, fZ, fO, gK, gE, gC, gR, gA, eU, fV, fT, gG, fS, fM, fU, fR, fX, gH, fY, fQ, fC, gB, gI, fL, iS, iQ, iO, iR, iM, iN, iP, iU, iT, eP, Result.ok.injEq, Next.value.injEq, true_and, and_true, fK, fJ, gJ, fN, gD, gS, ZV, fE, fH, fF, fD, eZ, eX, fB, eT, eQ, eH, if_true, if_false, ZS, ZY, ZT, ZU, ZX, ZW, ZR, ZQ, eA, dV, aB, dI, dE, cJ, eB, eS, eE, dK, eD, fA, dQ, eN, bQ, dG, bJ, dL, aI, aH, eL, aV, bZ, eI, aF, eJ, dF, aR, bF, eF, bH, bE, bB, aO, aL, cD, fG, dY, cA, cI, dA, cH, dT, bC, eK, bX, dH, bP, aU, bU, aC, bY, bO, cF, bW, aY, bA, aX, bV, dM, cU, bR, aZ, aK, aJ, bG, aE, dC, dW, aN, aM, aT, aD, cY, aG, cL, bT, bD, aP, cM, cG, aA, dN, cQ, cV, cC, dO, cB, dJ, dU, cP, eC, eM, bN, aS, dZ, bS, aQ, bL, dS, dB, cO, cS, cN, bK, bM, cX, dR, cR, dD, cZ, d1]
 obtain ⟨V, hV⟩ : ∃ V, V = wZ W s 64 := ⟨_, rfl⟩
 rw [<- hV] at o8 hl8 hlt8 hwith
 unfold zV Ay Az AE Ae
 simp (disch := omega) only [eY, gN, dX, stepR_skip, fP, fZ, fO, gK, gE, gC, gR, gA, eU, fV, fT, gG, fS, fM, fU, fR, fX, gH, fY, fQ, fC, gB, gI, fL, iS, iQ, iO, iR, iM, iN, iP, iU, iT, eP, Result.ok.injEq, Next.value.injEq, true_and, and_true, fK, fJ, gJ, fN, gD, gS, ZV, fE, fH, fF, fD, eZ, eX, fB, eT, eQ, eH, if_true, if_false, ZS, ZY, ZT, ZU, ZX, ZW, ZR, ZQ, eA, dV, aB, dI, dE, cJ, eB, eS, eE, dK, eD, fA, dQ, eN, bQ, dG, bJ, dL, aI, aH, eL, aV, bZ, eI, aF, eJ, dF, aR, bF, eF, bH, bE, bB, aO, aL, cD, fG, dY, cA, cI, dA, cH, dT, bC, eK, bX, dH, bP, aU, bU, aC, bY, bO, cF, bW, aY, bA, aX, bV, dM, cU, bR, aZ, aK, aJ, bG, aE, dC, dW, aN, aM, aT, aD, cY, aG, cL, bT, bD, aP, cM, cG, aA, dN, cQ, cV, cC, dO, cB, dJ, dU, cP, eC, eM, bN, aS, dZ, bS, aQ, bL, dS, dB, cO, cS, cN, bK, bM, cX, dR, cR, dD, cZ]
 refine jW.rule (fun m (t : adW) w' => ∃ i : Nat, m = 8 - i /\ t = .int .i64 (i : Nat) /\ i <= 8 /\ jG w' v ((BN V s i).map u32) /\ gX w7 w' (fun y => y = v)) 8 ⟨0, rfl, rfl, by omega, by rw [Ta]; exact o8, x8⟩ ?_
 clear o8 x8
 rintro m t w8 ⟨i, rfl, rfl, hi, o8, x8⟩
 unfold sX
 have hl9 : (BN V s i).length = 8 := by rw [ML, hl8]
 by_cases hlt : i < 8
 .have d1 : decide ((i : Int) < 8) = true := by simp; omega
  have e1 : jG w8 n (s.map u32) := a1.ext x8 (by omega)
  have q1 := kJ o8
  have q2 := kJ e1
  have c1 := o8.cell (off := i)
  have c2 := e1.cell (off := i)
  have c1' := q1.cell (off := i)
  have c2' := q2.cell (off := i)
  rw [EE (by omega), UO (by omega)] at c1 c1'
  rw [EE (by omega)] at c2 c2'
  have f1 := OA
  simp (disch := omega) only [eY, gN, dX, stepR_skip, fP, fZ, fO, gK, gE, gC, gR, gA, eU, fV, fT, gG, fS, fM, fU, fR, fX, gH, fY, fQ, fC, gB, gI, fL, iS, iQ, iO, iR, iM, iN, iP, iU, iT, eP, Result.ok.injEq, Next.value.injEq, true_and, and_true, fK, fJ, gJ, fN, gD, gS, ZV, fE, fH, fF, fD, eZ, eX, fB, eT, eQ, eH, if_true, if_false, ZS, ZY, ZT, ZU, ZX, ZW, ZR, ZQ, eA, dV, aB, dI, dE, cJ, eB, eS, eE, dK, eD, fA, dQ, eN, bQ, dG, bJ, dL, aI, aH, eL, aV, bZ, eI, aF, eJ, dF, aR, bF, eF, bH, bE, bB, aO, aL, cD, fG, dY, cA, cI, dA, cH, dT, bC, eK, bX, dH, bP, aU, bU, aC, bY, bO, cF, bW, aY, bA, aX, bV, dM, cU, bR, aZ, aK, aJ, bG, aE, dC, dW, aN, aM, aT, aD, cY, aG, cL, bT, bD, aP, cM, cG, aA, dN, cQ, cV, cC, dO, cB, dJ, dU, cP, eC, eM, bN, aS, dZ, bS, aQ, bL, dS, dB, cO, cS, cN, bK, bM, cX, dR, cR, dD, cZ, d1, c1, c2, c1', c2', f1]
  refine yZ (by first | exact q1 | exact o8) rfl (by rw [ZZ]; omega) fun w9 o9 x9 s9 => ?_
  refine ⟨8 - (i + 1), by omega, i + 1, rfl, rfl, by omega, ?_, by first | exact (x8.seq (gX.dr _ _)).seq x9 | exact x8.seq x9⟩
  rw [<- Ud (by omega), List.map_set]
  exact o9
 have d1 : decide ((i : Int) < 8) = false := by simp; omega
 obtain rfl : i = 8 := by omega
 simp (disch := omega) only [eY, gN, dX, stepR_skip, fP, fZ, fO, gK, gE, gC, gR, gA, eU, fV, fT, gG, fS, fM, fU, fR, fX, gH, fY, fQ, fC, gB, gI, fL, iS, iQ, iO, iR, iM, iN, iP, iU, iT, eP, Result.ok.injEq, Next.value.injEq, true_and, and_true, fK, fJ, gJ, fN, gD, gS, ZV, fE, fH, fF, fD, eZ, eX, fB, eT, eQ, eH, if_true, if_false, ZS, ZY, ZT, ZU, ZX, ZW, ZR, ZQ, eA, dV, aB, dI, dE, cJ, eB, eS, eE, dK, eD, fA, dQ, eN, bQ, dG, bJ, dL, aI, aH, eL, aV, bZ, eI, aF, eJ, dF, aR, bF, eF, bH, bE, bB, aO, aL, cD, fG, dY, cA, cI, dA, cH, dT, bC, eK, bX, dH, bP, aU, bU, aC, bY, bO, cF, bW, aY, bA, aX, bV, dM, cU, bR, aZ, aK, aJ, bG, aE, dC, dW, aN, aM, aT, aD, cY, aG, cL, bT, bD, aP, cM, cG, aA, dN, cQ, cV, cC, dO, cB, dJ, dU, cP, eC, eM, bN, aS, dZ, bS, aQ, bL, dS, dB, cO, cS, cN, bK, bM, cX, dR, cR, dD, cZ, d1]
 unfold sY
 rw [<- hwith] at o8 hl9
 have lv := Fm (off := 0) o8 (by rw [ZZ]; omega)
 rw [abT, Z3 (by rw [ZZ]; omega)] at lv
 have a3 := a3.ext x8 (by omega)
 simp (disch := omega) only [eY, gN, dX, stepR_skip, fP, fZ, fO, gK, gE, gC, gR, gA, eU, fV, fT, gG, fS, fM, fU, fR, fX, gH, fY, fQ, fC, gB, gI, fL, iS, iQ, iO, iR, iM, iN, iP, iU, iT, eP, Result.ok.injEq, Next.value.injEq, true_and, and_true, fK, fJ, gJ, fN, gD, gS, ZV, fE, fH, fF, fD, eZ, eX, fB, eT, eQ, eH, if_true, if_false, ZS, ZY, ZT, ZU, ZX, ZW, ZR, ZQ, eA, dV, aB, dI, dE, cJ, eB, eS, eE, dK, eD, fA, dQ, eN, bQ, dG, bJ, dL, aI, aH, eL, aV, bZ, eI, aF, eJ, dF, aR, bF, eF, bH, bE, bB, aO, aL, cD, fG, dY, cA, cI, dA, cH, dT, bC, eK, bX, dH, bP, aU, bU, aC, bY, bO, cF, bW, aY, bA, aX, bV, dM, cU, bR, aZ, aK, aJ, bG, aE, dC, dW, aN, aM, aT, aD, cY, aG, cL, bT, bD, aP, cM, cG, aA, dN, cQ, cV, cC, dO, cB, dJ, dU, cP, eC, eM, bN, aS, dZ, bS, aQ, bL, dS, dB, cO, cS, cN, bK, bM, cX, dR, cR, dD, cZ, lv]
 refine Ff a3 (by simp [hl9]) (fun y hy => L2 _ y (by simpa using hy)) (by simp) fun w9 o9 x9 s9 => ?_
 have hset : mZ (List.replicate 8 (Value.int .u32 0)) 0 ((Kj s b).map u32).toArray.toList = (Kj s b).map u32 := by
  rw [aaT]
  have := oL ((Kj s b).map u32) [] (List.replicate 8 (Value.int .u32 0)) (by rw [ZZ, hl9]; decide)
  rw [aaF, aaF, abO, ZZ, hl9] at this
  rw [this]; simp
 rw [hset] at o9
 refine Pt o9 (by rw [ZZ]; omega) ?_
 rw [abT, Z3 (by rw [ZZ]; omega)]
 exact ⟨rfl, (x07.trans x8 fun y hy h => by omega).trans x9 fun y hy h => by omega⟩
def Kx (vs : List Nat) (kept : List UInt8) (n all : Nat) : List adW := vs.map u32 ++ (kept.map oY ++ [.int .i64 (n : Int), .int .u64 (all : Int)])
theorem AG {vs : List Nat} {kept : List UInt8} {n all : Nat} (h1 : vs.length = 8) (h2 : kept.length = 64) : (Kx vs kept n all).length = 74 := by simp [Kx, h1, h2]
theorem YT {vs : List Nat} {kept : List UInt8} {n all : Nat} (i : Nat) (h : i < vs.length) : (Kx vs kept n all)[i]? = some (u32 (vs.getD i 0)) := by
 unfold Kx; rw [aaO (by simpa using h), EE h]
theorem TA {vs : List Nat} {kept : List UInt8} {n all : Nat} (h1 : vs.length = 8) (h2 : kept.length = 64) : (Kx vs kept n all)[72]? = some (.int .i64 (n : Int)) := by
 unfold Kx
 rw [abA (by simp [h1]), ZZ, h1, abA (by simp [h2]), ZZ, h2] <;> rfl
theorem TF {vs : List Nat} {kept : List UInt8} {n all : Nat} (h1 : vs.length = 8) (h2 : kept.length = 64) : (Kx vs kept n all)[73]? = some (.int .u64 (all : Int)) := by
 unfold Kx
 rw [abA (by simp [h1]), ZZ, h1, abA (by simp [h2]), ZZ, h2] <;> rfl
theorem Qj {vs : List Nat} {kept : List UInt8} {n all : Nat} (h1 : vs.length = 8) (h2 : kept.length = 64) (m : Nat) : (Kx vs kept n all).set 72 (.int .i64 (m : Int)) = Kx vs kept m all := by
 unfold Kx
 rw [abQ _ _ (by simp [h1]), ZZ, h1, abQ _ _ (by simp [h2]), ZZ, h2] <;> rfl
theorem Rn {vs : List Nat} {kept : List UInt8} {n all : Nat} (h1 : vs.length = 8) (h2 : kept.length = 64) (m : Nat) : (Kx vs kept n all).set 73 (.int .u64 (m : Int)) = Kx vs kept n m := by
 unfold Kx
 rw [abQ _ _ (by simp [h1]), ZZ, h1, abQ _ _ (by simp [h2]), ZZ, h2] <;> rfl
theorem YH {vs : List Nat} {kept : List UInt8} {n all : Nat} (h1 : vs.length = 8) : ((Kx vs kept n all).drop 0).take 8 = vs.map u32 := by
 unfold Kx
 rw [abT, aaM (by rw [ZZ]; omega), Z3 (by rw [ZZ]; omega)]
theorem Wh {vs : List Nat} {kept : List UInt8} {n all : Nat} (h1 : vs.length = 8) (h2 : kept.length = 64) : ((Kx vs kept n all).drop 8).take 64 = kept.map oY := by
 unfold Kx
 rw [aaP (by rw [ZZ]; omega), abW (by rw [ZZ]; omega), aaF, aaM (by rw [ZZ]; omega), Z3 (by rw [ZZ]; omega)]
theorem T4 {vs us : List Nat} {kept : List UInt8} {n all : Nat} (h1 : vs.length = 8) (h3 : us.length = 8) : mZ (Kx vs kept n all) 0 (us.map u32) = Kx us kept n all := by
 unfold Kx
 have := oL (us.map u32) [] (vs.map u32 ++ (kept.map oY ++ [.int .i64 (n : Int), .int .u64 (all : Int)])) (by rw [Z1, ZZ, ZZ]; omega)
 rw [aaF, aaF, abO, ZZ] at this
 rw [this, aaP (by rw [ZZ]; omega), abW (by rw [ZZ]; omega), aaF]
def Yx (l : List UInt8) (o : Nat) (x : List UInt8) : List UInt8 := l.take o ++ x ++ l.drop (o + x.length)
theorem Xw {l : List UInt8} {o : Nat} {x : List UInt8} (h : o + x.length <= l.length) : (Yx l o x).length = l.length := by
 simp [Yx]; omega
theorem Xc {vs : List Nat} {kept : List UInt8} {n all o : Nat} {x : List UInt8} (h1 : vs.length = 8) (h : o + x.length <= kept.length) : mZ (Kx vs kept n all) (8 + o) (x.map oY) = Kx vs (Yx kept o x) n all := by
 have e : Kx vs kept n all = (vs.map u32 ++ (kept.take o).map oY) ++ ((kept.drop o).map oY ++ [.int .i64 (n : Int), .int .u64 (all : Int)]) := by
  unfold Kx
  rw [aaH, <- aaH (List.map oY (kept.take o)), <- abD, adM]
 have := oL (x.map oY) (vs.map u32 ++ (kept.take o).map oY) ((kept.drop o).map oY ++ [.int .i64 (n : Int), .int .u64 (all : Int)]) (by rw [Z1, ZZ, ZZ, Z9]; omega)
 rw [Z1, ZZ, ZZ, aaB, aaQ (by omega), h1] at this
 rw [e, this]
 unfold Kx Yx
 rw [ZZ, aaP (by rw [ZZ, Z9]; omega), <- acH, acS, abD, abD]
 simp only [aaH]
def AA (w : adV) (b : Nat) (L : List UInt8) (all : Nat) : Prop :=
 ∃ kept, kept.length = 64 /\ kept.take (L.length % 64) = L.drop (64 * (L.length / 64)) /\ jG w b (Kx (Jc (L.length / 64) L) kept (L.length % 64) all)
theorem AA.ext {w w' : adV} {b all : Nat} {L : List UInt8} {M : Nat -> Prop} (h : AA w b L all) (x : gX w w' M) (hM : ¬ M b) : AA w' b L all := by
 obtain ⟨kept, h1, h2, h3⟩ := h
 exact ⟨kept, h1, h2, h3.ext x hM⟩
theorem AA.lt {w : adV} {b all : Nat} {L : List UInt8} (h : AA w b L all) : b < w.heap.size := by
 obtain ⟨kept, h1, h2, h3⟩ := h
 exact h3.lt
theorem VA (w : adV) : gU pg JE #[] w (fun v w' => v = .pointer (some ⟨w.heap.size, 0, none⟩) /\ AA w' w.heap.size [] 0 /\ gX w w' jK /\ w'.heap.size = w.heap.size + 1) := by
 refine Qr ?_
 unfold Tz KQ
 simp (disch := omega) only [eY, gN, dX, stepR_skip, fP, fZ, fO, gK, gE, gC, gR, gA, eU, fV, fT, gG, fS, fM, fU, fR, fX, gH, fY, fQ, fC, gB, gI, fL, iS, iQ, iO, iR, iM, iN, iP, iU, iT, eP, Result.ok.injEq, Next.value.injEq, true_and, and_true, fK, fJ, gJ, fN, gD, gS, ZV, fE, fH, fF, fD, eZ, eX, fB, eT, eQ, eH, if_true, if_false, ZS, ZY, ZT, ZU, ZX, ZW, ZR, ZQ, eA, dV, aB, dI, dE, cJ, eB, eS, eE, dK, eD, fA, dQ, eN, bQ, dG, bJ, dL, aI, aH, eL, aV, bZ, eI, aF, eJ, dF, aR, bF, eF, bH, bE, bB, aO, aL, cD, fG, dY, cA, cI, dA, cH, dT, bC, eK, bX, dH, bP, aU, bU, aC, bY, bO, cF, bW, aY, bA, aX, bV, dM, cU, bR, aZ, aK, aJ, bG, aE, dC, dW, aN, aM, aT, aD, cY, aG, cL, bT, bD, aP, cM, cG, aA, dN, cQ, cV, cC, dO, cB, dJ, dU, cP, eC, eM, bN, aS, dZ, bS, aQ, bL, dS, dB, cO, cS, cN, bK, bM, cX, dR, cR, dD, cZ]
 refine oE fun w1 o1 x1 s1 => ⟨rfl, ⟨List.replicate 64 0, rfl, rfl, ?_⟩, x1, s1⟩
 exact o1
theorem Po {w0 : adV} {b all : Nat} {L l : List UInt8} {R : adV -> Prop} (hg : rD w0) (hb0 : 0 ≠ b /\ 1 ≠ b) (hlen : L.length + l.length <= 1099511627776)
 (hR : ∀ w', AA w' b (L ++ l) all -> gX w0 w' (fun x => x = b) -> R w') {v : adW} {w : adV}
 (h : AA w b L all) (hv : Bs w v l) (hb : ¬ wB v (fun x => x = b)) (hx : gX w0 w (fun x => x = b)) :
 tG R (.pointer (some ⟨b, 0, none⟩)) v w := by
 unfold tG
 refine jW.rule (fun n t w' => ∃ m : Nat, m <= l.length /\ n = l.length - m /\ Bs w' t (l.drop m) /\ ¬ wB t (fun x => x = b) /\ AA w' b (L ++ l.take m) all /\ gX w0 w' (fun x => x = b)) l.length
  ⟨0, by omega, rfl, hv, hb, by simpa using h, hx⟩ ?_
 clear h hv hb hx
 rintro n t w' ⟨m, hm, rfl, hv, hb, ⟨kept, h2, hk, ho⟩, hx⟩
 have hv' := hv
 obtain ⟨a, n, c, rfl, hn, hc, hcell⟩ := hv'
 rw [ZZ, Z9] at hn
 unfold tH
 by_cases hlt : m < l.length
 .obtain ⟨b', o', rfl, hcell'⟩ := hcell (by omega)
  have hd : decide ((0 : Int) < (n : Int)) = true := by simp; omega
  have hM : (L ++ l.take m).length = L.length + m := by simp; omega
  rw [hM] at hk ho
  obtain ⟨q, hq⟩ : ∃ q, q = (L.length + m) / 64 := ⟨_, rfl⟩
  obtain ⟨r, hr⟩ : ∃ r, r = (L.length + m) % 64 := ⟨_, rfl⟩
  rw [<- hq, <- hr] at hk ho
  have hqr : L.length + m = 64 * q + r /\ r < 64 := by omega
  have h1 : (Jc q (L ++ l.take m)).length = 8 := BL _ _
  have hod := kJ ho
  have c72 := hod.cell (off := 72)
  rw [TA h1 h2] at c72
  have sh := KV (b := b) (o := 8) (show r ≠ 64 by omega)
  have hvd : Bs (dr w') (.slice (some ⟨b', o', none⟩) n c) (l.drop m) := hv.ext (gX.dr w' jK) (by unfold wB jK; split <;> simp)
  simp (disch := omega) only [eY, gN, dX, stepR_skip, fP, fZ, fO, gK, gE, gC, gR, gA, eU, fV, fT, gG, fS, fM, fU, fR, fX, gH, fY, fQ, fC, gB, gI, fL, iS, iQ, iO, iR, iM, iN, iP, iU, iT, eP, Result.ok.injEq, Next.value.injEq, true_and, and_true, fK, fJ, gJ, fN, gD, gS, ZV, fE, fH, fF, fD, eZ, eX, fB, eT, eQ, eH, if_true, if_false, ZS, ZY, ZT, ZU, ZX, ZW, ZR, ZQ, eA, dV, aB, dI, dE, cJ, eB, eS, eE, dK, eD, fA, dQ, eN, bQ, dG, bJ, dL, aI, aH, eL, aV, bZ, eI, aF, eJ, dF, aR, bF, eF, bH, bE, bB, aO, aL, cD, fG, dY, cA, cI, dA, cH, dT, bC, eK, bX, dH, bP, aU, bU, aC, bY, bO, cF, bW, aY, bA, aX, bV, dM, cU, bR, aZ, aK, aJ, bG, aE, dC, dW, aN, aM, aT, aD, cY, aG, cL, bT, bD, aP, cM, cG, aA, dN, cQ, cV, cC, dO, cB, dJ, dU, cP, eC, eM, bN, aS, dZ, bS, aQ, bL, dS, dB, cO, cS, cN, bK, bM, cX, dR, cR, dD, cZ, hd, c72, sh]
  refine Ev hod (by rw [AG h1 h2]; omega) hvd (Fx _) fun w1 o1 x1 s1 => ?_
  obtain ⟨u, hu⟩ : ∃ u, u = min n (64 - r) := ⟨_, rfl⟩
  have hlm : (List.map oY (l.drop m)).length = n := by rw [ZZ, Z9, hn]
  rw [hlm] at o1 ⊢
  rw [<- hu] at o1 ⊢
  have hu1 : u <= n /\ u <= 64 - r /\ (u = n ∨ u = 64 - r) := by omega
  have hul : ((l.drop m).take u).length = u := by rw [aaB, Z9]; omega
  rw [<- acX, Xc h1 (by omega)] at o1
  obtain ⟨kept1, hk1⟩ : ∃ x, x = Yx kept r ((l.drop m).take u) := ⟨_, rfl⟩
  rw [<- hk1] at o1
  have h21 : kept1.length = 64 := by rw [hk1, Xw (by omega)]; exact h2
  have c1 := o1.cell (off := 72)
  rw [TA h1 h21] at c1
  have e1 : (r : Int) + (u : Int) = ((r + u : Nat) : Int) := by omega
  simp (disch := omega) only [eY, gN, dX, stepR_skip, fP, fZ, fO, gK, gE, gC, gR, gA, eU, fV, fT, gG, fS, fM, fU, fR, fX, gH, fY, fQ, fC, gB, gI, fL, iS, iQ, iO, iR, iM, iN, iP, iU, iT, eP, Result.ok.injEq, Next.value.injEq, true_and, and_true, fK, fJ, gJ, fN, gD, gS, ZV, fE, fH, fF, fD, eZ, eX, fB, eT, eQ, eH, if_true, if_false, ZS, ZY, ZT, ZU, ZX, ZW, ZR, ZQ, eA, dV, aB, dI, dE, cJ, eB, eS, eE, dK, eD, fA, dQ, eN, bQ, dG, bJ, dL, aI, aH, eL, aV, bZ, eI, aF, eJ, dF, aR, bF, eF, bH, bE, bB, aO, aL, cD, fG, dY, cA, cI, dA, cH, dT, bC, eK, bX, dH, bP, aU, bU, aC, bY, bO, cF, bW, aY, bA, aX, bV, dM, cU, bR, aZ, aK, aJ, bG, aE, dC, dW, aN, aM, aT, aD, cY, aG, cL, bT, bD, aP, cM, cG, aA, dN, cQ, cV, cC, dO, cB, dJ, dU, cP, eC, eM, bN, aS, dZ, bS, aQ, bL, dS, dB, cO, cS, cN, bK, bM, cX, dR, cR, dD, cZ, c1, e1]
  refine Ku o1 rfl (by rw [AG h1 h21]; omega) fun w2 o2 x2 s2 => ?_
  rw [Qj h1 h21] at o2
  have hx2 : gX w' w2 (fun x => x = b) := ((gX.dr w' _).seq x1).seq x2
  have hv2 := hv.ext hx2 hb
  have hv3 := hv2.drop hu1.1
  have hb3 := Us (k := u) hb (by omega) (n - u)
  rw [<- acH, acS] at hv3
  have hM2 : L ++ l.take (m + u) = (L ++ l.take m) ++ (l.drop m).take u := by rw [aaH, List.take_add]
  have hacc : Jc q (L ++ l.take (m + u)) = Jc q (L ++ l.take m) := by rw [hM2]; exact MW _ _ _ (by omega)
  have hlen2 : (L ++ l.take (m + u)).length = L.length + (m + u) := by simp; omega
  have hkeep : kept1.take (r + u) = (L ++ l.take (m + u)).drop (64 * q) := by
   rw [hk1, hM2, aaP (by omega), <- hk]
   unfold Yx
   rw [aaM (by simp; omega), Z3 (by simp; omega)]
  rw [<- hacc] at o2
  have h11 := BL q (L ++ l.take (m + u))
  have c2 := o2.cell (off := 72)
  rw [TA h11 h21] at c2
  by_cases hfull : r + u = 64
  .have he : (((r + u : Nat) : Int) == 64) = true := by rw [hfull] <;> rfl
   have od := kJ o2
   have ls := Fm (off := 0) od (by rw [AG h11 h21]; omega)
   have lk := Jk (off := 8) od (by rw [AG h11 h21]; omega)
   rw [YH h11] at ls
   rw [Wh h11 h21] at lk
   simp (disch := omega) only [eY, gN, dX, stepR_skip, fP, fZ, fO, gK, gE, gC, gR, gA, eU, fV, fT, gG, fS, fM, fU, fR, fX, gH, fY, fQ, fC, gB, gI, fL, iS, iQ, iO, iR, iM, iN, iP, iU, iT, eP, Result.ok.injEq, Next.value.injEq, true_and, and_true, fK, fJ, gJ, fN, gD, gS, ZV, fE, fH, fF, fD, eZ, eX, fB, eT, eQ, eH, if_true, if_false, ZS, ZY, ZT, ZU, ZX, ZW, ZR, ZQ, eA, dV, aB, dI, dE, cJ, eB, eS, eE, dK, eD, fA, dQ, eN, bQ, dG, bJ, dL, aI, aH, eL, aV, bZ, eI, aF, eJ, dF, aR, bF, eF, bH, bE, bB, aO, aL, cD, fG, dY, cA, cI, dA, cH, dT, bC, eK, bX, dH, bP, aU, bU, aC, bY, bO, cF, bW, aY, bA, aX, bV, dM, cU, bR, aZ, aK, aJ, bG, aE, dC, dW, aN, aM, aT, aD, cY, aG, cL, bT, bD, aP, cM, cG, aA, dN, cQ, cV, cC, dO, cB, dJ, dU, cP, eC, eM, bN, aS, dZ, bS, aQ, bL, dS, dB, cO, cS, cN, bK, bM, cX, dR, cR, dD, cZ, c2, he, ls, lk]
   rw [hfull] at hkeep
   refine (Uy (hg.extM ((hx.seq hx2).seq (gX.dr _ _)) hb0.1 hb0.2) h11 (QI _ _) h21).mono ?_
   rintro r' w3 ⟨rfl, x3⟩
   have o3 := od.ext x3 (fun h => h)
   have h13 := P8 kept1 h11
   refine Ff o3 (by simp [h13]) (fun y hy => L2 _ y (by simpa using hy)) (by rw [AG h11 h21]; omega) fun w4 o4 x4 s4 => ?_
   rw [aaT, T4 h11 h13] at o4
   refine Ku o4 rfl (by rw [AG h13 h21]; omega) fun w5 o5 x5 s5 => ?_
   have o5 : jG w5 b ((Kx (Kj (Jc q (L ++ l.take (m + u))) kept1) kept1 (r + u) all).set 72 (.int .i64 ((0 : Nat) : Int))) := o5
   rw [Qj h13 h21] at o5
   have hx4 : gX w2 w5 (fun x => x = b) := (((gX.dr w2 _).seq (x3.mono fun _ _ h => h.elim)).seq x4).seq x5
   have hkk : kept1 = (L ++ l.take (m + u)).drop (64 * q) := by rw [<- hkeep, Z3 (by omega)]
   refine ⟨l.length - (m + u), by omega, m + u, by omega, rfl, hv3.ext hx4 hb3, hb3, ⟨kept1, h21, ?_, ?_⟩, (hx.seq hx2).seq hx4⟩
   .have z : (L ++ l.take (m + u)).drop (64 * ((L.length + (m + u)) / 64)) = [] := List.drop_eq_nil_of_le (by rw [hlen2]; omega)
    have z1 : (L.length + (m + u)) % 64 = 0 := by omega
    rw [hlen2, z, z1] <;> rfl
   .have z1 : (L.length + (m + u)) % 64 = 0 := by omega
    have z2 : (L.length + (m + u)) / 64 = q + 1 := by omega
    have z3 : kept1.take 64 = kept1 := Z3 (by omega)
    rw [hlen2, z1, z2, Jc, <- hkk, z3]
    exact o5
  .have he : (((r + u : Nat) : Int) == 64) = false := by rw [beq_eq_false_iff_ne]; omega
   simp (disch := omega) only [eY, gN, dX, stepR_skip, fP, fZ, fO, gK, gE, gC, gR, gA, eU, fV, fT, gG, fS, fM, fU, fR, fX, gH, fY, fQ, fC, gB, gI, fL, iS, iQ, iO, iR, iM, iN, iP, iU, iT, eP, Result.ok.injEq, Next.value.injEq, true_and, and_true, fK, fJ, gJ, fN, gD, gS, ZV, fE, fH, fF, fD, eZ, eX, fB, eT, eQ, eH, if_true, if_false, ZS, ZY, ZT, ZU, ZX, ZW, ZR, ZQ, eA, dV, aB, dI, dE, cJ, eB, eS, eE, dK, eD, fA, dQ, eN, bQ, dG, bJ, dL, aI, aH, eL, aV, bZ, eI, aF, eJ, dF, aR, bF, eF, bH, bE, bB, aO, aL, cD, fG, dY, cA, cI, dA, cH, dT, bC, eK, bX, dH, bP, aU, bU, aC, bY, bO, cF, bW, aY, bA, aX, bV, dM, cU, bR, aZ, aK, aJ, bG, aE, dC, dW, aN, aM, aT, aD, cY, aG, cL, bT, bD, aP, cM, cG, aA, dN, cQ, cV, cC, dO, cB, dJ, dU, cP, eC, eM, bN, aS, dZ, bS, aQ, bL, dS, dB, cO, cS, cN, bK, bM, cX, dR, cR, dD, cZ, c2, he]
   refine ⟨l.length - (m + u), by omega, m + u, by omega, rfl, hv3, hb3, ⟨kept1, h21, ?_, ?_⟩, hx.seq hx2⟩
   .rw [hlen2, show (L.length + (m + u)) % 64 = r + u from by omega, show (L.length + (m + u)) / 64 = q from by omega]; exact hkeep
   .rw [hlen2, show (L.length + (m + u)) % 64 = r + u from by omega, show (L.length + (m + u)) / 64 = q from by omega]; exact o2
 .have hd : decide ((0 : Int) < (n : Int)) = false := by simp; omega
  have e : l.take m = l := Z3 (by omega)
  rw [e] at hk ho
  simp (disch := omega) only [eY, gN, dX, stepR_skip, fP, fZ, fO, gK, gE, gC, gR, gA, eU, fV, fT, gG, fS, fM, fU, fR, fX, gH, fY, fQ, fC, gB, gI, fL, iS, iQ, iO, iR, iM, iN, iP, iU, iT, eP, Result.ok.injEq, Next.value.injEq, true_and, and_true, fK, fJ, gJ, fN, gD, gS, ZV, fE, fH, fF, fD, eZ, eX, fB, eT, eQ, eH, if_true, if_false, ZS, ZY, ZT, ZU, ZX, ZW, ZR, ZQ, eA, dV, aB, dI, dE, cJ, eB, eS, eE, dK, eD, fA, dQ, eN, bQ, dG, bJ, dL, aI, aH, eL, aV, bZ, eI, aF, eJ, dF, aR, bF, eF, bH, bE, bB, aO, aL, cD, fG, dY, cA, cI, dA, cH, dT, bC, eK, bX, dH, bP, aU, bU, aC, bY, bO, cF, bW, aY, bA, aX, bV, dM, cU, bR, aZ, aK, aJ, bG, aE, dC, dW, aN, aM, aT, aD, cY, aG, cL, bT, bD, aP, cM, cG, aA, dN, cQ, cV, cC, dO, cB, dJ, dU, cP, eC, eM, bN, aS, dZ, bS, aQ, bL, dS, dB, cO, cS, cN, bK, bM, cX, dR, cR, dD, cZ, hd]
  exact hR _ ⟨kept, h2, hk, ho⟩ hx
theorem Pa {b all : Nat} {L l : List UInt8} {v : adW} {w : adV} (hg : rD w) (hb0 : 0 ≠ b /\ 1 ≠ b) (hlen : L.length + l.length <= 1099511627776) (hall : all + l.length <= 1099511627776) (h : AA w b L all) (hv : Bs w v l) (hb : ¬ wB v (fun x => x = b)) :
 gU pg lW #[.pointer (some ⟨b, 0, none⟩), v] w (fun r w' => r = .tuple #[] /\ AA w' b (L ++ l) (all + l.length) /\ gX w w' (fun x => x = b)) := by
 refine JP ?_
 unfold JC zN Ah
 obtain ⟨kept, h2, hk, ho⟩ := h
 have h1 := BL (L.length / 64) L
 obtain ⟨va, vc, rfl, _⟩ := hv.len
 rw [ZZ] at hv hb ⊢
 have c73 := ho.cell (off := 73)
 rw [TF h1 h2] at c73
 have e1 : (all : Int) + (l.length : Int) = ((all + l.length : Nat) : Int) := by omega
 simp (disch := omega) only [eY, gN, dX, stepR_skip, fP, fZ, fO, gK, gE, gC, gR, gA, eU, fV, fT, gG, fS, fM, fU, fR, fX, gH, fY, fQ, fC, gB, gI, fL, iS, iQ, iO, iR, iM, iN, iP, iU, iT, eP, Result.ok.injEq, Next.value.injEq, true_and, and_true, fK, fJ, gJ, fN, gD, gS, ZV, fE, fH, fF, fD, eZ, eX, fB, eT, eQ, eH, if_true, if_false, ZS, ZY, ZT, ZU, ZX, ZW, ZR, ZQ, eA, dV, aB, dI, dE, cJ, eB, eS, eE, dK, eD, fA, dQ, eN, bQ, dG, bJ, dL, aI, aH, eL, aV, bZ, eI, aF, eJ, dF, aR, bF, eF, bH, bE, bB, aO, aL, cD, fG, dY, cA, cI, dA, cH, dT, bC, eK, bX, dH, bP, aU, bU, aC, bY, bO, cF, bW, aY, bA, aX, bV, dM, cU, bR, aZ, aK, aJ, bG, aE, dC, dW, aN, aM, aT, aD, cY, aG, cL, bT, bD, aP, cM, cG, aA, dN, cQ, cV, cC, dO, cB, dJ, dU, cP, eC, eM, bN, aS, dZ, bS, aQ, bL, dS, dB, cO, cS, cN, bK, bM, cX, dR, cR, dD, cZ, c73, e1]
 refine JG ho rfl (by rw [AG h1 h2]; omega) fun w1 o1 x1 s1 => ?_
 rw [Rn h1 h2] at o1
 unfold Ad
 exact Po hg hb0 hlen (fun w' h' x' => ⟨h', x'⟩) ⟨kept, h2, hk, o1⟩ (hv.ext x1 hb) hb x1
end Go.Proofs.YteelnmpbnaohpaaDoor
namespace Go.En
open Go
theorem IB.ext {w w' : adV} {S M : Nat -> Prop} {sz n : Nat} {v : adW} {l : List adW} (h : IB w S sz v n l) (hx : gX w w' M) (hM : ∀ b, S b -> ¬ M b) : IB w' S sz v n l := by
 refine ⟨h.1, ?_⟩
 rcases h.2 with h2 | ⟨b, c, rest, h1, h2, h3, h4, h5⟩
 .exact .inl h2
 .exact .inr ⟨b, c, rest, h1, h2, h3.ext hx (hM b h2), h4, h5⟩
theorem zH.ne {w : adV} {base p sz n : Nat} {v : adW} {l : List adW} (h : zH w base sz v n l) (hp : w.heap.size <= p) : IB w (fun b => base <= b /\ b ≠ p) sz v n l := by
 refine ⟨h.1, ?_⟩
 rcases h.2 with h2 | ⟨b, c, rest, h1, h2, h3, h4, h5⟩
 .exact .inl h2
 .have := h3.lt
  exact .inr ⟨b, c, rest, h1, ⟨h2, by omega⟩, h3, h4, h5⟩
theorem IB.len {w : adV} {S : Nat -> Prop} {sz n : Nat} {v : adW} {l : List adW} (h : IB w S sz v n l) : ∃ a c, v = .slice a n c := by
 rcases h.2 with ⟨h1, rfl⟩ | ⟨b, c, rest, h1, _⟩
 .exact ⟨_, _, h1⟩
 .exact ⟨_, _, h1⟩
end Go.En
namespace Go.Proofs.YteelnmpbnaohpaaDoor
open Go Go.En Go.Pu
set_option maxRecDepth 4000
theorem Yl {w : adV} {b : Nat} {x : UInt8} (o : jG w b [.int .u8 (x.toNat : Nat)]) : Bs w (.slice (some ⟨b, 0, none⟩) 1 1) [x] := jG.bs (l := [x]) (off := 0) (c := 1) o (by simp) fun i hi => by
 have hi : i < 1 := hi
 obtain rfl : i = 0 := by omega
 rfl
theorem Ox {w : adV} {b all : Nat} {L : List UInt8} {x : Nat} (hx : x < 256) {K : adW -> adV -> Prop} (hg : rD w) (hb0 : 0 ≠ b /\ 1 ≠ b) (hlen : L.length + 1 <= 1099511627776) (hall : all + 1 <= 1099511627776) (h : AA w b L all)
 (hK : ∀ w', AA w' b (L ++ [UInt8.ofNat x]) (all + 1) -> gX w w' (fun y => y = b) -> K (.tuple #[]) w') :
 eY pg (iF 22 1 [(0, .int .u8 (x : Nat))]) w fun t w => gU pg lW #[.pointer (some ⟨b, 0, none⟩), t] w K := by
 refine EH (cells := #[.int .u8 (x : Nat)]) (by decide) (by decide) (by kernel_rfl) fun w1 o1 x1 s1 => ?_
 have hbl := h.lt
 have hxx : (UInt8.ofNat x).toNat = x := by rw [acM]; omega
 have o1 : jG w1 w.heap.size [.int .u8 ((UInt8.ofNat x).toNat : Nat)] := by rw [hxx]; exact o1
 refine (Pa (hg.ext x1) hb0 (l := [UInt8.ofNat x]) hlen hall (h.ext x1 (fun h => h)) (Yl o1) (fun hi => ?_)).mono ?_
 .have hi : w.heap.size = b := hi
  omega
 rintro r w2 ⟨rfl, h2, x2⟩
 exact hK w2 h2 ((x1.mono fun _ _ h => h.elim).seq x2)
theorem Ha (xs cs : List adW) (h : cs.length = xs.length) : mZ cs 0 xs = xs := by
 have := oL xs [] cs (by omega)
 rw [aaF, abW (by omega), abE, aaF] at this
 exact this
theorem XZ (n k : Nat) (hk : k <= (119 - n % 64) % 64) : ((n + 1 + k) % 64 = 56) ↔ k = (119 - n % 64) % 64 := by omega
theorem Vy {b : Nat} {L : List UInt8} {w : adV} (hg : rD w) (hlen : L.length <= 1000000000) (h : AA w b L L.length) :
 gU pg AF #[.pointer (some ⟨b, 0, none⟩)] w (fun r w' => r = .agg ((Sd L).map oY).toArray /\ gX w w' jK) := by
 refine LJ ?_
 obtain ⟨RR, hRR⟩ : ∃ RR : adW -> adV -> Prop, RR = fun r w' => r = .agg ((Sd L).map oY).toArray /\ gX w w' jK := ⟨_, rfl⟩
 rw [<- hRR]
 unfold Mb Bc Be
 obtain ⟨hg0, hg1⟩ := hg.lt
 have hbl := h.lt
 refine Hc fun w1 o1 x1 s1 => ?_
 obtain ⟨p, hp⟩ : ∃ p, p = w.heap.size := ⟨_, rfl⟩
 rw [<- hp] at o1 ⊢
 have o1 : jG w1 p (List.replicate 32 (.int .u8 0)) := o1
 obtain ⟨kept, h2, hk, ho⟩ := h.ext x1 (fun h => h)
 have h1 := BL (L.length / 64) L
 have la := Qt (off := 0) ho (by rw [AG h1 h2]; omega)
 rw [abT, Z3 (by rw [AG h1 h2]; omega)] at la
 simp (disch := omega) only [eY, gN, dX, stepR_skip, fP, fZ, fO, gK, gE, gC, gR, gA, eU, fV, fT, gG, fS, fM, fU, fR, fX, gH, fY, fQ, fC, gB, gI, fL, iS, iQ, iO, iR, iM, iN, iP, iU, iT, eP, Result.ok.injEq, Next.value.injEq, true_and, and_true, fK, fJ, gJ, fN, gD, gS, ZV, fE, fH, fF, fD, eZ, eX, fB, eT, eQ, eH, if_true, if_false, ZS, ZY, ZT, ZU, ZX, ZW, ZR, ZQ, eA, dV, aB, dI, dE, cJ, eB, eS, eE, dK, eD, fA, dQ, eN, bQ, dG, bJ, dL, aI, aH, eL, aV, bZ, eI, aF, eJ, dF, aR, bF, eF, bH, bE, bB, aO, aL, cD, fG, dY, cA, cI, dA, cH, dT, bC, eK, bX, dH, bP, aU, bU, aC, bY, bO, cF, bW, aY, bA, aX, bV, dM, cU, bR, aZ, aK, aJ, bG, aE, dC, dW, aN, aM, aT, aD, cY, aG, cL, bT, bD, aP, cM, cG, aA, dN, cQ, cV, cC, dO, cB, dJ, dU, cP, eC, eM, bN, aS, dZ, bS, aQ, bL, dS, dB, cO, cS, cN, bK, bM, cX, dR, cR, dD, cZ, la]
 refine RO fun w2 o2 x2 s2 => ?_
 obtain ⟨q, hq⟩ : ∃ q, q = w1.heap.size := ⟨_, rfl⟩
 rw [<- hq] at o2 ⊢
 have hone : ∀ y ∈ (Kx (Jc (L.length / 64) L) kept (L.length % 64) L.length).toArray.toList, one y = true := fun y hy => by
  rw [aaT] at hy
  unfold Kx at hy
  rcases abN.1 hy with h | h
  .exact L2 _ y h
  .rcases abN.1 h with h | h
   .obtain ⟨z, -, rfl⟩ := aaY.1 h; rfl
   .simp only [aaR, List.not_mem_nil, or_false] at h
    rcases h with rfl | rfl <;> rfl
 refine QE o2 (by rw [acB, AG h1 h2]) hone (by simp) fun w3 o3 x3 s3 => ?_
 have o3 : jG w3 q (Kx (Jc (L.length / 64) L) kept (L.length % 64) L.length) := by
  rw [aaT, Ha _ _ (by rw [AG h1 h2] <;> rfl)] at o3
  exact o3
 have z1 : w1.heap.size = p + 1 := by omega
 have hqp : q = p + 1 := by omega
 have x03 : gX w w3 jK := (x1.seq x2).trans x3 fun y hy h => by omega
 have hS3 : AA w3 q L L.length := ⟨kept, h2, hk, o3⟩
 have r3 := (o1.ext x2 (fun h => h)).ext x3 (show ¬ p = q by omega)
 have bh3 : AA w3 b L L.length := h.ext x03 (fun h => h)
 have hb0 : 0 ≠ q /\ 1 ≠ q := ⟨by omega, by omega⟩
 clear o1 o2 o3 x1 x2 x3 s1 s2 s3 la hone ho
 have keep : ∀ {w' : adV} {x : adW}, gX w3 w' (fun y => y = q) -> rD w' /\ jG w' p (List.replicate 32 (.int .u8 0)) /\ AA w' b L L.length /\ gX w w' jK := fun {w' x} hx =>
  ⟨hg.ext (x03.trans hx fun y hy h => by omega), r3.ext hx (by omega), bh3.ext hx (by omega), x03.trans hx fun y hy h => by omega⟩
 refine Ox (x := 128) (by decide) (hg.ext x03) hb0 (by omega) (by omega) hS3 fun w4 h4 x4 => ?_
 unfold Bi Bt A8
 obtain ⟨z, hz⟩ : ∃ z, z = (119 - L.length % 64) % 64 := ⟨_, rfl⟩
 refine jW.rule (fun m (t : Unit) w' => ∃ (k all : Nat), m = z - k /\ k <= z /\ all = L.length + 1 + k /\ AA w' q (L ++ [128] ++ List.replicate k 0) all /\ gX w3 w' (fun y => y = q)) z ⟨0, _, rfl, by omega, rfl, by simpa using h4, x4⟩ ?_
 clear h4 x4
 rintro m _ w5 ⟨k, all, rfl, hkz, rfl, h5, x5⟩
 unfold vS
 have hlk : (L ++ [128] ++ List.replicate k (0 : UInt8)).length = L.length + 1 + k := by simp; omega
 have c72 : w5.cell? ⟨q, 72, none⟩ = some (.int .i64 (((L.length + 1 + k) % 64 : Nat) : Int)) := by
  obtain ⟨kp, g2, gk, go⟩ := h5
  rw [go.cell, TA (BL _ _) g2, hlk]
 obtain ⟨hg5, r5, bh5, x05⟩ := keep (x := undef) x5
 by_cases hlt : k < z
 .have d1 : ((((L.length + 1 + k) % 64 : Nat) : Int) != 56) = true := by
   rw [bne_iff_ne]
   have := XZ L.length k (by omega)
   omega
  simp (disch := omega) only [eY, gN, dX, stepR_skip, fP, fZ, fO, gK, gE, gC, gR, gA, eU, fV, fT, gG, fS, fM, fU, fR, fX, gH, fY, fQ, fC, gB, gI, fL, iS, iQ, iO, iR, iM, iN, iP, iU, iT, eP, Result.ok.injEq, Next.value.injEq, true_and, and_true, fK, fJ, gJ, fN, gD, gS, ZV, fE, fH, fF, fD, eZ, eX, fB, eT, eQ, eH, if_true, if_false, ZS, ZY, ZT, ZU, ZX, ZW, ZR, ZQ, eA, dV, aB, dI, dE, cJ, eB, eS, eE, dK, eD, fA, dQ, eN, bQ, dG, bJ, dL, aI, aH, eL, aV, bZ, eI, aF, eJ, dF, aR, bF, eF, bH, bE, bB, aO, aL, cD, fG, dY, cA, cI, dA, cH, dT, bC, eK, bX, dH, bP, aU, bU, aC, bY, bO, cF, bW, aY, bA, aX, bV, dM, cU, bR, aZ, aK, aJ, bG, aE, dC, dW, aN, aM, aT, aD, cY, aG, cL, bT, bD, aP, cM, cG, aA, dN, cQ, cV, cC, dO, cB, dJ, dU, cP, eC, eM, bN, aS, dZ, bS, aQ, bL, dS, dB, cO, cS, cN, bK, bM, cX, dR, cR, dD, cZ, c72, d1]
  refine Ox (x := 0) (by decide) hg5 hb0 (by rw [hlk]; omega) (by omega) h5 fun w6 h6 x6 => ?_
  refine ⟨z - (k + 1), by omega, k + 1, L.length + 1 + (k + 1), rfl, by omega, rfl, ?_, x5.seq x6⟩
  rw [List.replicate_succ', <- aaH]
  exact h6
 have d1 : ((((L.length + 1 + k) % 64 : Nat) : Int) != 56) = false := by
  rw [bne_eq_false_iff_eq]
  have := (XZ L.length k (by omega)).2 (by omega)
  omega
 obtain rfl : k = z := by omega
 simp (disch := omega) only [eY, gN, dX, stepR_skip, fP, fZ, fO, gK, gE, gC, gR, gA, eU, fV, fT, gG, fS, fM, fU, fR, fX, gH, fY, fQ, fC, gB, gI, fL, iS, iQ, iO, iR, iM, iN, iP, iU, iT, eP, Result.ok.injEq, Next.value.injEq, true_and, and_true, fK, fJ, gJ, fN, gD, gS, ZV, fE, fH, fF, fD, eZ, eX, fB, eT, eQ, eH, if_true, if_false, ZS, ZY, ZT, ZU, ZX, ZW, ZR, ZQ, eA, dV, aB, dI, dE, cJ, eB, eS, eE, dK, eD, fA, dQ, eN, bQ, dG, bJ, dL, aI, aH, eL, aV, bZ, eI, aF, eJ, dF, aR, bF, eF, bH, bE, bB, aO, aL, cD, fG, dY, cA, cI, dA, cH, dT, bC, eK, bX, dH, bP, aU, bU, aC, bY, bO, cF, bW, aY, bA, aX, bV, dM, cU, bR, aZ, aK, aJ, bG, aE, dC, dW, aN, aM, aT, aD, cY, aG, cL, bT, bD, aP, cM, cG, aA, dN, cQ, cV, cC, dO, cB, dJ, dU, cP, eC, eM, bN, aS, dZ, bS, aQ, bL, dS, dB, cO, cS, cN, bK, bM, cX, dR, cR, dD, cZ, c72, d1]
 obtain ⟨B, hB⟩ : ∃ B, B = L ++ [128] ++ List.replicate k (0 : UInt8) := ⟨_, rfl⟩
 rw [<- hB] at h5 hlk
 unfold Bd Bm A9 Bg Bj
 refine jW.rule (fun m (t : adW) w' => ∃ (j : Nat), m = 8 - j /\ j <= 8 /\ t = .int .i64 (56 - 8 * (j : Int)) /\ AA w' q (B ++ Wu (8 * L.length) j) (L.length + 1 + k + j) /\ gX w3 w' (fun y => y = q)) 8 ⟨0, rfl, by omega, rfl, by simpa [Wu] using h5, x5⟩ ?_
 clear c72 d1 h5 x5 hg5 r5 bh5 x05 hlt
 rintro m t w6 ⟨j, rfl, hj, rfl, h6, x6⟩
 unfold vT
 obtain ⟨hg6, r6, bh6, x06⟩ := keep (x := undef) x6
 by_cases hlt : j < 8
 .have d1 : decide ((0 : Int) <= 56 - 8 * (j : Int)) = true := by simp; omega
  have c73 : w6.cell? ⟨b, 73, none⟩ = some (.int .u64 (L.length : Nat)) := by
   obtain ⟨kp, g2, gk, go⟩ := bh6
   rw [go.cell, TF (BL _ _) g2]
  have e1 : (8 : Int) * (L.length : Int) = ((8 * L.length : Nat) : Int) := by omega
  have e2 : (56 - 8 * (j : Int)).toNat = 56 - 8 * j := by omega
  have b64 : IntKind.u64.bits = 64 := rfl
  have m1 : min (56 - 8 * j) IntKind.u64.bits = 56 - 8 * j := by rw [b64]; omega
  have e3 := OP (8 * L.length) (56 - 8 * j)
  have e4 : IntKind.u8.wrap ((8 * L.length / 2 ^ (56 - 8 * j) : Nat) : Int) = ((8 * L.length / 2 ^ (56 - 8 * j) % 256 : Nat) : Int) := by
   generalize 8 * L.length / 2 ^ (56 - 8 * j) = y
   rw [show IntKind.u8.wrap (y : Int) = (y : Int) % 256 from rfl]; omega
  have e5 : 56 - 8 * (j : Int) - 8 = 56 - 8 * ((j + 1 : Nat) : Int) := by omega
  have hBl : (B ++ Wu (8 * L.length) j).length = L.length + 1 + k + j := by rw [Z1, hlk, TE]
  simp (disch := omega) only [eY, gN, dX, stepR_skip, fP, fZ, fO, gK, gE, gC, gR, gA, eU, fV, fT, gG, fS, fM, fU, fR, fX, gH, fY, fQ, fC, gB, gI, fL, iS, iQ, iO, iR, iM, iN, iP, iU, iT, eP, Result.ok.injEq, Next.value.injEq, true_and, and_true, fK, fJ, gJ, fN, gD, gS, ZV, fE, fH, fF, fD, eZ, eX, fB, eT, eQ, eH, if_true, if_false, ZS, ZY, ZT, ZU, ZX, ZW, ZR, ZQ, eA, dV, aB, dI, dE, cJ, eB, eS, eE, dK, eD, fA, dQ, eN, bQ, dG, bJ, dL, aI, aH, eL, aV, bZ, eI, aF, eJ, dF, aR, bF, eF, bH, bE, bB, aO, aL, cD, fG, dY, cA, cI, dA, cH, dT, bC, eK, bX, dH, bP, aU, bU, aC, bY, bO, cF, bW, aY, bA, aX, bV, dM, cU, bR, aZ, aK, aJ, bG, aE, dC, dW, aN, aM, aT, aD, cY, aG, cL, bT, bD, aP, cM, cG, aA, dN, cQ, cV, cC, dO, cB, dJ, dU, cP, eC, eM, bN, aS, dZ, bS, aQ, bL, dS, dB, cO, cS, cN, bK, bM, cX, dR, cR, dD, cZ, d1, c73, e1, e2, m1, e3, e4, e5]
  refine Ox (x := 8 * L.length / 2 ^ (56 - 8 * j) % 256) (acU _ (by decide)) hg6 hb0 (by rw [hBl]; omega) (by omega) h6 fun w7 h7 x7 => ?_
  refine ⟨8 - (j + 1), by omega, j + 1, rfl, by omega, rfl, ?_, x6.seq x7⟩
  rw [VG, <- aaH]
  exact h7
 have d1 : decide ((0 : Int) <= 56 - 8 * (j : Int)) = false := by simp; omega
 obtain rfl : j = 8 := by omega
 simp (disch := omega) only [eY, gN, dX, stepR_skip, fP, fZ, fO, gK, gE, gC, gR, gA, eU, fV, fT, gG, fS, fM, fU, fR, fX, gH, fY, fQ, fC, gB, gI, fL, iS, iQ, iO, iR, iM, iN, iP, iU, iT, eP, Result.ok.injEq, Next.value.injEq, true_and, and_true, fK, fJ, gJ, fN, gD, gS, ZV, fE, fH, fF, fD, eZ, eX, fB, eT, eQ, eH, if_true, if_false, ZS, ZY, ZT, ZU, ZX, ZW, ZR, ZQ, eA, dV, aB, dI, dE, cJ, eB, eS, eE, dK, eD, fA, dQ, eN, bQ, dG, bJ, dL, aI, aH, eL, aV, bZ, eI, aF, eJ, dF, aR, bF, eF, bH, bE, bB, aO, aL, cD, fG, dY, cA, cI, dA, cH, dT, bC, eK, bX, dH, bP, aU, bU, aC, bY, bO, cF, bW, aY, bA, aX, bV, dM, cU, bR, aZ, aK, aJ, bG, aE, dC, dW, aN, aM, aT, aD, cY, aG, cL, bT, bD, aP, cM, cG, aA, dN, cQ, cV, cC, dO, cB, dJ, dU, cP, eC, eM, bN, aS, dZ, bS, aQ, bL, dS, dB, cO, cS, cN, bK, bM, cX, dR, cR, dD, cZ, d1]
 have hpad : B ++ Wu (8 * L.length) 8 = US L := by rw [hB, hz] <;> rfl
 rw [hpad] at h6
 have hpl : (US L).length % 64 = 0 := by
  rw [<- hpad, Z1, hlk, TE]
  have := (XZ L.length k (by omega)).2 hz
  omega
 obtain ⟨st, hst⟩ : ∃ st, st = Jc ((US L).length / 64) (US L) := ⟨_, rfl⟩
 have hstl : st.length = 8 := by rw [hst]; exact BL _ _
 have hst32 : CM st := by rw [hst]; exact QI _ _
 have hsha : Sd L = Pv st 32 := by rw [hst] <;> rfl
 obtain ⟨kp, g2, gk, go⟩ := h6
 rw [<- hst] at go
 clear d1 hlt hj hpad gk bh6 hg6
 unfold Cc Ce
 refine Hc fun w7 o7 x7 s7 => ?_
 have o7 : jG w7 w6.heap.size (List.replicate 32 (.int .u8 0)) := o7
 obtain ⟨u, hu⟩ : ∃ u, u = w6.heap.size := ⟨_, rfl⟩
 rw [<- hu] at o7 ⊢
 have q7 := go.ext x7 (fun h => h)
 have r7 := r6.ext x7 (fun h => h)
 have x07 := x06.seq x7
 have hql := go.lt
 have hpl2 := r6.lt
 clear x6 x06 go r6 x7
 unfold Cj Cm Cu Ck Ct
 refine jW.rule (fun m (t : adW) w' => ∃ (i : Nat), m = 32 - i /\ i <= 32 /\ t = .int .i64 (i : Nat) /\ jG w' u ((Pv st i).map oY ++ List.replicate (32 - i) (.int .u8 0)) /\ gX w7 w' (fun y => y = u)) 32 ⟨0, rfl, by omega, rfl, o7, gX.refl _ _⟩ ?_
 clear o7
 rintro m t w8 ⟨i, rfl, hi, rfl, o8, x8⟩
 unfold xC
 have q8 := q7.ext x8 (show ¬ q = u by omega)
 by_cases hlt : i < 32
 .have d1 : decide ((i : Int) < 32) = true := by simp; omega
  have e1 : (i : Int).tdiv 4 = ((i / 4 : Nat) : Int) := by rw [Int.tdiv_eq_ediv_of_nonneg (by omega)]; omega
  have e2 : (i : Int).tmod 4 = ((i % 4 : Nat) : Int) := by rw [Int.tmod_eq_emod_of_nonneg (by omega)]; omega
  have e3 : (24 : Int) - ((i % 4 : Nat) : Int) * 8 = ((24 - i % 4 * 8 : Nat) : Int) := by omega
  have c8 := q8.cell (off := i / 4)
  rw [YT _ (by omega)] at c8
  have b32 : IntKind.u32.bits = 32 := rfl
  have m1 : min (24 - i % 4 * 8) IntKind.u32.bits = 24 - i % 4 * 8 := by rw [b32]; omega
  have e4 := OP (st.getD (i / 4) 0) (24 - i % 4 * 8)
  obtain ⟨y, hy⟩ : ∃ y, y = UInt8.ofNat (st.getD (i / 4) 0 / 2 ^ (24 - i % 4 * 8) % 256) := ⟨_, rfl⟩
  have e5 : IntKind.u8.wrap ((st.getD (i / 4) 0 / 2 ^ (24 - i % 4 * 8) : Nat) : Int) = ((y.toNat : Nat) : Int) := by
   rw [hy, acM]
   generalize st.getD (i / 4) 0 / 2 ^ (24 - i % 4 * 8) = z
   rw [show IntKind.u8.wrap (z : Int) = (z : Int) % 256 from rfl]; omega
  simp (disch := omega) only [eY, gN, dX, stepR_skip, fP, fZ, fO, gK, gE, gC, gR, gA, eU, fV, fT, gG, fS, fM, fU, fR, fX, gH, fY, fQ, fC, gB, gI, fL, iS, iQ, iO, iR, iM, iN, iP, iU, iT, eP, Result.ok.injEq, Next.value.injEq, true_and, and_true, fK, fJ, gJ, fN, gD, gS, ZV, fE, fH, fF, fD, eZ, eX, fB, eT, eQ, eH, if_true, if_false, ZS, ZY, ZT, ZU, ZX, ZW, ZR, ZQ, eA, dV, aB, dI, dE, cJ, eB, eS, eE, dK, eD, fA, dQ, eN, bQ, dG, bJ, dL, aI, aH, eL, aV, bZ, eI, aF, eJ, dF, aR, bF, eF, bH, bE, bB, aO, aL, cD, fG, dY, cA, cI, dA, cH, dT, bC, eK, bX, dH, bP, aU, bU, aC, bY, bO, cF, bW, aY, bA, aX, bV, dM, cU, bR, aZ, aK, aJ, bG, aE, dC, dW, aN, aM, aT, aD, cY, aG, cL, bT, bD, aP, cM, cG, aA, dN, cQ, cV, cC, dO, cB, dJ, dU, cP, eC, eM, bN, aS, dZ, bS, aQ, bL, dS, dB, cO, cS, cN, bK, bM, cX, dR, cR, dD, cZ, d1, e1, e2, e3, c8, m1, e4, e5]
  refine Vv o8 rfl (by rw [Z1, ZZ, L8, aaJ]; omega) fun w9 o9 x9 s9 => ?_
  refine ⟨32 - (i + 1), by omega, i + 1, rfl, by omega, rfl, ?_, x8.seq x9⟩
  have e6 : ((Pv st i).map oY ++ List.replicate (32 - i) (Value.int .u8 0)).set i (.int .u8 (y.toNat : Nat)) = (Pv st (i + 1)).map oY ++ List.replicate (32 - (i + 1)) (.int .u8 0) := by
   rw [abQ _ _ (by rw [ZZ, L8]; omega), ZZ, L8, adQ, show 32 - i = (32 - (i + 1)) + 1 from by omega, List.replicate_succ, aaD, Uv, <- hy, abD, aaH]
   rfl
  rw [e6] at o9
  exact o9
 have d1 : decide ((i : Int) < 32) = false := by simp; omega
 obtain rfl : i = 32 := by omega
 simp (disch := omega) only [eY, gN, dX, stepR_skip, fP, fZ, fO, gK, gE, gC, gR, gA, eU, fV, fT, gG, fS, fM, fU, fR, fX, gH, fY, fQ, fC, gB, gI, fL, iS, iQ, iO, iR, iM, iN, iP, iU, iT, eP, Result.ok.injEq, Next.value.injEq, true_and, and_true, fK, fJ, gJ, fN, gD, gS, ZV, fE, fH, fF, fD, eZ, eX, fB, eT, eQ, eH, if_true, if_false, ZS, ZY, ZT, ZU, ZX, ZW, ZR, ZQ, eA, dV, aB, dI, dE, cJ, eB, eS, eE, dK, eD, fA, dQ, eN, bQ, dG, bJ, dL, aI, aH, eL, aV, bZ, eI, aF, eJ, dF, aR, bF, eF, bH, bE, bB, aO, aL, cD, fG, dY, cA, cI, dA, cH, dT, bC, eK, bX, dH, bP, aU, bU, aC, bY, bO, cF, bW, aY, bA, aX, bV, dM, cU, bR, aZ, aK, aJ, bG, aE, dC, dW, aN, aM, aT, aD, cY, aG, cL, bT, bD, aP, cM, cG, aA, dN, cQ, cV, cC, dO, cB, dJ, dU, cP, eC, eM, bN, aS, dZ, bS, aQ, bL, dS, dB, cO, cS, cN, bK, bM, cX, dR, cR, dD, cZ, d1]
 rw [<- hsha, adQ, List.replicate_zero, abE] at o8
 have hl32 : ((Sd L).map oY).length = 32 := by rw [ZZ, zP]
 unfold xG
 have lo := R1 (off := 0) o8 (by omega)
 rw [abT, Z3 (by omega)] at lo
 have r8 := r7.ext x8 (show ¬ p = u by omega)
 simp (disch := omega) only [eY, gN, dX, stepR_skip, fP, fZ, fO, gK, gE, gC, gR, gA, eU, fV, fT, gG, fS, fM, fU, fR, fX, gH, fY, fQ, fC, gB, gI, fL, iS, iQ, iO, iR, iM, iN, iP, iU, iT, eP, Result.ok.injEq, Next.value.injEq, true_and, and_true, fK, fJ, gJ, fN, gD, gS, ZV, fE, fH, fF, fD, eZ, eX, fB, eT, eQ, eH, if_true, if_false, ZS, ZY, ZT, ZU, ZX, ZW, ZR, ZQ, eA, dV, aB, dI, dE, cJ, eB, eS, eE, dK, eD, fA, dQ, eN, bQ, dG, bJ, dL, aI, aH, eL, aV, bZ, eI, aF, eJ, dF, aR, bF, eF, bH, bE, bB, aO, aL, cD, fG, dY, cA, cI, dA, cH, dT, bC, eK, bX, dH, bP, aU, bU, aC, bY, bO, cF, bW, aY, bA, aX, bV, dM, cU, bR, aZ, aK, aJ, bG, aE, dC, dW, aN, aM, aT, aD, cY, aG, cL, bT, bD, aP, cM, cG, aA, dN, cQ, cV, cC, dO, cB, dJ, dU, cP, eC, eM, bN, aS, dZ, bS, aQ, bL, dS, dB, cO, cS, cN, bK, bM, cX, dR, cR, dD, cZ, lo]
 refine Jd r8 (by rw [acB, hl32]) (fun y hy => Fx _ y (by simpa using hy)) (by simp) fun w9 o9 x9 s9 => ?_
 rw [aaT, Ha _ _ (by rw [hl32]; simp)] at o9
 refine Jt o9 (by omega) ?_
 rw [abT, Z3 (by omega), hRR]
 exact ⟨rfl, (x07.trans x8 fun y hy h => by omega).trans x9 fun y hy h => by omega⟩
theorem WB {l : List UInt8} {v : adW} {w : adV} (hg : rD w) (hv : Bs w v l) (hl : l.length <= 1000000000) :
 gU pg IJ #[v] w (fun r w' => r = .agg ((Sd l).map oY).toArray /\ gX w w' jK) := by
 refine Re ?_
 unfold Vf MH
 refine Hc fun w1 o1 x1 s1 => ?_
 have o1 : jG w1 w.heap.size (List.replicate 32 (.int .u8 0)) := o1
 obtain ⟨hg0, hg1⟩ := hg.lt
 refine (VA w1).mono ?_
 rintro r w2 ⟨rfl, h2, x2, s2⟩
 have hv2 := hv.ext (x1.seq x2) (jJ _)
 have hnb : ¬ wB v (fun y => y = w1.heap.size) := fun h => hv.old (Aw h fun b hb => by omega)
 refine (Pa (L := []) (l := l) (hg.ext (x1.seq x2)) ⟨by omega, by omega⟩ (by simp; omega) (by omega) h2 hv2 hnb).mono ?_
 rintro r w3 ⟨rfl, h3, x3⟩
 rw [aaF, ZY] at h3
 have x03 : gX w w3 jK := (x1.seq x2).trans x3 fun y hy h => by omega
 refine (Vy (hg.ext x03) hl h3).mono ?_
 rintro r w4 ⟨rfl, x4⟩
 have hl32 : ((Sd l).map oY).length = 32 := by rw [ZZ, zP]
 have r4 := ((o1.ext x2 (fun h => h)).ext x3 (by omega)).ext x4 (fun h => h)
 refine Jd r4 (by rw [acB, hl32]) (fun y hy => Fx _ y (by simpa using hy)) (by simp) fun w5 o5 x5 s5 => ?_
 rw [aaT, Ha _ _ (by rw [hl32]; simp)] at o5
 refine Jt o5 (by omega) ?_
 rw [abT, Z3 (by omega)]
 exact ⟨rfl, (x03.seq x4).trans x5 fun y hy h => by omega⟩
end Go.Proofs.YteelnmpbnaohpaaDoor
namespace Go.Pu
section
variable {κ β : Type} [DecidableEq κ]
def jE (k : κ) : List (κ × β) -> Option β
 | [] => none
 | p :: r => if k = p.1 then some p.2 else jE k r
def pR (k : κ) (v : β) : List (κ × β) -> List (κ × β)
 | [] => [(k, v)]
 | p :: r => if k = p.1 then (k, v) :: r else p :: pR k v r
def CS (k : κ) : List (κ × β) -> List (κ × β)
 | [] => []
 | p :: r => if k = p.1 then r else p :: CS k r
theorem OE (k j : κ) (v : β) : ∀ l : List (κ × β), jE j (pR k v l) = if j = k then some v else jE j l := by
 intro l
 induction l with
 | nil => simp only [pR, jE]
 | cons p r ih =>
   simp only [pR]
   by_cases h : k = p.1
   .rw [if_pos h]
    simp only [jE]
    by_cases hj : j = k
    .rw [if_pos hj, if_pos hj]
    .rw [if_neg hj, if_neg hj, if_neg (fun e => hj (e.trans h.symm))]
   .rw [if_neg h]
    simp only [jE, ih]
    by_cases hj : j = p.1
    .rw [if_pos hj, if_pos hj, if_neg (fun e => h (e.symm.trans hj))]
    .rw [if_neg hj, if_neg hj]
theorem Qa {k : κ} : ∀ {l : List (κ × β)}, k ∉ l.map (·.1) -> jE k l = none
 | [], _ => rfl
 | p :: r, h => by
   rw [Z6, aaR, not_or] at h
   rw [jE, if_neg h.1, Qa h.2]
theorem RB {k j : κ} : ∀ {l : List (κ × β)}, (l.map (·.1)).Nodup -> jE j (CS k l) = if j = k then none else jE j l
 | [], _ => by simp [CS, jE]
 | p :: r, h => by
   rw [Z6, acF] at h
   simp only [CS]
   by_cases hk : k = p.1
   .rw [if_pos hk]
    simp only [jE]
    by_cases hj : j = k
    .rw [if_pos hj, hj, hk, Qa h.1]
    .rw [if_neg hj, if_neg (fun e => hj (e.trans hk.symm))]
   .rw [if_neg hk]
    simp only [jE, RB h.2]
    by_cases hj : j = p.1
    .rw [if_pos hj, if_pos hj, if_neg (fun e => hk (e.symm.trans hj))]
    .rw [if_neg hj, if_neg hj]
theorem PV {k : κ} {v : β} {x : κ} : ∀ {l : List (κ × β)}, x ∈ (pR k v l).map (·.1) -> x = k ∨ x ∈ l.map (·.1)
 | [], h => by simp [pR] at h; exact .inl h
 | p :: r, h => by
   simp only [pR] at h
   split at h
   .rename_i e
    rw [Z6, aaR] at h
    rcases h with h | h
    .exact .inl h
    .exact .inr (by rw [Z6]; exact Z7 _ h)
   .rw [Z6, aaR] at h
    rcases h with h | h
    .exact .inr (by rw [Z6, h]; exact abH)
    .rcases PV h with h | h
     .exact .inl h
     .exact .inr (by rw [Z6]; exact Z7 _ h)
theorem Dz {k : κ} {v : β} : ∀ {l : List (κ × β)}, (l.map (·.1)).Nodup -> ((pR k v l).map (·.1)).Nodup
 | [], _ => by simp [pR]
 | p :: r, h => by
   rw [Z6, acF] at h
   simp only [pR]
   split
   .rename_i e
    rw [Z6, acF]
    exact ⟨fun hm => h.1 (e ▸ hm), h.2⟩
   .rename_i e
    rw [Z6, acF]
    refine ⟨fun hm => ?_, Dz h.2⟩
    rcases PV hm with h1 | h1
    .exact e h1.symm
    .exact h.1 h1
end
abbrev sW := List (ByteArray × List UInt8)
def iY (c : sW) : Nat := (c.map fun p => p.2.length).sum
theorem vP (k : ByteArray) (b : List UInt8) : ∀ c : sW, iY (pR k b c) + ((jE k c).getD []).length = iY c + b.length
 | [] => by simp [pR, jE, iY]
 | p :: r => by
   have ih := vP k b r
   simp only [pR, jE]
   split
   .simp [iY]; omega
   .unfold iY at *
    rw [Z6, Z6, acY, acY]; omega
theorem FJ (k : ByteArray) : ∀ c : sW, iY (CS k c) + ((jE k c).getD []).length = iY c
 | [] => by simp [CS, jE, iY]
 | p :: r => by
   have ih := FJ k r
   simp only [CS, jE]
   split
   .simp [iY]; omega
   .unfold iY at *
    rw [Z6, Z6, acY, acY]; omega
theorem RY {c : sW} {j : Nat} (h : j < c.length) : iY (c.eraseIdx j) + c[j].2.length = iY c := by
 induction c generalizing j with
 | nil => simp at h
 | cons p r ih =>
   cases j with
   | zero => simp [iY]; omega
   | succ j =>
     have := ih (j := j) (by simpa using h)
     unfold iY at *
     rw [abJ, Z6, Z6, acY, acY, List.getElem_cons_succ]; omega
theorem Br {k : ByteArray} {c : sW} : ((jE k c).getD []).length <= iY c := by have := FJ k c; omega
structure RZ where
 kind : Nat
 name : ByteArray
 other : ByteArray
 at' : Nat
 bytes : List UInt8
def over (old : List UInt8) (a : Nat) (b : List UInt8) : List UInt8 := (old ++ List.replicate (max old.length (a + b.length) - old.length) 0).take a ++ b ++ (old ++ List.replicate (max old.length (a + b.length) - old.length) 0).drop (a + b.length)
theorem Jj (old : List UInt8) (a : Nat) (b : List UInt8) : (over old a b).length = max old.length (a + b.length) := by
 unfold over
 simp only [Z1, aaB, Z9, aaJ]; omega
def NU (o : RZ) (c : sW) : sW :=
 if o.kind = 0 then pR o.name (over ((jE o.name c).getD []) o.at' o.bytes) c
 else if o.kind = 1 then match jE o.name c with
  | none => c
  | some old => pR o.other old (CS o.name c)
 else if o.kind = 2 then CS o.name c else c
def Fv : List UInt8 -> Nat
 | [] => 0
 | c :: l => c.toNat + 256 * Fv l
theorem GZ : ∀ l : List UInt8, Fv l < 256 ^ l.length
 | [] => by simp [Fv]
 | c :: l => by
   have := GZ l
   have hc := c.toNat_lt
   rw [Fv, aaK, Nat.pow_succ]; omega
theorem PW (c : UInt8) : ∀ l : List UInt8, Fv (l ++ [c]) = Fv l + 256 ^ l.length * c.toNat
 | [] => by simp [Fv]
 | d :: l => by
   rw [acV, Fv, PW c l, Fv, aaK, Nat.pow_succ, acN, acI, Nat.mul_comm (256 ^ l.length) 256, Nat.mul_assoc]
theorem SQ (i : Nat) : 256 ^ i = 2 ^ (8 * i) := by rw [Nat.pow_mul]
theorem Xf (l : List UInt8) (c : UInt8) : Fv l ||| (c.toNat * 2 ^ (8 * l.length)) = Fv (l ++ [c]) := by
 have := GZ l
 rw [SQ] at this
 rw [X9 this, PW, SQ]
def Bh (x : Nat) : Nat -> List UInt8
 | 0 => []
 | n + 1 => UInt8.ofNat (x % 256) :: Bh (x / 256) n
theorem lB : ∀ (n x : Nat), (Bh x n).length = n
 | 0, _ => rfl
 | n + 1, x => by rw [Bh, aaK, lB n]
theorem Mw : ∀ (n x : Nat), Fv (Bh x n) = x % 256 ^ n
 | 0, x => by simp [Bh, Fv, Nat.mod_one]
 | n + 1, x => by
   rw [Bh, Fv, Mw n, Nat.pow_succ, Nat.mul_comm (256 ^ n) 256, Nat.mod_mul]
   have : (UInt8.ofNat (x % 256)).toNat = x % 256 := by
    rw [acM]; omega
   rw [this]
theorem PS : ∀ (n x : Nat), Bh x (n + 1) = Bh x n ++ [UInt8.ofNat (x / 256 ^ n % 256)]
 | 0, x => by simp [Bh]
 | n + 1, x => by
   rw [Bh, PS n (x / 256), Bh, acV, Nat.div_div_eq_div_mul, Nat.pow_succ, Nat.mul_comm (256 ^ n) 256]
section
variable (cf : List UInt8 -> Nat)
def KS (k v : Nat) : List UInt8 := Bh k 1 ++ Bh v 8
def tJ (k v : Nat) : List UInt8 := KS k v ++ Bh (cf (KS k v)) 4
theorem rG (k v : Nat) : (tJ cf k v).length = 13 := by
 unfold tJ KS
 rw [Z1, Z1, lB, lB, lB]
def Wt (p : List UInt8) : Nat := Fv (p.take 1)
def VM (p : List UInt8) : Nat := if p.length < 9 then 0 else Fv ((p.drop 1).take 8)
def Km (p : List UInt8) : Bool := (Wt p == 1 || Wt p == 2) && tJ cf (Wt p) (VM p) == p
def HW : Nat -> List UInt8 -> List (Nat × Nat)
 | 0, _ => []
 | n + 1, b => if b = [] then [] else if Km cf (b.take 13) then (Wt (b.take 13), VM (b.take 13)) :: HW n (b.drop 13) else []
def mO (b : List UInt8) : List (Nat × Nat) := HW cf b.length b
def nM (l : List (Nat × Nat)) : List UInt8 := (l.map fun r => tJ cf r.1 r.2).flatten
theorem mT : ∀ l : List (Nat × Nat), (nM cf l).length = 13 * l.length
 | [] => rfl
 | r :: l => by
   have := mT l
   unfold nM at *
   rw [Z6, List.flatten_cons, Z1, rG, this, aaK]; omega
theorem MO {p : List UInt8} (h : Km cf p = true) : p.length = 13 := by
 unfold Km at h
 simp only [Z4, beq_iff_eq] at h
 rw [<- h.2, rG]
theorem R2 {k : Nat} (v : Nat) (hk : k < 256) : Wt (tJ cf k v) = k := by
 have e : (tJ cf k v).take 1 = Bh k 1 := by
  unfold tJ KS
  rw [aaH, aaM (by rw [lB]; omega), Z3 (by rw [lB]; omega)]
 unfold Wt
 rw [e, Mw]; omega
theorem Rt (k : Nat) {v : Nat} (hv : v < 2 ^ 64) : VM (tJ cf k v) = v := by
 have e : ((tJ cf k v).drop 1).take 8 = Bh v 8 := by
  unfold tJ KS
  rw [aaH, aaP (by rw [lB]; omega), abW (by rw [lB]; omega), aaF,
    aaM (by rw [lB]; omega), Z3 (by rw [lB]; omega)]
 unfold VM
 rw [if_neg (by rw [rG]; omega), e, Mw]
 exact abS (by omega)
def UI (r : Nat × Nat) : Prop := (r.1 = 1 ∨ r.1 = 2) /\ r.2 < 2 ^ 64
theorem SH {k v : Nat} (h : UI (k, v)) : Km cf (tJ cf k v) = true := by
 obtain ⟨hk, hv⟩ := h
 have hk : k = 1 ∨ k = 2 := hk
 unfold Km
 rw [R2 cf v (by omega), Rt cf k hv]
 simp; omega
theorem QQ : ∀ (n : Nat) (b : List UInt8), ∀ r ∈ HW cf n b, UI r
 | 0, b, r, h => by simp [HW] at h
 | n + 1, b, r, h => by
   rw [HW] at h
   split at h
   .simp at h
   .split at h
    .rename_i hg
     rcases aaR.1 h with rfl | h
     .have hl := MO cf hg
      unfold Km at hg
      simp only [Z4, abC, beq_iff_eq] at hg
      refine ⟨hg.1, ?_⟩
      show VM _ < _
      unfold VM
      split
      .omega
      .have := GZ (((b.take 13).drop 1).take 8)
       refine acD this ?_
       rw [show (2 : Nat) ^ 64 = 256 ^ 8 from by decide]
       exact adT (by omega) (by rw [aaB]; omega)
     .exact QQ n _ r h
    .simp at h
theorem O2 : ∀ (n : Nat) (b : List UInt8), 13 * (HW cf n b).length <= b.length
 | 0, b => by simp [HW]
 | n + 1, b => by
   rw [HW]
   split
   .simp
   .split
    .rename_i hg
     have := O2 n (b.drop 13)
     have hl := MO cf hg
     rw [aaB] at hl
     rw [Z9] at this
     rw [aaK]; omega
    .simp
theorem PN : ∀ (l : List (Nat × Nat)) (n : Nat), (∀ r ∈ l, UI r) -> 13 * l.length <= n -> HW cf n (nM cf l) = l
 | [], n, _, _ => by cases n <;> simp [HW, nM]
 | r :: l, 0, _, h => by simp at h
 | r :: l, n + 1, hl, h => by
   have e : nM cf (r :: l) = tJ cf r.1 r.2 ++ nM cf l := rfl
   have h13 := rG cf r.1 r.2
   have h1 : (nM cf (r :: l)).take 13 = tJ cf r.1 r.2 := by rw [e, aaM (by omega), Z3 (by omega)]
   have h2 : (nM cf (r :: l)).drop 13 = nM cf l := by rw [e, aaP (by omega), abW (by omega), aaF]
   have hne : nM cf (r :: l) ≠ [] := fun h => by have := congrArg List.length h; rw [mT] at this; simp at this
   have ho : UI r := hl r abH
   rw [aaK] at h
   rw [HW, if_neg hne, h1, h2, SH cf ho, if_pos rfl, R2 cf _ (by have := ho.1; omega), Rt cf _ ho.2, PN l n (fun r hr => hl r (Z7 _ hr)) (by omega)]
theorem UW {l : List (Nat × Nat)} (hl : ∀ r ∈ l, UI r) : mO cf (nM cf l) = l := PN cf l _ hl (by rw [mT]; omega)
theorem SG (l : List (Nat × Nat)) (r : Nat × Nat) : nM cf (l ++ [r]) = nM cf l ++ tJ cf r.1 r.2 := by
 unfold nM
 rw [abD, List.flatten_append]
 simp
end
def kB (k : Nat) : List (Nat × Nat) -> Nat
 | [] => 0
 | r :: l => if r.1 = k then max r.2 (kB k l) else kB k l
theorem KO (k : Nat) (r : Nat × Nat) : ∀ l, kB k (l ++ [r]) = if r.1 = k then max r.2 (kB k l) else kB k l
 | [] => rfl
 | s :: l => by
   rw [acV, kB, KO k r l, kB]
   split <;> split <;> omega
theorem R8 {k : Nat} : ∀ {l : List (Nat × Nat)}, (∀ r ∈ l, UI r) -> kB k l < 2 ^ 64
 | [], _ => by unfold kB; omega
 | r :: l, h => by
   have h1 := R8 (k := k) (l := l) fun r hr => h r (Z7 _ hr)
   have h2 := (h r abH).2
   rw [kB]
   split <;> omega
def mM (L k : Nat) : Nat := if 0 < L % k then L / k + 1 else L / k
theorem Au {L k i : Nat} (hk : 0 < k) : i < mM L k ↔ k * i < L := by
 unfold mM
 have h1 := Nat.div_add_mod L k
 have h2 := acU L hk
 generalize L / k = q at *
 generalize L % k = r at *
 split
 .constructor
  .intro h
   have : k * i <= k * q := acC _ (by omega)
   omega
  .intro h
   by_cases h3 : i < q + 1
   .exact h3
   .have : k * (q + 1) <= k * i := acC _ (by omega)
    rw [acN] at this; omega
 .constructor
  .intro h
   have : k * (i + 1) <= k * q := acC _ (by omega)
   rw [acN] at this; omega
  .intro h
   by_cases h3 : i < q
   .exact h3
   .have : k * q <= k * i := acC _ (by omega)
    omega
theorem Lq {L k : Nat} (hk : 0 < k) : mM L k <= L := by
 by_cases h : mM L k = 0
 .omega
 .have := (Au (i := mM L k - 1) (L := L) hk).1 (by omega)
  have h2 : 1 * (mM L k - 1) <= k * (mM L k - 1) := Nat.mul_le_mul_right _ hk
  omega
def IX (L k i : Nat) : Nat := min (L - k * i) k
def yP (L k i : Nat) (b : List UInt8) : List UInt8 := (b.drop (k * i)).take (IX L k i)
theorem NP {L k i j : Nat} {b : List UInt8} : (yP L k i b)[j]? = if j < IX L k i then b[k * i + j]? else none := by
 unfold yP
 rw [List.getElem?_take]
 split
 .rw [acK]
 .rfl
theorem G1 {L k i : Nat} {b : List UInt8} (h : b.length = L) : (yP L k i b).length = IX L k i := by
 unfold yP IX
 rw [aaB, Z9]; omega
theorem Yi {L k i : Nat} {b f : List UInt8} (h : ∀ j, j < IX L k i -> b[k * i + j]? = f[k * i + j]?) : yP L k i b = yP L k i f := by
 apply acO
 intro j
 rw [NP, NP]
 split
 .exact h j (by assumption)
 .rfl
theorem WT {L k i j : Nat} {b f : List UInt8} (h : yP L k i b = yP L k i f) (hj : j < IX L k i) : b[k * i + j]? = f[k * i + j]? := by
 have := congrArg (fun l => l[j]?) h
 simp only [NP, if_pos hj] at this
 exact this
theorem T2 {L k : Nat} {b f : List UInt8} (hk : 0 < k) (hb : b.length = L) (hf : f.length = L) (h : ∀ i, i < mM L k -> yP L k i b = yP L k i f) : b = f := by
 apply acO
 intro j
 by_cases hj : j < L
 .have h1 := Nat.div_add_mod j k
  have h2 := acU j hk
  have h3 := WT (h (j / k) ((Au hk).2 (by omega))) (j := j % k) (by unfold IX; omega)
  rw [h1] at h3
  exact h3
 .rw [aaZ (by omega), aaZ (by omega)]
theorem Xa {old b : List UInt8} {a : Nat} (h : a + b.length <= old.length) : over old a b = old.take a ++ b ++ old.drop (a + b.length) := by
 unfold over
 rw [show max old.length (a + b.length) - old.length = 0 from by omega, List.replicate_zero, abE]
theorem Q3 {old b : List UInt8} {a j : Nat} (h : a + b.length <= old.length) : (over old a b)[j]? = if a <= j /\ j < a + b.length then b[j - a]? else old[j]? := by
 rw [Xa h]
 by_cases h1 : j < a
 .rw [if_neg (by omega), aaH, aaO (by rw [aaB]; omega), abR h1]
 .by_cases h2 : j < a + b.length
  .rw [if_pos ⟨by omega, h2⟩, aaH, abA (by rw [aaB]; omega), aaB, aaQ (by omega), aaO (by omega)]
  .rw [if_neg (by omega), abA (by rw [Z1, aaB]; omega), Z1, aaB, aaQ (by omega), acK]
   congr 1; omega
theorem EM {L k i : Nat} (h : k * i < L) : k * i + IX L k i <= L := by unfold IX; omega
theorem Pf {L k i : Nat} {P f : List UInt8} (hP : P.length = L) (hf : f.length = L) (hi : k * i < L) : yP L k i (over P (k * i) (yP L k i f)) = yP L k i f := by
 have hl := G1 (k := k) (i := i) hf
 have he := EM hi
 apply acO
 intro j
 rw [NP]
 by_cases h : j < IX L k i
 .rw [if_pos h, Q3 (by omega), if_pos (by omega), show k * i + j - k * i = j from by omega]
 .rw [if_neg h, aaZ (by omega)]
theorem NX {L k i i' : Nat} {P f : List UInt8} (hP : P.length = L) (hf : f.length = L) (hi : k * i < L) (hne : i' ≠ i) : yP L k i' (over P (k * i) (yP L k i f)) = yP L k i' P := by
 have hl := G1 (k := k) (i := i) hf
 have he := EM hi
 apply Yi
 intro j hj
 rw [Q3 (by omega), if_neg]
 intro h
 have hs : j < k := by unfold IX at hj; omega
 have hs2 : IX L k i <= k := by unfold IX; omega
 rcases Nat.lt_or_gt_of_ne hne with h1 | h1
 .have : k * (i' + 1) <= k * i := acC _ h1
  rw [acN] at this; omega
 .have : k * (i + 1) <= k * i' := acC _ h1
  rw [acN] at this; omega
theorem Vp (n : Nat) : over [] 0 (List.replicate n 0) = List.replicate n 0 := by
 unfold over
 simp
theorem Wd {old b : List UInt8} : over old old.length b = old ++ b := by
 unfold over
 rw [show max old.length (old.length + b.length) - old.length = b.length from by omega, aaM (Z8 _), Z3 (Z8 _), abW (by rw [Z1, aaJ]; omega), abE]
end Go.Pu
namespace Go.En
open Go Go.ChangeShapes Go.WideShapes Go.ChangeAt Go.RowKit
theorem Pm {H : Type} {enc : TypeId × adW -> H} {P : Program} (hl : laidOutB P = true) {W W' : adV} (hb : Below W.heap.size W W') : ∀ (ts : List TypeId) (vs : List adW) (ds : List (DataW H)) (ps : List MemPlace),
 (ts.all fun t => P.readableRec t && decide (t < P.types.size)) = true -> DataW.TrodAll enc P W 0 (fun _ => true) true ts vs ds ps -> (∀ x ∈ ps, x.block < W.heap.size) →
 DataW.TrodAll enc P W' 0 (fun b => decide (b < W.heap.size)) true ts vs ds ps := by
 intro ts
 induction ts with
 | nil =>
   intro vs ds ps _ h _
   cases vs <;> cases ds <;> simp [DataW.TrodAll] at h ⊢
   exact h
 | cons t ts ih =>
   intro vs ds ps hr h hlt
   cases vs with
   | nil => simp [DataW.TrodAll] at h
   | cons v vs =>
     cases ds with
     | nil => simp [DataW.TrodAll] at h
     | cons d ds =>
       obtain ⟨p, q, h1, h2, rfl⟩ := h
       rw [List.all_cons, Z4, Z4, decide_eq_true_eq] at hr
       exact ⟨p, q, Below.trod hl hr.1.1 hr.1.2 h1 hb (fun x hx => hlt x (acA _ hx)), ih _ _ _ hr.2 h2 (fun x hx => hlt x (acQ _ hx)), rfl⟩
theorem Wj {H : Type} {enc : TypeId × adW -> H} {P : Program} {f : Func} {s : ChangeSpec} {apart fresh handsOn : Bool} {tb : TypeId} {W W' : adV} {args : Array adW} {ds gs : List (DataW H)} {before : List MemPlace}
 (hl : laidOutB P = true) (hr : (f.params.toList.all fun t => P.readableRec t && decide (t < P.types.size)) = true) (hres : f.resultTypes = #[tb]) (hbool : P.underlying tb = some .bool)
 (hW : DataW.Whole enc P f.params.toList s.vars apart W args.toList ds gs before) (hvars : s.vars = []) (h1 : (s.fn H (ds ++ gs)).results = [.lit (.bool true)]) (h2 : (s.fn H (ds ++ gs)).args = ds) (h3 : (s.fn H (ds ++ gs)).vars = [])
 (hx : gX W W' jK) : s.post enc P f apart fresh handsOn false W args (.bool true) W' := by
 have hb := hx.below
 have hlt : ∀ x ∈ before, x.block < W.heap.size := fun x hx => hW.lt x hx
 have hW' := hW
 obtain ⟨p, q, hA, hV, rfl, _, _⟩ := hW
 rw [hvars] at hV
 obtain ⟨_, rfl⟩ := trodVars_none hV
 rw [abE] at hW' hlt
 refine ⟨ds, gs, p, [], p, [], hW', ?_, ?_, ?_, hb.frame _, fun h => by cases h⟩
 .rw [h1, hres]
  exact trodAll_cons_mk (shut_bool hbool _) trodAll_mk0
 .rw [h2]; exact Pm hl hb _ _ _ _ hr hA hlt
 .rw [h3, hvars] <;> rfl
theorem Wx {H : Type} {enc : TypeId × adW -> H} {P : Program} {W : adV} {base b0 : Nat} {r : Reach} {sp : Nat -> Bool} {hd : Bool} {t e : TypeId} {k : IntKind} {v : adW} {d : DataW H} {ps : List MemPlace} (ht : P.underlying t = some (.slice e)) (he : P.underlying e = some (.int k)) (hc : P.cellsOf e = 1)
 (hval : Value.okWide P W r b0 t v) (h : DataW.Trod enc P W base sp hd t v d ps) :
 ∃ zs : List Int, Sl W v (zs.map (Value.int k)) /\ zs.length <= 9223372036854775807 /\ ∀ z ∈ zs, (Lit.int k z).wf = true := by
 obtain ⟨a0, len, cap, rfl⟩ := okWide_slice ht hval
 obtain ⟨fuel, hf⟩ := h
 rcases open_ints ht he hc hf with ⟨hcs, -⟩ | ⟨a, len', cap', zs, hcs, _, hl, hm, hz, -, hcell, hwz⟩
 .have : Value.slice a0 len cap = .slice none 0 0 := by simpa [Value.cells] using hcs
  cases this
  exact ⟨[], ⟨none, 0, 0, rfl, rfl, Z8 _, fun h => absurd h (by simp)⟩, by simp, by simp⟩
 .have : Value.slice a0 len cap = .slice (some a) len' cap' := by simpa [Value.cells] using hcs
  cases this
  unfold maxLen at hm
  have hle : len <= zs.length := by rw [hz]; split <;> omega
  refine ⟨zs.take len, ⟨some a, len, cap, rfl, by rw [ZZ, aaB]; omega, hl, fun h0 => ?_⟩, by rw [aaB]; omega, fun z hz => hwz z (adP hz)⟩
  obtain ⟨b, off, spot⟩ := a
  have hs : spot = none := by
   have h0 := hcell 0 (by omega)
   unfold World.cell? at h0
   split at h0
   .cases spot
    .rfl
    .simp [Addr.add] at h0
   .cases h0
  subst hs
  refine ⟨b, off, rfl, fun i hi => ?_⟩
  rw [<- Cd, hcell i (by omega), aaV, abR hi, Z5, Z0 (by omega)]
  rfl
theorem Vt (zs : List Int) (h : ∀ z ∈ zs, (Lit.int .u8 z).wf = true) : ∃ l : List UInt8, zs.map (Value.int .u8) = l.map oY /\ l.length = zs.length := by
 refine ⟨zs.map fun z => UInt8.ofNat z.toNat, ?_, by simp⟩
 rw [List.map_map]
 refine abF fun z hz => ?_
 have := h z hz
 have hx : 0 <= z /\ z <= 255 := by simpa [Lit.wf, IntKind.min, IntKind.max, IntKind.signed, IntKind.bits] using this
 show _ = oY (UInt8.ofNat z.toNat)
 unfold oY
 rw [acM]
 congr 1
 omega
end Go.En
namespace Go.Proofs.YteelnmpbnaohpaaDoor
open Go Go.En Go.Pu
set_option maxRecDepth 4000
theorem QS {L k : Nat} {w : adV} (hL : L <= 1000000000000) (h1 : 1 <= k) (h2 : k <= 65536) :
 gU pg rY #[.int .u64 (L : Nat), .int .i64 (k : Nat)] w (fun r w' => r = (if 1024 < mM L k then .tuple #[.int .i64 0, .int .i64 12] else .tuple #[.int .i64 (mM L k : Nat), .int .i64 0]) /\ w' = w) := by
 refine Mr ?_
 unfold Nr DO Db
 have d1 : decide ((k : Int) < 1) = false := by simp; omega
 have d2 : decide ((65536 : Int) < (k : Int)) = false := by simp; omega
 have e1 : (L : Int).tdiv (k : Int) = ((L / k : Nat) : Int) := rfl
 have e2 : (L : Int).tmod (k : Int) = ((L % k : Nat) : Int) := rfl
 have hq : L / k <= L := Nat.div_le_self _ _
 have hm := acU L (show 0 < k by omega)
 have hc : mM L k = if 0 < L % k then L / k + 1 else L / k := rfl
 generalize L / k = q at *
 generalize L % k = r at *
 by_cases hr : 0 < r
 .rw [if_pos hr] at hc
  have d3 : decide ((0 : Int) < (r : Int)) = true := by simp only [decide_eq_true_eq]; omega
  have e3 : (q : Int) + 1 = ((q + 1 : Nat) : Int) := by omega
  rw [hc]
  by_cases hb : 1024 < q + 1
  .have d4 : decide ((1024 : Int) < ((q + 1 : Nat) : Int)) = true := by simp only [decide_eq_true_eq]; omega
   rw [if_pos hb]
   unfold oU
   simp (disch := omega) only [eY, gN, dX, stepR_skip, fP, fZ, fO, gK, gE, gC, gR, gA, eU, fV, fT, gG, fS, fM, fU, fR, fX, gH, fY, fQ, fC, gB, gI, fL, iS, iQ, iO, iR, iM, iN, iP, iU, iT, eP, Result.ok.injEq, Next.value.injEq, true_and, and_true, fK, fJ, gJ, fN, gD, gS, ZV, fE, fH, fF, fD, eZ, eX, fB, eT, eQ, eH, if_true, if_false, ZS, ZY, ZT, ZU, ZX, ZW, ZR, ZQ, eA, dV, aB, dI, dE, cJ, eB, eS, eE, dK, eD, fA, dQ, eN, bQ, dG, bJ, dL, aI, aH, eL, aV, bZ, eI, aF, eJ, dF, aR, bF, eF, bH, bE, bB, aO, aL, cD, fG, dY, cA, cI, dA, cH, dT, bC, eK, bX, dH, bP, aU, bU, aC, bY, bO, cF, bW, aY, bA, aX, bV, dM, cU, bR, aZ, aK, aJ, bG, aE, dC, dW, aN, aM, aT, aD, cY, aG, cL, bT, bD, aP, cM, cG, aA, dN, cQ, cV, cC, dO, cB, dJ, dU, cP, eC, eM, bN, aS, dZ, bS, aQ, bL, dS, dB, cO, cS, cN, bK, bM, cX, dR, cR, dD, cZ, d1, d2, e1, e2, d3, e3, d4]
  .have d4 : decide ((1024 : Int) < ((q + 1 : Nat) : Int)) = false := by simp only [decide_eq_false_iff_not]; omega
   rw [if_neg hb]
   unfold oU
   simp (disch := omega) only [eY, gN, dX, stepR_skip, fP, fZ, fO, gK, gE, gC, gR, gA, eU, fV, fT, gG, fS, fM, fU, fR, fX, gH, fY, fQ, fC, gB, gI, fL, iS, iQ, iO, iR, iM, iN, iP, iU, iT, eP, Result.ok.injEq, Next.value.injEq, true_and, and_true, fK, fJ, gJ, fN, gD, gS, ZV, fE, fH, fF, fD, eZ, eX, fB, eT, eQ, eH, if_true, if_false, ZS, ZY, ZT, ZU, ZX, ZW, ZR, ZQ, eA, dV, aB, dI, dE, cJ, eB, eS, eE, dK, eD, fA, dQ, eN, bQ, dG, bJ, dL, aI, aH, eL, aV, bZ, eI, aF, eJ, dF, aR, bF, eF, bH, bE, bB, aO, aL, cD, fG, dY, cA, cI, dA, cH, dT, bC, eK, bX, dH, bP, aU, bU, aC, bY, bO, cF, bW, aY, bA, aX, bV, dM, cU, bR, aZ, aK, aJ, bG, aE, dC, dW, aN, aM, aT, aD, cY, aG, cL, bT, bD, aP, cM, cG, aA, dN, cQ, cV, cC, dO, cB, dJ, dU, cP, eC, eM, bN, aS, dZ, bS, aQ, bL, dS, dB, cO, cS, cN, bK, bM, cX, dR, cR, dD, cZ, d1, d2, e1, e2, d3, e3, d4]
 .rw [if_neg hr] at hc
  have d3 : decide ((0 : Int) < (r : Int)) = false := by simp only [decide_eq_false_iff_not]; omega
  rw [hc]
  by_cases hb : 1024 < q
  .have d4 : decide ((1024 : Int) < (q : Int)) = true := by simp only [decide_eq_true_eq]; omega
   rw [if_pos hb]
   unfold oU
   simp (disch := omega) only [eY, gN, dX, stepR_skip, fP, fZ, fO, gK, gE, gC, gR, gA, eU, fV, fT, gG, fS, fM, fU, fR, fX, gH, fY, fQ, fC, gB, gI, fL, iS, iQ, iO, iR, iM, iN, iP, iU, iT, eP, Result.ok.injEq, Next.value.injEq, true_and, and_true, fK, fJ, gJ, fN, gD, gS, ZV, fE, fH, fF, fD, eZ, eX, fB, eT, eQ, eH, if_true, if_false, ZS, ZY, ZT, ZU, ZX, ZW, ZR, ZQ, eA, dV, aB, dI, dE, cJ, eB, eS, eE, dK, eD, fA, dQ, eN, bQ, dG, bJ, dL, aI, aH, eL, aV, bZ, eI, aF, eJ, dF, aR, bF, eF, bH, bE, bB, aO, aL, cD, fG, dY, cA, cI, dA, cH, dT, bC, eK, bX, dH, bP, aU, bU, aC, bY, bO, cF, bW, aY, bA, aX, bV, dM, cU, bR, aZ, aK, aJ, bG, aE, dC, dW, aN, aM, aT, aD, cY, aG, cL, bT, bD, aP, cM, cG, aA, dN, cQ, cV, cC, dO, cB, dJ, dU, cP, eC, eM, bN, aS, dZ, bS, aQ, bL, dS, dB, cO, cS, cN, bK, bM, cX, dR, cR, dD, cZ, d1, d2, e1, e2, d3, d4]
  .have d4 : decide ((1024 : Int) < (q : Int)) = false := by simp only [decide_eq_false_iff_not]; omega
   rw [if_neg hb]
   unfold oU
   simp (disch := omega) only [eY, gN, dX, stepR_skip, fP, fZ, fO, gK, gE, gC, gR, gA, eU, fV, fT, gG, fS, fM, fU, fR, fX, gH, fY, fQ, fC, gB, gI, fL, iS, iQ, iO, iR, iM, iN, iP, iU, iT, eP, Result.ok.injEq, Next.value.injEq, true_and, and_true, fK, fJ, gJ, fN, gD, gS, ZV, fE, fH, fF, fD, eZ, eX, fB, eT, eQ, eH, if_true, if_false, ZS, ZY, ZT, ZU, ZX, ZW, ZR, ZQ, eA, dV, aB, dI, dE, cJ, eB, eS, eE, dK, eD, fA, dQ, eN, bQ, dG, bJ, dL, aI, aH, eL, aV, bZ, eI, aF, eJ, dF, aR, bF, eF, bH, bE, bB, aO, aL, cD, fG, dY, cA, cI, dA, cH, dT, bC, eK, bX, dH, bP, aU, bU, aC, bY, bO, cF, bW, aY, bA, aX, bV, dM, cU, bR, aZ, aK, aJ, bG, aE, dC, dW, aN, aM, aT, aD, cY, aG, cL, bT, bD, aP, cM, cG, aA, dN, cQ, cV, cC, dO, cB, dJ, dU, cP, eC, eM, bN, aS, dZ, bS, aQ, bL, dS, dB, cO, cS, cN, bK, bM, cX, dR, cR, dD, cZ, d1, d2, e1, e2, d3, d4]
theorem OQ {L k i : Nat} {w : adV} (hL : L <= 1000000000000) (h1 : 1 <= k) (h2 : k <= 65536) (hn : mM L k <= 1024) (hi : i < mM L k) :
 gU pg pN #[.int .u64 (L : Nat), .int .i64 (k : Nat), .int .i64 (i : Nat)] w (fun r w' => r = .tuple #[.int .u64 ((k * i : Nat) : Int), .int .i64 (IX L k i : Nat), .int .i64 0] /\ w' = w) := by
 refine NI ?_
 unfold OH Fj
 refine (QS hL h1 h2).mono ?_
 rintro r w1 ⟨rfl, hw⟩
 rw [hw]; clear hw w1
 rw [if_neg (by omega)]
 have n0 : ((0 : Int) != 0) = false := rfl
 have d1 : decide ((i : Int) < 0) = false := by simp
 have d2 : decide (((mM L k : Nat) : Int) <= (i : Int)) = false := by simp; omega
 have hlt := (Au (L := L) (k := k) (i := i) (by omega)).1 hi
 have e1 : (k : Int) * (i : Int) = ((k * i : Nat) : Int) := by simp
 obtain ⟨q, hq⟩ : ∃ q, q = k * i := ⟨_, rfl⟩
 have e2 : (L : Int) - ((q : Nat) : Int) = ((L - q : Nat) : Int) := by omega
 have e3 : (if ((k : Nat) : Int) < ((L - q : Nat) : Int) then ((k : Nat) : Int) else ((L - q : Nat) : Int)) = ((IX L k i : Nat) : Int) := by
  unfold IX
  rw [<- hq]
  split <;> omega
 rw [<- hq] at e1 hlt ⊢
 simp (disch := omega) only [eY, gN, dX, stepR_skip, fP, fZ, fO, gK, gE, gC, gR, gA, eU, fV, fT, gG, fS, fM, fU, fR, fX, gH, fY, fQ, fC, gB, gI, fL, iS, iQ, iO, iR, iM, iN, iP, iU, iT, eP, Result.ok.injEq, Next.value.injEq, true_and, and_true, fK, fJ, gJ, fN, gD, gS, ZV, fE, fH, fF, fD, eZ, eX, fB, eT, eQ, eH, if_true, if_false, ZS, ZY, ZT, ZU, ZX, ZW, ZR, ZQ, eA, dV, aB, dI, dE, cJ, eB, eS, eE, dK, eD, fA, dQ, eN, bQ, dG, bJ, dL, aI, aH, eL, aV, bZ, eI, aF, eJ, dF, aR, bF, eF, bH, bE, bB, aO, aL, cD, fG, dY, cA, cI, dA, cH, dT, bC, eK, bX, dH, bP, aU, bU, aC, bY, bO, cF, bW, aY, bA, aX, bV, dM, cU, bR, aZ, aK, aJ, bG, aE, dC, dW, aN, aM, aT, aD, cY, aG, cL, bT, bD, aP, cM, cG, aA, dN, cQ, cV, cC, dO, cB, dJ, dU, cP, eC, eM, bN, aS, dZ, bS, aQ, bL, dS, dB, cO, cS, cN, bK, bM, cX, dR, cR, dD, cZ, n0, d1, d2, e1, e2, e3]
theorem Rm {w : adV} {v : adW} {l : List Bool} (h : Sl w v (l.map Value.bool)) {i : Nat} (hi : i < l.length) : ∃ a o c, v = .slice (some ⟨a, o, none⟩) l.length c /\ w.cell? ⟨a, o + i, none⟩ = some (.bool (l.getD i false)) := by
 obtain ⟨a, n, c, rfl, hn, hc, hh⟩ := h
 rw [ZZ] at hn
 obtain ⟨b, off, rfl, h2⟩ := hh (by omega)
 have := h2 i (by omega)
 rw [aaV, Z0 hi] at this
 refine ⟨b, off, c, by rw [hn], ?_⟩
 rw [this, Z5, Z0 hi] <;> rfl
theorem Ph {l : List Bool} {i : Nat} (hi : i < l.length) : (l.take (i + 1)).contains false = ((l.take i).contains false || !(l.getD i false)) := by
 rw [abM hi, Z5, Z0 hi]
 rw [List.contains_append]
 cases l[i] <;> simp
theorem OF {v : adW} {l : List Bool} {w : adV} (h : Sl w v (l.map Value.bool)) (hl : l.length <= 1000000000) :
 gU pg yW #[v] w (fun r w' => r = .bool (!l.contains false) /\ w' = w) := by
 refine OB ?_
 unfold PL Hp
 refine Ej ?_
 unfold BU qN
 refine Hh ?_
 unfold Ey uD tW tT vM vD uL uJ
 obtain ⟨va, vc, rfl, _⟩ := h.len
 rw [ZZ] at h ⊢
 simp (disch := omega) only [eY, gN, dX, stepR_skip, fP, fZ, fO, gK, gE, gC, gR, gA, eU, fV, fT, gG, fS, fM, fU, fR, fX, gH, fY, fQ, fC, gB, gI, fL, iS, iQ, iO, iR, iM, iN, iP, iU, iT, eP, Result.ok.injEq, Next.value.injEq, true_and, and_true, fK, fJ, gJ, fN, gD, gS, ZV, fE, fH, fF, fD, eZ, eX, fB, eT, eQ, eH, if_true, if_false, ZS, ZY, ZT, ZU, ZX, ZW, ZR, ZQ, eA, dV, aB, dI, dE, cJ, eB, eS, eE, dK, eD, fA, dQ, eN, bQ, dG, bJ, dL, aI, aH, eL, aV, bZ, eI, aF, eJ, dF, aR, bF, eF, bH, bE, bB, aO, aL, cD, fG, dY, cA, cI, dA, cH, dT, bC, eK, bX, dH, bP, aU, bU, aC, bY, bO, cF, bW, aY, bA, aX, bV, dM, cU, bR, aZ, aK, aJ, bG, aE, dC, dW, aN, aM, aT, aD, cY, aG, cL, bT, bD, aP, cM, cG, aA, dN, cQ, cV, cC, dO, cB, dJ, dU, cP, eC, eM, bN, aS, dZ, bS, aQ, bL, dS, dB, cO, cS, cN, bK, bM, cX, dR, cR, dD, cZ]
 refine jW.rule (fun m (t : adW) w' => ∃ i : Nat, m = l.length - i /\ i <= l.length /\ t = .int .i64 (i : Nat) /\ (l.take i).contains false = false /\ w' = w) l.length ⟨0, rfl, by omega, rfl, rfl, rfl⟩ ?_
 rintro m t w' ⟨i, rfl, hi, rfl, hc, hw⟩
 rw [hw]; clear hw w'
 unfold pH
 by_cases hlt : i < l.length
 .have d1 : decide ((i : Int) < (l.length : Int)) = true := by simp; omega
  obtain ⟨a, o, c, hv, hcell⟩ := Rm h hlt
  cases hv
  have ht := Ph hlt
  rw [hc, adH] at ht
  cases hb : l.getD i false with
  | true =>
    rw [hb] at hcell ht
    have e : (false == true) = false := rfl
    simp (disch := omega) only [eY, gN, dX, stepR_skip, fP, fZ, fO, gK, gE, gC, gR, gA, eU, fV, fT, gG, fS, fM, fU, fR, fX, gH, fY, fQ, fC, gB, gI, fL, iS, iQ, iO, iR, iM, iN, iP, iU, iT, eP, Result.ok.injEq, Next.value.injEq, true_and, and_true, fK, fJ, gJ, fN, gD, gS, ZV, fE, fH, fF, fD, eZ, eX, fB, eT, eQ, eH, if_true, if_false, ZS, ZY, ZT, ZU, ZX, ZW, ZR, ZQ, eA, dV, aB, dI, dE, cJ, eB, eS, eE, dK, eD, fA, dQ, eN, bQ, dG, bJ, dL, aI, aH, eL, aV, bZ, eI, aF, eJ, dF, aR, bF, eF, bH, bE, bB, aO, aL, cD, fG, dY, cA, cI, dA, cH, dT, bC, eK, bX, dH, bP, aU, bU, aC, bY, bO, cF, bW, aY, bA, aX, bV, dM, cU, bR, aZ, aK, aJ, bG, aE, dC, dW, aN, aM, aT, aD, cY, aG, cL, bT, bD, aP, cM, cG, aA, dN, cQ, cV, cC, dO, cB, dJ, dU, cP, eC, eM, bN, aS, dZ, bS, aQ, bL, dS, dB, cO, cS, cN, bK, bM, cX, dR, cR, dD, cZ, d1, hcell, e]
    exact ⟨l.length - (i + 1), by omega, i + 1, rfl, by omega, rfl, ht⟩
  | false =>
    rw [hb] at hcell ht
    have e : (false == false) = true := rfl
    have d2 : decide ((0 : Int) <= (i : Int)) = true := by simp
    have hall : l.contains false = true := by
     have hm : false ∈ l.take (i + 1) := by simpa using ht
     simpa using adP hm
    rw [hall]
    simp (disch := omega) only [eY, gN, dX, stepR_skip, fP, fZ, fO, gK, gE, gC, gR, gA, eU, fV, fT, gG, fS, fM, fU, fR, fX, gH, fY, fQ, fC, gB, gI, fL, iS, iQ, iO, iR, iM, iN, iP, iU, iT, eP, Result.ok.injEq, Next.value.injEq, true_and, and_true, fK, fJ, gJ, fN, gD, gS, ZV, fE, fH, fF, fD, eZ, eX, fB, eT, eQ, eH, if_true, if_false, ZS, ZY, ZT, ZU, ZX, ZW, ZR, ZQ, eA, dV, aB, dI, dE, cJ, eB, eS, eE, dK, eD, fA, dQ, eN, bQ, dG, bJ, dL, aI, aH, eL, aV, bZ, eI, aF, eJ, dF, aR, bF, eF, bH, bE, bB, aO, aL, cD, fG, dY, cA, cI, dA, cH, dT, bC, eK, bX, dH, bP, aU, bU, aC, bY, bO, cF, bW, aY, bA, aX, bV, dM, cU, bR, aZ, aK, aJ, bG, aE, dC, dW, aN, aM, aT, aD, cY, aG, cL, bT, bD, aP, cM, cG, aA, dN, cQ, cV, cC, dO, cB, dJ, dU, cP, eC, eM, bN, aS, dZ, bS, aQ, bL, dS, dB, cO, cS, cN, bK, bM, cX, dR, cR, dD, cZ, d1, hcell, e, d2]
 .have d1 : decide ((i : Int) < (l.length : Int)) = false := by simp; omega
  rw [Z3 (by omega)] at hc
  rw [hc]
  unfold pQ
  have d2 : decide ((0 : Int) <= -1) = false := rfl
  simp (disch := omega) only [eY, gN, dX, stepR_skip, fP, fZ, fO, gK, gE, gC, gR, gA, eU, fV, fT, gG, fS, fM, fU, fR, fX, gH, fY, fQ, fC, gB, gI, fL, iS, iQ, iO, iR, iM, iN, iP, iU, iT, eP, Result.ok.injEq, Next.value.injEq, true_and, and_true, fK, fJ, gJ, fN, gD, gS, ZV, fE, fH, fF, fD, eZ, eX, fB, eT, eQ, eH, if_true, if_false, ZS, ZY, ZT, ZU, ZX, ZW, ZR, ZQ, eA, dV, aB, dI, dE, cJ, eB, eS, eE, dK, eD, fA, dQ, eN, bQ, dG, bJ, dL, aI, aH, eL, aV, bZ, eI, aF, eJ, dF, aR, bF, eF, bH, bE, bB, aO, aL, cD, fG, dY, cA, cI, dA, cH, dT, bC, eK, bX, dH, bP, aU, bU, aC, bY, bO, cF, bW, aY, bA, aX, bV, dM, cU, bR, aZ, aK, aJ, bG, aE, dC, dW, aN, aM, aT, aD, cY, aG, cL, bT, bD, aP, cM, cG, aA, dN, cQ, cV, cC, dO, cB, dJ, dU, cP, eC, eM, bN, aS, dZ, bS, aQ, bL, dS, dB, cO, cS, cN, bK, bM, cX, dR, cR, dD, cZ, d1, d2]
theorem Um {v u : adW} {l m : List UInt8} {w : adV} (h : Bs w v l) (hu : Bs w u m) (hl : l.length <= 1000000000) (hm : m.length <= 1000000000) :
 gU pg qB #[v, u] w (fun r w' => r = .bool (l == m) /\ gX w w' jK) := by
 refine Hr ?_
 obtain ⟨RR, hRR⟩ : ∃ RR : adW -> adV -> Prop, RR = fun r w' => r = .bool (l == m) /\ gX w w' jK := ⟨_, rfl⟩
 rw [<- hRR]
 unfold ES uF vO
 obtain ⟨va, vc, rfl, _⟩ := h.len
 obtain ⟨ua, uc, rfl, _⟩ := hu.len
 rw [ZZ] at h ⊢
 rw [ZZ] at hu ⊢
 by_cases hne : l.length = m.length
 rotate_left
 .have d1 : (((l.length : Nat) : Int) != ((m.length : Nat) : Int)) = true := by rw [bne_iff_ne]; omega
  have e : (l == m) = false := beq_eq_false_iff_ne.2 fun e => hne (by rw [e])
  simp (disch := omega) only [eY, gN, dX, stepR_skip, fP, fZ, fO, gK, gE, gC, gR, gA, eU, fV, fT, gG, fS, fM, fU, fR, fX, gH, fY, fQ, fC, gB, gI, fL, iS, iQ, iO, iR, iM, iN, iP, iU, iT, eP, Result.ok.injEq, Next.value.injEq, true_and, and_true, fK, fJ, gJ, fN, gD, gS, ZV, fE, fH, fF, fD, eZ, eX, fB, eT, eQ, eH, if_true, if_false, ZS, ZY, ZT, ZU, ZX, ZW, ZR, ZQ, eA, dV, aB, dI, dE, cJ, eB, eS, eE, dK, eD, fA, dQ, eN, bQ, dG, bJ, dL, aI, aH, eL, aV, bZ, eI, aF, eJ, dF, aR, bF, eF, bH, bE, bB, aO, aL, cD, fG, dY, cA, cI, dA, cH, dT, bC, eK, bX, dH, bP, aU, bU, aC, bY, bO, cF, bW, aY, bA, aX, bV, dM, cU, bR, aZ, aK, aJ, bG, aE, dC, dW, aN, aM, aT, aD, cY, aG, cL, bT, bD, aP, cM, cG, aA, dN, cQ, cV, cC, dO, cB, dJ, dU, cP, eC, eM, bN, aS, dZ, bS, aQ, bL, dS, dB, cO, cS, cN, bK, bM, cX, dR, cR, dD, cZ, d1]
  rw [hRR]
  exact ⟨by rw [e], gX.refl _ _⟩
 have d1 : (((l.length : Nat) : Int) != ((m.length : Nat) : Int)) = false := by rw [bne_eq_false_iff_eq]; omega
 simp (disch := omega) only [eY, gN, dX, stepR_skip, fP, fZ, fO, gK, gE, gC, gR, gA, eU, fV, fT, gG, fS, fM, fU, fR, fX, gH, fY, fQ, fC, gB, gI, fL, iS, iQ, iO, iR, iM, iN, iP, iU, iT, eP, Result.ok.injEq, Next.value.injEq, true_and, and_true, fK, fJ, gJ, fN, gD, gS, ZV, fE, fH, fF, fD, eZ, eX, fB, eT, eQ, eH, if_true, if_false, ZS, ZY, ZT, ZU, ZX, ZW, ZR, ZQ, eA, dV, aB, dI, dE, cJ, eB, eS, eE, dK, eD, fA, dQ, eN, bQ, dG, bJ, dL, aI, aH, eL, aV, bZ, eI, aF, eJ, dF, aR, bF, eF, bH, bE, bB, aO, aL, cD, fG, dY, cA, cI, dA, cH, dT, bC, eK, bX, dH, bP, aU, bU, aC, bY, bO, cF, bW, aY, bA, aX, bV, dM, cU, bR, aZ, aK, aJ, bG, aE, dC, dW, aN, aM, aT, aD, cY, aG, cL, bT, bD, aP, cM, cG, aA, dN, cQ, cV, cC, dO, cB, dJ, dU, cP, eC, eM, bN, aS, dZ, bS, aQ, bL, dS, dB, cO, cS, cN, bK, bM, cX, dR, cR, dD, cZ, d1]
 unfold tV uZ vF tS tM
 simp (disch := omega) only [eY, gN, dX, stepR_skip, fP, fZ, fO, gK, gE, gC, gR, gA, eU, fV, fT, gG, fS, fM, fU, fR, fX, gH, fY, fQ, fC, gB, gI, fL, iS, iQ, iO, iR, iM, iN, iP, iU, iT, eP, Result.ok.injEq, Next.value.injEq, true_and, and_true, fK, fJ, gJ, fN, gD, gS, ZV, fE, fH, fF, fD, eZ, eX, fB, eT, eQ, eH, if_true, if_false, ZS, ZY, ZT, ZU, ZX, ZW, ZR, ZQ, eA, dV, aB, dI, dE, cJ, eB, eS, eE, dK, eD, fA, dQ, eN, bQ, dG, bJ, dL, aI, aH, eL, aV, bZ, eI, aF, eJ, dF, aR, bF, eF, bH, bE, bB, aO, aL, cD, fG, dY, cA, cI, dA, cH, dT, bC, eK, bX, dH, bP, aU, bU, aC, bY, bO, cF, bW, aY, bA, aX, bV, dM, cU, bR, aZ, aK, aJ, bG, aE, dC, dW, aN, aM, aT, aD, cY, aG, cL, bT, bD, aP, cM, cG, aA, dN, cQ, cV, cC, dO, cB, dJ, dU, cP, eC, eM, bN, aS, dZ, bS, aQ, bL, dS, dB, cO, cS, cN, bK, bM, cX, dR, cR, dD, cZ]
 refine jW.rule (fun n (t : adW) w' => ∃ i : Nat, n = l.length - i /\ i <= l.length /\ t = .int .i64 (i : Nat) /\ l.take i = m.take i /\ gX w w' jK) l.length ⟨0, rfl, by omega, rfl, rfl, gX.refl _ _⟩ ?_
 rintro n t w' ⟨i, rfl, hi, rfl, hc, x'⟩
 unfold pW
 by_cases hlt : i < l.length
 .have d2 : decide ((i : Int) < (l.length : Int)) = true := by simp; omega
  have xd : gX w (dr w') jK := x'.seq (gX.dr _ _)
  have cell : ∀ {w' : adV}, gX w w' jK -> ∃ b off b' off', va = some ⟨b, off, none⟩ /\ ua = some ⟨b', off', none⟩ /\ w'.cell? ⟨b, off + i, none⟩ = some (.int .u8 ((l[i]'hlt).toNat : Nat)) /\ w'.cell? ⟨b', off' + i, none⟩ = some (.int .u8 ((m[i]'(by omega)).toNat : Nat)) := fun {w'} x => by
   obtain ⟨b, off, c', hv, hc', hcell⟩ := (h.ext x (jJ _)).openV (by rw [ZZ]; omega)
   obtain ⟨b', off', c'', hv', hc'', hcell'⟩ := (hu.ext x (jJ _)).openV (by rw [ZZ]; omega)
   have g1 := hcell i (by rw [ZZ]; exact hlt)
   have g2 := hcell' i (by rw [ZZ]; omega)
   rw [adJ] at g1 g2
   rw [ZZ] at hv hv'
   cases hv
   cases hv'
   exact ⟨_, _, _, _, rfl, rfl, g1, g2⟩
  obtain ⟨b, off, b', off', rfl, rfl, g1, g2⟩ := cell x'
  obtain ⟨_, _, _, _, e1, e2, g1', g2'⟩ := cell xd
  cases e1
  cases e2
  by_cases hq : l[i]'hlt = m[i]'(by omega)
  .have d3 : ((((l[i]'hlt).toNat : Nat) : Int) != (((m[i]'(by omega)).toNat : Nat) : Int)) = false := by rw [hq]; simp
   simp (disch := omega) only [eY, gN, dX, stepR_skip, fP, fZ, fO, gK, gE, gC, gR, gA, eU, fV, fT, gG, fS, fM, fU, fR, fX, gH, fY, fQ, fC, gB, gI, fL, iS, iQ, iO, iR, iM, iN, iP, iU, iT, eP, Result.ok.injEq, Next.value.injEq, true_and, and_true, fK, fJ, gJ, fN, gD, gS, ZV, fE, fH, fF, fD, eZ, eX, fB, eT, eQ, eH, if_true, if_false, ZS, ZY, ZT, ZU, ZX, ZW, ZR, ZQ, eA, dV, aB, dI, dE, cJ, eB, eS, eE, dK, eD, fA, dQ, eN, bQ, dG, bJ, dL, aI, aH, eL, aV, bZ, eI, aF, eJ, dF, aR, bF, eF, bH, bE, bB, aO, aL, cD, fG, dY, cA, cI, dA, cH, dT, bC, eK, bX, dH, bP, aU, bU, aC, bY, bO, cF, bW, aY, bA, aX, bV, dM, cU, bR, aZ, aK, aJ, bG, aE, dC, dW, aN, aM, aT, aD, cY, aG, cL, bT, bD, aP, cM, cG, aA, dN, cQ, cV, cC, dO, cB, dJ, dU, cP, eC, eM, bN, aS, dZ, bS, aQ, bL, dS, dB, cO, cS, cN, bK, bM, cX, dR, cR, dD, cZ, d2, g1, g2, g1', g2', d3]
   refine ⟨l.length - (i + 1), by omega, i + 1, rfl, by omega, rfl, ?_, xd⟩
   rw [abM hlt, abM (by omega), hc, hq]
  .have d3 : ((((l[i]'hlt).toNat : Nat) : Int) != (((m[i]'(by omega)).toNat : Nat) : Int)) = true := by
    rw [bne_iff_ne]
    intro he
    exact hq (UInt8.toNat_inj.1 (by exact_mod_cast he))
   have e : (l == m) = false := beq_eq_false_iff_ne.2 fun e => hq (by subst e; rfl)
   simp (disch := omega) only [eY, gN, dX, stepR_skip, fP, fZ, fO, gK, gE, gC, gR, gA, eU, fV, fT, gG, fS, fM, fU, fR, fX, gH, fY, fQ, fC, gB, gI, fL, iS, iQ, iO, iR, iM, iN, iP, iU, iT, eP, Result.ok.injEq, Next.value.injEq, true_and, and_true, fK, fJ, gJ, fN, gD, gS, ZV, fE, fH, fF, fD, eZ, eX, fB, eT, eQ, eH, if_true, if_false, ZS, ZY, ZT, ZU, ZX, ZW, ZR, ZQ, eA, dV, aB, dI, dE, cJ, eB, eS, eE, dK, eD, fA, dQ, eN, bQ, dG, bJ, dL, aI, aH, eL, aV, bZ, eI, aF, eJ, dF, aR, bF, eF, bH, bE, bB, aO, aL, cD, fG, dY, cA, cI, dA, cH, dT, bC, eK, bX, dH, bP, aU, bU, aC, bY, bO, cF, bW, aY, bA, aX, bV, dM, cU, bR, aZ, aK, aJ, bG, aE, dC, dW, aN, aM, aT, aD, cY, aG, cL, bT, bD, aP, cM, cG, aA, dN, cQ, cV, cC, dO, cB, dJ, dU, cP, eC, eM, bN, aS, dZ, bS, aQ, bL, dS, dB, cO, cS, cN, bK, bM, cX, dR, cR, dD, cZ, d2, g1, g2, g1', g2', d3]
   rw [hRR]
   exact ⟨by rw [e], xd⟩
 .have d2 : decide ((i : Int) < (l.length : Int)) = false := by simp; omega
  rw [Z3 (by omega), Z3 (by omega)] at hc
  unfold pT
  simp (disch := omega) only [eY, gN, dX, stepR_skip, fP, fZ, fO, gK, gE, gC, gR, gA, eU, fV, fT, gG, fS, fM, fU, fR, fX, gH, fY, fQ, fC, gB, gI, fL, iS, iQ, iO, iR, iM, iN, iP, iU, iT, eP, Result.ok.injEq, Next.value.injEq, true_and, and_true, fK, fJ, gJ, fN, gD, gS, ZV, fE, fH, fF, fD, eZ, eX, fB, eT, eQ, eH, if_true, if_false, ZS, ZY, ZT, ZU, ZX, ZW, ZR, ZQ, eA, dV, aB, dI, dE, cJ, eB, eS, eE, dK, eD, fA, dQ, eN, bQ, dG, bJ, dL, aI, aH, eL, aV, bZ, eI, aF, eJ, dF, aR, bF, eF, bH, bE, bB, aO, aL, cD, fG, dY, cA, cI, dA, cH, dT, bC, eK, bX, dH, bP, aU, bU, aC, bY, bO, cF, bW, aY, bA, aX, bV, dM, cU, bR, aZ, aK, aJ, bG, aE, dC, dW, aN, aM, aT, aD, cY, aG, cL, bT, bD, aP, cM, cG, aA, dN, cQ, cV, cC, dO, cB, dJ, dU, cP, eC, eM, bN, aS, dZ, bS, aQ, bL, dS, dB, cO, cS, cN, bK, bM, cX, dR, cR, dD, cZ, d2]
  rw [hRR]
  exact ⟨by rw [hc]; simp, x'⟩
end Go.Proofs.YteelnmpbnaohpaaDoor
namespace Go.En
open Go
section
variable {P : Program} {w : adV} {t e : TypeId}
theorem ID {i : TypeInfo} (hu : P.underlying t = some (.slice e)) (hi : P.info? e = some i)
 {K : adW -> adV -> Prop} (hk : ∀ w', jG w' w.heap.size [] -> gX w w' jK -> w'.heap.size = w.heap.size + 1 -> K (.slice (some ⟨w.heap.size, 0, none⟩) 0 0) w') :
 eY P (iF t 0 []) w K := by
 have : (iF t 0 []).run P w = .ok (.value (.slice (some ⟨w.heap.size, 0, none⟩) 0 0)) (w.alloc (.cells ([] : List adW).toArray e)) := by
  unfold iF; rw [mU]
  have h1 : ¬ (0 > 2 ^ 24) := by omega
  have e : ∀ f : Nat -> adW, Array.map f (Array.range 0) = #[] := fun f => by simp
  simp only [Instr.buildSlice, underlying, pure_bind, Sem.run_bind, run_program, Result.andThen_ok, hu, Sem.run_pure, kA hi, Nat.zero_mul, h1, if_false, if_true, newRow, run_newObj, Instr.fill, e]
  rfl
 unfold eY
 rw [this]
 exact hk _ (jG.alloc _ _ _) (gX.alloc _ _ _) (by simp)
def At (v : adW) (b : Nat) : Prop := ∀ M : Nat -> Prop, ¬ M b -> ¬ wB v M
theorem At.nil (c b : Nat) (a : Option Addr) : At (.slice a 0 c) b := fun M h => by unfold wB; split <;> simp_all
theorem At.at (b o n c : Nat) : At (.slice (some ⟨b, o, none⟩) n c) b := fun M h => by
 unfold wB; split
 .rename_i x m _ e
  obtain ⟨rfl, _⟩ : (⟨b, o, none⟩ : Addr) = x /\ _ := by simpa using e
  exact h
 .simp
theorem zH.at' {w : adV} {base sz n : Nat} {v : adW} {l : List adW} (h : zH w base sz v n l) (hb : base < w.heap.size) : ∃ b, base <= b /\ b < w.heap.size /\ At v b := by
 rcases h.2 with ⟨rfl, rfl⟩ | ⟨b, c, rest, rfl, h2, h3, h4, h5⟩
 .exact ⟨base, Z8 _, hb, At.nil _ _ _⟩
 .exact ⟨b, h2, h3.lt, At.at _ _ _ _⟩
end
end Go.En
namespace Go.Proofs.YteelnmpbnaohpaaDoor
open Go Go.En Go.Pu
set_option maxRecDepth 4000
theorem VH (a b : Nat) : ((a : Int)).fdiv (b : Int) = ((a / b : Nat) : Int) := by rw [Int.fdiv_eq_ediv_of_nonneg _ (by omega)] <;> rfl
theorem WV (x j : Nat) (hj : j <= 64) : ((x : Int)).fdiv (2 ^ (min (j : Nat) IntKind.u64.bits)) = ((x / 2 ^ j : Nat) : Int) := by
 have e : min j IntKind.u64.bits = j := by simp only [IntKind.bits]; omega
 rw [e, <- VH]; simp
theorem NQ {v : adW} {l : List UInt8} {w : adV} (h : Bs w v l) (hl : l.length <= 1000000000) :
 gU pg kM #[v] w (fun r w' => zH w' w.heap.size 1 r l.length (l.map oY) /\ gX w w' jK) := by
 refine Er ?_
 have h1 := h
 obtain ⟨a, n, c, rfl, hn, hc, hh⟩ := h
 rw [ZZ] at hn
 unfold BK qM
 cases a with
 | none =>
   have h0 : l = [] := by
    cases l with
    | nil => rfl
    | cons x l => obtain ⟨b, off, h, _⟩ := hh (by simp at hn; omega); cases h
   subst h0
   simp (disch := omega) only [eY, dC, ZU, dX, eQ]
   exact ⟨zH.nil _ _ _, gX.refl _ _⟩
 | some x =>
   simp (disch := omega) only [eY, dC, ZT, dX, eH]
   refine ID Tryd.underlying22 IC fun w1 o1 x1 s1 => ?_
   have hcl1 := (h1.ext x1 (jJ _)).cl
   rw [ZZ] at hcl1
   have hos : zH w1 w.heap.size 1 (.slice (some ⟨w.heap.size, 0, none⟩) 0 0) 0 [] := ⟨rfl, .inr ⟨_, 0, [], rfl, Z8 _, o1, rfl, Z8 _⟩⟩
   refine B3 hos hcl1 (Fx _) x1.size (by omega) fun v3 w3 o3 x3 => ?_
   rw [ZY, aaF] at o3
   exact ⟨o3, x1.trans x3 fun b hb h => Nat.not_le_of_lt hb h⟩
def Yj (v : adW) (lo hi : Nat) : Prop := ∀ M : Nat -> Prop, (∀ b, lo <= b -> b < hi -> ¬ M b) -> ¬ wB v M
theorem zH.atI {w : adV} {base sz n : Nat} {v : adW} {l : List adW} (h : zH w base sz v n l) : Yj v base w.heap.size := by
 intro M hM
 rcases h.2 with ⟨rfl, rfl⟩ | ⟨b, c, rest, rfl, h2, h3, h4, h5⟩
 .exact fun h => h
 .exact At.at b 0 n c M (hM b h2 h3.lt)
def Zz (w : adV) (lo hi : Nat) (l : List UInt8) (st : Nat) : Prop := ∃ v, jG w hi [v, .int .i64 st] /\ Bs w v l /\ Yj v lo hi
theorem Zz.ext {w w' : adV} {lo hi st : Nat} {l : List UInt8} {M : Nat -> Prop} (h : Zz w lo hi l st) (hx : gX w w' M) (hM : ∀ b, lo <= b -> b <= hi -> ¬ M b) (hlh : lo <= hi) : Zz w' lo hi l st := by
 obtain ⟨v, h1, h2, h3⟩ := h
 exact ⟨v, h1.ext hx (hM _ hlh (Z8 _)), h2.ext hx (h3 M fun b hb hh => hM b hb (by omega)), h3⟩
theorem Yj.sub {a : Option Addr} {n c m c' k sz lo hi : Nat} (h : Yj (.slice a n c) lo hi) (hm : m <= n) : Yj (.slice (jO a c k sz) m c') lo hi := by
 intro M hM hin
 cases m with
 | zero => unfold wB at hin; split at hin <;> simp_all
 | succ m =>
   obtain ⟨n', rfl⟩ : ∃ n', n = n' + 1 := ⟨n - 1, by omega⟩
   have h1 := h M hM
   cases a with
   | none => unfold jO at hin; split at hin <;> exact hin
   | some x =>
     unfold jO at hin
     have h2 : M x.block := by
      split at hin
      .exact hin
      .rw [aaX] at hin
       have e : (x.add (k * sz)).block = x.block := by unfold Addr.add; split <;> rfl
       have h3 : M (x.add (k * sz)).block := hin
       rwa [e] at h3
     exact h1 h2
def UD (v : adW) (S : Nat -> Prop) : Prop := ∀ M : Nat -> Prop, (∀ b, S b -> ¬ M b) -> ¬ wB v M
theorem Yj.toS {v : adW} {lo hi : Nat} {S : Nat -> Prop} (h : Yj v lo hi) (hS : ∀ b, lo <= b -> b < hi -> S b) : UD v S := fun M hM => h M fun b h1 h2 => hM b (hS b h1 h2)
theorem UD.mono {v : adW} {S T : Nat -> Prop} (h : UD v S) (hT : ∀ b, S b -> T b) : UD v T := fun M hM => h M fun b hb => hM b (hT b hb)
theorem UD.nil (S : Nat -> Prop) : UD (.slice none 0 0) S := fun M _ h => h
theorem UD.sub {a : Option Addr} {n c m c' k mx sz : Nat} {S : Nat -> Prop} (h : UD (.slice a n c) S) (hm : m <= n) : UD (.slice (jO a mx k sz) m c') S := by
 intro M hM hin
 cases m with
 | zero => unfold wB at hin; split at hin <;> simp_all
 | succ m =>
   obtain ⟨n', rfl⟩ : ∃ n', n = n' + 1 := ⟨n - 1, by omega⟩
   have h1 := h M hM
   cases a with
   | none => unfold jO at hin; split at hin <;> exact hin
   | some x =>
     unfold jO at hin
     have h2 : M x.block := by
      split at hin
      .exact hin
      .rw [aaX] at hin
       have e : (x.add (k * sz)).block = x.block := by unfold Addr.add; split <;> rfl
       have h3 : M (x.add (k * sz)).block := hin
       rwa [e] at h3
     exact h1 h2
theorem YY {w : adV} {a : Option Addr} {n c : Nat} {l : List adW} (h : Sl w (.slice a n c) l) {k : Nat} (hk : k <= n) : Sl w (.slice (jO a k 0 1) (k - 0) (k - 0)) (l.take k) := by
 obtain ⟨a', n', c', e, hn, hc, h⟩ := h
 cases e
 refine ⟨_, _, _, rfl, by rw [aaB]; omega, Z8 _, fun h0 => ?_⟩
 obtain ⟨b, off, rfl, h2⟩ := h (by omega)
 have hs : jO (some ⟨b, off, none⟩) k 0 1 = some ⟨b, off + 0 * 1, none⟩ := by unfold jO; rw [if_neg (by omega)] <;> rfl
 refine ⟨b, off, by rw [hs]; simp, fun i hi => ?_⟩
 rw [abR (by omega)]
 exact h2 i (by omega)
def UE (w : adV) (lo hi p : Nat) (l : List UInt8) (e : Int) : Prop := lo <= p /\ p < hi /\ ∃ v, jG w p [v, .int .i64 e] /\ Bs w v l /\ UD v (fun b => lo <= b /\ b < hi /\ b ≠ p)
theorem UE.ext {w w' : adV} {lo hi p : Nat} {l : List UInt8} {e : Int} {M : Nat -> Prop} (h : UE w lo hi p l e) (x : gX w w' M) (hM : ∀ b, lo <= b -> b < hi -> ¬ M b) : UE w' lo hi p l e := by
 obtain ⟨h0, h0', v, h1, h2, h3⟩ := h
 exact ⟨h0, h0', v, h1.ext x (hM _ h0 h0'), h2.ext x (h3 M fun b hb => hM b hb.1 hb.2.1), h3⟩
theorem UE.lt {w : adV} {lo hi p : Nat} {l : List UInt8} {e : Int} (h : UE w lo hi p l e) : p < w.heap.size := by
 obtain ⟨_, _, v, h1, _⟩ := h; exact h1.lt
theorem UE.up {w : adV} {lo hi hi' p : Nat} {l : List UInt8} {e : Int} (h : UE w lo hi p l e) (hh : hi <= hi') : UE w lo hi' p l e := by
 obtain ⟨h0, h0', v, h1, h2, h3⟩ := h
 exact ⟨h0, by omega, v, h1, h2, h3.mono fun b hb => ⟨hb.1, by omega, hb.2.2⟩⟩
theorem RT {v : adW} {l : List UInt8} {w : adV} (h : Bs w v l) (hl : l.length <= 1000000000) :
 gU pg rI #[v] w (fun r w' => ∃ p, r = .pointer (some ⟨p, 0, none⟩) /\ UE w' w.heap.size w'.heap.size p l 0 /\ gX w w' jK) := by
 refine HV ?_
 unfold GJ wF
 refine (NQ h hl).mono ?_
 rintro r w1 ⟨ho, x1⟩
 have hat := zH.atI ho
 have hs := ho.sl
 obtain ⟨va, vc, rfl⟩ := ho.len
 simp (disch := omega) only [eY, bN, dX]
 refine oE fun w2 o2 x2 s2 => ?_
 have o2 : jG w2 w1.heap.size [.slice va l.length vc, .int .i64 0] := o2
 have hz := o2.lt
 exact ⟨w1.heap.size, rfl, ⟨x1.size, hz, _, o2, hs.ext x2 (jJ _), hat.toS fun b h1 h2 => ⟨h1, by omega, by omega⟩⟩, x1.seq x2⟩
def Q1 (l : List UInt8) (e : Int) (n : Nat) : List UInt8 × List UInt8 × Int := if e ≠ 0 then ([], l, e) else if l.length < n then ([], l, 10) else (l.take n, l.drop n, 0)
theorem U7 {lo hi p n : Nat} {l : List UInt8} {e : Int} {w : adV} (h : UE w lo hi p l e) (hl : l.length <= 1000000000) (hn : n <= 1000000000) :
 gU pg pL #[.pointer (some ⟨p, 0, none⟩), .int .i64 n, .bool true] w (fun r w' => Bs w' r (Q1 l e n).1 /\ UD r (fun b => lo <= b /\ b < hi /\ b ≠ p) /\ UE w' lo hi p (Q1 l e n).2.1 (Q1 l e n).2.2 /\ gX w w' (fun y => y = p)) := by
 refine Gu ?_
 unfold Dh sS
 have h' := h
 obtain ⟨h0, h0', v, o, hb, hat⟩ := h'
 obtain ⟨va, vc, rfl, hvc⟩ := hb.len
 rw [ZZ] at hb hat o hvc
 have c0 := o.cell (off := 0)
 have c1 := o.cell (off := 1)
 simp only [ZQ, ZR] at c0 c1
 by_cases he : e = 0
 rotate_left
 .have n1 : (e != 0) = true := by simpa using he
  have ht : Q1 l e n = ([], l, e) := by unfold Q1; rw [if_pos he]
  rw [ht]
  simp (disch := omega) only [eY, fL, fQ, ZX, dX, bK, ZY, bM, dY, eH, dT, c1, eP, fS, n1, eQ]
  exact ⟨Sl.nil _, UD.nil _, h, gX.refl _ _⟩
 subst he
 have n1 : ((0 : Int) != 0) = false := rfl
 by_cases hsh : l.length < n
 .have d1 : decide ((l.length : Int) < (n : Int)) = true := by simp; omega
  have ht : Q1 l 0 n = ([], l, 10) := by unfold Q1; rw [if_neg (by decide), if_pos hsh]
  rw [ht]
  simp (disch := omega) only [eY, fL, fQ, ZX, dX, bK, ZY, bM, dY, eH, dT, c1, eP, fS, n1, c0, eA, fR, d1, eQ]
  refine CN o rfl (by simp) fun w1 o1 x1 s1 => ?_
  simp only [aaD, aaW] at o1
  exact ⟨Sl.nil _, UD.nil _, ⟨h0, h0', _, o1, hb.ext x1 (hat _ fun b hb => hb.2.2), hat⟩, x1⟩
 .have d1 : decide ((l.length : Int) < (n : Int)) = false := by simp; omega
  have ht : Q1 l 0 n = (l.take n, l.drop n, 0) := by unfold Q1; rw [if_neg (by decide), if_neg hsh]
  rw [ht]
  simp (disch := omega) only [eY, fL, fQ, ZX, dX, bK, ZY, bM, dY, eH, dT, c1, eP, fS, n1, c0, eA, fR, d1, cX, ZV, cY]
  refine Np o rfl (by simp [one]) fun w1 o1 x1 s1 => ?_
  simp only [aaD, aaW] at o1
  have hbn : Bs w (.slice (jO va n 0 1) (n - 0) (n - 0)) (l.take n) := by
   have := YY hb (k := n) (by omega)
   rwa [<- acX] at this
  have hbd : Bs w (.slice (jO va vc n 1) (l.length - n) (vc - n)) (l.drop n) := by
   have := hb.drop' (k := n) (by omega)
   rwa [<- acH] at this
  have hn1 := hat.sub (mx := n) (k := 0) (sz := 1) (m := n - 0) (c' := n - 0) (by omega)
  have hn2 := hat.sub (mx := vc) (k := n) (sz := 1) (m := l.length - n) (c' := vc - n) (by omega)
  exact ⟨hbn.ext x1 (hn1 _ fun b hb => hb.2.2), hn1, ⟨h0, h0', _, o1, hbd.ext x1 (hn2 _ fun b hb => hb.2.2), hn2⟩, x1⟩
theorem OZ {lo hi p n : Nat} {l : List UInt8} {e : Int} {w : adV} (h : UE w lo hi p l e) (hl : l.length <= 1000000000) (hn : 1 <= n /\ n <= 8) :
 gU pg mB #[.pointer (some ⟨p, 0, none⟩), .int .i64 n] w (fun r w' => r = .int .u64 (Fv (Q1 l e n).1 : Nat) /\ UE w' lo hi p (Q1 l e n).2.1 (Q1 l e n).2.2 /\ gX w w' (fun y => y = p)) := by
 refine El ?_
 unfold B1 qS rB qL qT rC
 have d1 : decide ((1 : Int) <= (n : Int)) = true := by simp; omega
 have d2 : decide ((n : Int) <= 8) = true := by simp; omega
 simp (disch := omega) only [eY, aS, ZT, fX, d1, dX, fE, fC, if_true, eZ, fU, d2, eH]
 refine (U7 h hl (by omega)).mono ?_
 rintro r w1 ⟨hb, hat, hr, x1⟩
 obtain ⟨t, ht⟩ : ∃ t, t = (Q1 l e n).1 := ⟨_, rfl⟩
 have htl : t.length <= 8 := by
  rw [ht]; unfold Q1
  split
  .simp
  .split
   .simp
   .simp; omega
 rw [<- ht] at hb ⊢
 obtain ⟨va, vc, rfl, hvc⟩ := hb.len
 rw [ZZ] at hb hvc hat
 simp (disch := omega) only [ZZ, eA, dX]
 unfold qP rE
 refine jW.rule (fun m s w' => ∃ i : Nat, m = t.length - i /\ i <= t.length /\ s = (.int .u64 (Fv (t.take i) : Nat), .int .i64 i) /\ w' = w1) t.length ⟨0, rfl, by omega, rfl, rfl⟩ ?_
 rintro m s w2 ⟨i, rfl, hi, rfl, hw⟩
 rw [hw]; clear hw w2
 unfold nJ
 by_cases hlt : i < t.length
 .have d3 : decide ((i : Int) < (t.length : Int)) = true := by simp; omega
  obtain ⟨c, hc⟩ : ∃ c, c = t[i]'hlt := ⟨_, rfl⟩
  have htk : t.take (i + 1) = t.take i ++ [c] := by rw [adD, Z0 hlt, <- hc] <;> rfl
  have hor := Xf (t.take i) c
  rw [<- htk, aaB, aaQ (by omega)] at hor
  have hcl : c.toNat < 256 := UInt8.toNat_lt c
  obtain ⟨b, off, c', hv, hcc, hcell⟩ := hb.openV (by rw [ZZ]; omega)
  have g1 := hcell i (by rw [ZZ]; exact hlt)
  rw [ZZ] at hv
  cases hv
  rw [adJ, <- hc] at g1
  simp only [oY] at g1
  generalize c.toNat = cx at *
  have hp : 2 ^ (8 * i) <= 2 ^ 56 := adT (by omega) (by omega)
  have hm : cx * 2 ^ (8 * i) <= 255 * 2 ^ 56 := Nat.mul_le_mul (by omega) hp
  have hb0 := GZ (t.take i)
  have hb1 := GZ (t.take (i + 1))
  rw [aaB, aaQ (by omega)] at hb0 hb1
  have hq : 256 ^ i <= 256 ^ 7 := adT (by omega) (by omega)
  have e0 : ((8 : Int) * (i : Int)) = ((8 * i : Nat) : Int) := by omega
  have e5 : IntKind.u64.wrap ((cx : Int) * 2 ^ (min (8 * i) IntKind.u64.bits)) = ((cx * 2 ^ (8 * i) : Nat) : Int) := by
   rw [show min (8 * i) IntKind.u64.bits = 8 * i from aaQ (by have : IntKind.u64.bits = 64 := rfl
                                                              omega)]
   have e : (cx : Int) * 2 ^ (8 * i) = ((cx * 2 ^ (8 * i) : Nat) : Int) := by simp
   rw [e]
   exact fJ (by omega) (by omega)
  have e6 := Xs (a := Fv (t.take i)) (b := cx * 2 ^ (8 * i)) (by omega) (by omega)
  rw [hor] at e6
  have e7 : IntKind.u64.wrap (cx : Int) = (cx : Int) := fJ (by omega) (by omega)
  simp (disch := omega) only [eY, fM, d3, eB, ZV, fO, e0, fK, fP, dX, dZ, fJ, eS, g1, eP, cM, e7, fV, e5, gR, e6, and_true, eQ]
  exact ⟨t.length - (i + 1), by omega, i + 1, rfl, by omega, rfl⟩
 .have d3 : decide ((i : Int) < (t.length : Int)) = false := by simp; omega
  obtain rfl : i = t.length := by omega
  simp (disch := omega) only [eY, fM, d3, fO, fK, fP, dX, dZ, fJ, eH]
  unfold nP
  rw [List.take_length]
  exact ⟨rfl, hr, x1⟩
end Go.Proofs.YteelnmpbnaohpaaDoor
namespace Go.Pu
open Go Go.En
structure Zk (B : List Bool) (l : List UInt8) : Prop where
 len : l.length = (B.length + 7) / 8
 bits : XD l = B ++ List.replicate (8 * l.length - B.length) false
end Go.Pu
namespace Go.Proofs.YteelnmpbnaohpaaDoor
open Go Go.En Go.Pu
set_option maxRecDepth 4000
theorem wL {w w' : adV} {S M : Nat -> Prop} {sz n : Nat} {v : adW} {l : List adW} (h : IB w S sz v n l) (hx : gX w w' M) (hM : ∀ b, S b -> ¬ M b) : IB w' S sz v n l := by
 refine ⟨h.1, ?_⟩
 rcases h.2 with h2 | ⟨b, c, rest, h1, h2, h3, h4, h5⟩
 .exact .inl h2
 .exact .inr ⟨b, c, rest, h1, h2, h3.ext hx (hM b h2), h4, h5⟩
def Wr (w : adV) (lo p : Nat) (B : List Bool) : Prop := lo <= p /\ ∃ v bytes, jG w p [v, .int .i64 B.length] /\ IB w (fun b => lo <= b /\ b ≠ p) 1 v bytes.length (bytes.map oY) /\ Zk B bytes
theorem Wr.ext {w w' : adV} {lo p : Nat} {B : List Bool} {M : Nat -> Prop} (h : Wr w lo p B) (hx : gX w w' M) (hM : ∀ b, lo <= b -> ¬ M b) : Wr w' lo p B := by
 obtain ⟨h0, v, bytes, h1, h2, h3⟩ := h
 exact ⟨h0, v, bytes, h1.ext hx (hM _ h0), wL h2 hx fun b hb => hM b hb.1, h3⟩
def Cw (w : adV) (p : Nat) (S : Nat -> Prop) (l : List UInt8) : Prop := ¬ S p /\ ∃ v, jG w p [v] /\ IB w S 1 v l.length (l.map oY)
theorem Cw.ext {w w' : adV} {p : Nat} {S M : Nat -> Prop} {l : List UInt8} (h : Cw w p S l) (x : gX w w' M) (hp : ¬ M p) (hM : ∀ b, S b -> ¬ M b) : Cw w' p S l := by
 obtain ⟨h0, v, h1, h2⟩ := h
 exact ⟨h0, v, h1.ext x hp, wL h2 x hM⟩
theorem Cw.lt {w : adV} {p : Nat} {S : Nat -> Prop} {l : List UInt8} (h : Cw w p S l) : p < w.heap.size := by
 obtain ⟨_, v, h1, _⟩ := h; exact h1.lt
theorem Cw.turn {w : adV} {p : Nat} {S T : Nat -> Prop} {l : List UInt8} (h : Cw w p S l) (hT : ∀ b, S b -> b < w.heap.size -> T b) (hp : ¬ T p) : Cw w p T l := by
 obtain ⟨h0, v, h1, h2, h3⟩ := h
 refine ⟨hp, v, h1, h2, ?_⟩
 rcases h3 with h3 | ⟨b, c, rest, g1, g2, g3, g4, g5⟩
 .exact .inl h3
 .exact .inr ⟨b, c, rest, g1, hT b g2 g3.lt, g3, g4, g5⟩
theorem DU {w : adV} {S : Nat -> Prop} {sz n : Nat} {v : adW} {l : List adW} (o3 : IB w S sz v n l) : ∃ a c, v = .slice a n c := by
 rcases o3.2 with ⟨rfl, rfl⟩ | ⟨b, c, rest, rfl, _⟩
 .exact ⟨_, _, rfl⟩
 .exact ⟨_, _, rfl⟩
theorem MD {w : adV} {S : Nat -> Prop} {n : Nat} {v : adW} {l : List adW} (o3 : IB w S 1 v n l) : Sl w v l := by
 have : zH w 0 1 v n l := ⟨o3.1, by
  rcases o3.2 with h | ⟨b, c, rest, g1, g2, g3⟩
  .exact .inl h
  .exact .inr ⟨b, c, rest, g1, by omega, g3⟩⟩
 exact this.sl
theorem SD (w : adV) : gU pg rM #[] w (fun r w' => r = .pointer (some ⟨w.heap.size, 0, none⟩) /\ w.heap.size < w'.heap.size /\ Cw w' w.heap.size (fun b => w.heap.size < b) [] /\ gX w w' jK) := by
 refine H4 ?_
 unfold F1 wG
 simp (disch := omega) only [eY, bS, dX]
 refine oE fun w1 o1 x1 s1 => ?_
 simp only [Value.cells] at o1
 exact ⟨rfl, by omega, ⟨by omega, _, o1, ⟨rfl, .inl ⟨rfl, rfl⟩⟩⟩, x1⟩
theorem Jf {p x n : Nat} {S : Nat -> Prop} {l : List UInt8} {w : adV} (h : Cw w p S l) (hS : ∀ b, w.heap.size <= b -> S b) (hx : x < 2 ^ 64) (hn : 1 <= n /\ n <= 8) (hl : l.length <= 100000000) :
 gU pg lH #[.pointer (some ⟨p, 0, none⟩), .int .u64 x, .int .i64 n] w (fun r w' => r = .tuple #[] /\ Cw w' p S (l ++ Bh x n) /\ gX w w' (fun y => y = p ∨ S y)) := by
 refine Ek ?_
 unfold BF qJ qI
 have d1 : decide ((n : Int) < 1) = false := by simp; omega
 have d2 : decide ((8 : Int) < (n : Int)) = false := by simp; omega
 simp (disch := omega) only [eY, aQ, ZT, true_and, dX, fD, fC, ZS, if_false, eZ, fM, d1, fR, d2, eH]
 unfold qZ qK
 refine jW.rule (fun m (t : adW) w' => ∃ i : Nat, m = n - i /\ t = .int .i64 i /\ i <= n /\ Cw w' p S (l ++ Bh x i) /\ gX w w' (fun y => y = p ∨ S y)) n
  ⟨0, rfl, rfl, by omega, by rw [Bh, abE]; exact h, gX.refl _ _⟩ ?_
 rintro m t w1 ⟨i, rfl, rfl, hi, hw, x1⟩
 unfold nK
 by_cases hlt : i < n
 .have d3 : decide ((i : Int) < (n : Int)) = true := by simp; omega
  have e0 : ((8 : Int) * (i : Int)) = ((8 * i : Nat) : Int) := by omega
  have e1 : (x : Int).fdiv (2 ^ (min (8 * i) IntKind.u64.bits)) = ((x / 256 ^ i : Nat) : Int) := by
   rw [SQ]; exact WV x (8 * i) (by omega)
  have e2 : IntKind.u8.wrap ((x / 256 ^ i : Nat) : Int) = (((UInt8.ofNat (x / 256 ^ i % 256)).toNat : Nat) : Int) := by
   rw [acM]
   generalize x / 256 ^ i = y
   rw [show IntKind.u8.wrap (y : Int) = (y : Int) % 256 from rfl]
   omega
  obtain ⟨c, hc⟩ : ∃ c, c = UInt8.ofNat (x / 256 ^ i % 256) := ⟨_, rfl⟩
  rw [<- hc] at e2
  obtain ⟨h0, v0, o, os⟩ := hw
  obtain ⟨va, vc, rfl⟩ := DU os
  have c0 := o.cell (off := 0)
  simp only [ZQ, ZR] at c0
  have lp := o.lt
  have hsz := x1.size
  have hpl := lB i x
  rw [Z1, hpl] at os
  rw [Z1, hpl] at c0
  simp (disch := omega) only [eY, fM, d3, fL, fO, e0, fK, fP, dX, bL, dZ, fJ, fT, ZV, e1, cL, e2, dY, c0, eP, eQ]
  refine EH (cells := #[.int .u8 c.toNat]) (by decide) (by decide) (by kernel_rfl) fun w2 o2 x2 s2 => ?_
  refine EI (m := 1) (news := [oY c]) (i := Tryd.t5) Tryd.underlying22 Tryd.underlying22 IC rfl rfl rfl (wL os x2 (fun _ _ h => h)) (o2.cl (off := 0) (l := [oY c]) (n := 1) rfl (fun i hi => by rw [ZY] <;> rfl)) (by simp [one, oY]) (fun b hb => hS b (by omega)) (by omega) (by rw [show Tryd.t5.bytes = 1 from rfl]; omega) (by decide) fun v3 w3 o3 x3 => ?_
  have x13 : gX w1 w3 S := (x2.mono fun _ _ h => h.elim).seq x3
  have op3 := o.ext x13 h0
  obtain ⟨a3, c3, rfl⟩ := DU o3
  refine Np op3 rfl (by simp) fun w4 o4 x4 s4 => ?_
  simp only [aaD, aaW] at o4
  have x14 : gX w1 w4 (fun y => y = p ∨ S y) := (x13.mono fun y _ h => .inr h).seq (x4.mono fun y _ h => .inl h)
  refine ⟨n - (i + 1), by omega, i + 1, rfl, rfl, by omega, ⟨h0, _, o4, ?_⟩, x1.seq x14⟩
  have := wL o3 x4 (fun b hb h => h0 (h ▸ hb))
  rw [PS, <- hc, <- aaH, abD, Z1, Z1, lB]
  exact this
 .have d3 : decide ((i : Int) < (n : Int)) = false := by simp; omega
  obtain rfl : i = n := by omega
  simp (disch := omega) only [eY, fM, d3, fL, fO, fK, fP, dX, bL, dZ, fJ, fT, cL, dY, eH]
  exact ⟨hw, x1⟩
theorem Ru {p : Nat} {S : Nat -> Prop} {l : List UInt8} {w : adV} (h : Cw w p S l) (hl : l.length <= 1000000000) :
 gU pg nY #[.pointer (some ⟨p, 0, none⟩)] w (fun r w' => zH w' w.heap.size 1 r l.length (l.map oY) /\ gX w w' jK) := by
 refine Hw ?_
 unfold EN uM
 obtain ⟨h0, v0, o, os⟩ := h
 obtain ⟨va, vc, rfl⟩ := DU os
 have c0 := o.cell (off := 0)
 simp only [ZQ, ZR] at c0
 simp (disch := omega) only [eY, aQ, ZT, fL, dX, bL, dY, c0, eP, eH]
 exact NQ (MD os) hl
end Go.Proofs.YteelnmpbnaohpaaDoor
namespace Go.Proofs.YteelnmpbnaohpaaDoor
open Go Go.En
set_option maxRecDepth 4000
theorem Xd (l : List UInt8) : ∀ y ∈ l.map oY, one y = true := fun y hy => by
 obtain ⟨z, -, rfl⟩ := aaY.1 hy; rfl
end Go.Proofs.YteelnmpbnaohpaaDoor
namespace Go.Proofs.YteelnmpbnaohpaaDoor
open Go Go.En Go.Pu
set_option maxRecDepth 4000
abbrev U5 (k v : Nat) : adW := .agg #[.int .u8 (k : Int), .int .u64 (v : Int)]
abbrev Ba (r : Nat × Nat) : List adW := [.int .u8 (r.1 : Int), .int .u64 (r.2 : Int)]
theorem Ra {k v : Nat} {w : adV} (hg : rD w) (hk : k < 256) (hv : v < 2 ^ 64) :
 gU pg zX #[U5 k v] w (fun r w' => (if k = 1 ∨ k = 2 then ∃ b, r = .tuple #[b, .int .i64 0] /\ zH w' w.heap.size 1 b 13 ((tJ iE k v).map oY) else r = .tuple #[.slice none 0 0, .int .i64 1]) /\ gX w w' jK) := by
 refine Ny ?_
 obtain ⟨RR, hRR⟩ : ∃ RR : adW -> adV -> Prop, RR = fun r w' => (if k = 1 ∨ k = 2 then ∃ b, r = .tuple #[b, .int .i64 0] /\ zH w' w.heap.size 1 b 13 ((tJ iE k v).map oY) else r = .tuple #[.slice none 0 0, .int .i64 1]) /\ gX w w' jK := ⟨_, rfl⟩
 rw [<- hRR]
 unfold O7 Fs
 refine oE fun w1 o1 x1 s1 => ?_
 have o1 : jG w1 w.heap.size (Ba (k, v)) := o1
 have c0 := o1.cell (off := 0)
 have c1 := o1.cell (off := 1)
 simp only [ZQ, ZR] at c0 c1
 by_cases h1 : k < 1
 .have d1 : decide ((k : Int) < 1) = true := by simp; omega
  simp (disch := omega) only [eY, gN, dX, stepR_skip, fP, fZ, fO, gK, gE, gC, gR, gA, eU, fV, fT, gG, fS, fM, fU, fR, fX, gH, fY, fQ, fC, gB, gI, fL, iS, iQ, iO, iR, iM, iN, iP, iU, iT, eP, Result.ok.injEq, Next.value.injEq, true_and, and_true, fK, fJ, gJ, fN, gD, gS, ZV, fE, fH, fF, fD, eZ, eX, fB, eT, eQ, eH, if_true, if_false, ZS, ZY, ZT, ZU, ZX, ZW, ZR, ZQ, eA, dV, aB, dI, dE, cJ, eB, eS, eE, dK, eD, fA, dQ, eN, bQ, dG, bJ, dL, aI, aH, eL, aV, bZ, eI, aF, eJ, dF, aR, bF, eF, bH, bE, bB, aO, aL, cD, fG, dY, cA, cI, dA, cH, dT, bC, eK, bX, dH, bP, aU, bU, aC, bY, bO, cF, bW, aY, bA, aX, bV, dM, cU, bR, aZ, aK, aJ, bG, aE, dC, dW, aN, aM, aT, aD, cY, aG, cL, bT, bD, aP, cM, cG, aA, dN, cQ, cV, cC, dO, cB, dJ, dU, cP, eC, eM, bN, aS, dZ, bS, aQ, bL, dS, dB, cO, cS, cN, bK, bM, cX, dR, cR, dD, cZ, c0, d1]
  rw [hRR]
  refine ⟨?_, x1⟩
  rw [if_neg (by omega)]
 have d1 : decide ((k : Int) < 1) = false := by simp; omega
 by_cases h2 : 2 < k
 .have d2 : decide ((2 : Int) < (k : Int)) = true := by simp; omega
  simp (disch := omega) only [eY, gN, dX, stepR_skip, fP, fZ, fO, gK, gE, gC, gR, gA, eU, fV, fT, gG, fS, fM, fU, fR, fX, gH, fY, fQ, fC, gB, gI, fL, iS, iQ, iO, iR, iM, iN, iP, iU, iT, eP, Result.ok.injEq, Next.value.injEq, true_and, and_true, fK, fJ, gJ, fN, gD, gS, ZV, fE, fH, fF, fD, eZ, eX, fB, eT, eQ, eH, if_true, if_false, ZS, ZY, ZT, ZU, ZX, ZW, ZR, ZQ, eA, dV, aB, dI, dE, cJ, eB, eS, eE, dK, eD, fA, dQ, eN, bQ, dG, bJ, dL, aI, aH, eL, aV, bZ, eI, aF, eJ, dF, aR, bF, eF, bH, bE, bB, aO, aL, cD, fG, dY, cA, cI, dA, cH, dT, bC, eK, bX, dH, bP, aU, bU, aC, bY, bO, cF, bW, aY, bA, aX, bV, dM, cU, bR, aZ, aK, aJ, bG, aE, dC, dW, aN, aM, aT, aD, cY, aG, cL, bT, bD, aP, cM, cG, aA, dN, cQ, cV, cC, dO, cB, dJ, dU, cP, eC, eM, bN, aS, dZ, bS, aQ, bL, dS, dB, cO, cS, cN, bK, bM, cX, dR, cR, dD, cZ, c0, d1, d2]
  rw [hRR]
  refine ⟨?_, x1⟩
  rw [if_neg (by omega)]
 have d2 : decide ((2 : Int) < (k : Int)) = false := by simp; omega
 have e1 : IntKind.u64.wrap (k : Int) = (k : Int) := fJ (by omega) (by omega)
 simp (disch := omega) only [eY, gN, dX, stepR_skip, fP, fZ, fO, gK, gE, gC, gR, gA, eU, fV, fT, gG, fS, fM, fU, fR, fX, gH, fY, fQ, fC, gB, gI, fL, iS, iQ, iO, iR, iM, iN, iP, iU, iT, eP, Result.ok.injEq, Next.value.injEq, true_and, and_true, fK, fJ, gJ, fN, gD, gS, ZV, fE, fH, fF, fD, eZ, eX, fB, eT, eQ, eH, if_true, if_false, ZS, ZY, ZT, ZU, ZX, ZW, ZR, ZQ, eA, dV, aB, dI, dE, cJ, eB, eS, eE, dK, eD, fA, dQ, eN, bQ, dG, bJ, dL, aI, aH, eL, aV, bZ, eI, aF, eJ, dF, aR, bF, eF, bH, bE, bB, aO, aL, cD, fG, dY, cA, cI, dA, cH, dT, bC, eK, bX, dH, bP, aU, bU, aC, bY, bO, cF, bW, aY, bA, aX, bV, dM, cU, bR, aZ, aK, aJ, bG, aE, dC, dW, aN, aM, aT, aD, cY, aG, cL, bT, bD, aP, cM, cG, aA, dN, cQ, cV, cC, dO, cB, dJ, dU, cP, eC, eM, bN, aS, dZ, bS, aQ, bL, dS, dB, cO, cS, cN, bK, bM, cX, dR, cR, dD, cZ, c0, d1, d2]
 refine (SD w1).mono ?_
 rintro r w2 ⟨rfl, s2, h2', x2⟩
 have p2 : w2.cell? ⟨w.heap.size, 0, none⟩ = _ := (o1.ext x2 (fun h => h)).cell (off := 0)
 simp only [ZQ, ZR] at p2
 simp (disch := omega) only [eY, gN, dX, stepR_skip, fP, fZ, fO, gK, gE, gC, gR, gA, eU, fV, fT, gG, fS, fM, fU, fR, fX, gH, fY, fQ, fC, gB, gI, fL, iS, iQ, iO, iR, iM, iN, iP, iU, iT, eP, Result.ok.injEq, Next.value.injEq, true_and, and_true, fK, fJ, gJ, fN, gD, gS, ZV, fE, fH, fF, fD, eZ, eX, fB, eT, eQ, eH, if_true, if_false, ZS, ZY, ZT, ZU, ZX, ZW, ZR, ZQ, eA, dV, aB, dI, dE, cJ, eB, eS, eE, dK, eD, fA, dQ, eN, bQ, dG, bJ, dL, aI, aH, eL, aV, bZ, eI, aF, eJ, dF, aR, bF, eF, bH, bE, bB, aO, aL, cD, fG, dY, cA, cI, dA, cH, dT, bC, eK, bX, dH, bP, aU, bU, aC, bY, bO, cF, bW, aY, bA, aX, bV, dM, cU, bR, aZ, aK, aJ, bG, aE, dC, dW, aN, aM, aT, aD, cY, aG, cL, bT, bD, aP, cM, cG, aA, dN, cQ, cV, cC, dO, cB, dJ, dU, cP, eC, eM, bN, aS, dZ, bS, aQ, bL, dS, dB, cO, cS, cN, bK, bM, cX, dR, cR, dD, cZ, p2, e1]
 refine (Jf (x := k) (n := 1) h2' (fun b hb => by omega) (by omega) ⟨by omega, by omega⟩ (by simp)).mono ?_
 rintro r w3 ⟨rfl, h3, x3⟩
 have z3 := x3.size
 have o3 := (o1.ext x2 (fun h => h)).ext x3 (by omega)
 have p3 := o3.cell (off := 1)
 simp only [ZQ, ZR] at p3
 simp (disch := omega) only [eY, gN, dX, stepR_skip, fP, fZ, fO, gK, gE, gC, gR, gA, eU, fV, fT, gG, fS, fM, fU, fR, fX, gH, fY, fQ, fC, gB, gI, fL, iS, iQ, iO, iR, iM, iN, iP, iU, iT, eP, Result.ok.injEq, Next.value.injEq, true_and, and_true, fK, fJ, gJ, fN, gD, gS, ZV, fE, fH, fF, fD, eZ, eX, fB, eT, eQ, eH, if_true, if_false, ZS, ZY, ZT, ZU, ZX, ZW, ZR, ZQ, eA, dV, aB, dI, dE, cJ, eB, eS, eE, dK, eD, fA, dQ, eN, bQ, dG, bJ, dL, aI, aH, eL, aV, bZ, eI, aF, eJ, dF, aR, bF, eF, bH, bE, bB, aO, aL, cD, fG, dY, cA, cI, dA, cH, dT, bC, eK, bX, dH, bP, aU, bU, aC, bY, bO, cF, bW, aY, bA, aX, bV, dM, cU, bR, aZ, aK, aJ, bG, aE, dC, dW, aN, aM, aT, aD, cY, aG, cL, bT, bD, aP, cM, cG, aA, dN, cQ, cV, cC, dO, cB, dJ, dU, cP, eC, eM, bN, aS, dZ, bS, aQ, bL, dS, dB, cO, cS, cN, bK, bM, cX, dR, cR, dD, cZ, p3]
 refine (Jf (x := v) (n := 8) h3 (fun b hb => by omega) hv ⟨by omega, by omega⟩ (by simp [lB])).mono ?_
 rintro r w4 ⟨rfl, h4, x4⟩
 have z4 := x4.size
 have hH : [] ++ Bh k 1 ++ Bh v 8 = KS k v := rfl
 rw [hH] at h4
 have hHl : (KS k v).length = 9 := by unfold KS; rw [Z1, lB, lB]
 have x14 : gX w1 w4 jK := (x2.trans x3 fun y hy h => by omega).trans x4 fun y hy h => by omega
 refine (Ru h4 (by omega)).mono ?_
 rintro r w5 ⟨ho5, x5⟩
 refine (Wz (l := KS k v) (hg.ext ((x1.seq x14).seq x5)) ho5.sl (by omega)).mono ?_
 rintro r w6 ⟨rfl, x6⟩
 have hcr := WD (KS k v)
 have hM : tL = 4294967296 := rfl
 have e2 : IntKind.u64.wrap ((iE (KS k v) : Nat) : Int) = ((iE (KS k v) : Nat) : Int) := fJ (by omega) (by omega)
 have h6 := (h4.ext x5 (fun h => h) (fun _ _ h => h)).ext x6 (fun h => h) (fun _ _ h => h)
 have z5 := x5.size
 have z6 := x6.size
 simp (disch := omega) only [eY, gN, dX, stepR_skip, fP, fZ, fO, gK, gE, gC, gR, gA, eU, fV, fT, gG, fS, fM, fU, fR, fX, gH, fY, fQ, fC, gB, gI, fL, iS, iQ, iO, iR, iM, iN, iP, iU, iT, eP, Result.ok.injEq, Next.value.injEq, true_and, and_true, fK, fJ, gJ, fN, gD, gS, ZV, fE, fH, fF, fD, eZ, eX, fB, eT, eQ, eH, if_true, if_false, ZS, ZY, ZT, ZU, ZX, ZW, ZR, ZQ, eA, dV, aB, dI, dE, cJ, eB, eS, eE, dK, eD, fA, dQ, eN, bQ, dG, bJ, dL, aI, aH, eL, aV, bZ, eI, aF, eJ, dF, aR, bF, eF, bH, bE, bB, aO, aL, cD, fG, dY, cA, cI, dA, cH, dT, bC, eK, bX, dH, bP, aU, bU, aC, bY, bO, cF, bW, aY, bA, aX, bV, dM, cU, bR, aZ, aK, aJ, bG, aE, dC, dW, aN, aM, aT, aD, cY, aG, cL, bT, bD, aP, cM, cG, aA, dN, cQ, cV, cC, dO, cB, dJ, dU, cP, eC, eM, bN, aS, dZ, bS, aQ, bL, dS, dB, cO, cS, cN, bK, bM, cX, dR, cR, dD, cZ, e2]
 refine (Jf (x := iE (KS k v)) (n := 4) h6 (fun b hb => by omega) (by omega) ⟨by omega, by omega⟩ (by omega)).mono ?_
 rintro r w7 ⟨rfl, h7, x7⟩
 have z7 := x7.size
 have hR : KS k v ++ Bh (iE (KS k v)) 4 = tJ iE k v := rfl
 rw [hR] at h7
 have h13 := rG iE k v
 refine (Ru h7 (by omega)).mono ?_
 rintro r w8 ⟨ho8, x8⟩
 have x17 : gX w1 w7 jK := ((x14.seq x5).seq x6).trans x7 fun y hy h => by omega
 rw [h13] at ho8
 rw [hRR]
 refine ⟨?_, (x1.seq x17).seq x8⟩
 rw [if_pos (by omega)]
 refine ⟨r, rfl, ho8.1, ?_⟩
 rcases ho8.2 with h | ⟨b, c, rest, g1, g2, g3⟩
 .exact .inl h
 .exact .inr ⟨b, c, rest, g1, by have := x1.size; have := x17.size; omega, g3⟩
theorem Tk {k : Nat} {l : List (Nat × Nat)} {i : Nat} (h : i < l.length) : kB k (l.take (i + 1)) = if l[i].1 = k then max l[i].2 (kB k (l.take i)) else kB k (l.take i) := by
 rw [abM h, KO]
theorem PZ {l : List (Nat × Nat)} {i : Nat} (h : i < l.length) : ((l.flatMap Ba).drop (i * 2)).take 2 = Ba l[i] := by
 induction l generalizing i with
 | nil => simp at h
 | cons a l ih =>
   cases i with
   | zero => rfl
   | succ i =>
     rw [adE, show (i + 1) * 2 = 2 + i * 2 from by omega, <- acS]
     have : ((Ba a ++ l.flatMap Ba).drop 2) = l.flatMap Ba := rfl
     rw [this, ih (by simpa using h)] <;> rfl
theorem Lr (l : List (Nat × Nat)) : (l.flatMap Ba).length = l.length * 2 := by
 induction l with
 | nil => rfl
 | cons a l ih =>
   rw [adE, Z1, ih, aaK]
   simp only [aaK, abO]; omega
theorem UF {v : adW} {l : List (Nat × Nat)} {k : Nat} {w : adV} (hv : ∃ S, IB w S 2 v l.length (l.flatMap Ba)) (hl : l.length <= 100000000) (ho : ∀ r ∈ l, r.1 < 256 /\ r.2 < 2 ^ 64) (hk : k < 256) :
 gU pg Bv #[v, .int .u8 (k : Nat)] w (fun r w' => (∃ t, r = .tuple #[.int .u64 (kB k l : Nat), .bool t]) /\ gX w w' jK) := by
 refine Mu ?_
 obtain ⟨S, hs⟩ := hv
 unfold MX Ch Cq DK DP C6 Dt Dy
 obtain ⟨a, c, rfl⟩ := DU hs
 simp (disch := omega) only [eY, gN, dX, stepR_skip, fP, fZ, fO, gK, gE, gC, gR, gA, eU, fV, fT, gG, fS, fM, fU, fR, fX, gH, fY, fQ, fC, gB, gI, fL, iS, iQ, iO, iR, iM, iN, iP, iU, iT, eP, Result.ok.injEq, Next.value.injEq, true_and, and_true, fK, fJ, gJ, fN, gD, gS, ZV, fE, fH, fF, fD, eZ, eX, fB, eT, eQ, eH, if_true, if_false, ZS, ZY, ZT, ZU, ZX, ZW, ZR, ZQ, eA, dV, aB, dI, dE, cJ, eB, eS, eE, dK, eD, fA, dQ, eN, bQ, dG, bJ, dL, aI, aH, eL, aV, bZ, eI, aF, eJ, dF, aR, bF, eF, bH, bE, bB, aO, aL, cD, fG, dY, cA, cI, dA, cH, dT, bC, eK, bX, dH, bP, aU, bU, aC, bY, bO, cF, bW, aY, bA, aX, bV, dM, cU, bR, aZ, aK, aJ, bG, aE, dC, dW, aN, aM, aT, aD, cY, aG, cL, bT, bD, aP, cM, cG, aA, dN, cQ, cV, cC, dO, cB, dJ, dU, cP, eC, eM, bN, aS, dZ, bS, aQ, bL, dS, dB, cO, cS, cN, bK, bM, cX, dR, cR, dD, cZ]
 refine jW.rule (fun m (t : adW × adW × adW) w' => ∃ (i : Nat) (tb : Bool), m = l.length - i /\ i <= l.length /\ t = (.int .u64 (kB k (l.take i) : Nat), .bool tb, .int .i64 (i : Nat)) /\ gX w w' jK) l.length ⟨0, false, rfl, by omega, rfl, gX.refl _ _⟩ ?_
 rintro m t w1 ⟨i, tb, rfl, hi, rfl, x1⟩
 unfold Al DF
 by_cases hlt : i < l.length
 .have d1 : decide ((i : Int) < (l.length : Int)) = true := by simp; omega
  obtain ⟨h1, h2⟩ := ho _ (abX hlt)
  rcases (hs.ext x1 (fun _ _ h => h)).2 with ⟨_, h0⟩ | ⟨b, c', rest, hv, hb, ob, hbl, hbc⟩
  .omega
  cases hv
  have l1 := tI (off := i * 2) ob (by rw [Z1, Lr]; omega)
  rw [aaP (by rw [Lr]; omega), aaM (by rw [Z9, Lr]; omega), PZ hlt] at l1
  have hlast := Tk (k := k) hlt
  obtain ⟨M, hM⟩ : ∃ M, M = kB k (l.take i) := ⟨_, rfl⟩
  rw [<- hM] at hlast ⊢
  simp (disch := omega) only [eY, gN, dX, stepR_skip, fP, fZ, fO, gK, gE, gC, gR, gA, eU, fV, fT, gG, fS, fM, fU, fR, fX, gH, fY, fQ, fC, gB, gI, fL, iS, iQ, iO, iR, iM, iN, iP, iU, iT, eP, Result.ok.injEq, Next.value.injEq, true_and, and_true, fK, fJ, gJ, fN, gD, gS, ZV, fE, fH, fF, fD, eZ, eX, fB, eT, eQ, eH, if_true, if_false, ZS, ZY, ZT, ZU, ZX, ZW, ZR, ZQ, eA, dV, aB, dI, dE, cJ, eB, eS, eE, dK, eD, fA, dQ, eN, bQ, dG, bJ, dL, aI, aH, eL, aV, bZ, eI, aF, eJ, dF, aR, bF, eF, bH, bE, bB, aO, aL, cD, fG, dY, cA, cI, dA, cH, dT, bC, eK, bX, dH, bP, aU, bU, aC, bY, bO, cF, bW, aY, bA, aX, bV, dM, cU, bR, aZ, aK, aJ, bG, aE, dC, dW, aN, aM, aT, aD, cY, aG, cL, bT, bD, aP, cM, cG, aA, dN, cQ, cV, cC, dO, cB, dJ, dU, cP, eC, eM, bN, aS, dZ, bS, aQ, bL, dS, dB, cO, cS, cN, bK, bM, cX, dR, cR, dD, cZ, d1, l1]
  refine A7 fun w2 o2 x2 s2 => ?_
  refine Ar o2 rfl (by simp [one]) (by decide) fun w3 o3 x3 s3 => ?_
  have x13 : gX w w3 jK := (x1.seq x2).trans x3 fun y hy h => by have := x1.size; omega
  have o3 : jG w3 w1.heap.size (Ba l[i]) := o3
  have c0 := o3.cell (off := 0)
  have c1 := o3.cell (off := 1)
  simp only [ZQ, ZR] at c0 c1
  have e3 : (if (((l[i]'hlt).2 : Nat) : Int) > (M : Int) then (((l[i]'hlt).2 : Nat) : Int) else (M : Int)) = ((max (l[i]'hlt).2 M : Nat) : Int) := by split <;> omega
  by_cases hq : (l[i]'hlt).1 = k
  .have n1 : ((((l[i]'hlt).1 : Nat) : Int) == (k : Int)) = true := by rw [hq]; simp
   rw [if_pos hq] at hlast
   unfold uN
   simp (disch := omega) only [eY, gN, dX, stepR_skip, fP, fZ, fO, gK, gE, gC, gR, gA, eU, fV, fT, gG, fS, fM, fU, fR, fX, gH, fY, fQ, fC, gB, gI, fL, iS, iQ, iO, iR, iM, iN, iP, iU, iT, eP, Result.ok.injEq, Next.value.injEq, true_and, and_true, fK, fJ, gJ, fN, gD, gS, ZV, fE, fH, fF, fD, eZ, eX, fB, eT, eQ, eH, if_true, if_false, ZS, ZY, ZT, ZU, ZX, ZW, ZR, ZQ, eA, dV, aB, dI, dE, cJ, eB, eS, eE, dK, eD, fA, dQ, eN, bQ, dG, bJ, dL, aI, aH, eL, aV, bZ, eI, aF, eJ, dF, aR, bF, eF, bH, bE, bB, aO, aL, cD, fG, dY, cA, cI, dA, cH, dT, bC, eK, bX, dH, bP, aU, bU, aC, bY, bO, cF, bW, aY, bA, aX, bV, dM, cU, bR, aZ, aK, aJ, bG, aE, dC, dW, aN, aM, aT, aD, cY, aG, cL, bT, bD, aP, cM, cG, aA, dN, cQ, cV, cC, dO, cB, dJ, dU, cP, eC, eM, bN, aS, dZ, bS, aQ, bL, dS, dB, cO, cS, cN, bK, bM, cX, dR, cR, dD, cZ, c0, c1, n1, e3]
   exact ⟨l.length - (i + 1), by omega, i + 1, true, rfl, by omega, by rw [hlast] <;> rfl, x13⟩
  .have n1 : ((((l[i]'hlt).1 : Nat) : Int) == (k : Int)) = false := by rw [beq_eq_false_iff_ne]; omega
   rw [if_neg hq] at hlast
   unfold uN
   simp (disch := omega) only [eY, gN, dX, stepR_skip, fP, fZ, fO, gK, gE, gC, gR, gA, eU, fV, fT, gG, fS, fM, fU, fR, fX, gH, fY, fQ, fC, gB, gI, fL, iS, iQ, iO, iR, iM, iN, iP, iU, iT, eP, Result.ok.injEq, Next.value.injEq, true_and, and_true, fK, fJ, gJ, fN, gD, gS, ZV, fE, fH, fF, fD, eZ, eX, fB, eT, eQ, eH, if_true, if_false, ZS, ZY, ZT, ZU, ZX, ZW, ZR, ZQ, eA, dV, aB, dI, dE, cJ, eB, eS, eE, dK, eD, fA, dQ, eN, bQ, dG, bJ, dL, aI, aH, eL, aV, bZ, eI, aF, eJ, dF, aR, bF, eF, bH, bE, bB, aO, aL, cD, fG, dY, cA, cI, dA, cH, dT, bC, eK, bX, dH, bP, aU, bU, aC, bY, bO, cF, bW, aY, bA, aX, bV, dM, cU, bR, aZ, aK, aJ, bG, aE, dC, dW, aN, aM, aT, aD, cY, aG, cL, bT, bD, aP, cM, cG, aA, dN, cQ, cV, cC, dO, cB, dJ, dU, cP, eC, eM, bN, aS, dZ, bS, aQ, bL, dS, dB, cO, cS, cN, bK, bM, cX, dR, cR, dD, cZ, c0, c1, n1, e3]
   exact ⟨l.length - (i + 1), by omega, i + 1, tb, rfl, by omega, by rw [hlast] <;> rfl, x13⟩
 .have d1 : decide ((i : Int) < (l.length : Int)) = false := by simp; omega
  unfold Aj
  rw [Z3 (by omega)]
  simp (disch := omega) only [eY, gN, dX, stepR_skip, fP, fZ, fO, gK, gE, gC, gR, gA, eU, fV, fT, gG, fS, fM, fU, fR, fX, gH, fY, fQ, fC, gB, gI, fL, iS, iQ, iO, iR, iM, iN, iP, iU, iT, eP, Result.ok.injEq, Next.value.injEq, true_and, and_true, fK, fJ, gJ, fN, gD, gS, ZV, fE, fH, fF, fD, eZ, eX, fB, eT, eQ, eH, if_true, if_false, ZS, ZY, ZT, ZU, ZX, ZW, ZR, ZQ, eA, dV, aB, dI, dE, cJ, eB, eS, eE, dK, eD, fA, dQ, eN, bQ, dG, bJ, dL, aI, aH, eL, aV, bZ, eI, aF, eJ, dF, aR, bF, eF, bH, bE, bB, aO, aL, cD, fG, dY, cA, cI, dA, cH, dT, bC, eK, bX, dH, bP, aU, bU, aC, bY, bO, cF, bW, aY, bA, aX, bV, dM, cU, bR, aZ, aK, aJ, bG, aE, dC, dW, aN, aM, aT, aD, cY, aG, cL, bT, bD, aP, cM, cG, aA, dN, cQ, cV, cC, dO, cB, dJ, dU, cP, eC, eM, bN, aS, dZ, bS, aQ, bL, dS, dB, cO, cS, cN, bK, bM, cX, dR, cR, dD, cZ, d1]
  exact ⟨⟨tb, rfl⟩, x1⟩
theorem VE {v : adW} {l : List UInt8} {w : adV} (hg : rD w) (hv : Bs w v l) (hl : l.length <= 100000000) :
 gU pg wX #[v] w (fun r w' => r = .agg ((hU l).map oY).toArray /\ gX w w' jK) := by
 refine Mm ?_
 unfold Nb Dn
 refine Hc fun w1 o1 x1 s1 => ?_
 have o1 : jG w1 w.heap.size (List.replicate 32 (.int .u8 0)) := o1
 refine EH (cells := #[.int .u8 0]) (by decide) (by decide) (by kernel_rfl) fun w2 o2 x2 s2 => ?_
 have o2 : jG w2 w1.heap.size [.int .u8 0] := o2
 have hos : zH w2 w1.heap.size 1 (.slice (some ⟨w1.heap.size, 0, none⟩) 1 1) 1 [.int .u8 0] := ⟨rfl, .inr ⟨_, 1, [], rfl, Z8 _, o2, rfl, Z8 _⟩⟩
 have hcl := (hv.ext (x1.seq x2) (jJ _)).cl
 rw [ZZ] at hcl
 refine B3 hos hcl (Xd _) (by omega) (by omega) fun v3 w3 o3 x3 => ?_
 have o3 : zH w3 w1.heap.size 1 v3 (1 + l.length) ((0 :: l).map oY) := o3
 have z3 := x3.size
 have x03 : gX w w3 jK := (x1.seq x2).trans x3 fun y hy h => by omega
 have z0 : w1.heap.size = w.heap.size + 1 := s1
 refine (WB (l := 0 :: l) (hg.ext x03) o3.sl (by simp; omega)).mono ?_
 rintro r w4 ⟨rfl, x4⟩
 have r4 := ((o1.ext x2 (fun h => h)).ext x3 (by omega)).ext x4 (fun h => h)
 have hl32 : ((hU l).map oY).length = 32 := by rw [ZZ]; exact zP _
 refine Jd r4 (by rw [acB]; exact hl32) (fun y hy => Fx _ y (by simpa using hy)) (by simp) fun w5 o5 x5 s5 => ?_
 rw [aaT, Ha _ _ (by rw [ZZ, zP]; simp)] at o5
 refine Jt o5 (by rw [ZZ]; have := zP (0 :: l); omega) ?_
 rw [abT, Z3 (by rw [ZZ]; have := zP (0 :: l); omega)]
 exact ⟨rfl, (x03.seq x4).trans x5 fun y hy h => by omega⟩
end Go.Proofs.YteelnmpbnaohpaaDoor
namespace Go.En
open Go
section
variable {P : Program}
theorem Ry {a : Array adW} {t x : Nat} {v : adW} (h : t < a.size) : JM (a.setIfInBounds t v) x = if x = t then v else JM a x := by
 unfold JM
 rw [Z2, Z2]
 by_cases hx : x = t
 .subst hx; rw [aaC h, if_pos rfl] <;> rfl
 .rw [aaE (fun e => hx e.symm), if_neg hx]
theorem UL {N x : Nat} {g : Env} (h : x < N) : JM (tmpsOf N g) x = g x := by
 unfold JM tmpsOf
 rw [Z2, aaA (by simpa using h)]
 simp
theorem Wy {f : FuncId} {fn : Func} (hf : P.funcs[f]? = some fn) (hb : fn.body.isSome = true) (hn : (fn.name == "runtime.NumGoroutine") = false) (cap : Array adW) (args : List adW) (w : adV) :
 (xZ (.func (.func f) #[] cap) args).run P w = .ok (.enter f (args.toArray ++ cap)) w := by
 unfold xZ Deferred.ofValue
 simp only [pure_bind, invoke, Array.empty_append]
 exact Ht hf hb hn _ _
def Oj (r : Loop) (args : List adW) : Array adW := (r.params.zip args.toArray).foldl (fun tmps (t, a) => tmps.setIfInBounds t a) r.tmps
theorem WN {r : Loop} {a : Tmp} {t : Array adW} (hp : r.params = #[a]) (ht : r.tmps = t) (x : adW) : Oj r [x] = t.setIfInBounds a x := by
 unfold Oj; rw [hp, ht]; simp
theorem TN {l : Nat} {r : Loop} {args : List adW} {w : adV} (h : w.heap[l]? = some (.loop r)) (hs : args.length = r.params.size) :
 (xZ (Dk l) args).run P w = .ok (.round l r.fn (Oj r args) r.assign r.body) w := by
 unfold xZ Dk Deferred.ofValue
 simp only [pure_bind, invoke, Array.empty_append]
 exact run_yield h (by simpa using hs)
theorem V5 {f fi : FuncId} {fn : Func} {gf : Operand} {ps : Array Tmp} {ZP bd : Code} {Q : Exit -> Env -> adV -> Prop} {g : Env} {w : adV} {cap : Array adW}
 (hm : noMark (g DS) = true) (he : ev g gf = .func (.func fi) #[] cap) (hf : P.funcs[fi]? = some fn) (hb : fn.body.isSome = true) (hn : (fn.name == "runtime.NumGoroutine") = false)
 (h : gU P fi (#[Dk (w.heap.size + 1)] ++ cap) (U3 f (Mj P f) ps ZP bd g w) fun _ w3 => Ws (w.heap.size + 1) Q (put g (some DS) (.pointer (some ⟨w.heap.size, 0, none⟩))) w3) :
 RF P f gf ps ZP bd Q g w := by
 unfold RF
 rw [hm]
 simp only
 rw [he, Wy hf hb hn]
 exact h
theorem gX.putObj (w : adV) (l : Nat) (o : Obj) : gX w (w.putObj l o) (fun y => y = l) :=
 ⟨rfl, rfl, rfl, by simp, fun b hb hM => World.putObj_heap_other hM⟩
theorem Cp {w w' : adV} {l : Nat} {o : Obj} {M : Nat -> Prop} (h : w.heap[l]? = some o) (hx : gX w w' M) (hM : ¬ M l) : w'.heap[l]? = some o := by
 have : l < w.heap.size := by
  rcases abB l w.heap.size with h' | h'
  .exact h'
  .rw [aaL h'] at h; cases h
 rw [hx.keep l this hM]; exact h
theorem Vg {w : adV} {l : Nat} {o : Obj} (h : w.heap[l]? = some o) : l < w.heap.size := by
 rcases abB l w.heap.size with h' | h'
 .exact h'
 .rw [aaL h'] at h; cases h
theorem Uj (f : FuncId) (N : Nat) (ps : Array Tmp) (ZP bd : Code) (g : Env) (w : adV) :
 gX w (U3 f N ps ZP bd g w) jK /\ (U3 f N ps ZP bd g w).heap.size = w.heap.size + 2 /\ (U3 f N ps ZP bd g w).heap[w.heap.size]? = some (.deferred (some [])) /\
  (U3 f N ps ZP bd g w).heap[w.heap.size + 1]? = some (.loop { state := .ready, pending := none, fn := f, tmps := tmpsOf N g, params := ps, assign := ZP, body := bd, defers := w.heap.size }) := by
 unfold U3
 have x1 := gX.alloc w (.deferred (some [])) jK
 have h1 := World.alloc_heap_new w (.deferred (some []))
 have z1 : (w.alloc (.deferred (some []))).heap.size = w.heap.size + 1 := by simp
 generalize w.alloc (.deferred (some [])) = w1 at *
 refine ⟨x1.seq (gX.alloc w1 _ jK), by simp [z1], Cp h1 (gX.alloc w1 _ jK) (fun h => h), ?_⟩
 have := World.alloc_heap_new w1 (.loop { state := .ready, pending := none, fn := f, tmps := tmpsOf N g, params := ps, assign := ZP, body := bd, defers := w.heap.size })
 rw [z1] at this
 exact this
theorem T7 {l : Nat} {r : Loop} {w : adV} {K : adV -> Prop} (h : w.heap[l]? = some (.loop r)) (hr : r.state = .ready)
 (hk : ∀ w', w'.heap[l]? = some (.loop { r with state := .busy }) -> gX w w' (fun y => y = l) -> w'.heap.size = w.heap.size -> K w') : Zr l w K :=
 ⟨r, h, hr, hk _ (World.putObj_heap_same (Vg h)) (gX.putObj _ _ _) (by simp)⟩
theorem OD {l : Nat} {r : Loop} {j : Option Code} {w : adV} {R : adW -> adV -> Prop} (h : w.heap[l]? = some (.loop r))
 (hk : ∀ w', w'.heap[l]? = some (.loop { r with state := ZD j, pending := j }) -> gX w w' (fun y => y = l) -> w'.heap.size = w.heap.size -> R (.bool j.isNone) w') : R6 l j R w :=
 ⟨r, h, hk _ (World.putObj_heap_same (Vg h)) (gX.putObj _ _ _) (by simp)⟩
theorem Nk {l : Nat} {r : Loop} {w : adV} {Q : Exit -> Env -> adV -> Prop} {g : Env} (h : w.heap[l]? = some (.loop r)) (hb : r.state ≠ .busy)
 (hk : ∀ w', gX w w' (fun y => y = l) -> w'.heap.size = w.heap.size -> XX Q g r.pending w') : Ws l Q g w :=
 ⟨r, h, hb, hk _ (gX.putObj _ _ _) (by simp)⟩
theorem SR {b : Nat} {w : adV} {K : adV -> Prop} (h : w.heap[b]? = some (.deferred (some []))) (hk : ∀ w', gX w w' (fun y => y = b) -> w'.heap.size = w.heap.size -> K w') :
 CA (.pointer (some ⟨b, 0, none⟩)) w K := ⟨h, hk _ (gX.putObj _ _ _) (by simp)⟩
theorem MR {f : FuncId} (first captured : List adW) (w : adV) : (Jg (.func f) first captured).run P w = .ok (.value (.func (.func f) first.toArray captured.toArray)) w := by
 unfold Jg V Instr.makeFunc
 simp [Sem.run_bind, Sem.run_pure]
end
end Go.En
namespace Go.En
open Go
theorem Q4 {P : Program} {w : adV} {t e : TypeId} {k k' k'' : IntKind} {lo hi mx : Int} {i : TypeInfo} (hu : P.underlying t = some (.slice e)) (hi' : P.info? e = some i) (x : Option Addr) (n c : Nat) (h0 : 0 <= lo) (h0' : lo <= hi) (h1 : hi <= mx) (h2 : mx <= c) :
 (lO t (.slice x n c) (some (.int k lo)) (some (.int k' hi)) (some (.int k'' mx))).run P w = .ok (.value (.slice (jO x mx.toNat lo.toNat i.size) (hi.toNat - lo.toNat) (mx.toNat - lo.toNat))) w := by
 have h3 : (0 : Int) <= mx := by omega
 have h4 : hi <= (mx.toNat : Int) := by omega
 have h5 : (0 : Int) <= hi := by omega
 have h6 : lo <= (hi.toNat : Int) := by omega
 simp only [lO, mU, Instr.sliceAt, underlying, hu, Sem.run_bind, run_program, Result.andThen_ok, Sem.run_pure, Instr.slice, Instr.sliceBounds, pure_bind, rX h3 h2, rX h5 h4, rX h0 h6, kA hi', jO]
theorem Yt {w : adV} {a : Option Addr} {n c : Nat} {l : List adW} (h : Sl w (.slice a n c) l) {i j : Nat} (hij : i < j) (hj : j <= n) : Sl w (.slice (jO a j i 1) (j - i) (j - i)) ((l.drop i).take (j - i)) := by
 obtain ⟨a', n', c', e, hn, hc, h⟩ := h
 cases e
 refine ⟨_, _, _, rfl, by rw [aaB, Z9]; omega, Z8 _, fun h0 => ?_⟩
 obtain ⟨b, off, rfl, h2⟩ := h (by omega)
 have hs : jO (some ⟨b, off, none⟩) j i 1 = some ⟨b, off + i, none⟩ := by unfold jO; rw [if_neg (by omega), aaX]; unfold Addr.add; simp
 refine ⟨b, off + i, hs, fun q hq => ?_⟩
 rw [abR (by omega), acK, acI]
 exact h2 (i + q) (by omega)
theorem Xq {a : Option Addr} {n c i j : Nat} {M : Nat -> Prop} (hij : i < j) (hj : j <= n) (h : wB (.slice (jO a j i 1) (j - i) (j - i)) M) : wB (.slice a n c) M := by
 obtain ⟨n', rfl⟩ : ∃ n', n = n' + 1 := ⟨n - 1, by omega⟩
 obtain ⟨d, hd⟩ : ∃ d, j - i = d + 1 := ⟨j - i - 1, by omega⟩
 rw [hd] at h
 cases a with
 | none => unfold jO at h; rw [if_neg (by omega)] at h; exact h
 | some x =>
   have hs : jO (some x) j i 1 = some (x.add (i * 1)) := by unfold jO; rw [if_neg (by omega)] <;> rfl
   rw [hs] at h
   have e : (x.add (i * 1)).block = x.block := by unfold Addr.add; split <;> rfl
   have h3 : M (x.add (i * 1)).block := h
   rw [e] at h3
   exact h3
end Go.En
namespace Go.Proofs.YteelnmpbnaohpaaDoor
open Go Go.En Go.Pu
set_option maxRecDepth 4000
set_option linter.unusedSimpArgs false
set_option linter.unusedVariables false
theorem WY {l : List UInt8} {v : adW} {box bn lp : Nat} {r0 : Loop} {w : adV} (I : Nat -> adV -> Prop) (S : adV -> Prop)
 (hI : ∀ i W, I i W -> jG W box [v] /\ jG W bn [.int .i64 13] /\ Bs W v l /\ W.heap[lp]? = some (.loop r0)) (hD : ∀ i W, I i W -> I i (dr W)) (hp : r0.params.size = 1) (hl : l.length <= 1000000000) (h0 : I 0 w)
 (hs : ∀ i W pv, i < l.length -> I i W -> Bs W pv ((l.drop i).take 13) -> (∀ M : Nat -> Prop, wB pv M -> wB v M) -> Qk pg lp r0.fn (Oj r0 [pv]) r0.assign r0.body W (fun b W' => (b = .bool true /\ I (i + 13) W') ∨ (b = .bool false /\ S W'))) :
 gU pg mD #[Dk lp, .pointer (some ⟨box, 0, none⟩), .pointer (some ⟨bn, 0, none⟩)] w (fun r W => r = .tuple #[] /\ ((∃ i, l.length <= i /\ I i W) ∨ S W)) := by
 refine Ei ?_
 obtain ⟨RR, hRR⟩ : ∃ RR : adW -> adV -> Prop, RR = fun r W => r = .tuple #[] /\ ((∃ i, l.length <= i /\ I i W) ∨ S W) := ⟨_, rfl⟩
 rw [<- hRR]
 unfold B2 qU qX rF qW
 simp (disch := omega) only [eY, gN, dX, stepR_skip, fP, fZ, fO, gK, gE, gC, gR, gA, eU, fV, fT, gG, fS, fM, fU, fR, fX, gH, fY, fQ, fC, gB, gI, fL, iS, iQ, iO, iR, iM, iN, iP, iU, iT, eP, Result.ok.injEq, Next.value.injEq, true_and, and_true, fK, fJ, gJ, fN, gD, gS, ZV, fE, fH, fF, fD, eZ, eX, fB, eT, eQ, eH, if_true, if_false, ZS, ZY, ZT, ZU, ZX, ZW, ZR, ZQ, eA, dV, aB, dI, dE, cJ, eB, eS, eE, dK, eD, fA, dQ, eN, bQ, dG, bJ, dL, aI, aH, eL, aV, bZ, eI, aF, eJ, dF, aR, bF, eF, bH, bE, bB, aO, aL, cD, fG, dY, cA, cI, dA, cH, dT, bC, eK, bX, dH, bP, aU, bU, aC, bY, bO, cF, bW, aY, bA, aX, bV, dM, cU, bR, aZ, aK, aJ, bG, aE, dC, dW, aN, aM, aT, aD, cY, aG, cL, bT, bD, aP, cM, cG, aA, dN, cQ, cV, cC, dO, cB, dJ, dU, cP, eC, eM, bN, aS, dZ, bS, aQ, bL, dS, dB, cO, cS, cN, bK, bM, cX, dR, cR, dD, cZ]
 refine jW.rule (fun m (t : adW) w' => ∃ i : Nat, m = l.length - i /\ t = .int .i64 (i : Nat) /\ i <= l.length + 13 /\ I i w') l.length ⟨0, rfl, rfl, by omega, h0⟩ ?_
 rintro m t w1 ⟨i, rfl, rfl, hi, hIw⟩
 obtain ⟨o, on, hb, hlp⟩ := hI _ _ hIw
 obtain ⟨a, c, rfl, hc⟩ := hb.len
 rw [ZZ] at hb hc o
 have c1 := o.cell (off := 0)
 have c1d := (kJ o).cell (off := 0)
 have c2 := on.cell (off := 0)
 have c2d := (kJ on).cell (off := 0)
 simp only [ZQ] at c1 c1d c2 c2d
 unfold nO
 by_cases hlt : i < l.length
 .have d1 : decide ((i : Int) < (l.length : Int)) = true := by simp; omega
  obtain ⟨q, hq⟩ : ∃ q, q = min 13 (l.length - i) := ⟨_, rfl⟩
  have e1 : ((l.length - i : Nat) : Int) = ((l.length - i : Nat) : Int) := rfl
  have e2 : (if ((l.length - i : Nat) : Int) < (13 : Int) then ((l.length - i : Nat) : Int) else (13 : Int)) = (q : Int) := by split <;> omega
  have e3 : (i : Int) + (q : Int) = ((i + q : Nat) : Int) := by omega
  have l1 := fun w => Q4 (P := pg) (w := w) (k := .i64) (k' := .i64) (k'' := .i64) (lo := (i : Int)) (hi := ((i + q : Nat) : Int)) (mx := ((i + q : Nat) : Int)) Tryd.underlying22 IC a l.length c (by omega) (by omega) (by omega) (by omega)
  rw [ZZ] at hI hs
  obtain ⟨pv, hpv⟩ : ∃ pv, pv = Value.slice (jO a (i + q) i 1) (i + q - i) (i + q - i) := ⟨_, rfl⟩
  have l1 : ∀ w, (lO 22 (.slice a l.length c) (some (.int .i64 (i : Nat))) (some (.int .i64 ((i + q : Nat) : Int))) (some (.int .i64 ((i + q : Nat) : Int)))).run pg w = .ok (.value pv) w := fun w => by rw [hpv]; exact l1 w
  have hpb : Bs w1 pv ((l.drop i).take 13) := by
   have := Yt hb (i := i) (j := i + q) (by omega) (by omega)
   rw [<- acH, <- acX] at this
   rw [hpv]
   have e : (l.drop i).take 13 = (l.drop i).take (i + q - i) := by
    rw [hq]
    by_cases h13 : 13 <= l.length - i
    .rw [aaQ h13, abK]
    .rw [Nat.min_eq_right (by omega), Z3 (by rw [Z9]; omega), Z3 (by rw [Z9]; omega)]
   rw [e]; exact this
  have hpn : ∀ M : Nat -> Prop, wB pv M -> wB (.slice a l.length c) M := fun M h => Xq (i := i) (j := i + q) (by omega) (by omega) (by rw [hpv] at h; exact h)
  have qd : (dr w1).heap[lp]? = some (.loop r0) := hlp
  have q1 := TN (P := pg) (args := [pv]) hlp (by rw [hp] <;> rfl)
  have q1d := TN (P := pg) (args := [pv]) qd (by rw [hp] <;> rfl)
  simp (disch := omega) only [eY, gN, dX, stepR_skip, fP, fZ, fO, gK, gE, gC, gR, gA, eU, fV, fT, gG, fS, fM, fU, fR, fX, gH, fY, fQ, fC, gB, gI, fL, iS, iQ, iO, iR, iM, iN, iP, iU, iT, eP, Result.ok.injEq, Next.value.injEq, true_and, and_true, fK, fJ, gJ, fN, gD, gS, ZV, fE, fH, fF, fD, eZ, eX, fB, eT, eQ, eH, if_true, if_false, ZS, ZY, ZT, ZU, ZX, ZW, ZR, ZQ, eA, dV, aB, dI, dE, cJ, eB, eS, eE, dK, eD, fA, dQ, eN, bQ, dG, bJ, dL, aI, aH, eL, aV, bZ, eI, aF, eJ, dF, aR, bF, eF, bH, bE, bB, aO, aL, cD, fG, dY, cA, cI, dA, cH, dT, bC, eK, bX, dH, bP, aU, bU, aC, bY, bO, cF, bW, aY, bA, aX, bV, dM, cU, bR, aZ, aK, aJ, bG, aE, dC, dW, aN, aM, aT, aD, cY, aG, cL, bT, bD, aP, cM, cG, aA, dN, cQ, cV, cC, dO, cB, dJ, dU, cP, eC, eM, bN, aS, dZ, bS, aQ, bL, dS, dB, cO, cS, cN, bK, bM, cX, dR, cR, dD, cZ, d1, c1, c1d, c2d, e2, e3, l1, q1, q1d, Rd]
  obtain ⟨b', w2, hret, hR⟩ := hs i (dr w1) pv hlt (hD _ _ hIw) (hpb.ext (gX.dr _ jK) (jJ _)) hpn
  refine ⟨b', w2, hret, ?_⟩
  rcases hR with ⟨rfl, hI2⟩ | ⟨rfl, hS⟩
  .obtain ⟨_, on2, _, _⟩ := hI _ _ hI2
   have c3 := on2.cell (off := 0)
   simp only [ZQ] at c3
   have e4 : (i : Int) + 13 = ((i + 13 : Nat) : Int) := by omega
   simp (disch := omega) only [eY, gN, dX, stepR_skip, fP, fZ, fO, gK, gE, gC, gR, gA, eU, fV, fT, gG, fS, fM, fU, fR, fX, gH, fY, fQ, fC, gB, gI, fL, iS, iQ, iO, iR, iM, iN, iP, iU, iT, eP, Result.ok.injEq, Next.value.injEq, true_and, and_true, fK, fJ, gJ, fN, gD, gS, ZV, fE, fH, fF, fD, eZ, eX, fB, eT, eQ, eH, if_true, if_false, ZS, ZY, ZT, ZU, ZX, ZW, ZR, ZQ, eA, dV, aB, dI, dE, cJ, eB, eS, eE, dK, eD, fA, dQ, eN, bQ, dG, bJ, dL, aI, aH, eL, aV, bZ, eI, aF, eJ, dF, aR, bF, eF, bH, bE, bB, aO, aL, cD, fG, dY, cA, cI, dA, cH, dT, bC, eK, bX, dH, bP, aU, bU, aC, bY, bO, cF, bW, aY, bA, aX, bV, dM, cU, bR, aZ, aK, aJ, bG, aE, dC, dW, aN, aM, aT, aD, cY, aG, cL, bT, bD, aP, cM, cG, aA, dN, cQ, cV, cC, dO, cB, dJ, dU, cP, eC, eM, bN, aS, dZ, bS, aQ, bL, dS, dB, cO, cS, cN, bK, bM, cX, dR, cR, dD, cZ, c3, e4]
   exact ⟨l.length - (i + 13), by omega, i + 13, rfl, rfl, by omega, hI2⟩
  .simp (disch := omega) only [eY, gN, dX, stepR_skip, fP, fZ, fO, gK, gE, gC, gR, gA, eU, fV, fT, gG, fS, fM, fU, fR, fX, gH, fY, fQ, fC, gB, gI, fL, iS, iQ, iO, iR, iM, iN, iP, iU, iT, eP, Result.ok.injEq, Next.value.injEq, true_and, and_true, fK, fJ, gJ, fN, gD, gS, ZV, fE, fH, fF, fD, eZ, eX, fB, eT, eQ, eH, if_true, if_false, ZS, ZY, ZT, ZU, ZX, ZW, ZR, ZQ, eA, dV, aB, dI, dE, cJ, eB, eS, eE, dK, eD, fA, dQ, eN, bQ, dG, bJ, dL, aI, aH, eL, aV, bZ, eI, aF, eJ, dF, aR, bF, eF, bH, bE, bB, aO, aL, cD, fG, dY, cA, cI, dA, cH, dT, bC, eK, bX, dH, bP, aU, bU, aC, bY, bO, cF, bW, aY, bA, aX, bV, dM, cU, bR, aZ, aK, aJ, bG, aE, dC, dW, aN, aM, aT, aD, cY, aG, cL, bT, bD, aP, cM, cG, aA, dN, cQ, cV, cC, dO, cB, dJ, dU, cP, eC, eM, bN, aS, dZ, bS, aQ, bL, dS, dB, cO, cS, cN, bK, bM, cX, dR, cR, dD, cZ]
   rw [hRR]
   exact ⟨rfl, .inr hS⟩
 .have d1 : decide ((i : Int) < (l.length : Int)) = false := by simp; omega
  simp (disch := omega) only [eY, gN, dX, stepR_skip, fP, fZ, fO, gK, gE, gC, gR, gA, eU, fV, fT, gG, fS, fM, fU, fR, fX, gH, fY, fQ, fC, gB, gI, fL, iS, iQ, iO, iR, iM, iN, iP, iU, iT, eP, Result.ok.injEq, Next.value.injEq, true_and, and_true, fK, fJ, gJ, fN, gD, gS, ZV, fE, fH, fF, fD, eZ, eX, fB, eT, eQ, eH, if_true, if_false, ZS, ZY, ZT, ZU, ZX, ZW, ZR, ZQ, eA, dV, aB, dI, dE, cJ, eB, eS, eE, dK, eD, fA, dQ, eN, bQ, dG, bJ, dL, aI, aH, eL, aV, bZ, eI, aF, eJ, dF, aR, bF, eF, bH, bE, bB, aO, aL, cD, fG, dY, cA, cI, dA, cH, dT, bC, eK, bX, dH, bP, aU, bU, aC, bY, bO, cF, bW, aY, bA, aX, bV, dM, cU, bR, aZ, aK, aJ, bG, aE, dC, dW, aN, aM, aT, aD, cY, aG, cL, bT, bD, aP, cM, cG, aA, dN, cQ, cV, cC, dO, cB, dJ, dU, cP, eC, eM, bN, aS, dZ, bS, aQ, bL, dS, dB, cO, cS, cN, bK, bM, cX, dR, cR, dD, cZ, c1, d1]
  rw [hRR]
  exact ⟨rfl, .inl ⟨i, by omega, hIw⟩⟩
end Go.Proofs.YteelnmpbnaohpaaDoor
namespace Go.Proofs.YteelnmpbnaohpaaDoor
open Go Go.En Go.Pu
set_option maxRecDepth 4000
theorem WO {ox oy : Operand} (a b a' b' : Int) (w : adV) : (gO .eql 77 ox oy (.agg #[.int .u8 a, .int .u64 b]) (.agg #[.int .u8 a', .int .u64 b'])).run pg w = .ok (.value (.bool (a == a' && b == b'))) w := by
 have a3 : ∀ w, (isAgg 24).run pg w = .ok false w := fun w => by kernel_rfl
 have a5 : ∀ w, (isAgg 5).run pg w = .ok false w := fun w => by kernel_rfl
 have u3 := Tryd.underlying24
 have u5 := Tryd.underlying5
 have g0 : pg.eqGuardType pg.depth 77 = false := by kernel_rfl
 have g1 : pg.underlying 77 = some (.struct (pg.fieldsOf 77)) := by kernel_rfl
 have g2 : pg.stoodInHeld 77 = false := by kernel_rfl
 unfold gO
 simp only [Cv, mU, Sem.run_bind, run_eqGuard_agg w .eql 77 ox oy _ _ g0, Result.andThen_ok, run_eql_struct]
 rw [run_equalIn_agg w 9999 77 _ _ g1 g2]
 simp only [Program.fieldsOf, Tryd.underlying77, Op.eqFields]
 simp [part, a3, a5, run_equalIn_int w 9998 24 _ _ _ _ u3, run_equalIn_int w 9998 5 _ _ _ _ u5]
 by_cases h1 : a = a' <;> by_cases h2 : b = b' <;> simp [h1, h2]
theorem MM (cf : List UInt8 -> Nat) : ∀ (n m : Nat) (b : List UInt8), b.length <= n -> b.length <= m -> HW cf n b = HW cf m b
 | 0, m, b, h, _ => by
   have : b = [] := aaG.1 (by omega)
   subst this
   cases m <;> simp [HW]
 | n + 1, 0, b, _, h => by
   have : b = [] := aaG.1 (by omega)
   subst this
   simp [HW]
 | n + 1, m + 1, b, h, h' => by
   rw [HW, HW]
   by_cases hb : b = []
   .rw [if_pos hb, if_pos hb]
   .have hl : 0 < b.length := List.length_pos_iff.2 hb
    rw [if_neg hb, if_neg hb, MM cf n m (b.drop 13) (by rw [Z9]; omega) (by rw [Z9]; omega)]
theorem Ur {cf : List UInt8 -> Nat} {b : List UInt8} (h : b ≠ []) : mO cf b = if Km cf (b.take 13) then (Wt (b.take 13), VM (b.take 13)) :: mO cf (b.drop 13) else [] := by
 have hl : 0 < b.length := List.length_pos_iff.2 h
 unfold mO
 rw [MM cf b.length (b.length - 1 + 1) b (Z8 _) (by omega), HW, if_neg h, MM cf (b.length - 1) (b.drop 13).length (b.drop 13) (by rw [Z9]; omega) (Z8 _)]
theorem ZG {p : List UInt8} (h : 0 < p.length) : Q1 p 0 1 = (p.take 1, p.drop 1, 0) := by
 unfold Q1; rw [if_neg (by decide), if_neg (by omega)]
theorem ZH {p : List UInt8} : Fv (Q1 (p.drop 1) 0 8).1 = VM p := by
 unfold Q1 VM
 rw [if_neg (by decide), Z9]
 by_cases h : p.length < 9
 .rw [if_pos (by omega), if_pos h] <;> rfl
 .rw [if_neg (by omega), if_neg h]
theorem VD : Wq hZ = #[13] := by kernel_rfl
theorem Yd : Mj pg kS = 46 := by kernel_rfl
def XM (w : adV) (base : Nat) (o : adW) (R : List (Nat × Nat)) : Prop := IB w (fun b => base <= b) 2 o R.length (R.flatMap Ba)
theorem UJ {l : List UInt8} {v : adW} {w : adV} (hg : rD w) (hb : Bs w v l) (hl : l.length <= 100000000) :
 gU pg kS #[v] w (fun r w' => ∃ o, r = .tuple #[o, .int .i64 ((13 * (mO iE l).length : Nat) : Int)] /\ XM w' w.heap.size o (mO iE l) /\ gX w w' jK) := by
 refine MA ?_
 obtain ⟨RR, hRR⟩ : ∃ RR : adW -> adV -> Prop, RR = fun r w' => ∃ o, r = .tuple #[o, .int .i64 ((13 * (mO iE l).length : Nat) : Int)] /\ XM w' w.heap.size o (mO iE l) /\ gX w w' jK := ⟨_, rfl⟩
 rw [<- hRR]
 unfold Ni Cf Cg DA IG Dr
 refine JQ fun w1 o1 x1 s1 => ?_
 refine XS fun w2 o2 x2 s2 => ?_
 refine Ku o2 rfl (by simp) fun w3 o3 x3 s3 => ?_
 simp only [aaD] at o3
 unfold Dp C4 Ec
 refine Hi ?_
 unfold EJ vJ uI
 obtain ⟨va, vn, vc, hv, -⟩ := id hb
 subst hv
 refine oE fun w4 o4 x4 s4 => ?_
 simp only [Value.cells] at o4
 refine oE fun w5 o5 x5 s5 => ?_
 simp only [Value.cells] at o5
 have c5 := o5.cell (off := 0)
 simp only [ZQ] at c5
 have d5 : decide ((13 : Int) < 1) = false := rfl
 have q1 := fun w => MR (P := pg) (f := mD) [] [.pointer (some ⟨w3.heap.size, 0, none⟩), .pointer (some ⟨w4.heap.size, 0, none⟩)] w
 unfold pS
 simp (disch := omega) only [eY, gN, dX, stepR_skip, fP, fZ, fO, gK, gE, gC, gR, gA, eU, fV, fT, gG, fS, fM, fU, fR, fX, gH, fY, fQ, fC, gB, gI, fL, iS, iQ, iO, iR, iM, iN, iP, iU, iT, eP, Result.ok.injEq, Next.value.injEq, true_and, and_true, fK, fJ, gJ, fN, gD, gS, ZV, fE, fH, fF, fD, eZ, eX, fB, eT, eQ, eH, if_true, if_false, ZS, ZY, ZT, ZU, ZX, ZW, ZR, ZQ, eA, dV, aB, dI, dE, cJ, eB, eS, eE, dK, eD, fA, dQ, eN, bQ, dG, bJ, dL, aI, aH, eL, aV, bZ, eI, aF, eJ, dF, aR, bF, eF, bH, bE, bB, aO, aL, cD, fG, dY, cA, cI, dA, cH, dT, bC, eK, bX, dH, bP, aU, bU, aC, bY, bO, cF, bW, aY, bA, aX, bV, dM, cU, bR, aZ, aK, aJ, bG, aE, dC, dW, aN, aM, aT, aD, cY, aG, cL, bT, bD, aP, cM, cG, aA, dN, cQ, cV, cC, dO, cB, dJ, dU, cP, eC, eM, bN, aS, dZ, bS, aQ, bL, dS, dB, cO, cS, cN, bK, bM, cX, dR, cR, dD, cZ, c5, d5, q1]
 unfold D6 DW
 intro g g4 g5 g12 gm
 generalize hn0 : w.heap.size = n0 at *
 have e1 : w1.heap.size = n0 + 1 := by omega
 have e3 : w3.heap.size = n0 + 2 := by omega
 have e4 : w4.heap.size = n0 + 3 := by omega
 have e5 : w5.heap.size = n0 + 4 := by omega
 rw [e1] at o2 o3 x3 g5
 rw [e3] at o4 g12
 rw [e4] at o5 g12
 have x03 : gX w w3 jK := (x1.seq x2).trans x3 fun y hy h => by omega
 have x05 : gX w w5 jK := (x03.seq x4).seq x5
 have b1 : jG w5 n0 [.slice none 0 0] := (((o1.ext x2 (fun h => h)).ext x3 (by omega)).ext x4 (fun h => h)).ext x5 (fun h => h)
 have b2 : jG w5 (n0 + 1) [.int .i64 0] := (o3.ext x4 (fun h => h)).ext x5 (fun h => h)
 have b3 : jG w5 (n0 + 2) [.slice va vn vc] := o4.ext x5 (fun h => h)
 refine V5 (fi := mD) (cap := #[.pointer (some ⟨n0 + 2, 0, none⟩), .pointer (some ⟨n0 + 3, 0, none⟩)]) (by show noMark (g 1000003) = true; rw [gm] <;> rfl) g12 Tryd.func67 (by kernel_rfl) (by kernel_rfl) ?_
 obtain ⟨x8, s8, d8, l8⟩ := Uj kS (Mj pg kS) (Wq hZ) (UH hZ) (Tg hZ) g w5
 rw [e5] at s8 d8 l8 ⊢
 generalize U3 kS (Mj pg kS) (Wq hZ) (UH hZ) (Tg hZ) g w5 = w8 at *
 obtain ⟨r0, hr0⟩ : ∃ r0 : Loop, r0 = { state := .ready, pending := none, fn := kS, tmps := tmpsOf (Mj pg kS) g, params := Wq hZ, assign := UH hZ, body := Tg hZ, defers := n0 + 4 } := ⟨_, rfl⟩
 rw [<- hr0] at l8
 have x08 : gX w w8 jK := x05.seq x8
 let M : Nat -> Prop := fun y => y = n0 + 5 ∨ y = n0 ∨ y = n0 + 1 ∨ n0 + 5 < y
 let Q : Nat -> adV -> List (Nat × Nat) -> Prop := fun base W R => ∃ ov, gX w8 W M /\ jG W n0 [ov] /\ jG W (n0 + 1) [.int .i64 ((13 * R.length : Nat) : Int)] /\ IB W (fun b => n0 + 5 < b) 2 ov R.length (R.flatMap Ba)
 let I : Nat -> adV -> Prop := fun i W => ∃ R, mO iE l = R ++ mO iE (l.drop i) /\ W.heap[n0 + 5]? = some (.loop r0) /\ R.length <= i /\ Q n0 W R
 let S : adV -> Prop := fun W => W.heap[n0 + 5]? = some (.loop { r0 with state := .done, pending := some (.exit 0) }) /\ Q n0 W (mO iE l)
 have hQd : ∀ {W R}, Q n0 W R -> Q n0 (dr W) R := fun {W R} ⟨ov, h1, h2, h3, h4⟩ => ⟨ov, h1.seq (gX.dr _ _), h2.ext (gX.dr _ jK) (fun h => h), h3.ext (gX.dr _ jK) (fun h => h), h4.ext (gX.dr _ jK) (fun _ _ h => h)⟩
 have hmain := WY (l := l) (v := .slice va vn vc) (box := n0 + 2) (bn := n0 + 3) (lp := n0 + 5) (r0 := r0) (w := w8) I S ?hI ?hD ?hp (by omega) ?h0 ?hs
 case hI =>
  rintro i W ⟨R, hR, hlp, hRl, ov, hx, q1, q2, q3⟩
  exact ⟨(b3.ext x8 (fun h => h)).ext hx (by omega), (o5.ext x8 (fun h => h)).ext hx (by omega), hb.ext (x08.trans hx fun y hy h => by omega) (jJ _), hlp⟩
 case hD =>
  rintro i W ⟨R, hR, hlp, hRl, hq⟩
  exact ⟨R, hR, hlp, hRl, hQd hq⟩
 case hp => rw [hr0, VD] <;> rfl
 case h0 => exact ⟨[], rfl, l8, Z8 _, _, gX.refl _ _, b1.ext x8 (fun h => h), b2.ext x8 (fun h => h), ⟨rfl, .inl ⟨rfl, rfl⟩⟩⟩
 case hs =>
  rintro i W pv hi ⟨R, hR, hlp, hRl, ov, hx, q1, q2, q3⟩ hpb hpn
  have zW := hx.size
  have y08 : gX w W jK := x08.trans hx fun y hy h => by omega
  have hT : Oj r0 [pv] = (tmpsOf 46 g).setIfInBounds 13 pv := WN (by rw [hr0]; exact VD) (by rw [hr0]; simp only; rw [Yd]) _
  have hE : ∀ {x : Nat} {u v : adW}, x < 13 -> g x = u -> JM ((tmpsOf 46 g).setIfInBounds 13 v) x = u := fun {x u v} h1 h2 => by
   rw [Ry (by simp [tmpsOf]), if_neg (by omega), UL (by omega), h2]
  have hE13 : ∀ {v : adW}, JM ((tmpsOf 46 g).setIfInBounds 13 v) 13 = v := fun {v} => by
   rw [Ry (by simp [tmpsOf]), if_pos rfl]
  rw [hT]
  subst hr0
  refine LM (by simp [tmpsOf]) ?_
  rw [hE (by omega) g4, hE (by omega) g5, hE13]
  unfold HJ Aq
  refine T7 hlp rfl fun W1 l1 y1 z1 => ?_
  obtain ⟨p, hp⟩ : ∃ p, p = (l.drop i).take 13 := ⟨_, rfl⟩
  rw [<- hp] at hpb
  have hpl : p.length = min 13 (l.length - i) := by rw [hp, aaB, Z9]
  have hne : l.drop i ≠ [] := fun h => by have := congrArg List.length h; rw [Z9] at this; simp at this; omega
  have hstep := Ur (cf := iE) hne
  rw [<- hp, acS] at hstep
  have y01 : gX w W1 jK := y08.trans y1 fun y hy h => by omega
  have hpv0 : ∀ {N : Nat -> Prop}, (∀ y, N y -> n0 <= y) -> ¬ wB pv N := fun {N} hN h => hb.old (Aw (hpn _ h) fun y hy => by rw [hn0]; exact hN y hy)
  have hp1 : Bs W1 pv p := hpb.ext y1 (hpv0 fun y hy => by omega)
  have q1 := q1.ext y1 (by omega)
  have q2 := q2.ext y1 (by omega)
  have q3 := q3.ext y1 (fun b hb h => by omega)
  unfold tA
  refine (RT hp1 (by omega)).mono ?_
  rintro r W2 ⟨pr, rfl, hr2, y2⟩
  refine (OZ (n := 1) hr2 (by omega) ⟨by omega, by omega⟩).mono ?_
  rintro r W3 ⟨rfl, hr3, y3⟩
  have tk := ZG (p := p) (by omega)
  rw [tk] at hr3 ⊢
  have hk1 : Fv (p.take 1) = Wt p := rfl
  have hk256 : Wt p < 256 := by
   have := GZ (p.take 1)
   rw [aaB, aaQ (by omega)] at this
   rw [<- hk1]; simpa using this
  rw [hk1]
  obtain ⟨K, hK⟩ : ∃ K, K = Wt p := ⟨_, rfl⟩
  rw [<- hK] at hk256 ⊢
  have e6 : IntKind.u8.wrap (K : Int) = (K : Int) := gS (by omega) (by omega)
  simp (disch := omega) only [eY, gN, dX, stepR_skip, fP, fZ, fO, gK, gE, gC, gR, gA, eU, fV, fT, gG, fS, fM, fU, fR, fX, gH, fY, fQ, fC, gB, gI, fL, iS, iQ, iO, iR, iM, iN, iP, iU, iT, eP, Result.ok.injEq, Next.value.injEq, true_and, and_true, fK, fJ, gJ, fN, gD, gS, ZV, fE, fH, fF, fD, eZ, eX, fB, eT, eQ, eH, if_true, if_false, ZS, ZY, ZT, ZU, ZX, ZW, ZR, ZQ, eA, dV, aB, dI, dE, cJ, eB, eS, eE, dK, eD, fA, dQ, eN, bQ, dG, bJ, dL, aI, aH, eL, aV, bZ, eI, aF, eJ, dF, aR, bF, eF, bH, bE, bB, aO, aL, cD, fG, dY, cA, cI, dA, cH, dT, bC, eK, bX, dH, bP, aU, bU, aC, bY, bO, cF, bW, aY, bA, aX, bV, dM, cU, bR, aZ, aK, aJ, bG, aE, dC, dW, aN, aM, aT, aD, cY, aG, cL, bT, bD, aP, cM, cG, aA, dN, cQ, cV, cC, dO, cB, dJ, dU, cP, eC, eM, bN, aS, dZ, bS, aQ, bL, dS, dB, cO, cS, cN, bK, bM, cX, dR, cR, dD, cZ, e6]
  refine (OZ (n := 8) hr3 (by rw [Z9]; omega) ⟨by omega, by omega⟩).mono ?_
  rintro r W4 ⟨rfl, hr4, y4⟩
  rw [ZH]
  obtain ⟨V, hV⟩ : ∃ V, V = VM p := ⟨_, rfl⟩
  have hV64 : V < 2 ^ 64 := by
   rw [hV]
   unfold VM
   split
   .omega
   .have := GZ ((p.drop 1).take 8)
    rw [aaB, Z9, aaQ (by omega)] at this
    omega
  rw [<- hV]
  obtain ⟨hr0a, hr0b, _⟩ := hr2
  have zW1 := y1.size
  have zW2 := y2.size
  have zW3 := y3.size
  have zW4 := y4.size
  have y14 : gX W1 W4 jK := (y2.trans y3 fun y hy h => by omega).trans y4 fun y hy h => by omega
  simp (disch := omega) only [eY, gN, dX, stepR_skip, fP, fZ, fO, gK, gE, gC, gR, gA, eU, fV, fT, gG, fS, fM, fU, fR, fX, gH, fY, fQ, fC, gB, gI, fL, iS, iQ, iO, iR, iM, iN, iP, iU, iT, eP, Result.ok.injEq, Next.value.injEq, true_and, and_true, fK, fJ, gJ, fN, gD, gS, ZV, fE, fH, fF, fD, eZ, eX, fB, eT, eQ, eH, if_true, if_false, ZS, ZY, ZT, ZU, ZX, ZW, ZR, ZQ, eA, dV, aB, dI, dE, cJ, eB, eS, eE, dK, eD, fA, dQ, eN, bQ, dG, bJ, dL, aI, aH, eL, aV, bZ, eI, aF, eJ, dF, aR, bF, eF, bH, bE, bB, aO, aL, cD, fG, dY, cA, cI, dA, cH, dT, bC, eK, bX, dH, bP, aU, bU, aC, bY, bO, cF, bW, aY, bA, aX, bV, dM, cU, bR, aZ, aK, aJ, bG, aE, dC, dW, aN, aM, aT, aD, cY, aG, cL, bT, bD, aP, cM, cG, aA, dN, cQ, cV, cC, dO, cB, dJ, dU, cP, eC, eM, bN, aS, dZ, bS, aQ, bL, dS, dB, cO, cS, cN, bK, bM, cX, dR, cR, dD, cZ]
  refine A7 fun W5 o5 y5 z5 => ?_
  refine Ar o5 rfl (by simp [one]) (by decide) fun W6 o6 y6 z6 => ?_
  obtain ⟨pc, hpc⟩ : ∃ pc, pc = W4.heap.size := ⟨_, rfl⟩
  rw [<- hpc] at o6 y6 ⊢
  have o6 : jG W6 pc (Ba (K, V)) := o6
  have y16 : gX W1 W6 jK := (y14.seq y5).trans y6 fun y hy h => by omega
  have y06 : gX w W6 jK := y01.seq y16
  have lr := tI (off := 0) o6 (by simp)
  have lr : (fW 77 (.pointer (some ⟨pc, 0, none⟩))).run pg W6 = .ok (.value (U5 K V)) W6 := lr
  have hz := fun ox oy => WO (ox := ox) (oy := oy) (K : Int) (V : Int) 0 0 W6
  have q1 := q1.ext y16 (fun h => h)
  have q2 := q2.ext y16 (fun h => h)
  have q3 := q3.ext y16 (fun _ _ h => h)
  have l6 := Cp l1 y16 (fun h => h)
  have x86 : gX w8 W6 M := (hx.trans y1 fun y hy h => .inl h).seq (y16.mono fun _ _ h => h.elim)
  have hbad : Km iE p = false -> ∀ W7, gX W6 W7 jK -> R6 (n0 + 5) (some (.exit 0)) (fun b W' => (b = .bool true /\ I (i + 13) W') ∨ (b = .bool false /\ S W')) W7 := by
   intro hbd W7 y7
   have hLR : mO iE l = R := by rw [hR, hstep, if_neg (by rw [hbd]; decide), abE]
   refine OD (Cp l6 y7 (fun h => h)) fun W8 l8' y8 z8 => .inr ⟨rfl, l8', ?_⟩
   rw [hLR]
   exact ⟨ov, (x86.trans y7 fun y hy h => h.elim).trans y8 fun y hy h => .inl h, (q1.ext y7 (fun h => h)).ext y8 (by omega), (q2.ext y7 (fun h => h)).ext y8 (by omega), (q3.ext y7 (fun _ _ h => h)).ext y8 (fun b hb h => by omega)⟩
  have hgd : Km iE p = ((K == 1 || K == 2) && tJ iE K V == p) := by rw [hK, hV] <;> rfl
  by_cases hz0 : K = 0 /\ V = 0
  .have d1 : (((K : Nat) : Int) == 0 && ((V : Nat) : Int) == 0) = true := by rw [hz0.1, hz0.2] <;> rfl
   simp only [d1] at hz
   simp (disch := omega) only [eY, gN, dX, stepR_skip, fP, fZ, fO, gK, gE, gC, gR, gA, eU, fV, fT, gG, fS, fM, fU, fR, fX, gH, fY, fQ, fC, gB, gI, fL, iS, iQ, iO, iR, iM, iN, iP, iU, iT, eP, Result.ok.injEq, Next.value.injEq, true_and, and_true, fK, fJ, gJ, fN, gD, gS, ZV, fE, fH, fF, fD, eZ, eX, fB, eT, eQ, eH, if_true, if_false, ZS, ZY, ZT, ZU, ZX, ZW, ZR, ZQ, eA, dV, aB, dI, dE, cJ, eB, eS, eE, dK, eD, fA, dQ, eN, bQ, dG, bJ, dL, aI, aH, eL, aV, bZ, eI, aF, eJ, dF, aR, bF, eF, bH, bE, bB, aO, aL, cD, fG, dY, cA, cI, dA, cH, dT, bC, eK, bX, dH, bP, aU, bU, aC, bY, bO, cF, bW, aY, bA, aX, bV, dM, cU, bR, aZ, aK, aJ, bG, aE, dC, dW, aN, aM, aT, aD, cY, aG, cL, bT, bD, aP, cM, cG, aA, dN, cQ, cV, cC, dO, cB, dJ, dU, cP, eC, eM, bN, aS, dZ, bS, aQ, bL, dS, dB, cO, cS, cN, bK, bM, cX, dR, cR, dD, cZ, lr, hz]
   exact hbad (by rw [hgd, hz0.1] <;> rfl) W6 (gX.refl _ _)
  have d1 : (((K : Nat) : Int) == 0 && ((V : Nat) : Int) == 0) = false := by
   rw [adN, beq_eq_false_iff_ne, beq_eq_false_iff_ne]
   omega
  simp only [d1] at hz
  simp (disch := omega) only [eY, gN, dX, stepR_skip, fP, fZ, fO, gK, gE, gC, gR, gA, eU, fV, fT, gG, fS, fM, fU, fR, fX, gH, fY, fQ, fC, gB, gI, fL, iS, iQ, iO, iR, iM, iN, iP, iU, iT, eP, Result.ok.injEq, Next.value.injEq, true_and, and_true, fK, fJ, gJ, fN, gD, gS, ZV, fE, fH, fF, fD, eZ, eX, fB, eT, eQ, eH, if_true, if_false, ZS, ZY, ZT, ZU, ZX, ZW, ZR, ZQ, eA, dV, aB, dI, dE, cJ, eB, eS, eE, dK, eD, fA, dQ, eN, bQ, dG, bJ, dL, aI, aH, eL, aV, bZ, eI, aF, eJ, dF, aR, bF, eF, bH, bE, bB, aO, aL, cD, fG, dY, cA, cI, dA, cH, dT, bC, eK, bX, dH, bP, aU, bU, aC, bY, bO, cF, bW, aY, bA, aX, bV, dM, cU, bR, aZ, aK, aJ, bG, aE, dC, dW, aN, aM, aT, aD, cY, aG, cL, bT, bD, aP, cM, cG, aA, dN, cQ, cV, cC, dO, cB, dJ, dU, cP, eC, eM, bN, aS, dZ, bS, aQ, bL, dS, dB, cO, cS, cN, bK, bM, cX, dR, cR, dD, cZ, lr, hz]
  refine (Ra (hg.ext y06) hk256 hV64).mono ?_
  rintro r W7 ⟨hr7, y7⟩
  by_cases hk12 : K = 1 ∨ K = 2
  rotate_left
  .rw [if_neg hk12] at hr7
   subst hr7
   have n1 : ((1 : Int) != 0) = true := rfl
   simp (disch := omega) only [eY, gN, dX, stepR_skip, fP, fZ, fO, gK, gE, gC, gR, gA, eU, fV, fT, gG, fS, fM, fU, fR, fX, gH, fY, fQ, fC, gB, gI, fL, iS, iQ, iO, iR, iM, iN, iP, iU, iT, eP, Result.ok.injEq, Next.value.injEq, true_and, and_true, fK, fJ, gJ, fN, gD, gS, ZV, fE, fH, fF, fD, eZ, eX, fB, eT, eQ, eH, if_true, if_false, ZS, ZY, ZT, ZU, ZX, ZW, ZR, ZQ, eA, dV, aB, dI, dE, cJ, eB, eS, eE, dK, eD, fA, dQ, eN, bQ, dG, bJ, dL, aI, aH, eL, aV, bZ, eI, aF, eJ, dF, aR, bF, eF, bH, bE, bB, aO, aL, cD, fG, dY, cA, cI, dA, cH, dT, bC, eK, bX, dH, bP, aU, bU, aC, bY, bO, cF, bW, aY, bA, aX, bV, dM, cU, bR, aZ, aK, aJ, bG, aE, dC, dW, aN, aM, aT, aD, cY, aG, cL, bT, bD, aP, cM, cG, aA, dN, cQ, cV, cC, dO, cB, dJ, dU, cP, eC, eM, bN, aS, dZ, bS, aQ, bL, dS, dB, cO, cS, cN, bK, bM, cX, dR, cR, dD, cZ, n1]
   refine hbad ?_ W7 y7
   rw [hgd]
   have : (K == 1 || K == 2) = false := by rw [acT, beq_eq_false_iff_ne, beq_eq_false_iff_ne]; omega
   rw [this] <;> rfl
  rw [if_pos hk12] at hr7
  obtain ⟨pb, rfl, hpbs⟩ := hr7
  have h13 := rG iE K V
  have n0' : ((0 : Int) != 0) = false := rfl
  have y17 : gX W1 W7 jK := y16.seq y7
  simp (disch := omega) only [eY, gN, dX, stepR_skip, fP, fZ, fO, gK, gE, gC, gR, gA, eU, fV, fT, gG, fS, fM, fU, fR, fX, gH, fY, fQ, fC, gB, gI, fL, iS, iQ, iO, iR, iM, iN, iP, iU, iT, eP, Result.ok.injEq, Next.value.injEq, true_and, and_true, fK, fJ, gJ, fN, gD, gS, ZV, fE, fH, fF, fD, eZ, eX, fB, eT, eQ, eH, if_true, if_false, ZS, ZY, ZT, ZU, ZX, ZW, ZR, ZQ, eA, dV, aB, dI, dE, cJ, eB, eS, eE, dK, eD, fA, dQ, eN, bQ, dG, bJ, dL, aI, aH, eL, aV, bZ, eI, aF, eJ, dF, aR, bF, eF, bH, bE, bB, aO, aL, cD, fG, dY, cA, cI, dA, cH, dT, bC, eK, bX, dH, bP, aU, bU, aC, bY, bO, cF, bW, aY, bA, aX, bV, dM, cU, bR, aZ, aK, aJ, bG, aE, dC, dW, aN, aM, aT, aD, cY, aG, cL, bT, bD, aP, cM, cG, aA, dN, cQ, cV, cC, dO, cB, dJ, dU, cP, eC, eM, bN, aS, dZ, bS, aQ, bL, dS, dB, cO, cS, cN, bK, bM, cX, dR, cR, dD, cZ, n0']
  refine (Um (show Bs W7 pb (tJ iE K V) from hpbs.sl) (hp1.ext y17 (jJ _)) (by omega) (by omega)).mono ?_
  rintro r W8 ⟨rfl, y8⟩
  have y68 : gX W6 W8 jK := y7.seq y8
  cases hq : (tJ iE K V == p) with
  | false =>
    simp (disch := omega) only [eY, gN, dX, stepR_skip, fP, fZ, fO, gK, gE, gC, gR, gA, eU, fV, fT, gG, fS, fM, fU, fR, fX, gH, fY, fQ, fC, gB, gI, fL, iS, iQ, iO, iR, iM, iN, iP, iU, iT, eP, Result.ok.injEq, Next.value.injEq, true_and, and_true, fK, fJ, gJ, fN, gD, gS, ZV, fE, fH, fF, fD, eZ, eX, fB, eT, eQ, eH, if_true, if_false, ZS, ZY, ZT, ZU, ZX, ZW, ZR, ZQ, eA, dV, aB, dI, dE, cJ, eB, eS, eE, dK, eD, fA, dQ, eN, bQ, dG, bJ, dL, aI, aH, eL, aV, bZ, eI, aF, eJ, dF, aR, bF, eF, bH, bE, bB, aO, aL, cD, fG, dY, cA, cI, dA, cH, dT, bC, eK, bX, dH, bP, aU, bU, aC, bY, bO, cF, bW, aY, bA, aX, bV, dM, cU, bR, aZ, aK, aJ, bG, aE, dC, dW, aN, aM, aT, aD, cY, aG, cL, bT, bD, aP, cM, cG, aA, dN, cQ, cV, cC, dO, cB, dJ, dU, cP, eC, eM, bN, aS, dZ, bS, aQ, bL, dS, dB, cO, cS, cN, bK, bM, cX, dR, cR, dD, cZ]
    exact hbad (by rw [hgd, hq, Bool.and_false]) W8 y68
  | true =>
    have hgood : Km iE p = true := by
     rw [hgd, hq, Bool.and_true, abC, beq_iff_eq, beq_iff_eq]; exact hk12
    have hp13 := MO iE hgood
    have q1 := q1.ext y68 (fun h => h)
    have q2 := q2.ext y68 (fun h => h)
    have q3 := q3.ext y68 (fun _ _ h => h)
    have l8 := Cp l6 y68 (fun h => h)
    have lr8 := tI (off := 0) (o6.ext y68 (fun h => h)) (by simp)
    have lr8 : (fW 77 (.pointer (some ⟨pc, 0, none⟩))).run pg W8 = .ok (.value (U5 K V)) W8 := lr8
    have c1 := q1.cell (off := 0)
    simp only [ZQ] at c1
    simp (disch := omega) only [eY, gN, dX, stepR_skip, fP, fZ, fO, gK, gE, gC, gR, gA, eU, fV, fT, gG, fS, fM, fU, fR, fX, gH, fY, fQ, fC, gB, gI, fL, iS, iQ, iO, iR, iM, iN, iP, iU, iT, eP, Result.ok.injEq, Next.value.injEq, true_and, and_true, fK, fJ, gJ, fN, gD, gS, ZV, fE, fH, fF, fD, eZ, eX, fB, eT, eQ, eH, if_true, if_false, ZS, ZY, ZT, ZU, ZX, ZW, ZR, ZQ, eA, dV, aB, dI, dE, cJ, eB, eS, eE, dK, eD, fA, dQ, eN, bQ, dG, bJ, dL, aI, aH, eL, aV, bZ, eI, aF, eJ, dF, aR, bF, eF, bH, bE, bB, aO, aL, cD, fG, dY, cA, cI, dA, cH, dT, bC, eK, bX, dH, bP, aU, bU, aC, bY, bO, cF, bW, aY, bA, aX, bV, dM, cU, bR, aZ, aK, aJ, bG, aE, dC, dW, aN, aM, aT, aD, cY, aG, cL, bT, bD, aP, cM, cG, aA, dN, cQ, cV, cC, dO, cB, dJ, dU, cP, eC, eM, bN, aS, dZ, bS, aQ, bL, dS, dB, cO, cS, cN, bK, bM, cX, dR, cR, dD, cZ, c1, lr8]
    refine J4 (cells := #[.int .u8 (K : Nat), .int .u64 (V : Nat)]) (by decide) (by decide) (by kernel_rfl) fun W9 o9 y9 z9 => ?_
    have o9 : jG W9 W8.heap.size (Ba (K, V)) := o9
    have z85 : n0 + 5 < W8.heap.size := by
     have := y17.size
     have := y8.size
     have := Vg l1
     omega
    obtain ⟨oa, oc, rfl⟩ := DU q3
    have q3 := q3.ext y9 (fun _ _ h => h)
    refine EI (m := 1) (news := Ba (K, V)) (i := Tryd.t77) Tryd.underlying72 Tryd.underlying72 OJ rfl rfl rfl q3 (o9.cl (off := 0) (n := 1) rfl (fun i hi => by rw [ZY])) (by simp [one]) (fun b hb => by omega) (by omega) (by rw [show Tryd.t77.bytes = 16 from rfl]; omega) (by decide) fun v' W10 o' y10 => ?_
    obtain ⟨oa', oc', rfl⟩ := DU o'
    have q1 := (q1.ext y9 (fun h => h)).ext y10 (by omega)
    have q2 := (q2.ext y9 (fun h => h)).ext y10 (by omega)
    refine J6 q1 rfl (by simp) fun W11 q1 y11 z11 => ?_
    simp only [aaD] at q1
    have q2 := q2.ext y11 (by omega)
    have o' := wL o' y11 (fun b hb h => by omega)
    have c2 := q2.cell (off := 0)
    simp only [ZQ] at c2
    have e13 : ((13 * R.length : Nat) : Int) + 13 = ((13 * (R.length + 1) : Nat) : Int) := by omega
    simp (disch := omega) only [eY, gN, dX, stepR_skip, fP, fZ, fO, gK, gE, gC, gR, gA, eU, fV, fT, gG, fS, fM, fU, fR, fX, gH, fY, fQ, fC, gB, gI, fL, iS, iQ, iO, iR, iM, iN, iP, iU, iT, eP, Result.ok.injEq, Next.value.injEq, true_and, and_true, fK, fJ, gJ, fN, gD, gS, ZV, fE, fH, fF, fD, eZ, eX, fB, eT, eQ, eH, if_true, if_false, ZS, ZY, ZT, ZU, ZX, ZW, ZR, ZQ, eA, dV, aB, dI, dE, cJ, eB, eS, eE, dK, eD, fA, dQ, eN, bQ, dG, bJ, dL, aI, aH, eL, aV, bZ, eI, aF, eJ, dF, aR, bF, eF, bH, bE, bB, aO, aL, cD, fG, dY, cA, cI, dA, cH, dT, bC, eK, bX, dH, bP, aU, bU, aC, bY, bO, cF, bW, aY, bA, aX, bV, dM, cU, bR, aZ, aK, aJ, bG, aE, dC, dW, aN, aM, aT, aD, cY, aG, cL, bT, bD, aP, cM, cG, aA, dN, cQ, cV, cC, dO, cB, dJ, dU, cP, eC, eM, bN, aS, dZ, bS, aQ, bL, dS, dB, cO, cS, cN, bK, bM, cX, dR, cR, dD, cZ, c2, e13]
    refine Ku q2 rfl (by simp) fun W12 q2 y12 z12 => ?_
    simp only [aaD] at q2
    have y812 : gX W8 W12 M := (((y9.mono fun _ _ h => h.elim).seq (y10.mono fun y _ h => .inr (.inr (.inr h)))).seq (y11.mono fun y _ h => .inr (.inl h))).seq (y12.mono fun y _ h => .inr (.inr (.inl h)))
    have l12 := Cp (Cp (Cp (Cp l8 y9 (fun h => h)) y10 (by omega)) y11 (by omega)) y12 (by omega)
    refine OD l12 fun W13 l13 y13 z13 => .inl ⟨rfl, R ++ [(K, V)], ?_, l13, ?_, _, ((x86.trans y68 fun y hy h => h.elim).seq y812).seq (y13.mono fun y _ h => .inl h), q1.ext y12 (by omega) |>.ext y13 (by omega), ?_, ?_⟩
    .rw [hR, hstep, if_pos hgood, aaH, <- hK, <- hV] <;> rfl
    .rw [Z1]; simp; omega
    .rw [Z1]; exact q2.ext y13 (by omega)
    .rw [Z1, List.flatMap_append]
     exact wL (wL o' y12 (fun b hb h => by omega)) y13 (fun b hb h => by omega)
 refine hmain.mono ?_
 rintro r w9 ⟨rfl, h⟩
 have fin : ∀ {wa : adV}, wa.heap[n0 + 4]? = some (.deferred (some [])) -> Q n0 wa (mO iE l) -> oT RR (.pointer (some ⟨n0, 0, none⟩)) (.pointer (some ⟨n0 + 1, 0, none⟩)) (.pointer (some ⟨n0 + 4, 0, none⟩)) wa := fun {wa} hd ⟨ov, hx, q1, q2, q3⟩ => by
  unfold oT
  have c1 := (kJ q1).cell (off := 0)
  have c2 := (kJ q2).cell (off := 0)
  simp only [ZQ] at c1 c2
  simp (disch := omega) only [eY, gN, dX, stepR_skip, fP, fZ, fO, gK, gE, gC, gR, gA, eU, fV, fT, gG, fS, fM, fU, fR, fX, gH, fY, fQ, fC, gB, gI, fL, iS, iQ, iO, iR, iM, iN, iP, iU, iT, eP, Result.ok.injEq, Next.value.injEq, true_and, and_true, fK, fJ, gJ, fN, gD, gS, ZV, fE, fH, fF, fD, eZ, eX, fB, eT, eQ, eH, if_true, if_false, ZS, ZY, ZT, ZU, ZX, ZW, ZR, ZQ, eA, dV, aB, dI, dE, cJ, eB, eS, eE, dK, eD, fA, dQ, eN, bQ, dG, bJ, dL, aI, aH, eL, aV, bZ, eI, aF, eJ, dF, aR, bF, eF, bH, bE, bB, aO, aL, cD, fG, dY, cA, cI, dA, cH, dT, bC, eK, bX, dH, bP, aU, bU, aC, bY, bO, cF, bW, aY, bA, aX, bV, dM, cU, bR, aZ, aK, aJ, bG, aE, dC, dW, aN, aM, aT, aD, cY, aG, cL, bT, bD, aP, cM, cG, aA, dN, cQ, cV, cC, dO, cB, dJ, dU, cP, eC, eM, bN, aS, dZ, bS, aQ, bL, dS, dB, cO, cS, cN, bK, bM, cX, dR, cR, dD, cZ, c1, c2]
  refine SR hd fun we ye ze => ?_
  rw [hRR]
  refine ⟨ov, rfl, ?_, ((x08.trans hx fun y hy h => by omega).seq (gX.dr _ _)).trans ye fun y hy h => by omega⟩
  have o' := wL (wL q3 (gX.dr _ jK) (fun _ _ h => h)) ye (fun b hb h => by omega)
  refine ⟨o'.1, ?_⟩
  rcases o'.2 with h | ⟨b, c, rest, g1, g2, g3⟩
  .exact .inl h
  .exact .inr ⟨b, c, rest, g1, by omega, g3⟩
 have hz4 : put g (some DS) (.pointer (some ⟨n0 + 4, 0, none⟩)) 4 = g 4 := rfl
 have hz5 : put g (some DS) (.pointer (some ⟨n0 + 4, 0, none⟩)) 5 = g 5 := rfl
 have hzm : put g (some DS) (.pointer (some ⟨n0 + 4, 0, none⟩)) 1000003 = .pointer (some ⟨n0 + 4, 0, none⟩) := rfl
 have hQx : ∀ {W W' R}, Q n0 W R -> gX W W' (fun y => y = n0 + 5) -> Q n0 W' R := fun {W W' R} ⟨ov, h1, h2, h3, h4⟩ x => ⟨ov, h1.seq (x.mono fun y _ h => .inl h), h2.ext x (by omega), h3.ext x (by omega), wL h4 x (fun b hb h => by omega)⟩
 rcases h with ⟨i, hil, R, hR, hlp, hRl, hQ⟩ | ⟨hlp, hQ⟩
 .have hnil : l.drop i = [] := List.drop_eq_nil_of_le hil
  have hLR : mO iE l = R := by rw [hR, hnil]; exact abE _
  obtain ⟨ov, hx, _⟩ := id hQ
  refine Nk hlp (by rw [hr0]; simp) fun wa ya za => ?_
  rw [hr0]
  show oT RR (put g (some DS) (.pointer (some ⟨n0 + 4, 0, none⟩)) 4) (put g (some DS) (.pointer (some ⟨n0 + 4, 0, none⟩)) 5) (put g (some DS) (.pointer (some ⟨n0 + 4, 0, none⟩)) 1000003) wa
  rw [hz4, hz5, hzm, g4, g5]
  refine fin (Cp (Cp d8 hx (by omega)) ya (by omega)) ?_
  rw [hLR]
  exact hQx hQ ya
 .obtain ⟨ov, hx, _⟩ := id hQ
  refine Nk hlp (by simp) fun wa ya za => ?_
  show oT RR (put g (some DS) (.pointer (some ⟨n0 + 4, 0, none⟩)) 4) (put g (some DS) (.pointer (some ⟨n0 + 4, 0, none⟩)) 5) (put g (some DS) (.pointer (some ⟨n0 + 4, 0, none⟩)) 1000003) wa
  rw [hz4, hz5, hzm, g4, g5]
  exact fin (Cp (Cp d8 hx (by omega)) ya (by omega)) (hQx hQ ya)
end Go.Proofs.YteelnmpbnaohpaaDoor
namespace Go.En
open Go Go.Pu
theorem Yn {v : adW} {P Q : Nat -> Prop} (h : wB v fun b => P b ∨ Q b) : wB v P ∨ wB v Q := by
 unfold wB at *
 split
 .exact h
 .rename_i hne
  split at h
  .exact absurd rfl (hne _ _ _)
  .exact h.elim
def GR (w : adV) (X : Nat -> Prop) (v : adW) (b : List UInt8) : Prop := Bs w v b /\ ¬ wB v X
theorem GR.ext {w w' : adV} {X M : Nat -> Prop} {v : adW} {b : List UInt8} (h : GR w X v b) (x : gX w w' M) (hM : ∀ b, M b -> X b) : GR w' X v b := ⟨h.1.ext x fun h' => h.2 (Aw h' hM), h.2⟩
theorem GR.sub {w : adV} {X Y : Nat -> Prop} {v : adW} {b : List UInt8} (h : GR w X v b) (hY : ∀ b, Y b -> X b ∨ w.heap.size <= b) : GR w Y v b :=
 ⟨h.1, fun h' => by
   rcases Yn (Aw h' hY) with h' | h'
   .exact h.2 h'
   .exact h.1.old h'⟩
def CV (w : adV) (X : Nat -> Prop) : List (ByteArray × adW) -> sW -> Prop
 | [], [] => True
 | p :: l, q :: c => p.1 = q.1 /\ GR w X p.2 q.2 /\ CV w X l c
 | _, _ => False
theorem CV.map {w w' : adV} {X Y : Nat -> Prop} (hd : ∀ v b, GR w X v b -> GR w' Y v b) : ∀ {l : List (ByteArray × adW)} {c : sW}, CV w X l c -> CV w' Y l c
 | [], [], _ => trivial
 | p :: l, q :: c, h => ⟨h.1, hd _ _ h.2.1, CV.map hd h.2.2⟩
theorem CV.ext {w w' : adV} {X M : Nat -> Prop} {l : List (ByteArray × adW)} {c : sW} (h : CV w X l c) (x : gX w w' M) (hM : ∀ b, M b -> X b) : CV w' X l c := h.map fun _ _ h => h.ext x hM
theorem CV.sub {w : adV} {X Y : Nat -> Prop} {l : List (ByteArray × adW)} {c : sW} (h : CV w X l c) (hY : ∀ b, Y b -> X b ∨ w.heap.size <= b) : CV w Y l c := h.map fun _ _ h => h.sub hY
theorem CV.get {w : adV} {X : Nat -> Prop} (k : ByteArray) : ∀ {l : List (ByteArray × adW)} {c : sW}, CV w X l c -> (HD k l = none /\ jE k c = none) ∨ ∃ v b, HD k l = some v /\ jE k c = some b /\ GR w X v b
 | [], [], _ => .inl ⟨rfl, rfl⟩
 | p :: l, q :: c, h => by
   obtain ⟨h1, h2, h3⟩ := h
   simp only [HD, jE, <- h1]
   by_cases hk : k = p.1
   .rw [if_pos hk, if_pos hk]; exact .inr ⟨_, _, rfl, rfl, h2⟩
   .rw [if_neg hk, if_neg hk]; exact CV.get k h3
theorem CV.set {w : adV} {X : Nat -> Prop} {k : ByteArray} {v : adW} {b : List UInt8} (hd : GR w X v b) : ∀ {l : List (ByteArray × adW)} {c : sW}, CV w X l c -> CV w X (Tl k v l) (pR k b c)
 | [], [], _ => ⟨rfl, hd, trivial⟩
 | p :: l, q :: c, h => by
   obtain ⟨h1, h2, h3⟩ := h
   simp only [Tl, pR, <- h1]
   by_cases hk : k = p.1
   .rw [if_pos hk, if_pos hk]; exact ⟨rfl, hd, h3⟩
   .rw [if_neg hk, if_neg hk]; exact ⟨h1, h2, CV.set hd h3⟩
theorem CV.del {w : adV} {X : Nat -> Prop} {k : ByteArray} : ∀ {l : List (ByteArray × adW)} {c : sW}, CV w X l c -> CV w X (del k l) (CS k c)
 | [], [], _ => trivial
 | p :: l, q :: c, h => by
   obtain ⟨h1, h2, h3⟩ := h
   simp only [Go.En.del, CS, <- h1]
   by_cases hk : k = p.1
   .rw [if_pos hk, if_pos hk]; exact h3
   .rw [if_neg hk, if_neg hk]; exact ⟨h1, h2, CV.del h3⟩
theorem CV.len {w : adV} {X : Nat -> Prop} : ∀ {l : List (ByteArray × adW)} {c : sW}, CV w X l c -> l.length = c.length
 | [], [], _ => rfl
 | p :: l, q :: c, h => by rw [aaK, aaK, CV.len h.2.2]
theorem CV.at {w : adV} {X : Nat -> Prop} : ∀ {l : List (ByteArray × adW)} {c : sW} {j : Nat} (h : CV w X l c) (h1 : j < l.length) (h2 : j < c.length), l[j].1 = c[j].1 /\ GR w X l[j].2 c[j].2
 | [], [], j, _, h1, _ => by simp at h1
 | p :: l, q :: c, 0, h, _, _ => ⟨h.1, h.2.1⟩
 | p :: l, q :: c, j + 1, h, h1, h2 => CV.at h.2.2 (by simpa using h1) (by simpa using h2)
theorem CV.erase {w : adV} {X : Nat -> Prop} : ∀ {l : List (ByteArray × adW)} {c : sW} (j : Nat) (h : CV w X l c), CV w X (l.eraseIdx j) (c.eraseIdx j)
 | [], [], j, _ => by simp [CV]
 | p :: l, q :: c, 0, h => h.2.2
 | p :: l, q :: c, j + 1, h => by
   rw [abJ, abJ]
   exact ⟨h.1, h.2.1, CV.erase j h.2.2⟩
def Pg (o : RZ) (v : adW) : List adW := [.int .i64 o.kind, .string o.name, .string o.other, .int .i64 o.at', v]
def NA (w : adV) (X : Nat -> Prop) : List adW -> List RZ -> Prop
 | cs, [] => cs = []
 | cs, o :: os => ∃ v cs', (∃ x n k, v = .slice x n k) /\ cs = Pg o v ++ cs' /\ GR w X v o.bytes /\ NA w X cs' os
theorem NA.nil (w : adV) (X : Nat -> Prop) : NA w X [] [] := rfl
theorem NA.map {w w' : adV} {X Y : Nat -> Prop} (hd : ∀ v b, GR w X v b -> GR w' Y v b) : ∀ {os : List RZ} {cs : List adW}, NA w X cs os -> NA w' Y cs os
 | [], cs, h => h
 | o :: os, cs, ⟨v, cs', h1, h2, h3, h4⟩ => ⟨v, cs', h1, h2, hd _ _ h3, NA.map hd h4⟩
theorem NA.ext {w w' : adV} {X M : Nat -> Prop} {os : List RZ} {cs : List adW} (h : NA w X cs os) (x : gX w w' M) (hM : ∀ b, M b -> X b) : NA w' X cs os := h.map fun _ _ h => h.ext x hM
theorem NA.sub {w : adV} {X Y : Nat -> Prop} {os : List RZ} {cs : List adW} (h : NA w X cs os) (hY : ∀ b, Y b -> X b ∨ w.heap.size <= b) : NA w Y cs os := h.map fun _ _ h => h.sub hY
theorem NA.len {w : adV} {X : Nat -> Prop} : ∀ {os : List RZ} {cs : List adW}, NA w X cs os -> cs.length = os.length * 5
 | [], cs, h => by rw [show cs = [] from h] <;> rfl
 | o :: os, cs, ⟨v, cs', h1, h2, h3, h4⟩ => by rw [h2, Z1, NA.len h4, aaK]; show 5 + _ = _; omega
theorem NA.snoc {w : adV} {X : Nat -> Prop} {o : RZ} {v : adW} (hv : ∃ x n k, v = .slice x n k) (hd : GR w X v o.bytes) : ∀ {os : List RZ} {cs : List adW}, NA w X cs os -> NA w X (cs ++ Pg o v) (os ++ [o])
 | [], cs, h => ⟨v, [], hv, by rw [show cs = [] from h, aaF, abE], hd, rfl⟩
 | o' :: os, cs, ⟨v', cs', h1, h2, h3, h4⟩ => ⟨v', cs' ++ Pg o v, h1, by rw [h2, aaH], h3, NA.snoc hv hd h4⟩
theorem NA.at {w : adV} {X : Nat -> Prop} : ∀ {os : List RZ} {cs : List adW} {i : Nat} (h : NA w X cs os) (hi : i < os.length), ∃ v, (∃ x n k, v = .slice x n k) /\ (cs.drop (i * 5)).take 5 = Pg os[i] v /\ GR w X v os[i].bytes
 | [], cs, i, _, hi => by simp at hi
 | o :: os, cs, 0, ⟨v, cs', h1, h2, h3, h4⟩, _ => ⟨v, h1, by rw [h2] <;> rfl, h3⟩
 | o :: os, cs, i + 1, ⟨v, cs', h1, h2, h3, h4⟩, hi => by
   obtain ⟨v', q1, q2, q3⟩ := NA.at h4 (i := i) (by simpa using hi)
   refine ⟨v', q1, ?_, q3⟩
   rw [show (i + 1) * 5 = 5 + i * 5 from by omega, <- acS, h2]
   exact q2
structure jZ where
 room : Int
 sure : sW
 seen : sW
 under : List RZ
 left : Int
 down : Bool
abbrev Om : ByteArray -> adW := fun s => .string s
def lY (w : adV) (p : Nat) (X D : Nat -> Prop) (S : jZ) : Prop :=
 ∃ (ms mn : Nat) (sv : adW) (ls ln : List (ByteArray × adW)) (cs : List adW), X p /\ X ms /\ X mn /\ p ≠ ms /\ p ≠ mn /\ ms ≠ mn /\ (∀ b, X b -> D b) /\ (∀ b, D b -> b < w.heap.size) /\
   jG w p [.int .i64 S.room, .map (some ms), .map (some mn), sv, .int .i64 S.left, .bool S.down] /\ Mp w ms Om ls /\ Mp w mn Om ln /\ CV w D ls S.sure /\ CV w D ln S.seen /\
   IB w (fun b => X b /\ b ≠ p /\ b ≠ ms /\ b ≠ mn) 5 sv S.under.length cs /\ NA w D cs S.under
theorem lY.ext {w w' : adV} {p : Nat} {X D M : Nat -> Prop} {S : jZ} (h : lY w p X D S) (x : gX w w' M) (hM : ∀ b, M b -> D b /\ ¬ X b) : lY w' p X D S := by
 obtain ⟨ms, mn, sv, ls, ln, cs, h1, h2, h3, h4, h5, h6, h7, h7', h8, h9, h10, h11, h12, h13, h14⟩ := h
 have hx : ∀ {b}, X b -> ¬ M b := fun hb hm => (hM _ hm).2 hb
 have hd : ∀ v b, GR w D v b -> GR w' D v b := fun _ _ hd => hd.ext x fun b h => (hM b h).1
 exact ⟨ms, mn, sv, ls, ln, cs, h1, h2, h3, h4, h5, h6, h7, fun b hb => acD (h7' b hb) x.size, h8.ext x (hx h1), h9.ext x (hx h2), h10.ext x (hx h3), h11.map hd, h12.map hd, h13.ext x (fun b hb => hx hb.1), h14.map hd⟩
theorem lY.new {w w' : adV} {p : Nat} {X D : Nat -> Prop} {S : jZ} (h : lY w p X D S) (x : gX w w' jK) : lY w' p X D S := h.ext x fun _ h => h.elim
theorem lY.more {w w' : adV} {p q : Nat} {X D : Nat -> Prop} {S : jZ} (h : lY w p X D S) (x : gX w w' jK) (hq : w.heap.size <= q) (hq' : q < w'.heap.size) : lY w' p X (fun b => D b ∨ b = q) S := by
 obtain ⟨ms, mn, sv, ls, ln, cs, h1, h2, h3, h4, h5, h6, h7, h7', h8, h9, h10, h11, h12, h13, h14⟩ := h
 have hd : ∀ v b, GR w D v b -> GR w' (fun b => D b ∨ b = q) v b := fun v b hd => (hd.sub (Y := fun b => D b ∨ b = q) fun b h => by
  rcases h with h | h
  .exact .inl h
  .exact .inr (by omega)).ext x fun _ h => h.elim
 have z := x.size
 exact ⟨ms, mn, sv, ls, ln, cs, h1, h2, h3, h4, h5, h6, fun b h => .inl (h7 b h), fun b hb => by
  rcases hb with hb | hb
  .have := h7' b hb; omega
  .omega, h8.ext x (fun h => h), h9.ext x (fun h => h), h10.ext x (fun h => h), h11.map hd, h12.map hd, h13.ext x (fun b _ h => h), h14.map hd⟩
end Go.En
namespace Go.Proofs.YteelnmpbnaohpaaDoor
open Go Go.En Go.Pu
set_option maxRecDepth 4000
def Lj (s : ByteArray) : Bool := decide (1 <= s.size /\ s.size <= 32)
theorem Vu (s : ByteArray) (w : adV) : gU pg A5 #[.string s] w (fun r w' => r = .bool (Lj s) /\ w' = w) := by
 refine Pj ?_
 unfold Rh IV Lj
 by_cases h1 : 1 <= s.size
 .have d1 : decide ((1 : Int) <= (s.size : Int)) = true := by simp; omega
  by_cases h2 : s.size <= 32
  .have d2 : decide ((s.size : Int) <= 32) = true := by simp; omega
   rw [decide_eq_true ⟨h1, h2⟩]
   simp (disch := omega) only [eY, gN, dX, stepR_skip, fP, fZ, fO, gK, gE, gC, gR, gA, eU, fV, fT, gG, fS, fM, fU, fR, fX, gH, fY, fQ, fC, gB, gI, fL, iS, iQ, iO, iR, iM, iN, iP, iU, iT, eP, Result.ok.injEq, Next.value.injEq, true_and, and_true, fK, fJ, gJ, fN, gD, gS, ZV, fE, fH, fF, fD, eZ, eX, fB, eT, eQ, eH, if_true, if_false, ZS, ZY, ZT, ZU, ZX, ZW, ZR, ZQ, eA, dV, aB, dI, dE, cJ, eB, eS, eE, dK, eD, fA, dQ, eN, bQ, dG, bJ, dL, aI, aH, eL, aV, bZ, eI, aF, eJ, dF, aR, bF, eF, bH, bE, bB, aO, aL, cD, fG, dY, cA, cI, dA, cH, dT, bC, eK, bX, dH, bP, aU, bU, aC, bY, bO, cF, bW, aY, bA, aX, bV, dM, cU, bR, aZ, aK, aJ, bG, aE, dC, dW, aN, aM, aT, aD, cY, aG, cL, bT, bD, aP, cM, cG, aA, dN, cQ, cV, cC, dO, cB, dJ, dU, cP, eC, eM, bN, aS, dZ, bS, aQ, bL, dS, dB, cO, cS, cN, bK, bM, cX, dR, cR, dD, cZ, d1, d2]
  .have d2 : decide ((s.size : Int) <= 32) = false := by simp; omega
   rw [decide_eq_false (fun h => h2 h.2)]
   simp (disch := omega) only [eY, gN, dX, stepR_skip, fP, fZ, fO, gK, gE, gC, gR, gA, eU, fV, fT, gG, fS, fM, fU, fR, fX, gH, fY, fQ, fC, gB, gI, fL, iS, iQ, iO, iR, iM, iN, iP, iU, iT, eP, Result.ok.injEq, Next.value.injEq, true_and, and_true, fK, fJ, gJ, fN, gD, gS, ZV, fE, fH, fF, fD, eZ, eX, fB, eT, eQ, eH, if_true, if_false, ZS, ZY, ZT, ZU, ZX, ZW, ZR, ZQ, eA, dV, aB, dI, dE, cJ, eB, eS, eE, dK, eD, fA, dQ, eN, bQ, dG, bJ, dL, aI, aH, eL, aV, bZ, eI, aF, eJ, dF, aR, bF, eF, bH, bE, bB, aO, aL, cD, fG, dY, cA, cI, dA, cH, dT, bC, eK, bX, dH, bP, aU, bU, aC, bY, bO, cF, bW, aY, bA, aX, bV, dM, cU, bR, aZ, aK, aJ, bG, aE, dC, dW, aN, aM, aT, aD, cY, aG, cL, bT, bD, aP, cM, cG, aA, dN, cQ, cV, cC, dO, cB, dJ, dU, cP, eC, eM, bN, aS, dZ, bS, aQ, bL, dS, dB, cO, cS, cN, bK, bM, cX, dR, cR, dD, cZ, d1, d2]
 .have d1 : decide ((1 : Int) <= (s.size : Int)) = false := by simp; omega
  rw [decide_eq_false (fun h => h1 h.1)]
  simp (disch := omega) only [eY, gN, dX, stepR_skip, fP, fZ, fO, gK, gE, gC, gR, gA, eU, fV, fT, gG, fS, fM, fU, fR, fX, gH, fY, fQ, fC, gB, gI, fL, iS, iQ, iO, iR, iM, iN, iP, iU, iT, eP, Result.ok.injEq, Next.value.injEq, true_and, and_true, fK, fJ, gJ, fN, gD, gS, ZV, fE, fH, fF, fD, eZ, eX, fB, eT, eQ, eH, if_true, if_false, ZS, ZY, ZT, ZU, ZX, ZW, ZR, ZQ, eA, dV, aB, dI, dE, cJ, eB, eS, eE, dK, eD, fA, dQ, eN, bQ, dG, bJ, dL, aI, aH, eL, aV, bZ, eI, aF, eJ, dF, aR, bF, eF, bH, bE, bB, aO, aL, cD, fG, dY, cA, cI, dA, cH, dT, bC, eK, bX, dH, bP, aU, bU, aC, bY, bO, cF, bW, aY, bA, aX, bV, dM, cU, bR, aZ, aK, aJ, bG, aE, dC, dW, aN, aM, aT, aD, cY, aG, cL, bT, bD, aP, cM, cG, aA, dN, cQ, cV, cC, dO, cB, dJ, dU, cP, eC, eM, bN, aS, dZ, bS, aQ, bL, dS, dB, cO, cS, cN, bK, bM, cX, dR, cR, dD, cZ, d1]
theorem Yf {m : Nat} {X : Nat -> Prop} {ls : List (ByteArray × adW)} {c : sW} {w : adV} (hm : Mp w m Om ls) (hf : CV w X ls c) (hs : iY c <= 1099511627776) :
 gU pg tD #[.map (some m)] w (fun r w' => r = .int .i64 (iY c : Nat) /\ gX w w' jK) := by
 refine Jm ?_
 unfold HE xR yF xH yQ xP
 have hlt := hm.lt
 refine PC hm fun w1 hi x1 s1 => ?_
 unfold xK xM
 have hf1 : CV w1 (fun b => X b ∨ w.heap.size <= b) ls c := (hf.sub (Y := fun b => X b ∨ w.heap.size <= b) fun _ h => h).ext x1 fun _ h => h.elim
 refine jW.rule (fun k (t : adW) w' => ∃ (rest : List (ByteArray × adW)) (cr : sW) (n : Nat), k = rest.length /\ t = .int .i64 n /\ Xz w' w.heap.size m Om rest /\ CV w' (fun b => X b ∨ w.heap.size <= b) rest cr /\ n + iY cr = iY c /\ gX w1 w' (fun y => y = w.heap.size)) ls.length
  ⟨ls, c, 0, rfl, rfl, hi, hf1, by omega, gX.refl _ _⟩ ?_
 rintro k t w2 ⟨rest, cr, n, rfl, rfl, hi2, hf2, hn, x2⟩
 unfold rO
 refine V9 hi2 (by omega) (fun h0 => ?_) fun w3 j hj hi3 hc x3 s3 => ?_
 .have hl := hf2.len
  rw [h0] at hl
  have hcr : cr = [] := aaG.1 hl.symm
  have hz : iY cr = 0 := by rw [hcr] <;> rfl
  unfold rT
  have e1 : n = iY c := by omega
  simp (disch := omega) only [eY, gN, dX, stepR_skip, fP, fZ, fO, gK, gE, gC, gR, gA, eU, fV, fT, gG, fS, fM, fU, fR, fX, gH, fY, fQ, fC, gB, gI, fL, iS, iQ, iO, iR, iM, iN, iP, iU, iT, eP, Result.ok.injEq, Next.value.injEq, true_and, and_true, fK, fJ, gJ, fN, gD, gS, ZV, fE, fH, fF, fD, eZ, eX, fB, eT, eQ, eH, if_true, if_false, ZS, ZY, ZT, ZU, ZX, ZW, ZR, ZQ, eA, dV, aB, dI, dE, cJ, eB, eS, eE, dK, eD, fA, dQ, eN, bQ, dG, bJ, dL, aI, aH, eL, aV, bZ, eI, aF, eJ, dF, aR, bF, eF, bH, bE, bB, aO, aL, cD, fG, dY, cA, cI, dA, cH, dT, bC, eK, bX, dH, bP, aU, bU, aC, bY, bO, cF, bW, aY, bA, aX, bV, dM, cU, bR, aZ, aK, aJ, bG, aE, dC, dW, aN, aM, aT, aD, cY, aG, cL, bT, bD, aP, cM, cG, aA, dN, cQ, cV, cC, dO, cB, dJ, dU, cP, eC, eM, bN, aS, dZ, bS, aQ, bL, dS, dB, cO, cS, cN, bK, bM, cX, dR, cR, dD, cZ, e1]
  exact x1.new x2 (Z8 _)
 .have hl := hf2.len
  have hat := hf2.at hj (by omega)
  obtain ⟨va, vc, hv, _⟩ := hat.2.1.len
  rw [ZZ] at hv
  have he := WU (P := pg) hc
  rw [hv] at he
  have hse := RY (c := cr) (j := j) (by omega)
  generalize (cr[j]'(by omega)).2.length = q at *
  have e1 : (n : Int) + (q : Int) = ((n + q : Nat) : Int) := by omega
  simp (disch := omega) only [eY, gN, dX, stepR_skip, fP, fZ, fO, gK, gE, gC, gR, gA, eU, fV, fT, gG, fS, fM, fU, fR, fX, gH, fY, fQ, fC, gB, gI, fL, iS, iQ, iO, iR, iM, iN, iP, iU, iT, eP, Result.ok.injEq, Next.value.injEq, true_and, and_true, fK, fJ, gJ, fN, gD, gS, ZV, fE, fH, fF, fD, eZ, eX, fB, eT, eQ, eH, if_true, if_false, ZS, ZY, ZT, ZU, ZX, ZW, ZR, ZQ, eA, dV, aB, dI, dE, cJ, eB, eS, eE, dK, eD, fA, dQ, eN, bQ, dG, bJ, dL, aI, aH, eL, aV, bZ, eI, aF, eJ, dF, aR, bF, eF, bH, bE, bB, aO, aL, cD, fG, dY, cA, cI, dA, cH, dT, bC, eK, bX, dH, bP, aU, bU, aC, bY, bO, cF, bW, aY, bA, aX, bV, dM, cU, bR, aZ, aK, aJ, bG, aE, dC, dW, aN, aM, aT, aD, cY, aG, cL, bT, bD, aP, cM, cG, aA, dN, cQ, cV, cC, dO, cB, dJ, dU, cP, eC, eM, bN, aS, dZ, bS, aQ, bL, dS, dB, cO, cS, cN, bK, bM, cX, dR, cR, dD, cZ, he, e1]
  refine ⟨(rest.eraseIdx j).length, by rw [List.length_eraseIdx_of_lt hj]; omega, _, cr.eraseIdx j, n + q, rfl, rfl, hi3, (hf2.erase j).ext x3 (fun b h => .inr (by omega)), by omega, x2.seq x3⟩
theorem Sz (cs : List adW) (n : Nat) : mZ cs n [] = cs := by unfold mZ; rfl
theorem TV (n : Nat) : (List.replicate n (0 : UInt8)).map oY = List.replicate n (Value.int .u8 0) := by rw [List.map_replicate] <;> rfl
theorem Zn {m : Nat} {X : Nat -> Prop} {ls : List (ByteArray × adW)} {c : sW} {o : RZ} {va : Option Addr} {vc : Nat} {w : adV} (hm : Mp w m Om ls) (hmX : X m) (hX : ∀ b, X b -> b < w.heap.size) (hf : CV w X ls c)
 (hd : GR w X (.slice va o.bytes.length vc) o.bytes) (hs : iY c <= 1099511627776) (ha : o.at' <= 1099511627776) (hb : o.bytes.length <= 1099511627776) :
 gU pg xB #[.map (some m), .agg (Pg o (.slice va o.bytes.length vc)).toArray] w (fun r w' => r = .tuple #[] /\ ∃ ls', Mp w' m Om ls' /\ CV w' X ls' (NU o c) /\ gX w w' (fun b => b = m)) := by
 refine KM ?_
 unfold Kh Bq
 refine oE fun w1 o1 x1 s1 => ?_
 have o1 : jG w1 w.heap.size [.int .i64 o.kind, .string o.name, .string o.other, .int .i64 o.at', .slice va o.bytes.length vc] := o1
 have hlt := hm.lt
 have hm1 := hm.ext x1 (fun h => h)
 have fin : ∀ {w' : adV} {ls' : List (ByteArray × adW)}, Mp w' m Om ls' -> CV w' X ls' (NU o c) -> gX w w' (fun b => b = m) -> ∃ ls', Mp w' m Om ls' /\ CV w' X ls' (NU o c) /\ gX w w' (fun b => b = m) := fun h1 h2 h3 => ⟨_, h1, h2, h3⟩
 have hfx : ∀ {w' : adV}, gX w w' (fun b => b = m) -> CV w' X ls c := fun x => hf.ext x fun b h => h ▸ hmX
 obtain ⟨oa, oc, ob, th, l0, hbo, hnx, hob, hth⟩ : ∃ (oa : Option Addr) (oc : Nat) (ob : List UInt8) (th : Bool), (Ak 61 (.map (some m)) (.string o.name) true).run pg w1 = .ok (.value (.tuple #[.slice oa ob.length oc, .bool th])) w1 /\ Bs w (.slice oa ob.length oc) ob /\ ¬ wB (.slice oa ob.length oc) X /\
  (jE o.name c).getD [] = ob /\ (th = true /\ jE o.name c = some ob ∨ th = false /\ jE o.name c = none) := by
  have l0 := Bw hm1 o.name
  rcases hf.get o.name with ⟨h1, h2⟩ | ⟨v, b, h1, h2, h3⟩
  .rw [h1] at l0
   exact ⟨none, 0, [], false, l0, Sl.nil _, fun h => h, by rw [h2] <;> rfl, .inr ⟨rfl, h2⟩⟩
  .obtain ⟨a', c', hv, _⟩ := h3.1.len
   rw [ZZ] at hv
   subst hv
   rw [h1] at l0
   exact ⟨a', c', b, true, l0, h3.1, h3.2, by rw [h2] <;> rfl, .inl ⟨rfl, h2⟩⟩
 have c0 := o1.cell (off := 0)
 have c1 := o1.cell (off := 1)
 have c2 := o1.cell (off := 2)
 have c3 := o1.cell (off := 3)
 have c4 := o1.cell (off := 4)
 simp only [ZQ, ZR] at c0 c1 c2 c3 c4
 have holdlen : ob.length <= 1099511627776 := by rw [<- hob]; have := Br (k := o.name) (c := c); omega
 by_cases k0 : o.kind = 0
 .have n1 : (((o.kind : Nat) : Int) == 0) = true := by rw [k0] <;> rfl
  obtain ⟨M, hM⟩ : ∃ M, M = max ob.length (o.at' + o.bytes.length) := ⟨_, rfl⟩
  have e1 : (o.at' : Int) + (o.bytes.length : Int) = ((o.at' + o.bytes.length : Nat) : Int) := by omega
  have hmax : (if ((o.at' + o.bytes.length : Nat) : Int) > (ob.length : Int) then ((o.at' + o.bytes.length : Nat) : Int) else (ob.length : Int)) = ((M : Nat) : Int) := by
   split <;> omega
  simp (disch := omega) only [eY, gN, dX, stepR_skip, fP, fZ, fO, gK, gE, gC, gR, gA, eU, fV, fT, gG, fS, fM, fU, fR, fX, gH, fY, fQ, fC, gB, gI, fL, iS, iQ, iO, iR, iM, iN, iP, iU, iT, eP, Result.ok.injEq, Next.value.injEq, true_and, and_true, fK, fJ, gJ, fN, gD, gS, ZV, fE, fH, fF, fD, eZ, eX, fB, eT, eQ, eH, if_true, if_false, ZS, ZY, ZT, ZU, ZX, ZW, ZR, ZQ, eA, dV, aB, dI, dE, cJ, eB, eS, eE, dK, eD, fA, dQ, eN, bQ, dG, bJ, dL, aI, aH, eL, aV, bZ, eI, aF, eJ, dF, aR, bF, eF, bH, bE, bB, aO, aL, cD, fG, dY, cA, cI, dA, cH, dT, bC, eK, bX, dH, bP, aU, bU, aC, bY, bO, cF, bW, aY, bA, aX, bV, dM, cU, bR, aZ, aK, aJ, bG, aE, dC, dW, aN, aM, aT, aD, cY, aG, cL, bT, bD, aP, cM, cG, aA, dN, cQ, cV, cC, dO, cB, dJ, dU, cP, eC, eM, bN, aS, dZ, bS, aQ, bL, dS, dB, cO, cS, cN, bK, bM, cX, dR, cR, dD, cZ, c0, c1, c3, c4, l0, n1, e1, hmax]
  refine M5 (by omega) (by omega) fun w2 o2 x2 s2 => ?_
  rw [ZV] at o2 ⊢
  have x02 := x1.seq x2
  have hnb : ¬ wB (.slice oa ob.length oc) (fun y => y = w1.heap.size) := fun h => hbo.old (Aw h fun b hb => by omega)
  refine Ev o2 (by rw [aaJ]; omega) (hbo.ext x02 (jJ _)) (Fx _) fun w3 o3 x3 s3 => ?_
  have P3 : mZ (List.replicate M (Value.int .u8 0)) 0 ((ob.map oY).take (min (ob.map oY).length M)) = (ob ++ List.replicate (M - ob.length) 0).map oY := by
   rw [ZZ, aaQ (by omega), Z3 (by rw [ZZ]; omega)]
   have := oL (ob.map oY) [] (List.replicate M (Value.int .u8 0)) (by rw [ZZ, aaJ]; omega)
   rw [aaF, aaF, abO] at this
   rw [this, abD, TV, List.drop_replicate, ZZ]
  rw [P3] at o3
  have x03 : gX w w3 jK := x02.new x3 (by omega)
  have o13 := (o1.ext x2 (fun h => h)).ext x3 (by omega)
  have hm3 := hm.ext x03 (fun h => h)
  have q1 := o13.cell (off := 1)
  have q3 := o13.cell (off := 3)
  have q4 := o13.cell (off := 4)
  have q3d := (kJ o13).cell (off := 3)
  have q4d := (kJ o13).cell (off := 4)
  simp only [ZQ, ZR] at q1 q3 q4 q3d q4d
  have hbd : Bs (dr w3) (.slice va o.bytes.length vc) o.bytes := (hd.1.ext x03 (jJ _)).ext (gX.dr _ jK) (jJ _)
  have hhm : o.at' <= M := by omega
  have hP : (ob ++ List.replicate (M - ob.length) (0 : UInt8)).length = M := by rw [Z1, aaJ]; omega
  have hov : over ob o.at' o.bytes = (ob ++ List.replicate (M - ob.length) 0).take o.at' ++ o.bytes ++ (ob ++ List.replicate (M - ob.length) 0).drop (o.at' + o.bytes.length) := by unfold over; rw [<- hM]
  have hol := Jj ob o.at' o.bytes
  generalize ob ++ List.replicate (M - ob.length) (0 : UInt8) = P at *
  have ending : ∀ (w4 : adV), jG w4 w1.heap.size ((over ob o.at' o.bytes).map oY) -> gX w w4 jK →
      eY pg (Kw 61 (.map (some m)) (.string o.name) (.slice (some ⟨w1.heap.size, 0, none⟩) M M)) w4 fun _ w' => ∃ ls', Mp w' m Om ls' /\ CV w' X ls' (NU o c) /\ gX w w' (fun b => b = m) := fun w4 o4 x4 => by
   refine Ka (hm.ext x4 (fun h => h)) o.name _ fun w5 hm5 x5 s5 => ?_
   have x05 : gX w w5 (fun b => b = m) := (x4.mono fun _ _ h => h.elim).seq x5
   have hdo : NU o c = pR o.name (over ob o.at' o.bytes) c := by unfold NU; rw [if_pos k0, hob]
   rw [hdo]
   refine ⟨_, hm5, CV.set ⟨?_, fun h => ?_⟩ (hfx x05), x05⟩
   .have := jG.whole (c := M) (o4.ext x5 (by omega)) (by omega)
    rw [hol, <- hM] at this
    exact this
   .obtain ⟨M', hM'⟩ : ∃ M', M = M' + 1 ∨ M = 0 := ⟨M - 1, by omega⟩
    rcases hM' with h' | h'
    .rw [h'] at h
     have h : X w1.heap.size := h
     have := hX _ h
     omega
    .rw [h'] at h
     exact h
  by_cases hat : o.at' < M
  .have hsh : jO (some ⟨w1.heap.size, 0, none⟩) M o.at' 1 = some ⟨w1.heap.size, 0 + o.at', none⟩ := Te (by omega)
   simp (disch := omega) only [eY, gN, dX, stepR_skip, fP, fZ, fO, gK, gE, gC, gR, gA, eU, fV, fT, gG, fS, fM, fU, fR, fX, gH, fY, fQ, fC, gB, gI, fL, iS, iQ, iO, iR, iM, iN, iP, iU, iT, eP, Result.ok.injEq, Next.value.injEq, true_and, and_true, fK, fJ, gJ, fN, gD, gS, ZV, fE, fH, fF, fD, eZ, eX, fB, eT, eQ, eH, if_true, if_false, ZS, ZY, ZT, ZU, ZX, ZW, ZR, ZQ, eA, dV, aB, dI, dE, cJ, eB, eS, eE, dK, eD, fA, dQ, eN, bQ, dG, bJ, dL, aI, aH, eL, aV, bZ, eI, aF, eJ, dF, aR, bF, eF, bH, bE, bB, aO, aL, cD, fG, dY, cA, cI, dA, cH, dT, bC, eK, bX, dH, bP, aU, bU, aC, bY, bO, cF, bW, aY, bA, aX, bV, dM, cU, bR, aZ, aK, aJ, bG, aE, dC, dW, aN, aM, aT, aD, cY, aG, cL, bT, bD, aP, cM, cG, aA, dN, cQ, cV, cC, dO, cB, dJ, dU, cP, eC, eM, bN, aS, dZ, bS, aQ, bL, dS, dB, cO, cS, cN, bK, bM, cX, dR, cR, dD, cZ, q3, q4, q3d, q4d, hsh]
   refine Ev (off := o.at') (kJ o3) (by rw [ZZ]; omega) hbd (Fx _) fun w4 o4 x4 s4 => ?_
   have P4 : mZ (P.map oY) o.at' ((o.bytes.map oY).take (min (o.bytes.map oY).length (M - o.at'))) = (over ob o.at' o.bytes).map oY := by
    rw [ZZ, aaQ (by omega), Z3 (by rw [ZZ]; omega)]
    have := oL (o.bytes.map oY) ((P.take o.at').map oY) ((P.drop o.at').map oY) (by rw [ZZ, ZZ, Z9]; omega)
    rw [<- abD, adM, ZZ, aaB, aaQ (by omega)] at this
    rw [this, hov, ZZ, abD, abD, <- acH, acS]
   rw [P4] at o4
   have x34 : gX w3 w4 (fun y => y = w1.heap.size) := (gX.dr _ _).seq x4
   have x04 : gX w w4 jK := x03.new x34 (by omega)
   have o14 := o13.ext x34 (by omega)
   have q1 := o14.cell (off := 1)
   have q1d := (kJ o14).cell (off := 1)
   simp only [ZQ, ZR] at q1 q1d
   have e4 := ending w4 o4 x04
   simp (disch := omega) only [eY, gN, dX, stepR_skip, fP, fZ, fO, gK, gE, gC, gR, gA, eU, fV, fT, gG, fS, fM, fU, fR, fX, gH, fY, fQ, fC, gB, gI, fL, iS, iQ, iO, iR, iM, iN, iP, iU, iT, eP, Result.ok.injEq, Next.value.injEq, true_and, and_true, fK, fJ, gJ, fN, gD, gS, ZV, fE, fH, fF, fD, eZ, eX, fB, eT, eQ, eH, if_true, if_false, ZS, ZY, ZT, ZU, ZX, ZW, ZR, ZQ, eA, dV, aB, dI, dE, cJ, eB, eS, eE, dK, eD, fA, dQ, eN, bQ, dG, bJ, dL, aI, aH, eL, aV, bZ, eI, aF, eJ, dF, aR, bF, eF, bH, bE, bB, aO, aL, cD, fG, dY, cA, cI, dA, cH, dT, bC, eK, bX, dH, bP, aU, bU, aC, bY, bO, cF, bW, aY, bA, aX, bV, dM, cU, bR, aZ, aK, aJ, bG, aE, dC, dW, aN, aM, aT, aD, cY, aG, cL, bT, bD, aP, cM, cG, aA, dN, cQ, cV, cC, dO, cB, dJ, dU, cP, eC, eM, bN, aS, dZ, bS, aQ, bL, dS, dB, cO, cS, cN, bK, bM, cX, dR, cR, dD, cZ, q1, q1d]
   exact e4
  .have hE : o.at' = M := by omega
   have hb0 : o.bytes = [] := aaG.1 (by omega)
   have hsh : jO (some ⟨w1.heap.size, 0, none⟩) M o.at' 1 = some ⟨w1.heap.size, 0, none⟩ := by unfold jO; rw [if_pos hE.symm]
   simp (disch := omega) only [eY, gN, dX, stepR_skip, fP, fZ, fO, gK, gE, gC, gR, gA, eU, fV, fT, gG, fS, fM, fU, fR, fX, gH, fY, fQ, fC, gB, gI, fL, iS, iQ, iO, iR, iM, iN, iP, iU, iT, eP, Result.ok.injEq, Next.value.injEq, true_and, and_true, fK, fJ, gJ, fN, gD, gS, ZV, fE, fH, fF, fD, eZ, eX, fB, eT, eQ, eH, if_true, if_false, ZS, ZY, ZT, ZU, ZX, ZW, ZR, ZQ, eA, dV, aB, dI, dE, cJ, eB, eS, eE, dK, eD, fA, dQ, eN, bQ, dG, bJ, dL, aI, aH, eL, aV, bZ, eI, aF, eJ, dF, aR, bF, eF, bH, bE, bB, aO, aL, cD, fG, dY, cA, cI, dA, cH, dT, bC, eK, bX, dH, bP, aU, bU, aC, bY, bO, cF, bW, aY, bA, aX, bV, dM, cU, bR, aZ, aK, aJ, bG, aE, dC, dW, aN, aM, aT, aD, cY, aG, cL, bT, bD, aP, cM, cG, aA, dN, cQ, cV, cC, dO, cB, dJ, dU, cP, eC, eM, bN, aS, dZ, bS, aQ, bL, dS, dB, cO, cS, cN, bK, bM, cX, dR, cR, dD, cZ, q3, q4, q3d, q4d, hsh]
   refine Ev (off := 0) (kJ o3) (by rw [ZZ]; omega) hbd (Fx _) fun w4 o4 x4 s4 => ?_
   have P4 : mZ (P.map oY) 0 ((o.bytes.map oY).take (min (o.bytes.map oY).length (M - o.at'))) = (over ob o.at' o.bytes).map oY := by
    rw [hov, hb0]
    show mZ (P.map oY) 0 (List.take (min 0 (M - o.at')) []) = _
    rw [List.take_nil, Sz, abE, abO, Nat.add_zero, adM]
   rw [P4] at o4
   have x34 : gX w3 w4 (fun y => y = w1.heap.size) := (gX.dr _ _).seq x4
   have x04 : gX w w4 jK := x03.new x34 (by omega)
   have o14 := o13.ext x34 (by omega)
   have q1 := o14.cell (off := 1)
   have q1d := (kJ o14).cell (off := 1)
   simp only [ZQ, ZR] at q1 q1d
   have e4 := ending w4 o4 x04
   simp (disch := omega) only [eY, gN, dX, stepR_skip, fP, fZ, fO, gK, gE, gC, gR, gA, eU, fV, fT, gG, fS, fM, fU, fR, fX, gH, fY, fQ, fC, gB, gI, fL, iS, iQ, iO, iR, iM, iN, iP, iU, iT, eP, Result.ok.injEq, Next.value.injEq, true_and, and_true, fK, fJ, gJ, fN, gD, gS, ZV, fE, fH, fF, fD, eZ, eX, fB, eT, eQ, eH, if_true, if_false, ZS, ZY, ZT, ZU, ZX, ZW, ZR, ZQ, eA, dV, aB, dI, dE, cJ, eB, eS, eE, dK, eD, fA, dQ, eN, bQ, dG, bJ, dL, aI, aH, eL, aV, bZ, eI, aF, eJ, dF, aR, bF, eF, bH, bE, bB, aO, aL, cD, fG, dY, cA, cI, dA, cH, dT, bC, eK, bX, dH, bP, aU, bU, aC, bY, bO, cF, bW, aY, bA, aX, bV, dM, cU, bR, aZ, aK, aJ, bG, aE, dC, dW, aN, aM, aT, aD, cY, aG, cL, bT, bD, aP, cM, cG, aA, dN, cQ, cV, cC, dO, cB, dJ, dU, cP, eC, eM, bN, aS, dZ, bS, aQ, bL, dS, dB, cO, cS, cN, bK, bM, cX, dR, cR, dD, cZ, q1, q1d]
   exact e4
 have n1 : (((o.kind : Nat) : Int) == 0) = false := beq_eq_false_iff_ne.2 (by omega)
 have self : gX w w1 (fun b => b = m) := x1.mono fun _ _ h => h.elim
 by_cases k1 : o.kind = 1
 .have n2 : (((o.kind : Nat) : Int) == 1) = true := by rw [k1] <;> rfl
  rcases hth with ⟨rfl, hg⟩ | ⟨rfl, hg⟩
  .have hdo : NU o c = pR o.other ob (CS o.name c) := by unfold NU; rw [if_neg k0, if_pos k1, hg]
   simp (disch := omega) only [eY, gN, dX, stepR_skip, fP, fZ, fO, gK, gE, gC, gR, gA, eU, fV, fT, gG, fS, fM, fU, fR, fX, gH, fY, fQ, fC, gB, gI, fL, iS, iQ, iO, iR, iM, iN, iP, iU, iT, eP, Result.ok.injEq, Next.value.injEq, true_and, and_true, fK, fJ, gJ, fN, gD, gS, ZV, fE, fH, fF, fD, eZ, eX, fB, eT, eQ, eH, if_true, if_false, ZS, ZY, ZT, ZU, ZX, ZW, ZR, ZQ, eA, dV, aB, dI, dE, cJ, eB, eS, eE, dK, eD, fA, dQ, eN, bQ, dG, bJ, dL, aI, aH, eL, aV, bZ, eI, aF, eJ, dF, aR, bF, eF, bH, bE, bB, aO, aL, cD, fG, dY, cA, cI, dA, cH, dT, bC, eK, bX, dH, bP, aU, bU, aC, bY, bO, cF, bW, aY, bA, aX, bV, dM, cU, bR, aZ, aK, aJ, bG, aE, dC, dW, aN, aM, aT, aD, cY, aG, cL, bT, bD, aP, cM, cG, aA, dN, cQ, cV, cC, dO, cB, dJ, dU, cP, eC, eM, bN, aS, dZ, bS, aQ, bL, dS, dB, cO, cS, cN, bK, bM, cX, dR, cR, dD, cZ, c0, c1, c2, c3, c4, l0, n1, n2]
   refine Kp hm1 o.name fun w2 hm2 x2 s2 => ?_
   have x02 := self.seq x2
   have q2 := (o1.ext x2 (by omega)).cell (off := 2)
   simp only [ZQ, ZR] at q2
   simp (disch := omega) only [eY, gN, dX, stepR_skip, fP, fZ, fO, gK, gE, gC, gR, gA, eU, fV, fT, gG, fS, fM, fU, fR, fX, gH, fY, fQ, fC, gB, gI, fL, iS, iQ, iO, iR, iM, iN, iP, iU, iT, eP, Result.ok.injEq, Next.value.injEq, true_and, and_true, fK, fJ, gJ, fN, gD, gS, ZV, fE, fH, fF, fD, eZ, eX, fB, eT, eQ, eH, if_true, if_false, ZS, ZY, ZT, ZU, ZX, ZW, ZR, ZQ, eA, dV, aB, dI, dE, cJ, eB, eS, eE, dK, eD, fA, dQ, eN, bQ, dG, bJ, dL, aI, aH, eL, aV, bZ, eI, aF, eJ, dF, aR, bF, eF, bH, bE, bB, aO, aL, cD, fG, dY, cA, cI, dA, cH, dT, bC, eK, bX, dH, bP, aU, bU, aC, bY, bO, cF, bW, aY, bA, aX, bV, dM, cU, bR, aZ, aK, aJ, bG, aE, dC, dW, aN, aM, aT, aD, cY, aG, cL, bT, bD, aP, cM, cG, aA, dN, cQ, cV, cC, dO, cB, dJ, dU, cP, eC, eM, bN, aS, dZ, bS, aQ, bL, dS, dB, cO, cS, cN, bK, bM, cX, dR, cR, dD, cZ, q2]
   refine Ka hm2 o.other _ fun w3 hm3 x3 s3 => ?_
   have x03 := x02.seq x3
   rw [hdo]
   refine fin (w' := w3) hm3 ?_ x03 |> fun h => by rw [hdo] at h; exact h
   rw [hdo]
   exact CV.set ⟨hbo.ext x03 (fun h => hnx (Aw h fun b hb => by rw [hb]; exact hmX)), hnx⟩ (CV.del (hfx x03))
  .have hdo : NU o c = c := by unfold NU; rw [if_neg k0, if_pos k1, hg]
   simp (disch := omega) only [eY, gN, dX, stepR_skip, fP, fZ, fO, gK, gE, gC, gR, gA, eU, fV, fT, gG, fS, fM, fU, fR, fX, gH, fY, fQ, fC, gB, gI, fL, iS, iQ, iO, iR, iM, iN, iP, iU, iT, eP, Result.ok.injEq, Next.value.injEq, true_and, and_true, fK, fJ, gJ, fN, gD, gS, ZV, fE, fH, fF, fD, eZ, eX, fB, eT, eQ, eH, if_true, if_false, ZS, ZY, ZT, ZU, ZX, ZW, ZR, ZQ, eA, dV, aB, dI, dE, cJ, eB, eS, eE, dK, eD, fA, dQ, eN, bQ, dG, bJ, dL, aI, aH, eL, aV, bZ, eI, aF, eJ, dF, aR, bF, eF, bH, bE, bB, aO, aL, cD, fG, dY, cA, cI, dA, cH, dT, bC, eK, bX, dH, bP, aU, bU, aC, bY, bO, cF, bW, aY, bA, aX, bV, dM, cU, bR, aZ, aK, aJ, bG, aE, dC, dW, aN, aM, aT, aD, cY, aG, cL, bT, bD, aP, cM, cG, aA, dN, cQ, cV, cC, dO, cB, dJ, dU, cP, eC, eM, bN, aS, dZ, bS, aQ, bL, dS, dB, cO, cS, cN, bK, bM, cX, dR, cR, dD, cZ, c0, c1, c2, c3, c4, l0, n1, n2]
   exact fin hm1 (by rw [hdo]; exact hfx self) self
 have n2 : (((o.kind : Nat) : Int) == 1) = false := beq_eq_false_iff_ne.2 (by omega)
 by_cases k2 : o.kind = 2
 .have n3 : (((o.kind : Nat) : Int) == 2) = true := by rw [k2] <;> rfl
  have hdo : NU o c = CS o.name c := by unfold NU; rw [if_neg k0, if_neg k1, if_pos k2]
  simp (disch := omega) only [eY, gN, dX, stepR_skip, fP, fZ, fO, gK, gE, gC, gR, gA, eU, fV, fT, gG, fS, fM, fU, fR, fX, gH, fY, fQ, fC, gB, gI, fL, iS, iQ, iO, iR, iM, iN, iP, iU, iT, eP, Result.ok.injEq, Next.value.injEq, true_and, and_true, fK, fJ, gJ, fN, gD, gS, ZV, fE, fH, fF, fD, eZ, eX, fB, eT, eQ, eH, if_true, if_false, ZS, ZY, ZT, ZU, ZX, ZW, ZR, ZQ, eA, dV, aB, dI, dE, cJ, eB, eS, eE, dK, eD, fA, dQ, eN, bQ, dG, bJ, dL, aI, aH, eL, aV, bZ, eI, aF, eJ, dF, aR, bF, eF, bH, bE, bB, aO, aL, cD, fG, dY, cA, cI, dA, cH, dT, bC, eK, bX, dH, bP, aU, bU, aC, bY, bO, cF, bW, aY, bA, aX, bV, dM, cU, bR, aZ, aK, aJ, bG, aE, dC, dW, aN, aM, aT, aD, cY, aG, cL, bT, bD, aP, cM, cG, aA, dN, cQ, cV, cC, dO, cB, dJ, dU, cP, eC, eM, bN, aS, dZ, bS, aQ, bL, dS, dB, cO, cS, cN, bK, bM, cX, dR, cR, dD, cZ, c0, c1, c2, c3, c4, l0, n1, n2, n3]
  refine Kp hm1 o.name fun w2 hm2 x2 s2 => ?_
  have x02 := self.seq x2
  exact fin hm2 (by rw [hdo]; exact CV.del (hfx x02)) x02
 .have n3 : (((o.kind : Nat) : Int) == 2) = false := beq_eq_false_iff_ne.2 (by omega)
  have hdo : NU o c = c := by unfold NU; rw [if_neg k0, if_neg k1, if_neg k2]
  simp (disch := omega) only [eY, gN, dX, stepR_skip, fP, fZ, fO, gK, gE, gC, gR, gA, eU, fV, fT, gG, fS, fM, fU, fR, fX, gH, fY, fQ, fC, gB, gI, fL, iS, iQ, iO, iR, iM, iN, iP, iU, iT, eP, Result.ok.injEq, Next.value.injEq, true_and, and_true, fK, fJ, gJ, fN, gD, gS, ZV, fE, fH, fF, fD, eZ, eX, fB, eT, eQ, eH, if_true, if_false, ZS, ZY, ZT, ZU, ZX, ZW, ZR, ZQ, eA, dV, aB, dI, dE, cJ, eB, eS, eE, dK, eD, fA, dQ, eN, bQ, dG, bJ, dL, aI, aH, eL, aV, bZ, eI, aF, eJ, dF, aR, bF, eF, bH, bE, bB, aO, aL, cD, fG, dY, cA, cI, dA, cH, dT, bC, eK, bX, dH, bP, aU, bU, aC, bY, bO, cF, bW, aY, bA, aX, bV, dM, cU, bR, aZ, aK, aJ, bG, aE, dC, dW, aN, aM, aT, aD, cY, aG, cL, bT, bD, aP, cM, cG, aA, dN, cQ, cV, cC, dO, cB, dJ, dU, cP, eC, eM, bN, aS, dZ, bS, aQ, bL, dS, dB, cO, cS, cN, bK, bM, cX, dR, cR, dD, cZ, c0, c1, c2, c3, c4, l0, n1, n2, n3]
  exact fin hm1 (by rw [hdo]; exact hfx self) self
abbrev dP (p : Nat) : adW := .pointer (some ⟨p, 0, none⟩)
def BM (w : adV) (p : Nat) (X D : Nat -> Prop) (S' : jZ) (w' : adV) : Prop := ∃ X' D', lY w' p X' D' S' /\ (∀ b, X' b -> X b ∨ w.heap.size <= b) /\ (∀ b, D b -> D' b) /\ gX w w' X
theorem BM.refl {w : adV} {p : Nat} {X D : Nat -> Prop} {S : jZ} (h : lY w p X D S) : BM w p X D S w := ⟨X, D, h, fun _ h => .inl h, fun _ h => h, gX.refl _ _⟩
theorem BM.step {w w1 w2 : adV} {p : Nat} {X D X1 D1 : Nat -> Prop} {S2 : jZ} (x : gX w w1 X) (hX : ∀ b, X1 b -> X b ∨ w.heap.size <= b) (hD : ∀ b, D b -> D1 b) (h : BM w1 p X1 D1 S2 w2) : BM w p X D S2 w2 := by
 obtain ⟨X2, D2, h1, h2, h4, h3⟩ := h
 have z := x.size
 refine ⟨X2, D2, h1, fun b hb => ?_, fun b hb => h4 b (hD b hb), x.trans h3 fun b hb hx => ?_⟩
 .rcases h2 b hb with h | h
  .exact hX b h
  .exact .inr (by omega)
 .rcases hX b hx with h | h
  .exact h
  .omega
theorem TB {w : adV} {S T : Nat -> Prop} {sz n : Nat} {v : adW} {l : List adW} (h : IB w S sz v n l) (hT : ∀ b, S b -> T b) : IB w T sz v n l := by
 refine ⟨h.1, ?_⟩
 rcases h.2 with h2 | ⟨b, c, rest, h1, h2, h3⟩
 .exact .inl h2
 .exact .inr ⟨b, c, rest, h1, hT b h2, h3⟩
theorem NT {w : adV} {S : Nat -> Prop} {sz n : Nat} {v : adW} {l : List adW} (h : IB w S sz v n l) : IB w (fun b => S b /\ b < w.heap.size) sz v n l := by
 refine ⟨h.1, ?_⟩
 rcases h.2 with h2 | ⟨b, c, rest, h1, h2, h3, h4⟩
 .exact .inl h2
 .exact .inr ⟨b, c, rest, h1, ⟨h2, h3.lt⟩, h3, h4⟩
theorem VC {p : Nat} {X D : Nat -> Prop} {S : jZ} {w : adV} (h : lY w p X D S) : gU pg nE #[dP p] w (fun r w' => r = .int .i64 (if S.down then 20 else 0) /\ w' = w) := by
 refine Ln ?_
 unfold LI Cn
 obtain ⟨ms, mn, sv, ls, ln, cs, h1, h2, h3, h4, h5, h6, hXD, hDl, o, hms, hmn, hfs, hfn, hu, ho⟩ := h
 have c5 := o.cell (off := 5)
 simp only [ZQ, ZR] at c5
 cases hd : S.down with
 | true =>
   rw [hd] at c5
   simp (disch := omega) only [eY, gN, dX, stepR_skip, fP, fZ, fO, gK, gE, gC, gR, gA, eU, fV, fT, gG, fS, fM, fU, fR, fX, gH, fY, fQ, fC, gB, gI, fL, iS, iQ, iO, iR, iM, iN, iP, iU, iT, eP, Result.ok.injEq, Next.value.injEq, true_and, and_true, fK, fJ, gJ, fN, gD, gS, ZV, fE, fH, fF, fD, eZ, eX, fB, eT, eQ, eH, if_true, if_false, ZS, ZY, ZT, ZU, ZX, ZW, ZR, ZQ, eA, dV, aB, dI, dE, cJ, eB, eS, eE, dK, eD, fA, dQ, eN, bQ, dG, bJ, dL, aI, aH, eL, aV, bZ, eI, aF, eJ, dF, aR, bF, eF, bH, bE, bB, aO, aL, cD, fG, dY, cA, cI, dA, cH, dT, bC, eK, bX, dH, bP, aU, bU, aC, bY, bO, cF, bW, aY, bA, aX, bV, dM, cU, bR, aZ, aK, aJ, bG, aE, dC, dW, aN, aM, aT, aD, cY, aG, cL, bT, bD, aP, cM, cG, aA, dN, cQ, cV, cC, dO, cB, dJ, dU, cP, eC, eM, bN, aS, dZ, bS, aQ, bL, dS, dB, cO, cS, cN, bK, bM, cX, dR, cR, dD, cZ, c5]
 | false =>
   rw [hd] at c5
   simp (disch := omega) only [eY, gN, dX, stepR_skip, fP, fZ, fO, gK, gE, gC, gR, gA, eU, fV, fT, gG, fS, fM, fU, fR, fX, gH, fY, fQ, fC, gB, gI, fL, iS, iQ, iO, iR, iM, iN, iP, iU, iT, eP, Result.ok.injEq, Next.value.injEq, true_and, and_true, fK, fJ, gJ, fN, gD, gS, ZV, fE, fH, fF, fD, eZ, eX, fB, eT, eQ, eH, if_true, if_false, ZS, ZY, ZT, ZU, ZX, ZW, ZR, ZQ, eA, dV, aB, dI, dE, cJ, eB, eS, eE, dK, eD, fA, dQ, eN, bQ, dG, bJ, dL, aI, aH, eL, aV, bZ, eI, aF, eJ, dF, aR, bF, eF, bH, bE, bB, aO, aL, cD, fG, dY, cA, cI, dA, cH, dT, bC, eK, bX, dH, bP, aU, bU, aC, bY, bO, cF, bW, aY, bA, aX, bV, dM, cU, bR, aZ, aK, aJ, bG, aE, dC, dW, aN, aM, aT, aD, cY, aG, cL, bT, bD, aP, cM, cG, aA, dN, cQ, cV, cC, dO, cB, dJ, dU, cP, eC, eM, bN, aS, dZ, bS, aQ, bL, dS, dB, cO, cS, cN, bK, bM, cX, dR, cR, dD, cZ, c5]
def IK (l : Int) : Int := if 0 < l then l - 1 else l
def TQ (S : jZ) : Bool := S.down || S.left == 0
theorem Tn {p : Nat} {a b c d : adW} {left : Int} {down : Bool} {w : adV} (o : jG w p [a, b, c, d, .int .i64 left, .bool down]) (hl : -1 <= left /\ left <= 9223372036854775807) :
 gU pg pI #[dP p] w (fun r w' => r = .bool (down || left == 0) /\ jG w' p [a, b, c, d, .int .i64 (IK left), .bool (down || left == 0)] /\ gX w w' (fun y => y = p)) := by
 refine Jr ?_
 unfold HI xY yB IK
 have c4 := o.cell (off := 4)
 simp only [ZQ, ZR] at c4
 by_cases h0 : left = 0
 .subst h0
  have n1 : ((0 : Int) == 0) = true := rfl
  simp (disch := omega) only [eY, gN, dX, stepR_skip, fP, fZ, fO, gK, gE, gC, gR, gA, eU, fV, fT, gG, fS, fM, fU, fR, fX, gH, fY, fQ, fC, gB, gI, fL, iS, iQ, iO, iR, iM, iN, iP, iU, iT, eP, Result.ok.injEq, Next.value.injEq, true_and, and_true, fK, fJ, gJ, fN, gD, gS, ZV, fE, fH, fF, fD, eZ, eX, fB, eT, eQ, eH, if_true, if_false, ZS, ZY, ZT, ZU, ZX, ZW, ZR, ZQ, eA, dV, aB, dI, dE, cJ, eB, eS, eE, dK, eD, fA, dQ, eN, bQ, dG, bJ, dL, aI, aH, eL, aV, bZ, eI, aF, eJ, dF, aR, bF, eF, bH, bE, bB, aO, aL, cD, fG, dY, cA, cI, dA, cH, dT, bC, eK, bX, dH, bP, aU, bU, aC, bY, bO, cF, bW, aY, bA, aX, bV, dM, cU, bR, aZ, aK, aJ, bG, aE, dC, dW, aN, aM, aT, aD, cY, aG, cL, bT, bD, aP, cM, cG, aA, dN, cQ, cV, cC, dO, cB, dJ, dU, cP, eC, eM, bN, aS, dZ, bS, aQ, bL, dS, dB, cO, cS, cN, bK, bM, cX, dR, cR, dD, cZ, c4, n1]
  refine Hy o rfl (by simp) fun w1 o1 x1 s1 => ?_
  simp only [aaD, aaW] at o1
  have c5 := o1.cell (off := 5)
  simp only [ZQ, ZR] at c5
  unfold mR
  simp (disch := omega) only [eY, gN, dX, stepR_skip, fP, fZ, fO, gK, gE, gC, gR, gA, eU, fV, fT, gG, fS, fM, fU, fR, fX, gH, fY, fQ, fC, gB, gI, fL, iS, iQ, iO, iR, iM, iN, iP, iU, iT, eP, Result.ok.injEq, Next.value.injEq, true_and, and_true, fK, fJ, gJ, fN, gD, gS, ZV, fE, fH, fF, fD, eZ, eX, fB, eT, eQ, eH, if_true, if_false, ZS, ZY, ZT, ZU, ZX, ZW, ZR, ZQ, eA, dV, aB, dI, dE, cJ, eB, eS, eE, dK, eD, fA, dQ, eN, bQ, dG, bJ, dL, aI, aH, eL, aV, bZ, eI, aF, eJ, dF, aR, bF, eF, bH, bE, bB, aO, aL, cD, fG, dY, cA, cI, dA, cH, dT, bC, eK, bX, dH, bP, aU, bU, aC, bY, bO, cF, bW, aY, bA, aX, bV, dM, cU, bR, aZ, aK, aJ, bG, aE, dC, dW, aN, aM, aT, aD, cY, aG, cL, bT, bD, aP, cM, cG, aA, dN, cQ, cV, cC, dO, cB, dJ, dU, cP, eC, eM, bN, aS, dZ, bS, aQ, bL, dS, dB, cO, cS, cN, bK, bM, cX, dR, cR, dD, cZ, c5]
  rw [Bool.or_true]
  exact ⟨rfl, o1, x1⟩
 have n1 : (left == 0) = false := beq_eq_false_iff_ne.2 h0
 rw [n1, acZ]
 by_cases h1 : 0 < left
 .have d1 : decide (0 < left) = true := by simpa using h1
  simp (disch := omega) only [eY, gN, dX, stepR_skip, fP, fZ, fO, gK, gE, gC, gR, gA, eU, fV, fT, gG, fS, fM, fU, fR, fX, gH, fY, fQ, fC, gB, gI, fL, iS, iQ, iO, iR, iM, iN, iP, iU, iT, eP, Result.ok.injEq, Next.value.injEq, true_and, and_true, fK, fJ, gJ, fN, gD, gS, ZV, fE, fH, fF, fD, eZ, eX, fB, eT, eQ, eH, if_true, if_false, ZS, ZY, ZT, ZU, ZX, ZW, ZR, ZQ, eA, dV, aB, dI, dE, cJ, eB, eS, eE, dK, eD, fA, dQ, eN, bQ, dG, bJ, dL, aI, aH, eL, aV, bZ, eI, aF, eJ, dF, aR, bF, eF, bH, bE, bB, aO, aL, cD, fG, dY, cA, cI, dA, cH, dT, bC, eK, bX, dH, bP, aU, bU, aC, bY, bO, cF, bW, aY, bA, aX, bV, dM, cU, bR, aZ, aK, aJ, bG, aE, dC, dW, aN, aM, aT, aD, cY, aG, cL, bT, bD, aP, cM, cG, aA, dN, cQ, cV, cC, dO, cB, dJ, dU, cP, eC, eM, bN, aS, dZ, bS, aQ, bL, dS, dB, cO, cS, cN, bK, bM, cX, dR, cR, dD, cZ, c4, n1, d1]
  refine Ku o rfl (by simp) fun w1 o1 x1 s1 => ?_
  simp only [aaD, aaW] at o1
  have c5 := o1.cell (off := 5)
  simp only [ZQ, ZR] at c5
  unfold mR
  rw [if_pos h1]
  simp (disch := omega) only [eY, gN, dX, stepR_skip, fP, fZ, fO, gK, gE, gC, gR, gA, eU, fV, fT, gG, fS, fM, fU, fR, fX, gH, fY, fQ, fC, gB, gI, fL, iS, iQ, iO, iR, iM, iN, iP, iU, iT, eP, Result.ok.injEq, Next.value.injEq, true_and, and_true, fK, fJ, gJ, fN, gD, gS, ZV, fE, fH, fF, fD, eZ, eX, fB, eT, eQ, eH, if_true, if_false, ZS, ZY, ZT, ZU, ZX, ZW, ZR, ZQ, eA, dV, aB, dI, dE, cJ, eB, eS, eE, dK, eD, fA, dQ, eN, bQ, dG, bJ, dL, aI, aH, eL, aV, bZ, eI, aF, eJ, dF, aR, bF, eF, bH, bE, bB, aO, aL, cD, fG, dY, cA, cI, dA, cH, dT, bC, eK, bX, dH, bP, aU, bU, aC, bY, bO, cF, bW, aY, bA, aX, bV, dM, cU, bR, aZ, aK, aJ, bG, aE, dC, dW, aN, aM, aT, aD, cY, aG, cL, bT, bD, aP, cM, cG, aA, dN, cQ, cV, cC, dO, cB, dJ, dU, cP, eC, eM, bN, aS, dZ, bS, aQ, bL, dS, dB, cO, cS, cN, bK, bM, cX, dR, cR, dD, cZ, c5]
  exact ⟨o1, x1⟩
 .have d1 : decide (0 < left) = false := by simpa using h1
  have c5 := o.cell (off := 5)
  simp only [ZQ, ZR] at c5
  unfold mR
  rw [if_neg h1]
  simp (disch := omega) only [eY, gN, dX, stepR_skip, fP, fZ, fO, gK, gE, gC, gR, gA, eU, fV, fT, gG, fS, fM, fU, fR, fX, gH, fY, fQ, fC, gB, gI, fL, iS, iQ, iO, iR, iM, iN, iP, iU, iT, eP, Result.ok.injEq, Next.value.injEq, true_and, and_true, fK, fJ, gJ, fN, gD, gS, ZV, fE, fH, fF, fD, eZ, eX, fB, eT, eQ, eH, if_true, if_false, ZS, ZY, ZT, ZU, ZX, ZW, ZR, ZQ, eA, dV, aB, dI, dE, cJ, eB, eS, eE, dK, eD, fA, dQ, eN, bQ, dG, bJ, dL, aI, aH, eL, aV, bZ, eI, aF, eJ, dF, aR, bF, eF, bH, bE, bB, aO, aL, cD, fG, dY, cA, cI, dA, cH, dT, bC, eK, bX, dH, bP, aU, bU, aC, bY, bO, cF, bW, aY, bA, aX, bV, dM, cU, bR, aZ, aK, aJ, bG, aE, dC, dW, aN, aM, aT, aD, cY, aG, cL, bT, bD, aP, cM, cG, aA, dN, cQ, cV, cC, dO, cB, dJ, dU, cP, eC, eM, bN, aS, dZ, bS, aQ, bL, dS, dB, cO, cS, cN, bK, bM, cX, dR, cR, dD, cZ, c4, c5, n1, d1]
  exact ⟨o, gX.refl _ _⟩
def AZ (S : jZ) (o : RZ) : jZ × Int :=
 if TQ S then ({ S with left := IK S.left, down := TQ S }, 20)
 else ({ S with left := IK S.left, down := TQ S, under := S.under ++ [o], seen := NU o S.seen }, 0)
theorem SA {p : Nat} {X D : Nat -> Prop} {S : jZ} {o : RZ} {va : Option Addr} {vc : Nat} {w : adV} (h : lY w p X D S) (hd : GR w D (.slice va o.bytes.length vc) o.bytes) (hl : -1 <= S.left /\ S.left <= 9223372036854775807)
 (hs : iY S.seen <= 1099511627776) (ha : o.at' <= 1099511627776) (hb : o.bytes.length <= 1099511627776) (hu : S.under.length <= 1000000) :
 gU pg oN #[dP p, .agg (Pg o (.slice va o.bytes.length vc)).toArray] w (fun r w' => r = .int .i64 (AZ S o).2 /\ BM w p X D (AZ S o).1 w') := by
 refine JX ?_
 unfold Jq Av
 refine oE fun w1 o1 x1 s1 => ?_
 have o1 : jG w1 w.heap.size (Pg o (.slice va o.bytes.length vc)) := o1
 obtain ⟨ms, mn, sv, ls, ln, cs, h1, h2, h3, h4, h5, h6, hXD, hDl, op, hms, hmn, hfs, hfn, hun, hop⟩ := h.new x1
 have h7 := fun b (hb : X b) => hDl b (hXD b hb)
 have hX0 : ∀ b, X b -> b < w.heap.size := by obtain ⟨_, _, _, _, _, _, _, _, _, _, _, _, q1, q2, _⟩ := h; exact fun b hb => q2 b (q1 b hb)
 refine (Tn op hl).mono ?_
 rintro r w2 ⟨rfl, op2, x2⟩
 have x2X : gX w1 w2 X := x2.mono fun b _ hb => hb ▸ h1
 have x2D : gX w1 w2 D := x2X.mono fun b _ hb => hXD b hb
 have x02 : gX w w2 X := (x1.mono fun _ _ h => h.elim).seq x2X
 have z2 := x2.size
 have hms2 := hms.ext x2 (fun h => h4 h.symm)
 have hmn2 := hmn.ext x2 (fun h => h5 h.symm)
 have hfs2 := hfs.ext x2D (fun b h => h)
 have hfn2 := hfn.ext x2D (fun b h => h)
 have hun2 := hun.ext x2 (fun b hb h => hb.2.1 h)
 have hop2 := hop.ext x2D (fun b h => h)
 have h72 : ∀ b, X b -> b < w2.heap.size := fun b hb => by have := h7 b hb; omega
 have hD2 : ∀ b, D b -> b < w2.heap.size := fun b hb => by have := hDl b hb; omega
 have hdn : (S.down || S.left == 0) = TQ S := rfl
 rw [hdn] at *
 cases hD : TQ S with
 | true =>
   have hE : AZ S o = ({ S with left := IK S.left, down := TQ S }, 20) := by unfold AZ; rw [if_pos hD]
   rw [hE]
   simp (disch := omega) only [eY, gN, dX, stepR_skip, fP, fZ, fO, gK, gE, gC, gR, gA, eU, fV, fT, gG, fS, fM, fU, fR, fX, gH, fY, fQ, fC, gB, gI, fL, iS, iQ, iO, iR, iM, iN, iP, iU, iT, eP, Result.ok.injEq, Next.value.injEq, true_and, and_true, fK, fJ, gJ, fN, gD, gS, ZV, fE, fH, fF, fD, eZ, eX, fB, eT, eQ, eH, if_true, if_false, ZS, ZY, ZT, ZU, ZX, ZW, ZR, ZQ, eA, dV, aB, dI, dE, cJ, eB, eS, eE, dK, eD, fA, dQ, eN, bQ, dG, bJ, dL, aI, aH, eL, aV, bZ, eI, aF, eJ, dF, aR, bF, eF, bH, bE, bB, aO, aL, cD, fG, dY, cA, cI, dA, cH, dT, bC, eK, bX, dH, bP, aU, bU, aC, bY, bO, cF, bW, aY, bA, aX, bV, dM, cU, bR, aZ, aK, aJ, bG, aE, dC, dW, aN, aM, aT, aD, cY, aG, cL, bT, bD, aP, cM, cG, aA, dN, cQ, cV, cC, dO, cB, dJ, dU, cP, eC, eM, bN, aS, dZ, bS, aQ, bL, dS, dB, cO, cS, cN, bK, bM, cX, dR, cR, dD, cZ]
   exact ⟨X, D, ⟨ms, mn, sv, ls, ln, cs, h1, h2, h3, h4, h5, h6, hXD, hD2, op2, hms2, hmn2, hfs2, hfn2, hun2, hop2⟩, fun _ h => .inl h, fun _ h => h, x02⟩
 | false =>
   have hE : AZ S o = ({ S with left := IK S.left, down := TQ S, under := S.under ++ [o], seen := NU o S.seen }, 0) := by unfold AZ; rw [if_neg (by rw [hD]; decide)]
   rw [hE]
   have hb3 : ¬ (w.heap.size = p) := fun h => by have := hX0 p h1; omega
   have o12 := kJ (o1.ext x2 hb3)
   have l1 := D7 (off := 0) o12 (by unfold Pg; simp)
   have l1' : ((Pg o (.slice va o.bytes.length vc)).drop 0).take 5 = Pg o (.slice va o.bytes.length vc) := rfl
   rw [l1'] at l1
   have op2d := kJ op2
   have q3 := op2d.cell (off := 3)
   simp only [ZQ, ZR] at q3
   simp (disch := omega) only [eY, gN, dX, stepR_skip, fP, fZ, fO, gK, gE, gC, gR, gA, eU, fV, fT, gG, fS, fM, fU, fR, fX, gH, fY, fQ, fC, gB, gI, fL, iS, iQ, iO, iR, iM, iN, iP, iU, iT, eP, Result.ok.injEq, Next.value.injEq, true_and, and_true, fK, fJ, gJ, fN, gD, gS, ZV, fE, fH, fF, fD, eZ, eX, fB, eT, eQ, eH, if_true, if_false, ZS, ZY, ZT, ZU, ZX, ZW, ZR, ZQ, eA, dV, aB, dI, dE, cJ, eB, eS, eE, dK, eD, fA, dQ, eN, bQ, dG, bJ, dL, aI, aH, eL, aV, bZ, eI, aF, eJ, dF, aR, bF, eF, bH, bE, bB, aO, aL, cD, fG, dY, cA, cI, dA, cH, dT, bC, eK, bX, dH, bP, aU, bU, aC, bY, bO, cF, bW, aY, bA, aX, bV, dM, cU, bR, aZ, aK, aJ, bG, aE, dC, dW, aN, aM, aT, aD, cY, aG, cL, bT, bD, aP, cM, cG, aA, dN, cQ, cV, cC, dO, cB, dJ, dU, cP, eC, eM, bN, aS, dZ, bS, aQ, bL, dS, dB, cO, cS, cN, bK, bM, cX, dR, cR, dD, cZ, q3, l1]
   refine I8 (cells := (Pg o (.slice va o.bytes.length vc)).toArray) (by decide) (by decide) (by kernel_rfl) fun w3 o3 x3 s3 => ?_
   have x3 : gX w2 w3 jK := (gX.dr _ _).seq x3
   have z3 := x3.size
   have s3 : w3.heap.size = w2.heap.size + 1 := s3
   have x03 : gX w w3 X := x02.trans x3 fun _ _ h => h.elim
   have op3 := op2.ext x3 (fun h => h)
   have q3 := op3.cell (off := 3)
   have q3d := (kJ op3).cell (off := 3)
   simp only [ZQ, ZR] at q3 q3d
   have hu3 : IB w3 (fun b => (X b /\ b ≠ p /\ b ≠ ms /\ b ≠ mn) ∨ w3.heap.size <= b) 5 sv S.under.length cs := TB (hun2.ext x3 (fun b _ h => h)) fun b h => .inl h
   have o3 : jG w3 w2.heap.size (Pg o (.slice va o.bytes.length vc)) := o3
   simp (disch := omega) only [eY, gN, dX, stepR_skip, fP, fZ, fO, gK, gE, gC, gR, gA, eU, fV, fT, gG, fS, fM, fU, fR, fX, gH, fY, fQ, fC, gB, gI, fL, iS, iQ, iO, iR, iM, iN, iP, iU, iT, eP, Result.ok.injEq, Next.value.injEq, true_and, and_true, fK, fJ, gJ, fN, gD, gS, ZV, fE, fH, fF, fD, eZ, eX, fB, eT, eQ, eH, if_true, if_false, ZS, ZY, ZT, ZU, ZX, ZW, ZR, ZQ, eA, dV, aB, dI, dE, cJ, eB, eS, eE, dK, eD, fA, dQ, eN, bQ, dG, bJ, dL, aI, aH, eL, aV, bZ, eI, aF, eJ, dF, aR, bF, eF, bH, bE, bB, aO, aL, cD, fG, dY, cA, cI, dA, cH, dT, bC, eK, bX, dH, bP, aU, bU, aC, bY, bO, cF, bW, aY, bA, aX, bV, dM, cU, bR, aZ, aK, aJ, bG, aE, dC, dW, aN, aM, aT, aD, cY, aG, cL, bT, bD, aP, cM, cG, aA, dN, cQ, cV, cC, dO, cB, dJ, dU, cP, eC, eM, bN, aS, dZ, bS, aQ, bL, dS, dB, cO, cS, cN, bK, bM, cX, dR, cR, dD, cZ, q3, q3d]
   refine EI (m := 1) (news := Pg o (.slice va o.bytes.length vc)) (i := Tryd.t88) Tryd.underlying62 Tryd.underlying62 TK rfl rfl rfl hu3 (o3.cl (off := 0) (n := 1) rfl (fun i hi => by rw [ZY])) (by unfold Pg; simp [one]) (fun b hb => .inr hb) (by omega) (by rw [show Tryd.t88.bytes = 72 from rfl]; omega) (by decide) fun v4 w4 o4 x4 => ?_
   have z4 := x4.size
   have hp3 : p < w3.heap.size := op3.lt
   have hms3 := hms2.ext x3 (fun h => h)
   have hmn3 := hmn2.ext x3 (fun h => h)
   have hmsl := hms3.lt
   have hmnl := hmn3.lt
   have op4 := op3.ext x4 (by rintro (⟨_, h, _⟩ | h) <;> omega)
   have hms4 := hms3.ext x4 (by rintro (⟨_, _, h, _⟩ | h) <;> omega)
   have hmn4 := hmn3.ext x4 (by rintro (⟨_, _, _, h⟩ | h) <;> omega)
   obtain ⟨Y, hY⟩ : ∃ Y : Nat -> Prop, Y = fun b => X b ∨ (w3.heap.size <= b /\ b < w4.heap.size) := ⟨_, rfl⟩
   have hYX : ∀ b, X b -> Y b := fun b h => by rw [hY]; exact .inl h
   have hY3 : ∀ b, Y b -> X b ∨ w3.heap.size <= b := fun b h => by rw [hY] at h; rcases h with h | h; exact .inl h; exact .inr h.1
   have hY4 : ∀ b, Y b -> b < w4.heap.size := fun b h => by
    rw [hY] at h
    rcases h with h | h
    .have := h72 b h; omega
    .exact h.2
   obtain ⟨E, hE'⟩ : ∃ E : Nat -> Prop, E = fun b => D b ∨ (w3.heap.size <= b /\ b < w4.heap.size) := ⟨_, rfl⟩
   have hED : ∀ b, D b -> E b := fun b h => by rw [hE']; exact .inl h
   have hYE : ∀ b, Y b -> E b := fun b h => by
    rw [hY] at h; rw [hE']
    rcases h with h | h
    .exact .inl (hXD b h)
    .exact .inr h
   have hE3 : ∀ b, E b -> D b ∨ w3.heap.size <= b := fun b h => by rw [hE'] at h; rcases h with h | h; exact .inl h; exact .inr h.1
   have hE4 : ∀ b, E b -> b < w4.heap.size := fun b h => by
    rw [hE'] at h
    rcases h with h | h
    .have := hD2 b h; omega
    .exact h.2
   have dat4 : ∀ v b, GR w3 D v b -> GR w4 E v b := fun v b hd => by
    have h1 := (hd.sub (Y := fun b => D b ∨ w3.heap.size <= b) fun _ h => h).ext x4 (fun b h => by rcases h with h | h; exact .inl (hXD b h.1); exact .inr h)
    exact h1.sub fun b h => .inl (hE3 b h)
   have dat0 : ∀ v b, GR w2 D v b -> GR w4 E v b := fun v b hd => dat4 v b (hd.ext x3 fun _ h => h.elim)
   refine B9 op4 (by obtain ⟨a, c, e⟩ := o4.len; rw [e] <;> rfl) (by simp) fun w5 op5 x5 s5 => ?_
   simp only [aaD, aaW] at op5
   have hne4 : p ≠ ms /\ p ≠ mn := ⟨h4, h5⟩
   have hms5 := hms4.ext x5 (fun h => h4 h.symm)
   have hmn5 := hmn4.ext x5 (fun h => h5 h.symm)
   have x5Y : gX w4 w5 E := x5.mono fun b _ h => by rw [h]; exact hYE _ (hYX _ h1)
   have dat5 : ∀ v b, GR w2 D v b -> GR w5 E v b := fun v b hd => (dat0 v b hd).ext x5Y fun _ h => h
   have o15 : jG w5 w.heap.size (Pg o (.slice va o.bytes.length vc)) := by
    have h1 := (o1.ext x2 hb3).ext x3 (fun h => h)
    have h2 := h1.ext x4 (by rintro (⟨h, _⟩ | h); exact absurd (hX0 _ h) (by omega); omega)
    exact h2.ext x5 hb3
   have l5 := D7 (off := 0) (kJ o15) (by unfold Pg; simp)
   rw [l1'] at l5
   have r2 := (kJ op5).cell (off := 2)
   simp only [ZQ, ZR] at r2
   simp (disch := omega) only [eY, gN, dX, stepR_skip, fP, fZ, fO, gK, gE, gC, gR, gA, eU, fV, fT, gG, fS, fM, fU, fR, fX, gH, fY, fQ, fC, gB, gI, fL, iS, iQ, iO, iR, iM, iN, iP, iU, iT, eP, Result.ok.injEq, Next.value.injEq, true_and, and_true, fK, fJ, gJ, fN, gD, gS, ZV, fE, fH, fF, fD, eZ, eX, fB, eT, eQ, eH, if_true, if_false, ZS, ZY, ZT, ZU, ZX, ZW, ZR, ZQ, eA, dV, aB, dI, dE, cJ, eB, eS, eE, dK, eD, fA, dQ, eN, bQ, dG, bJ, dL, aI, aH, eL, aV, bZ, eI, aF, eJ, dF, aR, bF, eF, bH, bE, bB, aO, aL, cD, fG, dY, cA, cI, dA, cH, dT, bC, eK, bX, dH, bP, aU, bU, aC, bY, bO, cF, bW, aY, bA, aX, bV, dM, cU, bR, aZ, aK, aJ, bG, aE, dC, dW, aN, aM, aT, aD, cY, aG, cL, bT, bD, aP, cM, cG, aA, dN, cQ, cV, cC, dO, cB, dJ, dU, cP, eC, eM, bN, aS, dZ, bS, aQ, bL, dS, dB, cO, cS, cN, bK, bM, cX, dR, cR, dD, cZ, r2, l5]
   have hd5 : GR w5 E (.slice va o.bytes.length vc) o.bytes := dat5 _ _ ((hd.ext x1 fun _ h => h.elim).ext x2D fun _ h => h)
   have hE5 : ∀ b, E b -> b < w5.heap.size := fun b h => by rw [s5]; exact hE4 b h
   refine (Zn (X := E) (c := S.seen) (o := o) (hmn5.dr) (hYE _ (hYX _ h3)) hE5 ((hfn2.map dat5).ext (gX.dr _ jK) fun _ h => h.elim) (hd5.ext (gX.dr _ jK) fun _ h => h.elim) hs ha hb).mono ?_
   rintro r w6 ⟨rfl, ln', hmn6, hfn6, x6⟩
   have x6 : gX w5 w6 (fun b => b = mn) := (gX.dr _ _).seq x6
   have x6Y : gX w5 w6 E := x6.mono fun b _ h => by rw [h]; exact hYE _ (hYX _ h3)
   have z6 := x6.size
   have hou : IB w4 (fun b => Y b /\ b ≠ p /\ b ≠ ms /\ b ≠ mn) 5 v4 (S.under.length + 1) (cs ++ Pg o (.slice va o.bytes.length vc)) := TB (NT o4) fun b h => by
    rw [hY]
    rcases h with ⟨h | h, h'⟩
    .exact ⟨.inl h.1, h.2⟩
    .exact ⟨.inr ⟨h, h'⟩, by omega, by omega, by omega⟩
   refine ⟨Y, E, ⟨ms, mn, v4, ls, ln', cs ++ Pg o (.slice va o.bytes.length vc), hYX _ h1, hYX _ h2, hYX _ h3, h4, h5, h6, hYE, fun b h => by have := hE5 b h; omega, op5.ext x6 (fun h => h5 h), hms5.ext x6 (fun h => h6 h), hmn6, (hfs2.map dat5).ext x6Y fun _ h => h, hfn6, ?_, ?_⟩, fun b h => ?_, hED, ?_⟩
   .show IB w6 _ 5 v4 (S.under ++ [o]).length _
    rw [Z1]
    exact (hou.ext x5 (fun b h e => h.2.1 e)).ext x6 (fun b h e => h.2.2.2 e)
   .exact (NA.snoc ⟨_, _, _, rfl⟩ hd5 (hop2.map dat5)).ext x6Y fun _ h => h
   .rcases hY3 b h with h | h
    .exact .inl h
    .exact .inr (by omega)
   .refine ((x03.trans x4 fun b hb h => ?_).trans x5 fun b hb h => by rw [h]; exact h1).trans x6 fun b hb h => by rw [h]; exact h3
    rcases h with h | h
    .exact h.1
    .omega
end Go.Proofs.YteelnmpbnaohpaaDoor
namespace Go.Proofs.YteelnmpbnaohpaaDoor
open Go Go.En
def Zo : Go.Shelf.Ren := ⟨fun x => if x = 5 then Ai else if x = 7 then QP else x, fun x => if x = 23 then 61 else if x = 25 then 9 else if x = 3 then 22 else if x = 4 then 4 else 20, fun x => x⟩
theorem Zx : SlLaysW.n5 pg Zo where
 mixed := Tryd.checked.mixed
 f5 := ⟨Tryd.f46.name, by kernel_rfl, by kernel_rfl⟩
 f7 := by kernel_rfl
 t4 := by kernel_rfl
 a4 := fun w => by kernel_rfl
 z4 := fun w => by kernel_rfl
 v4 := fun w => by kernel_rfl
 t20 := by kernel_rfl
 a20 := fun w => by kernel_rfl
 z20 := fun w => by kernel_rfl
 v20 := fun w => by kernel_rfl
 t23 := by kernel_rfl
 a23 := fun w => by kernel_rfl
 z23 := fun w => by kernel_rfl
 v23 := fun w => by kernel_rfl
theorem VK {m : Nat} {l : List (ByteArray × adW)} {w : adV} (hm : Mp w m Om l) :
 gU pg Ai #[.map (some m)] w (fun r w' => r = .map (some w.heap.size) /\ Mp w' w.heap.size Om l /\ gX w w' jK /\ w'.heap.size = w.heap.size + 1) := by
 obtain ⟨es, c, hb, he, hg, hnd⟩ := hm
 refine ⟨_, _, AnyW.maps_Clone Zx m es c w hb, rfl, ⟨es, c, ?_, he, hg, hnd⟩, gX.alloc _ _ _, ?_⟩
 .show (w.heap.push _)[w.heap.size]? = _
  simp
 .show (w.heap.push _).size = _
  simp
end Go.Proofs.YteelnmpbnaohpaaDoor
namespace Go.Proofs.YteelnmpbnaohpaaDoor
open Go Go.En Go.Pu
set_option maxRecDepth 4000
def QN (room : Int) : jZ := ⟨room, [], [], [], -1, false⟩
theorem XW {room : Int} {w : adV} (h0 : 0 <= room) (h1 : room <= 16777216) : gU pg Bl #[.int .i64 room] w (fun r w' => ∃ p X, r = .tuple #[dP p, .int .i64 0] /\ lY w' p X X (QN room) /\ (∀ b, X b -> w.heap.size <= b) /\ gX w w' jK) := by
 refine Pr ?_
 unfold RV Ju
 have d1 : decide (room < 0) = false := by simp; omega
 have d2 : decide (16777216 < room) = false := by simp; omega
 simp (disch := omega) only [eY, gN, dX, stepR_skip, fP, fZ, fO, gK, gE, gC, gR, gA, eU, fV, fT, gG, fS, fM, fU, fR, fX, gH, fY, fQ, fC, gB, gI, fL, iS, iQ, iO, iR, iM, iN, iP, iU, iT, eP, Result.ok.injEq, Next.value.injEq, true_and, and_true, fK, fJ, gJ, fN, gD, gS, ZV, fE, fH, fF, fD, eZ, eX, fB, eT, eQ, eH, if_true, if_false, ZS, ZY, ZT, ZU, ZX, ZW, ZR, ZQ, eA, dV, aB, dI, dE, cJ, eB, eS, eE, dK, eD, fA, dQ, eN, bQ, dG, bJ, dL, aI, aH, eL, aV, bZ, eI, aF, eJ, dF, aR, bF, eF, bH, bE, bB, aO, aL, cD, fG, dY, cA, cI, dA, cH, dT, bC, eK, bX, dH, bP, aU, bU, aC, bY, bO, cF, bW, aY, bA, aX, bV, dM, cU, bR, aZ, aK, aJ, bG, aE, dC, dW, aN, aM, aT, aD, cY, aG, cL, bT, bD, aP, cM, cG, aA, dN, cQ, cV, cC, dO, cB, dJ, dU, cP, eC, eM, bN, aS, dZ, bS, aQ, bL, dS, dB, cO, cS, cN, bK, bM, cX, dR, cR, dD, cZ, d1, d2]
 refine Kb fun w1 m1 x1 s1 => ?_
 refine Kb fun w2 m2 x2 s2 => ?_
 simp (disch := omega) only [eY, gN, dX, stepR_skip, fP, fZ, fO, gK, gE, gC, gR, gA, eU, fV, fT, gG, fS, fM, fU, fR, fX, gH, fY, fQ, fC, gB, gI, fL, iS, iQ, iO, iR, iM, iN, iP, iU, iT, eP, Result.ok.injEq, Next.value.injEq, true_and, and_true, fK, fJ, gJ, fN, gD, gS, ZV, fE, fH, fF, fD, eZ, eX, fB, eT, eQ, eH, if_true, if_false, ZS, ZY, ZT, ZU, ZX, ZW, ZR, ZQ, eA, dV, aB, dI, dE, cJ, eB, eS, eE, dK, eD, fA, dQ, eN, bQ, dG, bJ, dL, aI, aH, eL, aV, bZ, eI, aF, eJ, dF, aR, bF, eF, bH, bE, bB, aO, aL, cD, fG, dY, cA, cI, dA, cH, dT, bC, eK, bX, dH, bP, aU, bU, aC, bY, bO, cF, bW, aY, bA, aX, bV, dM, cU, bR, aZ, aK, aJ, bG, aE, dC, dW, aN, aM, aT, aD, cY, aG, cL, bT, bD, aP, cM, cG, aA, dN, cQ, cV, cC, dO, cB, dJ, dU, cP, eC, eM, bN, aS, dZ, bS, aQ, bL, dS, dB, cO, cS, cN, bK, bM, cX, dR, cR, dD, cZ]
 refine oE fun w3 o3 x3 s3 => ?_
 have o3 : jG w3 w2.heap.size [.int .i64 room, .map (some w.heap.size), .map (some w1.heap.size), .slice none 0 0, .int .i64 (-1), .bool false] := o3
 refine ⟨w2.heap.size, fun b => w.heap.size <= b /\ b < w3.heap.size, rfl, ⟨w.heap.size, w1.heap.size, .slice none 0 0, [], [], [], ⟨by omega, by omega⟩, ⟨by omega, by omega⟩, ⟨by omega, by omega⟩, by omega, by omega, by omega, fun _ h => h, fun b h => h.2, o3, (m1.ext x2 (fun h => h)).ext x3 (fun h => h), m2.ext x3 (fun h => h), trivial, trivial, ⟨rfl, .inl ⟨rfl, rfl⟩⟩, rfl⟩, fun b h => h.1, (x1.seq x2).seq x3⟩
structure YA (S : jZ) : Prop where
 left : -1 <= S.left /\ S.left <= 9223372036854775807
 seen : iY S.seen <= 1099511627776
 under : S.under.length <= 1000000
 room : 0 <= S.room /\ S.room <= 16777216
theorem GR.slice {w : adV} {X : Nat -> Prop} {v : adW} {b : List UInt8} (h : GR w X v b) : ∃ a c, v = .slice a b.length c := by
 obtain ⟨a, c, e, _⟩ := h.1.len
 rw [ZZ] at e
 exact ⟨a, c, e⟩
theorem zH.dat {w w0 : adV} {X : Nat -> Prop} {v : adW} {l : List UInt8} (h : zH w w0.heap.size 1 v l.length (l.map oY)) (hX : ∀ b, X b -> b < w0.heap.size) : GR w X v l := by
 refine ⟨h.sl, fun hi => ?_⟩
 rcases h.2 with ⟨rfl, _⟩ | ⟨b, c, rest, rfl, h2, _⟩
 .exact hi
 .unfold wB at hi
  split at hi
  .rename_i e
   simp only [Value.slice.injEq, aaN] at e
   obtain ⟨rfl, _⟩ := e
   have hi : X b := hi
   have := hX _ hi
   omega
  .exact hi
theorem lY.lt {w : adV} {p : Nat} {X D : Nat -> Prop} {S : jZ} (h : lY w p X D S) : ∀ b, D b -> b < w.heap.size := by
 obtain ⟨_, _, _, _, _, _, _, _, _, _, _, _, _, h7, _⟩ := h; exact h7
def uW (S : jZ) (name : ByteArray) : List UInt8 := (jE name S.seen).getD []
def Ym (S : jZ) (name : ByteArray) (a : Int) (n : Nat) : Int :=
 if S.down then 20 else if Lj name = false ∨ a < 0 then 1 else if ((uW S name).length : Int) < a then 17
 else if S.room < iY S.seen + max (a + n - (uW S name).length) 0 then 22 else 0
def IW (S : jZ) (name : ByteArray) (a : Int) (l : List UInt8) : jZ × Int :=
 if Ym S name a l.length = 0 then AZ S ⟨0, name, ⟨#[]⟩, a.toNat, l⟩ else (S, Ym S name a l.length)
theorem OW {p : Nat} {X D : Nat -> Prop} {S : jZ} {name : ByteArray} {a : Int} {bv : adW} {l : List UInt8} {w : adV} (h : lY w p X D S) (hB : YA S) (hb : Bs w bv l) (hl : l.length <= 1000000000) (ha : a <= 9000000000000000000) (ha' : -9223372036854775808 <= a) :
 gU pg lM #[dP p, .string name, .int .i64 a, bv] w (fun r w' => r = .int .i64 (IW S name a l).2 /\ BM w p X D (IW S name a l).1 w') := by
 refine I6 ?_
 unfold HS yK
 obtain ⟨ba, bc, rfl, _⟩ := hb.len
 rw [ZZ] at hb
 rw [ZZ]
 obtain ⟨E, hE⟩ : ∃ E, Ym S name a l.length = E := ⟨_, rfl⟩
 have hW : ∀ e, E = e -> e ≠ 0 -> IW S name a l = (S, e) := fun e h1 h2 => by unfold IW; rw [hE, h1, if_neg h2]
 refine (VC h).mono ?_
 rintro r w1 ⟨rfl, rfl⟩
 have hE0 := hE
 unfold Ym at hE
 by_cases hd : S.down = true
 .rw [if_pos hd] at hE
  rw [hW 20 hE.symm (by decide), if_pos hd]
  have n1 : ((20 : Int) != 0) = true := rfl
  simp (disch := omega) only [eY, gN, dX, stepR_skip, fP, fZ, fO, gK, gE, gC, gR, gA, eU, fV, fT, gG, fS, fM, fU, fR, fX, gH, fY, fQ, fC, gB, gI, fL, iS, iQ, iO, iR, iM, iN, iP, iU, iT, eP, Result.ok.injEq, Next.value.injEq, true_and, and_true, fK, fJ, gJ, fN, gD, gS, ZV, fE, fH, fF, fD, eZ, eX, fB, eT, eQ, eH, if_true, if_false, ZS, ZY, ZT, ZU, ZX, ZW, ZR, ZQ, eA, dV, aB, dI, dE, cJ, eB, eS, eE, dK, eD, fA, dQ, eN, bQ, dG, bJ, dL, aI, aH, eL, aV, bZ, eI, aF, eJ, dF, aR, bF, eF, bH, bE, bB, aO, aL, cD, fG, dY, cA, cI, dA, cH, dT, bC, eK, bX, dH, bP, aU, bU, aC, bY, bO, cF, bW, aY, bA, aX, bV, dM, cU, bR, aZ, aK, aJ, bG, aE, dC, dW, aN, aM, aT, aD, cY, aG, cL, bT, bD, aP, cM, cG, aA, dN, cQ, cV, cC, dO, cB, dJ, dU, cP, eC, eM, bN, aS, dZ, bS, aQ, bL, dS, dB, cO, cS, cN, bK, bM, cX, dR, cR, dD, cZ, n1]
  exact BM.refl h
 rw [if_neg hd] at hE
 rw [if_neg hd]
 have n1 : ((0 : Int) != 0) = false := rfl
 have h' := h
 obtain ⟨ms, mn, sv, ls, ln, cs, h1, h2, h3, h4, h5, h6, hXD, hDl, op, hms, hmn, hfs, hfn, hun, hop⟩ := h'
 have h7 : ∀ b, X b -> b < w1.heap.size := fun b hb => hDl b (hXD b hb)
 have c2 := op.cell (off := 2)
 have c0d := (kJ op).cell (off := 0)
 have c2d := (kJ op).cell (off := 2)
 simp only [ZQ, ZR] at c2 c0d c2d
 obtain ⟨oa, oc, ob, l0, hob⟩ : ∃ (oa : Option Addr) (oc : Nat) (ob : List UInt8), (Ak 61 (.map (some mn)) (.string name) false).run pg w1 = .ok (.value (.slice oa ob.length oc)) w1 /\ uW S name = ob := by
  have l0 := O6 hmn name
  unfold uW
  rcases hfn.get name with ⟨q1, q2⟩ | ⟨v, b, q1, q2, q3⟩
  .rw [q1] at l0
   exact ⟨none, 0, [], l0, by rw [q2] <;> rfl⟩
  .obtain ⟨a', c', rfl⟩ := GR.slice q3
   rw [q1] at l0
   exact ⟨a', c', b, l0, by rw [q2] <;> rfl⟩
 rw [hob] at hE
 have holdlen : ob.length <= 1099511627776 := by rw [<- hob]; have := Br (k := name) (c := S.seen); have := hB.seen; unfold uW; omega
 simp (disch := omega) only [eY, gN, dX, stepR_skip, fP, fZ, fO, gK, gE, gC, gR, gA, eU, fV, fT, gG, fS, fM, fU, fR, fX, gH, fY, fQ, fC, gB, gI, fL, iS, iQ, iO, iR, iM, iN, iP, iU, iT, eP, Result.ok.injEq, Next.value.injEq, true_and, and_true, fK, fJ, gJ, fN, gD, gS, ZV, fE, fH, fF, fD, eZ, eX, fB, eT, eQ, eH, if_true, if_false, ZS, ZY, ZT, ZU, ZX, ZW, ZR, ZQ, eA, dV, aB, dI, dE, cJ, eB, eS, eE, dK, eD, fA, dQ, eN, bQ, dG, bJ, dL, aI, aH, eL, aV, bZ, eI, aF, eJ, dF, aR, bF, eF, bH, bE, bB, aO, aL, cD, fG, dY, cA, cI, dA, cH, dT, bC, eK, bX, dH, bP, aU, bU, aC, bY, bO, cF, bW, aY, bA, aX, bV, dM, cU, bR, aZ, aK, aJ, bG, aE, dC, dW, aN, aM, aT, aD, cY, aG, cL, bT, bD, aP, cM, cG, aA, dN, cQ, cV, cC, dO, cB, dJ, dU, cP, eC, eM, bN, aS, dZ, bS, aQ, bL, dS, dB, cO, cS, cN, bK, bM, cX, dR, cR, dD, cZ, n1, c2, l0]
 refine (Vu name _).mono ?_
 rintro r w2 ⟨rfl, hw⟩
 rw [hw]; clear hw w2
 by_cases hmay : Lj name = false
 .rw [if_pos (.inl hmay)] at hE
  rw [hW 1 hE.symm (by decide), hmay]
  simp (disch := omega) only [eY, gN, dX, stepR_skip, fP, fZ, fO, gK, gE, gC, gR, gA, eU, fV, fT, gG, fS, fM, fU, fR, fX, gH, fY, fQ, fC, gB, gI, fL, iS, iQ, iO, iR, iM, iN, iP, iU, iT, eP, Result.ok.injEq, Next.value.injEq, true_and, and_true, fK, fJ, gJ, fN, gD, gS, ZV, fE, fH, fF, fD, eZ, eX, fB, eT, eQ, eH, if_true, if_false, ZS, ZY, ZT, ZU, ZX, ZW, ZR, ZQ, eA, dV, aB, dI, dE, cJ, eB, eS, eE, dK, eD, fA, dQ, eN, bQ, dG, bJ, dL, aI, aH, eL, aV, bZ, eI, aF, eJ, dF, aR, bF, eF, bH, bE, bB, aO, aL, cD, fG, dY, cA, cI, dA, cH, dT, bC, eK, bX, dH, bP, aU, bU, aC, bY, bO, cF, bW, aY, bA, aX, bV, dM, cU, bR, aZ, aK, aJ, bG, aE, dC, dW, aN, aM, aT, aD, cY, aG, cL, bT, bD, aP, cM, cG, aA, dN, cQ, cV, cC, dO, cB, dJ, dU, cP, eC, eM, bN, aS, dZ, bS, aQ, bL, dS, dB, cO, cS, cN, bK, bM, cX, dR, cR, dD, cZ]
  exact BM.refl h
 have hmay : Lj name = true := by cases hq : Lj name with | true => rfl | false => exact absurd hq hmay
 rw [hmay] at hE ⊢
 by_cases ha0 : a < 0
 .have d1 : decide (a < 0) = true := by simpa using ha0
  rw [if_pos (.inr ha0)] at hE
  rw [hW 1 hE.symm (by decide)]
  simp (disch := omega) only [eY, gN, dX, stepR_skip, fP, fZ, fO, gK, gE, gC, gR, gA, eU, fV, fT, gG, fS, fM, fU, fR, fX, gH, fY, fQ, fC, gB, gI, fL, iS, iQ, iO, iR, iM, iN, iP, iU, iT, eP, Result.ok.injEq, Next.value.injEq, true_and, and_true, fK, fJ, gJ, fN, gD, gS, ZV, fE, fH, fF, fD, eZ, eX, fB, eT, eQ, eH, if_true, if_false, ZS, ZY, ZT, ZU, ZX, ZW, ZR, ZQ, eA, dV, aB, dI, dE, cJ, eB, eS, eE, dK, eD, fA, dQ, eN, bQ, dG, bJ, dL, aI, aH, eL, aV, bZ, eI, aF, eJ, dF, aR, bF, eF, bH, bE, bB, aO, aL, cD, fG, dY, cA, cI, dA, cH, dT, bC, eK, bX, dH, bP, aU, bU, aC, bY, bO, cF, bW, aY, bA, aX, bV, dM, cU, bR, aZ, aK, aJ, bG, aE, dC, dW, aN, aM, aT, aD, cY, aG, cL, bT, bD, aP, cM, cG, aA, dN, cQ, cV, cC, dO, cB, dJ, dU, cP, eC, eM, bN, aS, dZ, bS, aQ, bL, dS, dB, cO, cS, cN, bK, bM, cX, dR, cR, dD, cZ, d1]
  exact BM.refl h
 have d1 : decide (a < 0) = false := by simpa using ha0
 rw [if_neg (by rintro (h | h); cases h; exact ha0 h)] at hE
 by_cases ha1 : (ob.length : Int) < a
 .have d2 : decide ((ob.length : Int) < a) = true := by simpa using ha1
  rw [if_pos ha1] at hE
  rw [hW 17 hE.symm (by decide)]
  simp (disch := omega) only [eY, gN, dX, stepR_skip, fP, fZ, fO, gK, gE, gC, gR, gA, eU, fV, fT, gG, fS, fM, fU, fR, fX, gH, fY, fQ, fC, gB, gI, fL, iS, iQ, iO, iR, iM, iN, iP, iU, iT, eP, Result.ok.injEq, Next.value.injEq, true_and, and_true, fK, fJ, gJ, fN, gD, gS, ZV, fE, fH, fF, fD, eZ, eX, fB, eT, eQ, eH, if_true, if_false, ZS, ZY, ZT, ZU, ZX, ZW, ZR, ZQ, eA, dV, aB, dI, dE, cJ, eB, eS, eE, dK, eD, fA, dQ, eN, bQ, dG, bJ, dL, aI, aH, eL, aV, bZ, eI, aF, eJ, dF, aR, bF, eF, bH, bE, bB, aO, aL, cD, fG, dY, cA, cI, dA, cH, dT, bC, eK, bX, dH, bP, aU, bU, aC, bY, bO, cF, bW, aY, bA, aX, bV, dM, cU, bR, aZ, aK, aJ, bG, aE, dC, dW, aN, aM, aT, aD, cY, aG, cL, bT, bD, aP, cM, cG, aA, dN, cQ, cV, cC, dO, cB, dJ, dU, cP, eC, eM, bN, aS, dZ, bS, aQ, bL, dS, dB, cO, cS, cN, bK, bM, cX, dR, cR, dD, cZ, d1, d2]
  exact BM.refl h
 have d2 : decide ((ob.length : Int) < a) = false := by simpa using ha1
 rw [if_neg ha1] at hE
 have hbs := hB.seen
 have hbr := hB.room
 obtain ⟨k, rfl⟩ : ∃ k : Nat, a = k := ⟨a.toNat, by omega⟩
 simp (disch := omega) only [eY, gN, dX, stepR_skip, fP, fZ, fO, gK, gE, gC, gR, gA, eU, fV, fT, gG, fS, fM, fU, fR, fX, gH, fY, fQ, fC, gB, gI, fL, iS, iQ, iO, iR, iM, iN, iP, iU, iT, eP, Result.ok.injEq, Next.value.injEq, true_and, and_true, fK, fJ, gJ, fN, gD, gS, ZV, fE, fH, fF, fD, eZ, eX, fB, eT, eQ, eH, if_true, if_false, ZS, ZY, ZT, ZU, ZX, ZW, ZR, ZQ, eA, dV, aB, dI, dE, cJ, eB, eS, eE, dK, eD, fA, dQ, eN, bQ, dG, bJ, dL, aI, aH, eL, aV, bZ, eI, aF, eJ, dF, aR, bF, eF, bH, bE, bB, aO, aL, cD, fG, dY, cA, cI, dA, cH, dT, bC, eK, bX, dH, bP, aU, bU, aC, bY, bO, cF, bW, aY, bA, aX, bV, dM, cU, bR, aZ, aK, aJ, bG, aE, dC, dW, aN, aM, aT, aD, cY, aG, cL, bT, bD, aP, cM, cG, aA, dN, cQ, cV, cC, dO, cB, dJ, dU, cP, eC, eM, bN, aS, dZ, bS, aQ, bL, dS, dB, cO, cS, cN, bK, bM, cX, dR, cR, dD, cZ, d1, d2, c2d]
 refine (Yf (c := S.seen) hmn.dr (hfn.ext (gX.dr _ jK) fun _ h => h.elim) hbs).mono ?_
 rintro r w2 ⟨rfl, x2⟩
 have x2 : gX w1 w2 jK := (gX.dr _ _).seq x2
 have op2 := op.ext x2 (fun h => h)
 have r0 := op2.cell (off := 0)
 have r0d := (kJ op2).cell (off := 0)
 simp only [ZQ, ZR] at r0 r0d
 have e1 : (k : Int) + (l.length : Int) = ((k + l.length : Nat) : Int) := by omega
 obtain ⟨q, hq⟩ : ∃ q : Nat, max (((k + l.length : Nat) : Int) - (ob.length : Int)) 0 = q := ⟨(max (((k + l.length : Nat) : Int) - (ob.length : Int)) 0).toNat, by omega⟩
 have hmax : (if (0 : Int) > ((k + l.length : Nat) : Int) - (ob.length : Int) then (0 : Int) else ((k + l.length : Nat) : Int) - (ob.length : Int)) = (q : Nat) := by
  split <;> omega
 have e2 : ((iY S.seen : Nat) : Int) + (q : Int) = ((iY S.seen + q : Nat) : Int) := by omega
 rw [e1, hq, e2] at hE
 by_cases hsp : S.room < ((iY S.seen + q : Nat) : Int)
 .have d3 : decide (S.room < ((iY S.seen + q : Nat) : Int)) = true := by simpa using hsp
  rw [if_pos hsp] at hE
  rw [hW 22 hE.symm (by decide)]
  simp (disch := omega) only [eY, gN, dX, stepR_skip, fP, fZ, fO, gK, gE, gC, gR, gA, eU, fV, fT, gG, fS, fM, fU, fR, fX, gH, fY, fQ, fC, gB, gI, fL, iS, iQ, iO, iR, iM, iN, iP, iU, iT, eP, Result.ok.injEq, Next.value.injEq, true_and, and_true, fK, fJ, gJ, fN, gD, gS, ZV, fE, fH, fF, fD, eZ, eX, fB, eT, eQ, eH, if_true, if_false, ZS, ZY, ZT, ZU, ZX, ZW, ZR, ZQ, eA, dV, aB, dI, dE, cJ, eB, eS, eE, dK, eD, fA, dQ, eN, bQ, dG, bJ, dL, aI, aH, eL, aV, bZ, eI, aF, eJ, dF, aR, bF, eF, bH, bE, bB, aO, aL, cD, fG, dY, cA, cI, dA, cH, dT, bC, eK, bX, dH, bP, aU, bU, aC, bY, bO, cF, bW, aY, bA, aX, bV, dM, cU, bR, aZ, aK, aJ, bG, aE, dC, dW, aN, aM, aT, aD, cY, aG, cL, bT, bD, aP, cM, cG, aA, dN, cQ, cV, cC, dO, cB, dJ, dU, cP, eC, eM, bN, aS, dZ, bS, aQ, bL, dS, dB, cO, cS, cN, bK, bM, cX, dR, cR, dD, cZ, d1, d2, r0, r0d, c0d, e1, hmax, e2, d3]
  exact ⟨X, D, h.new x2, fun _ h => .inl h, fun _ h => h, x2.mono fun _ _ h => h.elim⟩
 have d3 : decide (S.room < ((iY S.seen + q : Nat) : Int)) = false := by simpa using hsp
 rw [if_neg hsp] at hE
 have hW0 : IW S name k l = AZ S ⟨0, name, ⟨#[]⟩, k, l⟩ := by unfold IW; rw [hE0, <- hE, if_pos rfl, ZV]
 rw [hW0]
 simp (disch := omega) only [eY, gN, dX, stepR_skip, fP, fZ, fO, gK, gE, gC, gR, gA, eU, fV, fT, gG, fS, fM, fU, fR, fX, gH, fY, fQ, fC, gB, gI, fL, iS, iQ, iO, iR, iM, iN, iP, iU, iT, eP, Result.ok.injEq, Next.value.injEq, true_and, and_true, fK, fJ, gJ, fN, gD, gS, ZV, fE, fH, fF, fD, eZ, eX, fB, eT, eQ, eH, if_true, if_false, ZS, ZY, ZT, ZU, ZX, ZW, ZR, ZQ, eA, dV, aB, dI, dE, cJ, eB, eS, eE, dK, eD, fA, dQ, eN, bQ, dG, bJ, dL, aI, aH, eL, aV, bZ, eI, aF, eJ, dF, aR, bF, eF, bH, bE, bB, aO, aL, cD, fG, dY, cA, cI, dA, cH, dT, bC, eK, bX, dH, bP, aU, bU, aC, bY, bO, cF, bW, aY, bA, aX, bV, dM, cU, bR, aZ, aK, aJ, bG, aE, dC, dW, aN, aM, aT, aD, cY, aG, cL, bT, bD, aP, cM, cG, aA, dN, cQ, cV, cC, dO, cB, dJ, dU, cP, eC, eM, bN, aS, dZ, bS, aQ, bL, dS, dB, cO, cS, cN, bK, bM, cX, dR, cR, dD, cZ, d1, d2, r0, r0d, c0d, e1, hmax, e2, d3]
 refine (NQ (hb.ext x2 (jJ _)) hl).mono ?_
 rintro r w3 ⟨ho, x3⟩
 obtain ⟨va, vc, rfl⟩ := ho.len
 have h2' := h.new x2
 have hd3 : GR w3 D (.slice va l.length vc) l := zH.dat ho fun b hb => lY.lt h2' b hb
 have opE : Pg ⟨0, name, ⟨#[]⟩, k, l⟩ (.slice va l.length vc) = [.int .i64 0, .string name, .string ⟨#[]⟩, .int .i64 k, .slice va l.length vc] := rfl
 have hdn := SA (o := ⟨0, name, ⟨#[]⟩, k, l⟩) (h2'.new x3) hd3 hB.left hbs (show k <= 1099511627776 by omega) (show l.length <= 1099511627776 by omega) hB.under
 rw [opE] at hdn
 simp (disch := omega) only [eY, gN, dX, stepR_skip, fP, fZ, fO, gK, gE, gC, gR, gA, eU, fV, fT, gG, fS, fM, fU, fR, fX, gH, fY, fQ, fC, gB, gI, fL, iS, iQ, iO, iR, iM, iN, iP, iU, iT, eP, Result.ok.injEq, Next.value.injEq, true_and, and_true, fK, fJ, gJ, fN, gD, gS, ZV, fE, fH, fF, fD, eZ, eX, fB, eT, eQ, eH, if_true, if_false, ZS, ZY, ZT, ZU, ZX, ZW, ZR, ZQ, eA, dV, aB, dI, dE, cJ, eB, eS, eE, dK, eD, fA, dQ, eN, bQ, dG, bJ, dL, aI, aH, eL, aV, bZ, eI, aF, eJ, dF, aR, bF, eF, bH, bE, bB, aO, aL, cD, fG, dY, cA, cI, dA, cH, dT, bC, eK, bX, dH, bP, aU, bU, aC, bY, bO, cF, bW, aY, bA, aX, bV, dM, cU, bR, aZ, aK, aJ, bG, aE, dC, dW, aN, aM, aT, aD, cY, aG, cL, bT, bD, aP, cM, cG, aA, dN, cQ, cV, cC, dO, cB, dJ, dU, cP, eC, eM, bN, aS, dZ, bS, aQ, bL, dS, dB, cO, cS, cN, bK, bM, cX, dR, cR, dD, cZ]
 refine hdn.mono ?_
 rintro r w4 ⟨rfl, hp⟩
 exact ⟨rfl, BM.step ((x2.seq x3).mono fun _ _ h => h.elim) (fun _ h => .inl h) (fun _ h => h) hp⟩
theorem Qu {p : Nat} {X D : Nat -> Prop} {S : jZ} {name : ByteArray} {w : adV} (h : lY w p X D S) (hB : YA S) (hsz : ∀ b, jE name S.seen = some b -> b.length <= 1000000000) :
 gU pg lG #[dP p, .string name] w (fun r w' => ((S.down = true /\ r = .tuple #[.slice none 0 0, .int .i64 20]) ∨ (S.down = false /\ jE name S.seen = none /\ r = .tuple #[.slice none 0 0, .int .i64 21]) ∨
  (S.down = false /\ ∃ b v, jE name S.seen = some b /\ r = .tuple #[v, .int .i64 0] /\ zH w' w.heap.size 1 v b.length (b.map oY))) /\ gX w w' jK) := by
 refine J7 ?_
 obtain ⟨RR, hRR⟩ : ∃ RR : adW -> adV -> Prop, RR = fun r w' => ((S.down = true /\ r = .tuple #[.slice none 0 0, .int .i64 20]) ∨ (S.down = false /\ jE name S.seen = none /\ r = .tuple #[.slice none 0 0, .int .i64 21]) ∨
  (S.down = false /\ ∃ b v, jE name S.seen = some b /\ r = .tuple #[v, .int .i64 0] /\ zH w' w.heap.size 1 v b.length (b.map oY))) /\ gX w w' jK := ⟨_, rfl⟩
 rw [<- hRR]
 unfold IY As
 refine (VC h).mono ?_
 rintro r w1 ⟨rfl, rfl⟩
 by_cases hd : S.down = true
 .rw [if_pos hd]
  have n1 : ((20 : Int) != 0) = true := rfl
  simp (disch := omega) only [eY, gN, dX, stepR_skip, fP, fZ, fO, gK, gE, gC, gR, gA, eU, fV, fT, gG, fS, fM, fU, fR, fX, gH, fY, fQ, fC, gB, gI, fL, iS, iQ, iO, iR, iM, iN, iP, iU, iT, eP, Result.ok.injEq, Next.value.injEq, true_and, and_true, fK, fJ, gJ, fN, gD, gS, ZV, fE, fH, fF, fD, eZ, eX, fB, eT, eQ, eH, if_true, if_false, ZS, ZY, ZT, ZU, ZX, ZW, ZR, ZQ, eA, dV, aB, dI, dE, cJ, eB, eS, eE, dK, eD, fA, dQ, eN, bQ, dG, bJ, dL, aI, aH, eL, aV, bZ, eI, aF, eJ, dF, aR, bF, eF, bH, bE, bB, aO, aL, cD, fG, dY, cA, cI, dA, cH, dT, bC, eK, bX, dH, bP, aU, bU, aC, bY, bO, cF, bW, aY, bA, aX, bV, dM, cU, bR, aZ, aK, aJ, bG, aE, dC, dW, aN, aM, aT, aD, cY, aG, cL, bT, bD, aP, cM, cG, aA, dN, cQ, cV, cC, dO, cB, dJ, dU, cP, eC, eM, bN, aS, dZ, bS, aQ, bL, dS, dB, cO, cS, cN, bK, bM, cX, dR, cR, dD, cZ, n1]
  rw [hRR]
  exact ⟨.inl ⟨hd, rfl⟩, gX.refl _ _⟩
 have hd' : S.down = false := by cases hq : S.down with | true => exact absurd hq hd | false => rfl
 rw [if_neg hd]
 have n1 : ((0 : Int) != 0) = false := rfl
 obtain ⟨ms, mn, sv, ls, ln, cs, h1, h2, h3, h4, h5, h6, hXD, hDl, op, hms, hmn, hfs, hfn, hun, hop⟩ := h
 have h7 := fun b (hb : X b) => hDl b (hXD b hb)
 have c2 := op.cell (off := 2)
 simp only [ZQ, ZR] at c2
 have l0 := Bw hmn name
 rcases hfn.get name with ⟨q1, q2⟩ | ⟨v, b, q1, q2, q3⟩
 .rw [q1] at l0
  have l0 : (Ak 61 (.map (some mn)) (.string name) true).run pg w1 = .ok (.value (.tuple #[.slice none 0 0, .bool false])) w1 := l0
  simp (disch := omega) only [eY, gN, dX, stepR_skip, fP, fZ, fO, gK, gE, gC, gR, gA, eU, fV, fT, gG, fS, fM, fU, fR, fX, gH, fY, fQ, fC, gB, gI, fL, iS, iQ, iO, iR, iM, iN, iP, iU, iT, eP, Result.ok.injEq, Next.value.injEq, true_and, and_true, fK, fJ, gJ, fN, gD, gS, ZV, fE, fH, fF, fD, eZ, eX, fB, eT, eQ, eH, if_true, if_false, ZS, ZY, ZT, ZU, ZX, ZW, ZR, ZQ, eA, dV, aB, dI, dE, cJ, eB, eS, eE, dK, eD, fA, dQ, eN, bQ, dG, bJ, dL, aI, aH, eL, aV, bZ, eI, aF, eJ, dF, aR, bF, eF, bH, bE, bB, aO, aL, cD, fG, dY, cA, cI, dA, cH, dT, bC, eK, bX, dH, bP, aU, bU, aC, bY, bO, cF, bW, aY, bA, aX, bV, dM, cU, bR, aZ, aK, aJ, bG, aE, dC, dW, aN, aM, aT, aD, cY, aG, cL, bT, bD, aP, cM, cG, aA, dN, cQ, cV, cC, dO, cB, dJ, dU, cP, eC, eM, bN, aS, dZ, bS, aQ, bL, dS, dB, cO, cS, cN, bK, bM, cX, dR, cR, dD, cZ, n1, c2, l0]
  rw [hRR]
  exact ⟨.inr (.inl ⟨hd', q2, rfl⟩), gX.refl _ _⟩
 .obtain ⟨a', c', rfl⟩ := GR.slice q3
  rw [q1] at l0
  have l0 : (Ak 61 (.map (some mn)) (.string name) true).run pg w1 = .ok (.value (.tuple #[.slice a' b.length c', .bool true])) w1 := l0
  simp (disch := omega) only [eY, gN, dX, stepR_skip, fP, fZ, fO, gK, gE, gC, gR, gA, eU, fV, fT, gG, fS, fM, fU, fR, fX, gH, fY, fQ, fC, gB, gI, fL, iS, iQ, iO, iR, iM, iN, iP, iU, iT, eP, Result.ok.injEq, Next.value.injEq, true_and, and_true, fK, fJ, gJ, fN, gD, gS, ZV, fE, fH, fF, fD, eZ, eX, fB, eT, eQ, eH, if_true, if_false, ZS, ZY, ZT, ZU, ZX, ZW, ZR, ZQ, eA, dV, aB, dI, dE, cJ, eB, eS, eE, dK, eD, fA, dQ, eN, bQ, dG, bJ, dL, aI, aH, eL, aV, bZ, eI, aF, eJ, dF, aR, bF, eF, bH, bE, bB, aO, aL, cD, fG, dY, cA, cI, dA, cH, dT, bC, eK, bX, dH, bP, aU, bU, aC, bY, bO, cF, bW, aY, bA, aX, bV, dM, cU, bR, aZ, aK, aJ, bG, aE, dC, dW, aN, aM, aT, aD, cY, aG, cL, bT, bD, aP, cM, cG, aA, dN, cQ, cV, cC, dO, cB, dJ, dU, cP, eC, eM, bN, aS, dZ, bS, aQ, bL, dS, dB, cO, cS, cN, bK, bM, cX, dR, cR, dD, cZ, n1, c2, l0]
  refine (NQ q3.1 (hsz b q2)).mono ?_
  rintro r w2 ⟨ho, x2⟩
  rw [hRR]
  exact ⟨.inr (.inr ⟨hd', b, r, q2, rfl, ho⟩), x2⟩
def UB (S : jZ) (name : ByteArray) : jZ × Int := if S.down then (S, 20) else if (jE name S.seen).isNone then (S, 21) else AZ S ⟨2, name, ⟨#[]⟩, 0, []⟩
theorem Uo {p : Nat} {X D : Nat -> Prop} {S : jZ} {name : ByteArray} {w : adV} (h : lY w p X D S) (hB : YA S) :
 gU pg rJ #[dP p, .string name] w (fun r w' => r = .int .i64 (UB S name).2 /\ BM w p X D (UB S name).1 w') := by
 refine Io ?_
 unfold FK wE UB
 refine (VC h).mono ?_
 rintro r w1 ⟨rfl, rfl⟩
 by_cases hd : S.down = true
 .rw [if_pos hd, if_pos hd]
  have n1 : ((20 : Int) != 0) = true := rfl
  simp (disch := omega) only [eY, gN, dX, stepR_skip, fP, fZ, fO, gK, gE, gC, gR, gA, eU, fV, fT, gG, fS, fM, fU, fR, fX, gH, fY, fQ, fC, gB, gI, fL, iS, iQ, iO, iR, iM, iN, iP, iU, iT, eP, Result.ok.injEq, Next.value.injEq, true_and, and_true, fK, fJ, gJ, fN, gD, gS, ZV, fE, fH, fF, fD, eZ, eX, fB, eT, eQ, eH, if_true, if_false, ZS, ZY, ZT, ZU, ZX, ZW, ZR, ZQ, eA, dV, aB, dI, dE, cJ, eB, eS, eE, dK, eD, fA, dQ, eN, bQ, dG, bJ, dL, aI, aH, eL, aV, bZ, eI, aF, eJ, dF, aR, bF, eF, bH, bE, bB, aO, aL, cD, fG, dY, cA, cI, dA, cH, dT, bC, eK, bX, dH, bP, aU, bU, aC, bY, bO, cF, bW, aY, bA, aX, bV, dM, cU, bR, aZ, aK, aJ, bG, aE, dC, dW, aN, aM, aT, aD, cY, aG, cL, bT, bD, aP, cM, cG, aA, dN, cQ, cV, cC, dO, cB, dJ, dU, cP, eC, eM, bN, aS, dZ, bS, aQ, bL, dS, dB, cO, cS, cN, bK, bM, cX, dR, cR, dD, cZ, n1]
  exact BM.refl h
 rw [if_neg hd, if_neg hd]
 have n1 : ((0 : Int) != 0) = false := rfl
 have h' := h
 obtain ⟨ms, mn, sv, ls, ln, cs, h1, h2, h3, h4, h5, h6, hXD, hDl, op, hms, hmn, hfs, hfn, hun, hop⟩ := h'
 have h7 : ∀ b, X b -> b < w1.heap.size := fun b hb => hDl b (hXD b hb)
 have c2 := op.cell (off := 2)
 simp only [ZQ, ZR] at c2
 have l0 := Bw hmn name
 rcases hfn.get name with ⟨q1, q2⟩ | ⟨v, b, q1, q2, q3⟩
 .rw [q1] at l0
  have l0 : (Ak 61 (.map (some mn)) (.string name) true).run pg w1 = .ok (.value (.tuple #[.slice none 0 0, .bool false])) w1 := l0
  rw [q2, if_pos (show (none : Option (List UInt8)).isNone = true from rfl)]
  simp (disch := omega) only [eY, gN, dX, stepR_skip, fP, fZ, fO, gK, gE, gC, gR, gA, eU, fV, fT, gG, fS, fM, fU, fR, fX, gH, fY, fQ, fC, gB, gI, fL, iS, iQ, iO, iR, iM, iN, iP, iU, iT, eP, Result.ok.injEq, Next.value.injEq, true_and, and_true, fK, fJ, gJ, fN, gD, gS, ZV, fE, fH, fF, fD, eZ, eX, fB, eT, eQ, eH, if_true, if_false, ZS, ZY, ZT, ZU, ZX, ZW, ZR, ZQ, eA, dV, aB, dI, dE, cJ, eB, eS, eE, dK, eD, fA, dQ, eN, bQ, dG, bJ, dL, aI, aH, eL, aV, bZ, eI, aF, eJ, dF, aR, bF, eF, bH, bE, bB, aO, aL, cD, fG, dY, cA, cI, dA, cH, dT, bC, eK, bX, dH, bP, aU, bU, aC, bY, bO, cF, bW, aY, bA, aX, bV, dM, cU, bR, aZ, aK, aJ, bG, aE, dC, dW, aN, aM, aT, aD, cY, aG, cL, bT, bD, aP, cM, cG, aA, dN, cQ, cV, cC, dO, cB, dJ, dU, cP, eC, eM, bN, aS, dZ, bS, aQ, bL, dS, dB, cO, cS, cN, bK, bM, cX, dR, cR, dD, cZ, n1, c2, l0]
  exact BM.refl h
 .obtain ⟨a', c', rfl⟩ := GR.slice q3
  rw [q1] at l0
  have l0 : (Ak 61 (.map (some mn)) (.string name) true).run pg w1 = .ok (.value (.tuple #[.slice a' b.length c', .bool true])) w1 := l0
  rw [q2, if_neg (show ¬ (some b).isNone = true by simp)]
  have hdn := SA (o := ⟨2, name, ⟨#[]⟩, 0, []⟩) (va := none) (vc := 0) h ⟨Sl.nil _, fun h => h⟩ hB.left hB.seen (show 0 <= _ by omega) (show 0 <= _ by omega) hB.under
  have opE : Pg ⟨2, name, ⟨#[]⟩, 0, []⟩ (.slice none ([] : List UInt8).length 0) = [.int .i64 2, .string name, .string ⟨#[]⟩, .int .i64 0, .slice none 0 0] := rfl
  rw [opE] at hdn
  simp (disch := omega) only [eY, gN, dX, stepR_skip, fP, fZ, fO, gK, gE, gC, gR, gA, eU, fV, fT, gG, fS, fM, fU, fR, fX, gH, fY, fQ, fC, gB, gI, fL, iS, iQ, iO, iR, iM, iN, iP, iU, iT, eP, Result.ok.injEq, Next.value.injEq, true_and, and_true, fK, fJ, gJ, fN, gD, gS, ZV, fE, fH, fF, fD, eZ, eX, fB, eT, eQ, eH, if_true, if_false, ZS, ZY, ZT, ZU, ZX, ZW, ZR, ZQ, eA, dV, aB, dI, dE, cJ, eB, eS, eE, dK, eD, fA, dQ, eN, bQ, dG, bJ, dL, aI, aH, eL, aV, bZ, eI, aF, eJ, dF, aR, bF, eF, bH, bE, bB, aO, aL, cD, fG, dY, cA, cI, dA, cH, dT, bC, eK, bX, dH, bP, aU, bU, aC, bY, bO, cF, bW, aY, bA, aX, bV, dM, cU, bR, aZ, aK, aJ, bG, aE, dC, dW, aN, aM, aT, aD, cY, aG, cL, bT, bD, aP, cM, cG, aA, dN, cQ, cV, cC, dO, cB, dJ, dU, cP, eC, eM, bN, aS, dZ, bS, aQ, bL, dS, dB, cO, cS, cN, bK, bM, cX, dR, cR, dD, cZ, n1, c2, l0]
  exact hdn
def Ng (S : jZ) (old name : ByteArray) : jZ × Int := if S.down then (S, 20) else if Lj old = false ∨ Lj name = false then (S, 1) else if (jE old S.seen).isNone then (S, 21) else AZ S ⟨1, old, name, 0, []⟩
theorem T8 {p : Nat} {X D : Nat -> Prop} {S : jZ} {old name : ByteArray} {w : adV} (h : lY w p X D S) (hB : YA S) :
 gU pg rL #[dP p, .string old, .string name] w (fun r w' => r = .int .i64 (Ng S old name).2 /\ BM w p X D (Ng S old name).1 w') := by
 refine Ie ?_
 unfold Gh wH Ng
 refine (VC h).mono ?_
 rintro r w1 ⟨rfl, rfl⟩
 by_cases hd : S.down = true
 .rw [if_pos hd, if_pos hd]
  have n1 : ((20 : Int) != 0) = true := rfl
  simp (disch := omega) only [eY, gN, dX, stepR_skip, fP, fZ, fO, gK, gE, gC, gR, gA, eU, fV, fT, gG, fS, fM, fU, fR, fX, gH, fY, fQ, fC, gB, gI, fL, iS, iQ, iO, iR, iM, iN, iP, iU, iT, eP, Result.ok.injEq, Next.value.injEq, true_and, and_true, fK, fJ, gJ, fN, gD, gS, ZV, fE, fH, fF, fD, eZ, eX, fB, eT, eQ, eH, if_true, if_false, ZS, ZY, ZT, ZU, ZX, ZW, ZR, ZQ, eA, dV, aB, dI, dE, cJ, eB, eS, eE, dK, eD, fA, dQ, eN, bQ, dG, bJ, dL, aI, aH, eL, aV, bZ, eI, aF, eJ, dF, aR, bF, eF, bH, bE, bB, aO, aL, cD, fG, dY, cA, cI, dA, cH, dT, bC, eK, bX, dH, bP, aU, bU, aC, bY, bO, cF, bW, aY, bA, aX, bV, dM, cU, bR, aZ, aK, aJ, bG, aE, dC, dW, aN, aM, aT, aD, cY, aG, cL, bT, bD, aP, cM, cG, aA, dN, cQ, cV, cC, dO, cB, dJ, dU, cP, eC, eM, bN, aS, dZ, bS, aQ, bL, dS, dB, cO, cS, cN, bK, bM, cX, dR, cR, dD, cZ, n1]
  exact BM.refl h
 rw [if_neg hd, if_neg hd]
 have n1 : ((0 : Int) != 0) = false := rfl
 have h' := h
 obtain ⟨ms, mn, sv, ls, ln, cs, h1, h2, h3, h4, h5, h6, hXD, hDl, op, hms, hmn, hfs, hfn, hun, hop⟩ := h'
 have h7 : ∀ b, X b -> b < w1.heap.size := fun b hb => hDl b (hXD b hb)
 have c2 := op.cell (off := 2)
 simp only [ZQ, ZR] at c2
 simp (disch := omega) only [eY, gN, dX, stepR_skip, fP, fZ, fO, gK, gE, gC, gR, gA, eU, fV, fT, gG, fS, fM, fU, fR, fX, gH, fY, fQ, fC, gB, gI, fL, iS, iQ, iO, iR, iM, iN, iP, iU, iT, eP, Result.ok.injEq, Next.value.injEq, true_and, and_true, fK, fJ, gJ, fN, gD, gS, ZV, fE, fH, fF, fD, eZ, eX, fB, eT, eQ, eH, if_true, if_false, ZS, ZY, ZT, ZU, ZX, ZW, ZR, ZQ, eA, dV, aB, dI, dE, cJ, eB, eS, eE, dK, eD, fA, dQ, eN, bQ, dG, bJ, dL, aI, aH, eL, aV, bZ, eI, aF, eJ, dF, aR, bF, eF, bH, bE, bB, aO, aL, cD, fG, dY, cA, cI, dA, cH, dT, bC, eK, bX, dH, bP, aU, bU, aC, bY, bO, cF, bW, aY, bA, aX, bV, dM, cU, bR, aZ, aK, aJ, bG, aE, dC, dW, aN, aM, aT, aD, cY, aG, cL, bT, bD, aP, cM, cG, aA, dN, cQ, cV, cC, dO, cB, dJ, dU, cP, eC, eM, bN, aS, dZ, bS, aQ, bL, dS, dB, cO, cS, cN, bK, bM, cX, dR, cR, dD, cZ, n1]
 refine (Vu old _).mono ?_
 rintro r w2 ⟨rfl, hw⟩
 rw [hw]; clear hw w2
 cases hm1 : Lj old with
 | false =>
   rw [if_pos (.inl rfl)]
   simp (disch := omega) only [eY, gN, dX, stepR_skip, fP, fZ, fO, gK, gE, gC, gR, gA, eU, fV, fT, gG, fS, fM, fU, fR, fX, gH, fY, fQ, fC, gB, gI, fL, iS, iQ, iO, iR, iM, iN, iP, iU, iT, eP, Result.ok.injEq, Next.value.injEq, true_and, and_true, fK, fJ, gJ, fN, gD, gS, ZV, fE, fH, fF, fD, eZ, eX, fB, eT, eQ, eH, if_true, if_false, ZS, ZY, ZT, ZU, ZX, ZW, ZR, ZQ, eA, dV, aB, dI, dE, cJ, eB, eS, eE, dK, eD, fA, dQ, eN, bQ, dG, bJ, dL, aI, aH, eL, aV, bZ, eI, aF, eJ, dF, aR, bF, eF, bH, bE, bB, aO, aL, cD, fG, dY, cA, cI, dA, cH, dT, bC, eK, bX, dH, bP, aU, bU, aC, bY, bO, cF, bW, aY, bA, aX, bV, dM, cU, bR, aZ, aK, aJ, bG, aE, dC, dW, aN, aM, aT, aD, cY, aG, cL, bT, bD, aP, cM, cG, aA, dN, cQ, cV, cC, dO, cB, dJ, dU, cP, eC, eM, bN, aS, dZ, bS, aQ, bL, dS, dB, cO, cS, cN, bK, bM, cX, dR, cR, dD, cZ]
   exact BM.refl h
 | true =>
   simp (disch := omega) only [eY, gN, dX, stepR_skip, fP, fZ, fO, gK, gE, gC, gR, gA, eU, fV, fT, gG, fS, fM, fU, fR, fX, gH, fY, fQ, fC, gB, gI, fL, iS, iQ, iO, iR, iM, iN, iP, iU, iT, eP, Result.ok.injEq, Next.value.injEq, true_and, and_true, fK, fJ, gJ, fN, gD, gS, ZV, fE, fH, fF, fD, eZ, eX, fB, eT, eQ, eH, if_true, if_false, ZS, ZY, ZT, ZU, ZX, ZW, ZR, ZQ, eA, dV, aB, dI, dE, cJ, eB, eS, eE, dK, eD, fA, dQ, eN, bQ, dG, bJ, dL, aI, aH, eL, aV, bZ, eI, aF, eJ, dF, aR, bF, eF, bH, bE, bB, aO, aL, cD, fG, dY, cA, cI, dA, cH, dT, bC, eK, bX, dH, bP, aU, bU, aC, bY, bO, cF, bW, aY, bA, aX, bV, dM, cU, bR, aZ, aK, aJ, bG, aE, dC, dW, aN, aM, aT, aD, cY, aG, cL, bT, bD, aP, cM, cG, aA, dN, cQ, cV, cC, dO, cB, dJ, dU, cP, eC, eM, bN, aS, dZ, bS, aQ, bL, dS, dB, cO, cS, cN, bK, bM, cX, dR, cR, dD, cZ]
   refine (Vu name _).mono ?_
   rintro r w2 ⟨rfl, hw⟩
   rw [hw]; clear hw w2
   cases hm2 : Lj name with
   | false =>
     rw [if_pos (.inr rfl)]
     simp (disch := omega) only [eY, gN, dX, stepR_skip, fP, fZ, fO, gK, gE, gC, gR, gA, eU, fV, fT, gG, fS, fM, fU, fR, fX, gH, fY, fQ, fC, gB, gI, fL, iS, iQ, iO, iR, iM, iN, iP, iU, iT, eP, Result.ok.injEq, Next.value.injEq, true_and, and_true, fK, fJ, gJ, fN, gD, gS, ZV, fE, fH, fF, fD, eZ, eX, fB, eT, eQ, eH, if_true, if_false, ZS, ZY, ZT, ZU, ZX, ZW, ZR, ZQ, eA, dV, aB, dI, dE, cJ, eB, eS, eE, dK, eD, fA, dQ, eN, bQ, dG, bJ, dL, aI, aH, eL, aV, bZ, eI, aF, eJ, dF, aR, bF, eF, bH, bE, bB, aO, aL, cD, fG, dY, cA, cI, dA, cH, dT, bC, eK, bX, dH, bP, aU, bU, aC, bY, bO, cF, bW, aY, bA, aX, bV, dM, cU, bR, aZ, aK, aJ, bG, aE, dC, dW, aN, aM, aT, aD, cY, aG, cL, bT, bD, aP, cM, cG, aA, dN, cQ, cV, cC, dO, cB, dJ, dU, cP, eC, eM, bN, aS, dZ, bS, aQ, bL, dS, dB, cO, cS, cN, bK, bM, cX, dR, cR, dD, cZ]
     exact BM.refl h
   | true =>
     rw [if_neg (by simp)]
     have l0 := Bw hmn old
     rcases hfn.get old with ⟨q1, q2⟩ | ⟨v, b, q1, q2, q3⟩
     .rw [q1] at l0
      have l0 : (Ak 61 (.map (some mn)) (.string old) true).run pg w1 = .ok (.value (.tuple #[.slice none 0 0, .bool false])) w1 := l0
      rw [q2, if_pos (show (none : Option (List UInt8)).isNone = true from rfl)]
      simp (disch := omega) only [eY, gN, dX, stepR_skip, fP, fZ, fO, gK, gE, gC, gR, gA, eU, fV, fT, gG, fS, fM, fU, fR, fX, gH, fY, fQ, fC, gB, gI, fL, iS, iQ, iO, iR, iM, iN, iP, iU, iT, eP, Result.ok.injEq, Next.value.injEq, true_and, and_true, fK, fJ, gJ, fN, gD, gS, ZV, fE, fH, fF, fD, eZ, eX, fB, eT, eQ, eH, if_true, if_false, ZS, ZY, ZT, ZU, ZX, ZW, ZR, ZQ, eA, dV, aB, dI, dE, cJ, eB, eS, eE, dK, eD, fA, dQ, eN, bQ, dG, bJ, dL, aI, aH, eL, aV, bZ, eI, aF, eJ, dF, aR, bF, eF, bH, bE, bB, aO, aL, cD, fG, dY, cA, cI, dA, cH, dT, bC, eK, bX, dH, bP, aU, bU, aC, bY, bO, cF, bW, aY, bA, aX, bV, dM, cU, bR, aZ, aK, aJ, bG, aE, dC, dW, aN, aM, aT, aD, cY, aG, cL, bT, bD, aP, cM, cG, aA, dN, cQ, cV, cC, dO, cB, dJ, dU, cP, eC, eM, bN, aS, dZ, bS, aQ, bL, dS, dB, cO, cS, cN, bK, bM, cX, dR, cR, dD, cZ, n1, c2, l0]
      exact BM.refl h
     .obtain ⟨a', c', rfl⟩ := GR.slice q3
      rw [q1] at l0
      have l0 : (Ak 61 (.map (some mn)) (.string old) true).run pg w1 = .ok (.value (.tuple #[.slice a' b.length c', .bool true])) w1 := l0
      rw [q2, if_neg (show ¬ (some b).isNone = true by simp)]
      have hdn := SA (o := ⟨1, old, name, 0, []⟩) (va := none) (vc := 0) h ⟨Sl.nil _, fun h => h⟩ hB.left hB.seen (show 0 <= _ by omega) (show 0 <= _ by omega) hB.under
      have opE : Pg ⟨1, old, name, 0, []⟩ (.slice none ([] : List UInt8).length 0) = [.int .i64 1, .string old, .string name, .int .i64 0, .slice none 0 0] := rfl
      rw [opE] at hdn
      simp (disch := omega) only [eY, gN, dX, stepR_skip, fP, fZ, fO, gK, gE, gC, gR, gA, eU, fV, fT, gG, fS, fM, fU, fR, fX, gH, fY, fQ, fC, gB, gI, fL, iS, iQ, iO, iR, iM, iN, iP, iU, iT, eP, Result.ok.injEq, Next.value.injEq, true_and, and_true, fK, fJ, gJ, fN, gD, gS, ZV, fE, fH, fF, fD, eZ, eX, fB, eT, eQ, eH, if_true, if_false, ZS, ZY, ZT, ZU, ZX, ZW, ZR, ZQ, eA, dV, aB, dI, dE, cJ, eB, eS, eE, dK, eD, fA, dQ, eN, bQ, dG, bJ, dL, aI, aH, eL, aV, bZ, eI, aF, eJ, dF, aR, bF, eF, bH, bE, bB, aO, aL, cD, fG, dY, cA, cI, dA, cH, dT, bC, eK, bX, dH, bP, aU, bU, aC, bY, bO, cF, bW, aY, bA, aX, bV, dM, cU, bR, aZ, aK, aJ, bG, aE, dC, dW, aN, aM, aT, aD, cY, aG, cL, bT, bD, aP, cM, cG, aA, dN, cQ, cV, cC, dO, cB, dJ, dU, cP, eC, eM, bN, aS, dZ, bS, aQ, bL, dS, dB, cO, cS, cN, bK, bM, cX, dR, cR, dD, cZ, n1, c2, l0]
      exact hdn
def Ew (S : jZ) : jZ × Int :=
 if S.down then (S, 20) else if TQ S then ({ S with left := IK S.left, down := TQ S }, 20)
 else ({ S with left := IK S.left, down := TQ S, sure := S.seen, under := [] }, 0)
theorem Yk {p : Nat} {X D : Nat -> Prop} {S : jZ} {w : adV} (h : lY w p X D S) (hB : YA S) :
 gU pg jN #[dP p] w (fun r w' => r = .int .i64 (Ew S).2 /\ BM w p X D (Ew S).1 w') := by
 refine JS ?_
 unfold Ja AD Ew
 refine (VC h).mono ?_
 rintro r w1 ⟨rfl, rfl⟩
 by_cases hd : S.down = true
 .rw [if_pos hd, if_pos hd]
  have n1 : ((20 : Int) != 0) = true := rfl
  simp (disch := omega) only [eY, gN, dX, stepR_skip, fP, fZ, fO, gK, gE, gC, gR, gA, eU, fV, fT, gG, fS, fM, fU, fR, fX, gH, fY, fQ, fC, gB, gI, fL, iS, iQ, iO, iR, iM, iN, iP, iU, iT, eP, Result.ok.injEq, Next.value.injEq, true_and, and_true, fK, fJ, gJ, fN, gD, gS, ZV, fE, fH, fF, fD, eZ, eX, fB, eT, eQ, eH, if_true, if_false, ZS, ZY, ZT, ZU, ZX, ZW, ZR, ZQ, eA, dV, aB, dI, dE, cJ, eB, eS, eE, dK, eD, fA, dQ, eN, bQ, dG, bJ, dL, aI, aH, eL, aV, bZ, eI, aF, eJ, dF, aR, bF, eF, bH, bE, bB, aO, aL, cD, fG, dY, cA, cI, dA, cH, dT, bC, eK, bX, dH, bP, aU, bU, aC, bY, bO, cF, bW, aY, bA, aX, bV, dM, cU, bR, aZ, aK, aJ, bG, aE, dC, dW, aN, aM, aT, aD, cY, aG, cL, bT, bD, aP, cM, cG, aA, dN, cQ, cV, cC, dO, cB, dJ, dU, cP, eC, eM, bN, aS, dZ, bS, aQ, bL, dS, dB, cO, cS, cN, bK, bM, cX, dR, cR, dD, cZ, n1]
  exact BM.refl h
 rw [if_neg hd, if_neg hd]
 have n1 : ((0 : Int) != 0) = false := rfl
 obtain ⟨ms, mn, sv, ls, ln, cs, h1, h2, h3, h4, h5, h6, hXD, hDl, op, hms, hmn, hfs, hfn, hun, hop⟩ := h
 have h7 := fun b (hb : X b) => hDl b (hXD b hb)
 simp (disch := omega) only [eY, gN, dX, stepR_skip, fP, fZ, fO, gK, gE, gC, gR, gA, eU, fV, fT, gG, fS, fM, fU, fR, fX, gH, fY, fQ, fC, gB, gI, fL, iS, iQ, iO, iR, iM, iN, iP, iU, iT, eP, Result.ok.injEq, Next.value.injEq, true_and, and_true, fK, fJ, gJ, fN, gD, gS, ZV, fE, fH, fF, fD, eZ, eX, fB, eT, eQ, eH, if_true, if_false, ZS, ZY, ZT, ZU, ZX, ZW, ZR, ZQ, eA, dV, aB, dI, dE, cJ, eB, eS, eE, dK, eD, fA, dQ, eN, bQ, dG, bJ, dL, aI, aH, eL, aV, bZ, eI, aF, eJ, dF, aR, bF, eF, bH, bE, bB, aO, aL, cD, fG, dY, cA, cI, dA, cH, dT, bC, eK, bX, dH, bP, aU, bU, aC, bY, bO, cF, bW, aY, bA, aX, bV, dM, cU, bR, aZ, aK, aJ, bG, aE, dC, dW, aN, aM, aT, aD, cY, aG, cL, bT, bD, aP, cM, cG, aA, dN, cQ, cV, cC, dO, cB, dJ, dU, cP, eC, eM, bN, aS, dZ, bS, aQ, bL, dS, dB, cO, cS, cN, bK, bM, cX, dR, cR, dD, cZ, n1]
 refine (Tn op hB.left).mono ?_
 rintro r w2 ⟨rfl, op2, x2⟩
 have hdn : (S.down || S.left == 0) = TQ S := rfl
 rw [hdn] at op2 ⊢
 have xX : gX w1 w2 X := x2.mono fun b _ h => h ▸ h1
 have xD : gX w1 w2 D := xX.mono fun b _ h => hXD b h
 have z2 := x2.size
 have h72 : ∀ b, X b -> b < w2.heap.size := fun b hb => by have := h7 b hb; omega
 have hD2 : ∀ b, D b -> b < w2.heap.size := fun b hb => by have := hDl b hb; omega
 have hms2 := hms.ext x2 (fun h => h4 h.symm)
 have hmn2 := hmn.ext x2 (fun h => h5 h.symm)
 have hfs2 := hfs.ext xD fun _ h => h
 have hfn2 := hfn.ext xD fun _ h => h
 cases hD : TQ S with
 | true =>
   rw [hD] at op2
   rw [if_pos rfl]
   simp (disch := omega) only [eY, gN, dX, stepR_skip, fP, fZ, fO, gK, gE, gC, gR, gA, eU, fV, fT, gG, fS, fM, fU, fR, fX, gH, fY, fQ, fC, gB, gI, fL, iS, iQ, iO, iR, iM, iN, iP, iU, iT, eP, Result.ok.injEq, Next.value.injEq, true_and, and_true, fK, fJ, gJ, fN, gD, gS, ZV, fE, fH, fF, fD, eZ, eX, fB, eT, eQ, eH, if_true, if_false, ZS, ZY, ZT, ZU, ZX, ZW, ZR, ZQ, eA, dV, aB, dI, dE, cJ, eB, eS, eE, dK, eD, fA, dQ, eN, bQ, dG, bJ, dL, aI, aH, eL, aV, bZ, eI, aF, eJ, dF, aR, bF, eF, bH, bE, bB, aO, aL, cD, fG, dY, cA, cI, dA, cH, dT, bC, eK, bX, dH, bP, aU, bU, aC, bY, bO, cF, bW, aY, bA, aX, bV, dM, cU, bR, aZ, aK, aJ, bG, aE, dC, dW, aN, aM, aT, aD, cY, aG, cL, bT, bD, aP, cM, cG, aA, dN, cQ, cV, cC, dO, cB, dJ, dU, cP, eC, eM, bN, aS, dZ, bS, aQ, bL, dS, dB, cO, cS, cN, bK, bM, cX, dR, cR, dD, cZ]
   exact ⟨X, D, ⟨ms, mn, sv, ls, ln, cs, h1, h2, h3, h4, h5, h6, hXD, hD2, op2, hms2, hmn2, hfs2, hfn2, hun.ext x2 (fun b hb h => hb.2.1 h), hop.ext xD fun _ h => h⟩, fun _ h => .inl h, fun _ h => h, xX⟩
 | false =>
   rw [hD] at op2
   rw [if_neg (by decide)]
   have c2 := op2.cell (off := 2)
   simp only [ZQ, ZR] at c2
   simp (disch := omega) only [eY, gN, dX, stepR_skip, fP, fZ, fO, gK, gE, gC, gR, gA, eU, fV, fT, gG, fS, fM, fU, fR, fX, gH, fY, fQ, fC, gB, gI, fL, iS, iQ, iO, iR, iM, iN, iP, iU, iT, eP, Result.ok.injEq, Next.value.injEq, true_and, and_true, fK, fJ, gJ, fN, gD, gS, ZV, fE, fH, fF, fD, eZ, eX, fB, eT, eQ, eH, if_true, if_false, ZS, ZY, ZT, ZU, ZX, ZW, ZR, ZQ, eA, dV, aB, dI, dE, cJ, eB, eS, eE, dK, eD, fA, dQ, eN, bQ, dG, bJ, dL, aI, aH, eL, aV, bZ, eI, aF, eJ, dF, aR, bF, eF, bH, bE, bB, aO, aL, cD, fG, dY, cA, cI, dA, cH, dT, bC, eK, bX, dH, bP, aU, bU, aC, bY, bO, cF, bW, aY, bA, aX, bV, dM, cU, bR, aZ, aK, aJ, bG, aE, dC, dW, aN, aM, aT, aD, cY, aG, cL, bT, bD, aP, cM, cG, aA, dN, cQ, cV, cC, dO, cB, dJ, dU, cP, eC, eM, bN, aS, dZ, bS, aQ, bL, dS, dB, cO, cS, cN, bK, bM, cX, dR, cR, dD, cZ, c2]
   refine (VK hmn2).mono ?_
   rintro r w3 ⟨rfl, hmc, x3, s3⟩
   have op3 := op2.ext x3 (fun h => h)
   refine Pn op3 rfl (by simp) fun w4 op4 x4 s4 => ?_
   simp only [aaD, aaW] at op4
   refine B9 op4 rfl (by simp) fun w5 op5 x5 s5 => ?_
   simp only [aaD, aaW] at op5
   have hp2 : p < w2.heap.size := op2.lt
   have hmn2l := hmn2.lt
   have x45 : gX w3 w5 (fun y => y = p) := x4.seq x5
   obtain ⟨Y, hY⟩ : ∃ Y : Nat -> Prop, Y = fun b => X b ∨ b = w2.heap.size := ⟨_, rfl⟩
   have hYX : ∀ b, X b -> Y b := fun b h => by rw [hY]; exact .inl h
   have hY2 : ∀ b, Y b -> X b ∨ w2.heap.size <= b := fun b h => by rw [hY] at h; rcases h with h | h; exact .inl h; exact .inr (by omega)
   obtain ⟨E, hE⟩ : ∃ E : Nat -> Prop, E = fun b => D b ∨ b = w2.heap.size := ⟨_, rfl⟩
   have hED : ∀ b, D b -> E b := fun b h => by rw [hE]; exact .inl h
   have hYE : ∀ b, Y b -> E b := fun b h => by rw [hY] at h; rw [hE]; rcases h with h | h; exact .inl (hXD b h); exact .inr h
   have hE2 : ∀ b, E b -> D b ∨ w2.heap.size <= b := fun b h => by rw [hE] at h; rcases h with h | h; exact .inl h; exact .inr (by omega)
   have x3Y : gX w2 w3 E := x3.mono fun _ _ h => h.elim
   have x45Y : gX w3 w5 E := x45.mono fun b _ h => by rw [h]; exact hED _ (hXD _ h1)
   have dat : ∀ v b, GR w2 D v b -> GR w5 E v b := fun v b hd => ((hd.sub hE2).ext x3Y fun _ h => h).ext x45Y fun _ h => h
   refine ⟨Y, E, ⟨w2.heap.size, mn, .slice none 0 0, ln, ln, [], hYX _ h1, by rw [hY]; exact .inr rfl, hYX _ h3, by omega, h5, by omega, hYE, fun b h => ?_, op5, hmc.ext x45 (by omega), (hmn2.ext x3 (fun h => h)).ext x45 (fun h => h5 h.symm), hfn2.map dat, hfn2.map dat, ⟨rfl, .inl ⟨rfl, rfl⟩⟩, rfl⟩, fun b h => ?_, hED, (xX.trans x3 fun _ _ h => h.elim).trans x45 fun b _ h => by rw [h]; exact h1⟩
   .rw [hE] at h
    rcases h with h | h
    .have := hD2 b h; omega
    .omega
   .rcases hY2 b h with h | h
    .exact .inl h
    .exact .inr (by omega)
end Go.Proofs.YteelnmpbnaohpaaDoor
namespace Go.Proofs.YteelnmpbnaohpaaDoor
open Go Go.En Go.Pu
structure TW where
 size : Nat
 part : Nat
 leaves : List (List UInt8)
structure nS where
 nm : ByteArray
 man : TW
 epoch : Nat
 hv : List Bool
 log : Nat
 fin : Bool
 err : Int
def iC (n : ByteArray) : ByteArray := n ++ ⟨#[46, 112, 97, 114, 116]⟩
def jH (n : ByteArray) : ByteArray := n ++ ⟨#[46, 108, 111, 103]⟩
section
variable (lf : List UInt8 -> List UInt8) (cf : List UInt8 -> Nat)
def Bk (m : TW) (i : Nat) (b : List UInt8) : Bool := b.length == IX m.size m.part i && lf b == m.leaves.getD i []
def wholeAt (m : TW) (b : List UInt8) (i : Nat) : Bool := decide (m.part * i + IX m.size m.part i <= b.length) && Bk lf m i (yP m.size m.part i b)
def jC (m : TW) (b : List UInt8) : List Bool := (List.range m.leaves.length).map (wholeAt lf m b)
def CR (l : List Bool) : Bool := !l.contains false
def iX (S : jZ) (n : ByteArray) : List UInt8 × Bool × Int := if S.down then ([], false, 20) else match jE n S.seen with
 | none => ([], false, 0)
 | some b => (b, true, 0)
def kO (S : jZ) (s : nS) (k v : Nat) : jZ × nS × Int :=
 let r := IW S (jH s.nm) s.log (tJ cf k v)
 if r.2 = 0 then (r.1, { s with log := s.log + 13 }, 0) else (r.1, s, r.2)
def jS (S : jZ) (s : nS) : jZ × List UInt8 × Int :=
 let r := iX S (iC s.nm)
 if r.2.2 ≠ 0 then (S, [], r.2.2)
 else if s.man.size < r.1.length then
  let d := UB S (iC s.nm)
  if d.2 ≠ 0 then (d.1, [], d.2) else
    let e := IW d.1 (iC s.nm) 0 (List.replicate s.man.size 0)
    (e.1, [], e.2)
 else if r.1.length < s.man.size ∨ r.2.1 = false then
  let e := IW S (iC s.nm) r.1.length (List.replicate (s.man.size - r.1.length) 0)
  (e.1, r.1, e.2)
 else (S, r.1, 0)
def rW (l : List (Nat × Nat)) (w : List Bool) (n : Nat) : List Bool := (List.range n).map fun i => l.any (fun r => r.1 == 2 && r.2 == i) && w.getD i false
def C7 (S : jZ) (n : ByteArray) (m : TW) : jZ × Option nS × Int :=
 let r := iX S n
 if r.2.2 ≠ 0 then (S, none, r.2.2) else
 let hv := jC lf m r.1
 let fin := r.2.1 && r.1.length == m.size && CR hv
 let g := iX S (jH n)
 if g.2.2 ≠ 0 then (S, none, g.2.2) else
 let l := mO cf g.1
 let last := kB 1 l
 if last = 18446744073709551615 then (S, none, 23) else
 let s : nS := ⟨n, m, last + 1, hv, 13 * l.length, fin, 0⟩
 let q := kO cf S s 1 (last + 1)
 if q.2.2 ≠ 0 then (q.1, none, q.2.2) else
 if fin then
   let y := Ew q.1
   if y.2 ≠ 0 then (y.1, none, y.2) else (y.1, some q.2.1, 0)
 else
  let f := jS q.1 q.2.1
  if f.2.2 ≠ 0 then (f.1, none, f.2.2) else
  let y := Ew f.1
  if y.2 ≠ 0 then (y.1, none, y.2) else (y.1, some { q.2.1 with hv := rW l (jC lf m f.2.1) m.leaves.length }, 0)
def mK (S : jZ) (s : nS) (i : Nat) (b : List UInt8) : jZ × nS × Int :=
 let r := IW S (iC s.nm) (s.man.part * i : Nat) b
 if r.2 ≠ 0 then (r.1, s, r.2) else
 let y := Ew r.1
 if y.2 ≠ 0 then (y.1, s, y.2) else
 let q := kO cf y.1 s 2 i
 if q.2.2 ≠ 0 then (q.1, q.2.1, q.2.2) else
 let z := Ew q.1
 (z.1, q.2.1, z.2)
def BI (S : jZ) (s : nS) (i : Int) (b : List UInt8) : jZ × nS × Int :=
 if s.err ≠ 0 then (S, s, s.err)
 else if i < 0 ∨ (s.hv.length : Int) <= i then (S, s, 17)
 else if s.fin || s.hv.getD i.toNat false then (S, s, 0)
 else if Bk lf s.man i.toNat b = false then (S, s, 13)
 else
  let q := mK cf S s i.toNat b
  (q.1, { q.2.1 with err := q.2.2, hv := q.2.1.hv.set i.toNat (q.2.2 == 0) }, q.2.2)
def lZ (S : jZ) (s : nS) : jZ × nS × Int :=
 if s.err ≠ 0 then (S, s, s.err)
 else if s.fin then (S, s, 0)
 else if CR s.hv = false then (S, s, 30)
 else if S.down then (S, { s with err := 20 }, 20)
 else match jE (iC s.nm) S.seen with
 | none => (S, { s with err := 21 }, 21)
 | some b =>
   if CR (jC lf s.man b) = false then (S, { s with hv := jC lf s.man b }, 13)
   else
    let r := Ng S (iC s.nm) s.nm
    if r.2 ≠ 0 then (r.1, { s with hv := jC lf s.man b, err := r.2, fin := false }, r.2) else
    let y := Ew r.1
    (y.1, { s with hv := jC lf s.man b, err := y.2, fin := y.2 == 0 }, y.2)
def kZ (f : List UInt8) (k : Nat) : TW := ⟨f.length, k, (List.range (mM f.length k)).map fun i => lf (yP f.length k i f)⟩
end
end Go.Proofs.YteelnmpbnaohpaaDoor
