/- Parts of the proof of DecodePlain: merged and given short names by a program of ours. -/
import Derived.WalkKit
import Derived.ProofKit
import Derived.OpenShut
import Derived.Test.YthohephggmkeeaaDoorZpB
set_option linter.unusedVariables false
set_option linter.unusedSimpArgs false
open Bool renaming false_eq_true → PG, not_false → PK, not_true → PL, and_eq_true → PO
open Int renaming toNat_natCast → PJ, fdiv_eq_ediv_of_nonneg → Qb
open List renaming take_succ_cons → P0, append_assoc → P1, getElem?_append_left → P3, drop_zero → P5, take_zero → P6, getD_eq_getElem?_getD → P7, getElem?_cons_zero → PE, getElem?_cons_succ → PF, length_append → PN, length_map → PQ, length_take → PR, getElem?_eq_getElem → PT, length_drop → PU, set_cons_zero → PV, set_cons_succ → PW, take_of_length_le → PX, take_append → Q1, set_append_left → Q5, getElem?_take_of_lt → QB, append_nil → QF, mem_append_right → QJ, map_cons → QO, map_take → QP, map_drop → QQ, length_set → QV, drop_of_length_le → QZ, take_append_of_le_length → Qc, set_append_right → Qh, getElem?_append_right → Ql, map_congr_left → Qm, drop_drop → Qr, mem_append_left → Qs, getElem?_map → Qv
open Nat renaming zero_add → PM, le_refl → PY, pow_succ → Q4, add_sub_cancel_left → QD, div_div_eq_div_mul → QG, mod_eq_of_lt → Qa, min_eq_left → Qp, pow_le_pow_right → Qt, and_two_pow_sub_one_eq_mod → Qu
open Option renaming isNone_some → PH, isNone_none → PI
open Option.some renaming inj → Qj
open UInt8 renaming toNat_lt → Qq
namespace Go.Proofs.YthohephggmkeeaaDoor
open Go Go.En
set_option maxRecDepth 4000
theorem IN (s : ByteArray) (hs : s.size <= 1099511627776) (w : Q6) (R : Q7 -> Q6 -> Prop) (y : Int) (i : Nat) (hi : i <= s.size)
 (hR : R (.int .u64 (JP (e1 y ((FW s).drop i) ((FW s).drop i).length))) w) :
 zC R (.string s) (.int .u64 y) (.int .i64 (i : Int)) w := by
 obtain ⟨D, hD⟩ : ∃ D, D = (FW s).drop i := ⟨_, rfl⟩
 have hDl : D.length = s.size - i := by rw [hD, PU, oY]
 rw [<- hD] at hR
 unfold zC CI CP
 refine iG.rule (fun m t w' => ∃ j : Nat, i + j <= s.size /\ m = s.size - j /\ t = (.int .u64 (e1 y D j), .int .i64 ((i + j : Nat) : Int)) /\ w' = w) s.size ⟨0, by omega, rfl, rfl, rfl⟩ ?_
 rintro m t w' ⟨j, hj, rfl, rfl, rfl⟩
 have hg : ∀ (h : i + j < s.size), s[i + j]'h = D[j]'(by omega) := fun h => by
  rw [Kt]; simp only [hD, List.getElem_drop]
 obtain ⟨k, hk⟩ : ∃ k, k = i + j := ⟨_, rfl⟩
 rw [<- hk]
 by_cases hlt : k < s.size
 .have hb : (D[j]'(by omega)).toNat < 256 := Qq _
  have hd : decide ((k : Int) < (s.size : Int)) = true := by simpa using hlt
  have hg' : s[k]'hlt = D[j]'(by omega) := by subst hk; exact hg _
  simp (disch := omega) only [uF, dQ, fE, cQ, stepR_skip, eE, eS, eI, eP, eX, fB, fF, eN, dL, eL, eQ, eZ, eC, eF, eJ, eH, eD, fA, eU, eB, dR, eM, eY, eA, fY, gC, gB, fZ, fV, fX, gA, fW, gD, dH, Result.ok.injEq, Next.value.injEq, true_and, and_true, dZ, dY, eT, fC, eK, fG, PJ, dS, dT, dU, dV, dN, dK, dP, dM, dI, cY, if_true, if_false, PG, PM, PH, PI, PL, PK, PF, PE, cR, cO, cH, bY, cV, dJ, bW, bX, cS, cK, cL, dE, cP, dD, dC, dW, cZ, cF, bH, bR, aT, aC, aL, dF, aI, cD, dB, dA, bN, aH, bC, aZ, cM, aD, aX, aM, aV, cU, aW, cJ, bS, aF, aG, aK, dO, aP, aO, bD, aR, cB, aE, bZ, bT, bG, bB, aY, cX, aJ, bM, aU, aQ, aS, aA, dG, cN, bO, aN, cW, bU, bV, cI, bQ, bP, bL, cA, bJ, cC, bA, bK, bF, bE, cG, hd, hg']
  refine (uQ _ 11 (by omega) _).mono ?_
  rintro r w1 ⟨rfl, rfl⟩
  simp (disch := omega) only [dQ, fE, cQ, stepR_skip, eE, eS, eI, eP, eX, fB, fF, eN, dL, eL, eQ, eZ, eC, eF, eJ, eH, eD, fA, eU, eB, dR, eM, eY, eA, fY, gC, gB, fZ, fV, fX, gA, fW, gD, dH, Result.ok.injEq, Next.value.injEq, true_and, and_true, dZ, dY, eT, fC, eK, fG, PJ, dS, dT, dU, dV, dN, dK, dP, dM, dI, cY, if_true, if_false, PG, PM, PH, PI, PL, PK, PF, PE, cR, cO, cH, bY, cV, dJ, bW, bX, cS, cK, cL, dE, cP, dD, dC, dW, cZ, cF, bH, bR, aT, aC, aL, dF, aI, cD, dB, dA, bN, aH, bC, aZ, cM, aD, aX, aM, aV, cU, aW, cJ, bS, aF, aG, aK, dO, aP, aO, bD, aR, cB, aE, bZ, bT, bG, bB, aY, cX, aJ, bM, aU, aQ, aS, aA, dG, cN, bO, aN, cW, bU, bV, cI, bQ, bP, bL, cA, bJ, cC, bA, bK, bF, bE, cG]
  refine ⟨s.size - (j + 1), by omega, j + 1, by omega, rfl, ?_⟩
  have hg : D.getD j 0 = D[j]'(by omega) := by rw [P7, PT (by omega)] <;> rfl
  rw [e1, hg, show i + (j + 1) = k + 1 from by omega]
  rfl
 .have hd : decide ((k : Int) < (s.size : Int)) = false := by simpa using hlt
  have : j = D.length := by omega
  subst this
  simp (disch := omega) only [uF, yY, dQ, fE, cQ, stepR_skip, eE, eS, eI, eP, eX, fB, fF, eN, dL, eL, eQ, eZ, eC, eF, eJ, eH, eD, fA, eU, eB, dR, eM, eY, eA, fY, gC, gB, fZ, fV, fX, gA, fW, gD, dH, Result.ok.injEq, Next.value.injEq, true_and, and_true, dZ, dY, eT, fC, eK, fG, PJ, dS, dT, dU, dV, dN, dK, dP, dM, dI, cY, if_true, if_false, PG, PM, PH, PI, PL, PK, PF, PE, cR, cO, cH, bY, cV, dJ, bW, bX, cS, cK, cL, dE, cP, dD, dC, dW, cZ, cF, bH, bR, aT, aC, aL, dF, aI, cD, dB, dA, bN, aH, bC, aZ, cM, aD, aX, aM, aV, cU, aW, cJ, bS, aF, aG, aK, dO, aP, aO, bD, aR, cB, aE, bZ, bT, bG, bB, aY, cX, aJ, bM, aU, aQ, aS, aA, dG, cN, bO, aN, cW, bU, bV, cI, bQ, bP, bL, cA, bJ, cC, bA, bK, bF, bE, cG, hd]
  exact hR
theorem I2 (s : ByteArray) (hs : s.size <= 1099511627776) (w0 : Q6) (R : Q7 -> Q6 -> Prop) (x : Int) (i : Nat) (hi : i <= s.size)
 (hR : ∀ w, fU w0 w kY -> R (.int .u64 (JP (IU x ((FW s).drop i)))) w) :
 ∀ w, fU w0 w kY -> wB R (.string s) (.int .u64 x) (.int .i64 (i : Int)) w := by
 intro w hx
 obtain ⟨B, hB⟩ : ∃ B, B = (FW s).drop i := ⟨_, rfl⟩
 have hBl : B.length = s.size - i := by rw [hB, PU, oY]
 rw [<- hB] at hR
 unfold wB Br CL
 refine iG.rule (fun n t w' => ∃ j : Nat, 8 * j <= B.length /\ n = B.length - j /\ t = (.int .u64 (e8 x B j), .int .i64 ((i + 8 * j : Nat) : Int)) /\ fU w0 w' kY) B.length ⟨0, by omega, rfl, rfl, hx⟩ ?_
 rintro n t w ⟨j, hj, rfl, rfl, hx⟩
 have hBd : (FW s).drop (i + 8 * j) = B.drop (8 * j) := by rw [hB, Qr]
 obtain ⟨k, hk⟩ : ∃ k, k = i + 8 * j := ⟨_, rfl⟩
 rw [<- hk] at hBd
 rw [<- hk]
 by_cases h8 : k + 8 <= s.size
 .have hd : decide ((k : Int) + 8 <= (s.size : Int)) = true := by simp; omega
  simp (disch := omega) only [uN, dQ, fE, cQ, stepR_skip, eE, eS, eI, eP, eX, fB, fF, eN, dL, eL, eQ, eZ, eC, eF, eJ, eH, eD, fA, eU, eB, dR, eM, eY, eA, fY, gC, gB, fZ, fV, fX, gA, fW, gD, dH, Result.ok.injEq, Next.value.injEq, true_and, and_true, dZ, dY, eT, fC, eK, fG, PJ, dS, dT, dU, dV, dN, dK, dP, dM, dI, cY, if_true, if_false, PG, PM, PH, PI, PL, PK, PF, PE, cR, cO, cH, bY, cV, dJ, bW, bX, cS, cK, cL, dE, cP, dD, dC, dW, cZ, cF, bH, bR, aT, aC, aL, dF, aI, cD, dB, dA, bN, aH, bC, aZ, cM, aD, aX, aM, aV, cU, aW, cJ, bS, aF, aG, aK, dO, aP, aO, bD, aR, cB, aE, bZ, bT, bG, bB, aY, cX, aJ, bM, aU, aQ, aS, aA, dG, cN, bO, aN, cW, bU, bV, cI, bQ, bP, bL, cA, bJ, cC, bA, bK, bF, bE, cG, hd]
  refine (Ko s k 8 (by omega) (by omega) h8 w).mono ?_
  rintro r w1 ⟨rfl, x1⟩
  refine (D4 _ _ _).mono ?_
  rintro r w2 ⟨rfl, rfl⟩
  simp (disch := omega) only [dQ, fE, cQ, stepR_skip, eE, eS, eI, eP, eX, fB, fF, eN, dL, eL, eQ, eZ, eC, eF, eJ, eH, eD, fA, eU, eB, dR, eM, eY, eA, fY, gC, gB, fZ, fV, fX, gA, fW, gD, dH, Result.ok.injEq, Next.value.injEq, true_and, and_true, dZ, dY, eT, fC, eK, fG, PJ, dS, dT, dU, dV, dN, dK, dP, dM, dI, cY, if_true, if_false, PG, PM, PH, PI, PL, PK, PF, PE, cR, cO, cH, bY, cV, dJ, bW, bX, cS, cK, cL, dE, cP, dD, dC, dW, cZ, cF, bH, bR, aT, aC, aL, dF, aI, cD, dB, dA, bN, aH, bC, aZ, cM, aD, aX, aM, aV, cU, aW, cJ, bS, aF, aG, aK, dO, aP, aO, bD, aR, cB, aE, bZ, bT, bG, bB, aY, cX, aJ, bM, aU, aQ, aS, aA, dG, cN, bO, aN, cW, bU, bV, cI, bQ, bP, bL, cA, bJ, cC, bA, bK, bF, bE, cG]
  refine (uQ _ 27 (by omega) _).mono ?_
  rintro r w2 ⟨rfl, rfl⟩
  simp (disch := omega) only [dQ, fE, cQ, stepR_skip, eE, eS, eI, eP, eX, fB, fF, eN, dL, eL, eQ, eZ, eC, eF, eJ, eH, eD, fA, eU, eB, dR, eM, eY, eA, fY, gC, gB, fZ, fV, fX, gA, fW, gD, dH, Result.ok.injEq, Next.value.injEq, true_and, and_true, dZ, dY, eT, fC, eK, fG, PJ, dS, dT, dU, dV, dN, dK, dP, dM, dI, cY, if_true, if_false, PG, PM, PH, PI, PL, PK, PF, PE, cR, cO, cH, bY, cV, dJ, bW, bX, cS, cK, cL, dE, cP, dD, dC, dW, cZ, cF, bH, bR, aT, aC, aL, dF, aI, cD, dB, dA, bN, aH, bC, aZ, cM, aD, aX, aM, aV, cU, aW, cJ, bS, aF, aG, aK, dO, aP, aO, bD, aR, cB, aE, bZ, bT, bG, bB, aY, cX, aJ, bM, aU, aQ, aS, aA, dG, cN, bO, aN, cW, bU, bV, cI, bQ, bP, bL, cA, bJ, cC, bA, bK, bF, bE, cG]
  refine ⟨B.length - (j + 1), by omega, j + 1, by omega, rfl, ?_, hx.seq x1⟩
  rw [hBd, e8, show i + 8 * (j + 1) = k + 8 from by omega]
  rfl
 .have hd : decide ((k : Int) + 8 <= (s.size : Int)) = false := by simp; omega
  have hj8 : j = B.length / 8 := by omega
  obtain ⟨C, hC⟩ : ∃ C, C = B.drop (8 * j) := ⟨_, rfl⟩
  have hCl : C.length = s.size - k := by rw [hC, PU]; omega
  have htail : IU x B = (let r := xH (e8 x B j) C; e1 r.1 r.2 r.2.length) := by rw [hC, hj8] <;> rfl
  rw [htail] at hR
  rw [<- hC] at hBd
  simp (disch := omega) only [uN, CO, Cg, dQ, fE, cQ, stepR_skip, eE, eS, eI, eP, eX, fB, fF, eN, dL, eL, eQ, eZ, eC, eF, eJ, eH, eD, fA, eU, eB, dR, eM, eY, eA, fY, gC, gB, fZ, fV, fX, gA, fW, gD, dH, Result.ok.injEq, Next.value.injEq, true_and, and_true, dZ, dY, eT, fC, eK, fG, PJ, dS, dT, dU, dV, dN, dK, dP, dM, dI, cY, if_true, if_false, PG, PM, PH, PI, PL, PK, PF, PE, cR, cO, cH, bY, cV, dJ, bW, bX, cS, cK, cL, dE, cP, dD, dC, dW, cZ, cF, bH, bR, aT, aC, aL, dF, aI, cD, dB, dA, bN, aH, bC, aZ, cM, aD, aX, aM, aV, cU, aW, cJ, bS, aF, aG, aK, dO, aP, aO, bD, aR, cB, aE, bZ, bT, bG, bB, aY, cX, aJ, bM, aU, aQ, aS, aA, dG, cN, bO, aN, cW, bU, bV, cI, bQ, bP, bL, cA, bJ, cC, bA, bK, bF, bE, cG, hd]
  by_cases h4 : k + 4 <= s.size
  .have hd : decide ((k : Int) + 4 <= (s.size : Int)) = true := by simp; omega
   have ha : xH (e8 x B j) C = (Mx (e8 x B j) (oJ (C.take 4)), C.drop 4) := by unfold xH; rw [if_pos (by omega)]
   rw [ha] at hR
   simp (disch := omega) only [dQ, fE, cQ, stepR_skip, eE, eS, eI, eP, eX, fB, fF, eN, dL, eL, eQ, eZ, eC, eF, eJ, eH, eD, fA, eU, eB, dR, eM, eY, eA, fY, gC, gB, fZ, fV, fX, gA, fW, gD, dH, Result.ok.injEq, Next.value.injEq, true_and, and_true, dZ, dY, eT, fC, eK, fG, PJ, dS, dT, dU, dV, dN, dK, dP, dM, dI, cY, if_true, if_false, PG, PM, PH, PI, PL, PK, PF, PE, cR, cO, cH, bY, cV, dJ, bW, bX, cS, cK, cL, dE, cP, dD, dC, dW, cZ, cF, bH, bR, aT, aC, aL, dF, aI, cD, dB, dA, bN, aH, bC, aZ, cM, aD, aX, aM, aV, cU, aW, cJ, bS, aF, aG, aK, dO, aP, aO, bD, aR, cB, aE, bZ, bT, bG, bB, aY, cX, aJ, bM, aU, aQ, aS, aA, dG, cN, bO, aN, cW, bU, bV, cI, bQ, bP, bL, cA, bJ, cC, bA, bK, bF, bE, cG, hd]
   refine (Ko s k 4 (by omega) (by omega) h4 w).mono ?_
   rintro r w1 ⟨rfl, x1⟩
   simp (disch := omega) only [dQ, fE, cQ, stepR_skip, eE, eS, eI, eP, eX, fB, fF, eN, dL, eL, eQ, eZ, eC, eF, eJ, eH, eD, fA, eU, eB, dR, eM, eY, eA, fY, gC, gB, fZ, fV, fX, gA, fW, gD, dH, Result.ok.injEq, Next.value.injEq, true_and, and_true, dZ, dY, eT, fC, eK, fG, PJ, dS, dT, dU, dV, dN, dK, dP, dM, dI, cY, if_true, if_false, PG, PM, PH, PI, PL, PK, PF, PE, cR, cO, cH, bY, cV, dJ, bW, bX, cS, cK, cL, dE, cP, dD, dC, dW, cZ, cF, bH, bR, aT, aC, aL, dF, aI, cD, dB, dA, bN, aH, bC, aZ, cM, aD, aX, aM, aV, cU, aW, cJ, bS, aF, aG, aK, dO, aP, aO, bD, aR, cB, aE, bZ, bT, bG, bB, aY, cX, aJ, bM, aU, aQ, aS, aA, dG, cN, bO, aN, cW, bU, bV, cI, bQ, bP, bL, cA, bJ, cC, bA, bK, bF, bE, cG]
   refine (uQ _ 23 (by omega) _).mono ?_
   rintro r w2 ⟨rfl, rfl⟩
   simp (disch := omega) only [dQ, fE, cQ, stepR_skip, eE, eS, eI, eP, eX, fB, fF, eN, dL, eL, eQ, eZ, eC, eF, eJ, eH, eD, fA, eU, eB, dR, eM, eY, eA, fY, gC, gB, fZ, fV, fX, gA, fW, gD, dH, Result.ok.injEq, Next.value.injEq, true_and, and_true, dZ, dY, eT, fC, eK, fG, PJ, dS, dT, dU, dV, dN, dK, dP, dM, dI, cY, if_true, if_false, PG, PM, PH, PI, PL, PK, PF, PE, cR, cO, cH, bY, cV, dJ, bW, bX, cS, cK, cL, dE, cP, dD, dC, dW, cZ, cF, bH, bR, aT, aC, aL, dF, aI, cD, dB, dA, bN, aH, bC, aZ, cM, aD, aX, aM, aV, cU, aW, cJ, bS, aF, aG, aK, dO, aP, aO, bD, aR, cB, aE, bZ, bT, bG, bB, aY, cX, aJ, bM, aU, aQ, aS, aA, dG, cN, bO, aN, cW, bU, bV, cI, bQ, bP, bL, cA, bJ, cC, bA, bK, bF, bE, cG]
   have hD : (FW s).drop (k + 4) = C.drop 4 := by rw [<- hBd, Qr]
   refine IN s hs _ R _ (k + 4) h4 ?_
   rw [hD, hBd]
   exact hR _ (hx.seq x1)
  .have hd : decide ((k : Int) + 4 <= (s.size : Int)) = false := by simp; omega
   have ha : xH (e8 x B j) C = (e8 x B j, C) := by unfold xH; rw [if_neg (by omega)]
   rw [ha] at hR
   simp (disch := omega) only [dQ, fE, cQ, stepR_skip, eE, eS, eI, eP, eX, fB, fF, eN, dL, eL, eQ, eZ, eC, eF, eJ, eH, eD, fA, eU, eB, dR, eM, eY, eA, fY, gC, gB, fZ, fV, fX, gA, fW, gD, dH, Result.ok.injEq, Next.value.injEq, true_and, and_true, dZ, dY, eT, fC, eK, fG, PJ, dS, dT, dU, dV, dN, dK, dP, dM, dI, cY, if_true, if_false, PG, PM, PH, PI, PL, PK, PF, PE, cR, cO, cH, bY, cV, dJ, bW, bX, cS, cK, cL, dE, cP, dD, dC, dW, cZ, cF, bH, bR, aT, aC, aL, dF, aI, cD, dB, dA, bN, aH, bC, aZ, cM, aD, aX, aM, aV, cU, aW, cJ, bS, aF, aG, aK, dO, aP, aO, bD, aR, cB, aE, bZ, bT, bG, bB, aY, cX, aJ, bM, aU, aQ, aS, aA, dG, cN, bO, aN, cW, bU, bV, cI, bQ, bP, bL, cA, bJ, cC, bA, bK, bF, bE, cG, hd]
   refine IN s hs _ R _ k (by omega) ?_
   rw [hBd]
   exact hR _ hx
theorem Mh (s : ByteArray) (vs : List Int) (hv4 : vs.length = 4) (b : Nat) (i : Q7) (w : Q6) (ho : iE w b (vs.map (Value.int .u64))) (kn : Q7 -> Q7 -> Q7 -> Q6 -> Prop)
 (hk : kn (.string s) (.int .u64 (jB vs 4)) i (dr w)) :
 wF kn (.string s) i (.pointer (some ⟨b, 0, none⟩)) w := by
 have hod := AF ho
 have hg : ∀ k, (h : k < 4) -> (vs.map (Value.int .u64))[k]? = some (.int .u64 (vs[k]'(by omega))) := fun k h => by
  simp [show k < vs.length by omega]
 have g0 := hg 0 (by omega)
 have g1 := hg 1 (by omega)
 have g2 := hg 2 (by omega)
 have g3 := hg 3 (by omega)
 have t0 : (0 : Int).toNat = 0 := rfl
 have t1 : (1 : Int).toNat = 1 := rfl
 have t2 : (2 : Int).toNat = 2 := rfl
 have t3 : (3 : Int).toNat = 3 := rfl
 simp (disch := omega) only [wF, BF, dQ, fE, cQ, stepR_skip, eE, eS, eI, eP, eX, fB, fF, eN, dL, eL, eQ, eZ, eC, eF, eJ, eH, eD, fA, eU, eB, dR, eM, eY, eA, fY, gC, gB, fZ, fV, fX, gA, fW, gD, dH, Result.ok.injEq, Next.value.injEq, true_and, and_true, dZ, dY, eT, fC, eK, fG, PJ, dS, dT, dU, dV, dN, dK, dP, dM, dI, cY, if_true, if_false, PG, PM, PH, PI, PL, PK, PF, PE, cR, cO, cH, bY, cV, dJ, bW, bX, cS, cK, cL, dE, cP, dD, dC, dW, cZ, cF, bH, bR, aT, aC, aL, dF, aI, cD, dB, dA, bN, aH, bC, aZ, cM, aD, aX, aM, aV, cU, aW, cJ, bS, aF, aG, aK, dO, aP, aO, bD, aR, cB, aE, bZ, bT, bG, bB, aY, cX, aJ, bM, aU, aQ, aS, aA, dG, cN, bO, aN, cW, bU, bV, cI, bQ, bP, bL, cA, bJ, cC, bA, bK, bF, bE, cG, t0, t1, t2, t3, hod.cell, g0]
 refine (uQ _ 1 (by omega) _).mono ?_
 rintro r w1 ⟨rfl, rfl⟩
 simp (disch := omega) only [dQ, fE, cQ, stepR_skip, eE, eS, eI, eP, eX, fB, fF, eN, dL, eL, eQ, eZ, eC, eF, eJ, eH, eD, fA, eU, eB, dR, eM, eY, eA, fY, gC, gB, fZ, fV, fX, gA, fW, gD, dH, Result.ok.injEq, Next.value.injEq, true_and, and_true, dZ, dY, eT, fC, eK, fG, PJ, dS, dT, dU, dV, dN, dK, dP, dM, dI, cY, if_true, if_false, PG, PM, PH, PI, PL, PK, PF, PE, cR, cO, cH, bY, cV, dJ, bW, bX, cS, cK, cL, dE, cP, dD, dC, dW, cZ, cF, bH, bR, aT, aC, aL, dF, aI, cD, dB, dA, bN, aH, bC, aZ, cM, aD, aX, aM, aV, cU, aW, cJ, bS, aF, aG, aK, dO, aP, aO, bD, aR, cB, aE, bZ, bT, bG, bB, aY, cX, aJ, bM, aU, aQ, aS, aA, dG, cN, bO, aN, cW, bU, bV, cI, bQ, bP, bL, cA, bJ, cC, bA, bK, bF, bE, cG, t0, t1, t2, t3, hod.cell, g0, g1, g2, g3]
 refine (uQ _ 7 (by omega) _).mono ?_
 rintro r w1 ⟨rfl, rfl⟩
 simp (disch := omega) only [dQ, fE, cQ, stepR_skip, eE, eS, eI, eP, eX, fB, fF, eN, dL, eL, eQ, eZ, eC, eF, eJ, eH, eD, fA, eU, eB, dR, eM, eY, eA, fY, gC, gB, fZ, fV, fX, gA, fW, gD, dH, Result.ok.injEq, Next.value.injEq, true_and, and_true, dZ, dY, eT, fC, eK, fG, PJ, dS, dT, dU, dV, dN, dK, dP, dM, dI, cY, if_true, if_false, PG, PM, PH, PI, PL, PK, PF, PE, cR, cO, cH, bY, cV, dJ, bW, bX, cS, cK, cL, dE, cP, dD, dC, dW, cZ, cF, bH, bR, aT, aC, aL, dF, aI, cD, dB, dA, bN, aH, bC, aZ, cM, aD, aX, aM, aV, cU, aW, cJ, bS, aF, aG, aK, dO, aP, aO, bD, aR, cB, aE, bZ, bT, bG, bB, aY, cX, aJ, bM, aU, aQ, aS, aA, dG, cN, bO, aN, cW, bU, bV, cI, bQ, bP, bL, cA, bJ, cC, bA, bK, bF, bE, cG, t0, t1, t2, t3, hod.cell, g0, g1, g2, g3]
 refine (uQ _ 12 (by omega) _).mono ?_
 rintro r w1 ⟨rfl, rfl⟩
 simp (disch := omega) only [dQ, fE, cQ, stepR_skip, eE, eS, eI, eP, eX, fB, fF, eN, dL, eL, eQ, eZ, eC, eF, eJ, eH, eD, fA, eU, eB, dR, eM, eY, eA, fY, gC, gB, fZ, fV, fX, gA, fW, gD, dH, Result.ok.injEq, Next.value.injEq, true_and, and_true, dZ, dY, eT, fC, eK, fG, PJ, dS, dT, dU, dV, dN, dK, dP, dM, dI, cY, if_true, if_false, PG, PM, PH, PI, PL, PK, PF, PE, cR, cO, cH, bY, cV, dJ, bW, bX, cS, cK, cL, dE, cP, dD, dC, dW, cZ, cF, bH, bR, aT, aC, aL, dF, aI, cD, dB, dA, bN, aH, bC, aZ, cM, aD, aX, aM, aV, cU, aW, cJ, bS, aF, aG, aK, dO, aP, aO, bD, aR, cB, aE, bZ, bT, bG, bB, aY, cX, aJ, bM, aU, aQ, aS, aA, dG, cN, bO, aN, cW, bU, bV, cI, bQ, bP, bL, cA, bJ, cC, bA, bK, bF, bE, cG, t0, t1, t2, t3, hod.cell, g0, g1, g2, g3]
 refine (uQ _ 18 (by omega) _).mono ?_
 rintro r w1 ⟨rfl, rfl⟩
 have hj : jA vs 4 = IntKind.u64.wrap (IntKind.u64.wrap (IntKind.u64.wrap (As (vs[0]'(by omega)) 1 + As (vs[1]'(by omega)) 7) + As (vs[2]'(by omega)) 12) + As (vs[3]'(by omega)) 18) := by
  have hd : ∀ k, (h : k < 4) -> vs.getD k 0 = vs[k]'(by omega) := fun k h => by
   rw [P7, PT (by omega)] <;> rfl
  have hr := Km (vs[0]'(by omega)) 1
  have e : IntKind.u64.wrap ((0 : Int) + As (vs[0]'(by omega)) 1) = As (vs[0]'(by omega)) 1 := by rw [Int.zero_add]; exact dY hr.1 (by have := hr.2; omega)
  simp only [jA, hd 0 (by omega), hd 1 (by omega), hd 2 (by omega), hd 3 (by omega)]
  show IntKind.u64.wrap (IntKind.u64.wrap (IntKind.u64.wrap (IntKind.u64.wrap ((0 : Int) + As _ 1) + As _ 7) + As _ 12) + As _ 18) = _
  rw [e]
 simp (disch := omega) only [dQ, fE, cQ, stepR_skip, eE, eS, eI, eP, eX, fB, fF, eN, dL, eL, eQ, eZ, eC, eF, eJ, eH, eD, fA, eU, eB, dR, eM, eY, eA, fY, gC, gB, fZ, fV, fX, gA, fW, gD, dH, Result.ok.injEq, Next.value.injEq, true_and, and_true, dZ, dY, eT, fC, eK, fG, PJ, dS, dT, dU, dV, dN, dK, dP, dM, dI, cY, if_true, if_false, PG, PM, PH, PI, PL, PK, PF, PE, cR, cO, cH, bY, cV, dJ, bW, bX, cS, cK, cL, dE, cP, dD, dC, dW, cZ, cF, bH, bR, aT, aC, aL, dF, aI, cD, dB, dA, bN, aH, bC, aZ, cM, aD, aX, aM, aV, cU, aW, cJ, bS, aF, aG, aK, dO, aP, aO, bD, aR, cB, aE, bZ, bT, bG, bB, aY, cX, aJ, bM, aU, aQ, aS, aA, dG, cN, bO, aN, cW, bU, bV, cI, bQ, bP, bL, cA, bJ, cC, bA, bK, bF, bE, cG, Bl, Bj, <- hj]
 refine iG.rule (fun n t w' => ∃ i : Nat, i <= 4 /\ n = 4 - i /\ t = (.int .u64 (jB vs i), .int .i64 (i : Int)) /\ w' = dr w) 4 ⟨0, by omega, rfl, rfl, rfl⟩ ?_
 rintro n t w' ⟨j, hj, rfl, rfl, rfl⟩
 by_cases hlt : j < 4
 .have hd : decide ((j : Int) < 4) = true := by simp; omega
  simp (disch := omega) only [sC, dQ, fE, cQ, stepR_skip, eE, eS, eI, eP, eX, fB, fF, eN, dL, eL, eQ, eZ, eC, eF, eJ, eH, eD, fA, eU, eB, dR, eM, eY, eA, fY, gC, gB, fZ, fV, fX, gA, fW, gD, dH, Result.ok.injEq, Next.value.injEq, true_and, and_true, dZ, dY, eT, fC, eK, fG, PJ, dS, dT, dU, dV, dN, dK, dP, dM, dI, cY, if_true, if_false, PG, PM, PH, PI, PL, PK, PF, PE, cR, cO, cH, bY, cV, dJ, bW, bX, cS, cK, cL, dE, cP, dD, dC, dW, cZ, cF, bH, bR, aT, aC, aL, dF, aI, cD, dB, dA, bN, aH, bC, aZ, cM, aD, aX, aM, aV, cU, aW, cJ, bS, aF, aG, aK, dO, aP, aO, bD, aR, cB, aE, bZ, bT, bG, bB, aY, cX, aJ, bM, aU, aQ, aS, aA, dG, cN, bO, aN, cW, bU, bV, cI, bQ, bP, bL, cA, bJ, cC, bA, bK, bF, bE, cG, hd, hod.cell, hg j hlt]
  refine (D4 _ _ _).mono ?_
  rintro r w1 ⟨rfl, rfl⟩
  simp (disch := omega) only [dQ, fE, cQ, stepR_skip, eE, eS, eI, eP, eX, fB, fF, eN, dL, eL, eQ, eZ, eC, eF, eJ, eH, eD, fA, eU, eB, dR, eM, eY, eA, fY, gC, gB, fZ, fV, fX, gA, fW, gD, dH, Result.ok.injEq, Next.value.injEq, true_and, and_true, dZ, dY, eT, fC, eK, fG, PJ, dS, dT, dU, dV, dN, dK, dP, dM, dI, cY, if_true, if_false, PG, PM, PH, PI, PL, PK, PF, PE, cR, cO, cH, bY, cV, dJ, bW, bX, cS, cK, cL, dE, cP, dD, dC, dW, cZ, cF, bH, bR, aT, aC, aL, dF, aI, cD, dB, dA, bN, aH, bC, aZ, cM, aD, aX, aM, aV, cU, aW, cJ, bS, aF, aG, aK, dO, aP, aO, bD, aR, cB, aE, bZ, bT, bG, bB, aY, cX, aJ, bM, aU, aQ, aS, aA, dG, cN, bO, aN, cW, bU, bV, cI, bQ, bP, bL, cA, bJ, cC, bA, bK, bF, bE, cG]
  refine ⟨4 - (j + 1), by omega, j + 1, by omega, rfl, ?_⟩
  have hvd : vs.getD j 0 = vs[j]'(by omega) := by rw [P7, PT (by omega)] <;> rfl
  rw [jB, hvd]
  rfl
 .have : j = 4 := by omega
  subst this
  have hd : decide (((4 : Nat) : Int) < 4) = false := by simp
  simp (disch := omega) only [sC, dQ, fE, cQ, stepR_skip, eE, eS, eI, eP, eX, fB, fF, eN, dL, eL, eQ, eZ, eC, eF, eJ, eH, eD, fA, eU, eB, dR, eM, eY, eA, fY, gC, gB, fZ, fV, fX, gA, fW, gD, dH, Result.ok.injEq, Next.value.injEq, true_and, and_true, dZ, dY, eT, fC, eK, fG, PJ, dS, dT, dU, dV, dN, dK, dP, dM, dI, cY, if_true, if_false, PG, PM, PH, PI, PL, PK, PF, PE, cR, cO, cH, bY, cV, dJ, bW, bX, cS, cK, cL, dE, cP, dD, dC, dW, cZ, cF, bH, bR, aT, aC, aL, dF, aI, cD, dB, dA, bN, aH, bC, aZ, cM, aD, aX, aM, aV, cU, aW, cJ, bS, aF, aG, aK, dO, aP, aO, bD, aR, cB, aE, bZ, bT, bG, bB, aY, cX, aJ, bM, aU, aQ, aS, aA, dG, cN, bO, aN, cW, bU, bV, cI, bQ, bP, bL, cA, bJ, cC, bA, bK, bF, bE, cG, hd]
  exact hk
theorem Jf (s : ByteArray) (hs : s.size <= 1099511627776) (w0 : Q6) (b : Nat) (hb : w0.heap.size <= b) (kn : Q7 -> Q7 -> Q7 -> Q6 -> Prop)
 (hk : ∀ w, iE w b ((AG (s.size / 32) (FW s)).map (Value.int .u64)) -> fU w0 w kY -> kn (.string s) (.int .i64 ((32 * (s.size / 32) : Nat) : Int)) (.pointer (some ⟨b, 0, none⟩)) w)
 (w : Q6) (ho : iE w b (NO.map (Value.int .u64))) (hx : fU w0 w kY) :
 wG kn (.string s) (.int .i64 0) (.pointer (some ⟨b, 0, none⟩)) w := by
 unfold wG A5
 refine iG.rule (fun n t w' => ∃ q : Nat, 32 * q <= s.size /\ n = s.size - q /\ t = .int .i64 ((32 * q : Nat) : Int) /\ iE w' b ((AG q (FW s)).map (Value.int .u64)) /\ fU w0 w' kY) s.size ⟨0, by omega, rfl, rfl, ho, hx⟩ ?_
 rintro n t w ⟨q, hq, rfl, rfl, ho, hx⟩
 obtain ⟨i, hi⟩ : ∃ i, i = 32 * q := ⟨_, rfl⟩
 rw [<- hi]
 by_cases hlt : i + 32 <= s.size
 .have hd : decide ((i : Int) + 32 <= (s.size : Int)) = true := by simp; omega
  obtain ⟨S, hS⟩ : ∃ S, S = ((FW s).drop (32 * q)).take 32 := ⟨_, rfl⟩
  obtain ⟨vs, hvs⟩ : ∃ vs, vs = AG q (FW s) := ⟨_, rfl⟩
  have hv4 : vs.length = 4 := by rw [hvs]; exact lR _ _
  have hnext : AG (q + 1) (FW s) = AS vs S 4 := by rw [hvs, hS] <;> rfl
  rw [<- hvs] at ho
  simp (disch := omega) only [sG, wK, wM, A7, vZ, wN, wH, wE, dQ, fE, cQ, stepR_skip, eE, eS, eI, eP, eX, fB, fF, eN, dL, eL, eQ, eZ, eC, eF, eJ, eH, eD, fA, eU, eB, dR, eM, eY, eA, fY, gC, gB, fZ, fV, fX, gA, fW, gD, dH, Result.ok.injEq, Next.value.injEq, true_and, and_true, dZ, dY, eT, fC, eK, fG, PJ, dS, dT, dU, dV, dN, dK, dP, dM, dI, cY, if_true, if_false, PG, PM, PH, PI, PL, PK, PF, PE, cR, cO, cH, bY, cV, dJ, bW, bX, cS, cK, cL, dE, cP, dD, dC, dW, cZ, cF, bH, bR, aT, aC, aL, dF, aI, cD, dB, dA, bN, aH, bC, aZ, cM, aD, aX, aM, aV, cU, aW, cJ, bS, aF, aG, aK, dO, aP, aO, bD, aR, cB, aE, bZ, bT, bG, bB, aY, cX, aJ, bM, aU, aQ, aS, aA, dG, cN, bO, aN, cW, bU, bV, cI, bQ, bP, bL, cA, bJ, cC, bA, bK, bF, bE, cG, hd]
  refine iG.rule (fun n t w' => ∃ k : Nat, k <= 4 /\ n = 4 - k /\ t = .int .i64 (k : Int) /\ iE w' b ((AS vs S k).map (Value.int .u64)) /\ fU w0 w' kY) 4
   ⟨0, by omega, rfl, rfl, by rw [H9]; exact ho, hx⟩ ?_
  rintro n t w ⟨k, hk4, rfl, rfl, ho, hx⟩
  by_cases hlk : k < 4
  .have hd : decide ((k : Int) < 4) = true := by simp; omega
   have hod := AF ho
   have hg : ((AS vs S k).map (Value.int .u64))[k]? = some (.int .u64 (vs[k]'(by omega))) := by
    rw [Qv, Jr vs S k (by omega)] <;> rfl
   simp (disch := omega) only [sL, dQ, fE, cQ, stepR_skip, eE, eS, eI, eP, eX, fB, fF, eN, dL, eL, eQ, eZ, eC, eF, eJ, eH, eD, fA, eU, eB, dR, eM, eY, eA, fY, gC, gB, fZ, fV, fX, gA, fW, gD, dH, Result.ok.injEq, Next.value.injEq, true_and, and_true, dZ, dY, eT, fC, eK, fG, PJ, dS, dT, dU, dV, dN, dK, dP, dM, dI, cY, if_true, if_false, PG, PM, PH, PI, PL, PK, PF, PE, cR, cO, cH, bY, cV, dJ, bW, bX, cS, cK, cL, dE, cP, dD, dC, dW, cZ, cF, bH, bR, aT, aC, aL, dF, aI, cD, dB, dA, bN, aH, bC, aZ, cM, aD, aX, aM, aV, cU, aW, cJ, bS, aF, aG, aK, dO, aP, aO, bD, aR, cB, aE, bZ, bT, bG, bB, aY, cX, aJ, bM, aU, aQ, aS, aA, dG, cN, bO, aN, cW, bU, bV, cI, bQ, bP, bL, cA, bJ, cC, bA, bK, bF, bE, cG, hd, hod.cell, hg]
   have hsl : ((FW s).drop (i + 8 * k)).take 8 = (S.drop (8 * k)).take 8 := by
    rw [hS, List.drop_take, List.take_take, Qr, <- hi, show min 8 (32 - 8 * k) = 8 from by omega]
   refine (Ko s (i + 8 * k) 8 (by omega) (by omega) (by omega) (dr w)).mono ?_
   rintro r w1 ⟨rfl, x1⟩
   have o1 := hod.ext x1 (fun h => h)
   rw [hsl]
   simp (disch := omega) only [dQ, fE, cQ, stepR_skip, eE, eS, eI, eP, eX, fB, fF, eN, dL, eL, eQ, eZ, eC, eF, eJ, eH, eD, fA, eU, eB, dR, eM, eY, eA, fY, gC, gB, fZ, fV, fX, gA, fW, gD, dH, Result.ok.injEq, Next.value.injEq, true_and, and_true, dZ, dY, eT, fC, eK, fG, PJ, dS, dT, dU, dV, dN, dK, dP, dM, dI, cY, if_true, if_false, PG, PM, PH, PI, PL, PK, PF, PE, cR, cO, cH, bY, cV, dJ, bW, bX, cS, cK, cL, dE, cP, dD, dC, dW, cZ, cF, bH, bR, aT, aC, aL, dF, aI, cD, dB, dA, bN, aH, bC, aZ, cM, aD, aX, aM, aV, cU, aW, cJ, bS, aF, aG, aK, dO, aP, aO, bD, aR, cB, aE, bZ, bT, bG, bB, aY, cX, aJ, bM, aU, aQ, aS, aA, dG, cN, bO, aN, cW, bU, bV, cI, bQ, bP, bL, cA, bJ, cC, bA, bK, bF, bE, cG, o1.cell, hg]
   refine (D4 _ _ _).mono ?_
   rintro r w2 ⟨rfl, rfl⟩
   have hbo : w0.heap.size <= b := hb
   refine tJ o1 rfl (by rw [PQ, lQ]; omega) fun w2 o2 x2 s2 => ?_
   rw [<- List.map_set, JJ vs S k (by omega)] at o2
   exact ⟨4 - (k + 1), by omega, k + 1, by omega, rfl, rfl, o2, ((hx.seq (fU.dr _ _)).seq x1).new x2 hb⟩
  .have : k = 4 := by omega
   subst this
   have hd : decide (((4 : Nat) : Int) < 4) = false := by simp
   simp (disch := omega) only [sL, wL, dQ, fE, cQ, stepR_skip, eE, eS, eI, eP, eX, fB, fF, eN, dL, eL, eQ, eZ, eC, eF, eJ, eH, eD, fA, eU, eB, dR, eM, eY, eA, fY, gC, gB, fZ, fV, fX, gA, fW, gD, dH, Result.ok.injEq, Next.value.injEq, true_and, and_true, dZ, dY, eT, fC, eK, fG, PJ, dS, dT, dU, dV, dN, dK, dP, dM, dI, cY, if_true, if_false, PG, PM, PH, PI, PL, PK, PF, PE, cR, cO, cH, bY, cV, dJ, bW, bX, cS, cK, cL, dE, cP, dD, dC, dW, cZ, cF, bH, bR, aT, aC, aL, dF, aI, cD, dB, dA, bN, aH, bC, aZ, cM, aD, aX, aM, aV, cU, aW, cJ, bS, aF, aG, aK, dO, aP, aO, bD, aR, cB, aE, bZ, bT, bG, bB, aY, cX, aJ, bM, aU, aQ, aS, aA, dG, cN, bO, aN, cW, bU, bV, cI, bQ, bP, bL, cA, bJ, cC, bA, bK, bF, bE, cG, hd]
   rw [<- hnext] at ho
   refine ⟨s.size - (q + 1), by omega, q + 1, by omega, rfl, ?_, ho, hx⟩
   rw [show 32 * (q + 1) = i + 32 from by omega]
   rfl
 .have hd : decide ((i : Int) + 32 <= (s.size : Int)) = false := by simp; omega
  simp (disch := omega) only [sG, wK, wM, A7, vZ, wN, wH, wE, dQ, fE, cQ, stepR_skip, eE, eS, eI, eP, eX, fB, fF, eN, dL, eL, eQ, eZ, eC, eF, eJ, eH, eD, fA, eU, eB, dR, eM, eY, eA, fY, gC, gB, fZ, fV, fX, gA, fW, gD, dH, Result.ok.injEq, Next.value.injEq, true_and, and_true, dZ, dY, eT, fC, eK, fG, PJ, dS, dT, dU, dV, dN, dK, dP, dM, dI, cY, if_true, if_false, PG, PM, PH, PI, PL, PK, PF, PE, cR, cO, cH, bY, cV, dJ, bW, bX, cS, cK, cL, dE, cP, dD, dC, dW, cZ, cF, bH, bR, aT, aC, aL, dF, aI, cD, dB, dA, bN, aH, bC, aZ, cM, aD, aX, aM, aV, cU, aW, cJ, bS, aF, aG, aK, dO, aP, aO, bD, aR, cB, aE, bZ, bT, bG, bB, aY, cX, aJ, bM, aU, aQ, aS, aA, dG, cN, bO, aN, cW, bU, bV, cI, bQ, bP, bL, cA, bJ, cC, bA, bK, bF, bE, cG, hd]
  have : q = s.size / 32 := by omega
  subst this
  rw [hi]
  exact hk _ ho hx
theorem OI (s : ByteArray) (hs : s.size <= 1099511627776) (w : Q6) :
 fK pg BD #[.string s] w (fun r w' => r = .int .u64 (ML (FW s)) /\ fU w w' kY) := by
 refine HS ?_
 have hl : (FW s).length = s.size := oY s
 unfold JE Bp BB Bk Bu Bc A3
 by_cases h32 : 32 <= s.size
 .have hd : decide ((32 : Int) <= (s.size : Int)) = true := by simp; omega
  have hd' : decide ((s.size : Int) ≥ 32) = true := by simp; omega
  simp (disch := omega) only [Ed, BA, A4, dQ, fE, cQ, stepR_skip, eE, eS, eI, eP, eX, fB, fF, eN, dL, eL, eQ, eZ, eC, eF, eJ, eH, eD, fA, eU, eB, dR, eM, eY, eA, fY, gC, gB, fZ, fV, fX, gA, fW, gD, dH, Result.ok.injEq, Next.value.injEq, true_and, and_true, dZ, dY, eT, fC, eK, fG, PJ, dS, dT, dU, dV, dN, dK, dP, dM, dI, cY, if_true, if_false, PG, PM, PH, PI, PL, PK, PF, PE, cR, cO, cH, bY, cV, dJ, bW, bX, cS, cK, cL, dE, cP, dD, dC, dW, cZ, cF, bH, bR, aT, aC, aL, dF, aI, cD, dB, dA, bN, aH, bC, aZ, cM, aD, aX, aM, aV, cU, aW, cJ, bS, aF, aG, aK, dO, aP, aO, bD, aR, cB, aE, bZ, bT, bG, bB, aY, cX, aJ, bM, aU, aQ, aS, aA, dG, cN, bO, aN, cW, bU, bV, cI, bQ, bP, bL, cA, bJ, cC, bA, bK, bF, bE, cG, hd, hd']
  refine HF fun w1 o1 x1 s1 => ?_
  refine GV o1 rfl (by simp [one]) (by decide) fun w2 o2 x2 s2 => ?_
  refine Jf s hs w _ (PY _) _ (fun w3 o3 x3 => ?_) w2 o2 (x1.new x2 (PY _))
  refine Mh s _ (lR _ _) _ _ w3 o3 _ ?_
  simp (disch := omega) only [wP, wA, dQ, fE, cQ, stepR_skip, eE, eS, eI, eP, eX, fB, fF, eN, dL, eL, eQ, eZ, eC, eF, eJ, eH, eD, fA, eU, eB, dR, eM, eY, eA, fY, gC, gB, fZ, fV, fX, gA, fW, gD, dH, Result.ok.injEq, Next.value.injEq, true_and, and_true, dZ, dY, eT, fC, eK, fG, PJ, dS, dT, dU, dV, dN, dK, dP, dM, dI, cY, if_true, if_false, PG, PM, PH, PI, PL, PK, PF, PE, cR, cO, cH, bY, cV, dJ, bW, bX, cS, cK, cL, dE, cP, dD, dC, dW, cZ, cF, bH, bR, aT, aC, aL, dF, aI, cD, dB, dA, bN, aH, bC, aZ, cM, aD, aX, aM, aV, cU, aW, cJ, bS, aF, aG, aK, dO, aP, aO, bD, aR, cB, aE, bZ, bT, bG, bB, aY, cX, aJ, bM, aU, aQ, aS, aA, dG, cN, bO, aN, cW, bU, bV, cI, bQ, bP, bL, cA, bJ, cC, bA, bK, bF, bE, cG]
  refine I2 s hs w _ _ _ (by omega) (fun w4 x4 => ⟨?_, x4⟩) _ (x3.seq (fU.dr _ _))
  unfold ML Ha
  rw [hl, if_neg (by omega)]
 .have hd : decide ((32 : Int) <= (s.size : Int)) = false := by simp; omega
  have hd' : decide ((s.size : Int) ≥ 32) = false := by simp; omega
  simp (disch := omega) only [Bn, wP, wA, dQ, fE, cQ, stepR_skip, eE, eS, eI, eP, eX, fB, fF, eN, dL, eL, eQ, eZ, eC, eF, eJ, eH, eD, fA, eU, eB, dR, eM, eY, eA, fY, gC, gB, fZ, fV, fX, gA, fW, gD, dH, Result.ok.injEq, Next.value.injEq, true_and, and_true, dZ, dY, eT, fC, eK, fG, PJ, dS, dT, dU, dV, dN, dK, dP, dM, dI, cY, if_true, if_false, PG, PM, PH, PI, PL, PK, PF, PE, cR, cO, cH, bY, cV, dJ, bW, bX, cS, cK, cL, dE, cP, dD, dC, dW, cZ, cF, bH, bR, aT, aC, aL, dF, aI, cD, dB, dA, bN, aH, bC, aZ, cM, aD, aX, aM, aV, cU, aW, cJ, bS, aF, aG, aK, dO, aP, aO, bD, aR, cB, aE, bZ, bT, bG, bB, aY, cX, aJ, bM, aU, aQ, aS, aA, dG, cN, bO, aN, cW, bU, bV, cI, bQ, bP, bL, cA, bJ, cC, bA, bK, bF, bE, cG, hd, hd']
  refine I2 s hs w _ _ 0 (by omega) (fun w4 x4 => ⟨?_, x4⟩) _ (fU.refl _ _)
  unfold ML Ha
  have e : IntKind.u64.wrap (2870177450012600261 + (s.size : Int)) = 2870177450012600261 + (s.size : Int) := dY (by omega) (by omega)
  rw [hl, if_pos (by omega), show s.size / 32 = 0 from by omega, e, Nat.mul_zero]
end Go.Proofs.YthohephggmkeeaaDoor
namespace Go.Proofs.YthohephggmkeeaaDoor
open Go Go.En Go.Pu
set_option maxRecDepth 4000
def XN (L : List UInt8) : Nat := (ML L).toNat
theorem FD (a b : Int) : 0 <= CK .u64 a b /\ CK .u64 a b < 2 ^ 64 := by
 unfold CK
 have h : (BitVec.ofInt IntKind.u64.bits a ^^^ BitVec.ofInt IntKind.u64.bits b).toNat < 2 ^ 64 := BitVec.isLt _
 rw [dY (by omega) (by omega)]
 omega
theorem ND (L : List UInt8) : XN L < 2 ^ 64 := by
 have := FD
 unfold XN ML JP
 simp only []
 generalize IntKind.u64.wrap (CK .u64 (IntKind.u64.wrap _) _ * 1609587929392839161) = y
 have := FD y (y.fdiv (2 ^ min (32 : Int).toNat IntKind.u64.bits))
 omega
theorem Ny (L : List UInt8) : ML L = (XN L : Int) := by
 have : 0 <= ML L := by
  unfold ML JP
  exact (FD _ _).1
 unfold XN
 omega
theorem OJ {x : Nat} (h : x < 2 ^ 64) : uM .u64 (x : Int) 4294967295 = ((x % 2 ^ 32 : Nat) : Int) := by
 unfold uM
 have e : IntKind.u64.bits = 64 := rfl
 have e2 : (4294967295 : Int) = ((2 ^ 32 - 1 : Nat) : Int) := by decide
 rw [e2, e, BitVec.ofInt_natCast, BitVec.ofInt_natCast, BitVec.toNat_and, BitVec.toNat_ofNat, BitVec.toNat_ofNat, Qa h, Qa (by omega), Qu]
 exact dY (by omega) (by omega)
def Fa (l all : List UInt8) : Except Int (List UInt8) := if l.length < 4 then .error 10 else if jH (l.take 4) ≠ XN all % 2 ^ 32 then .error 13 else .ok (l.drop 4)
def OL (lo hi pr : Nat) (w : Q6) (r : Q7) (w' : Q6) : Except Int (List UInt8) -> Prop
 | .error e => e ≠ 0 /\ r = .int .i64 e /\ fU w w' (fun y => y = pr)
 | .ok l => r = .int .i64 0 /\ Bg w' lo hi pr l 0 /\ fU w w' (fun y => y = pr)
theorem Lt {p pr lo hi : Nat} {va : Q7} {all l : List UInt8} {cs : List Q7} {w : Q6} (o : iE w p cs) (k0 : cs[0]? = some (.pointer (some ⟨pr, 0, none⟩))) (hr : Bg w lo hi pr l 0) (ha : Bs w va all) (hv : ¬ FY va (fun y => y = pr)) (hl : l.length <= 1000000) (hall : all.length <= 2000000) :
 fK pg jW #[.pointer (some ⟨p, 0, none⟩), va] w (fun r w' => OL lo hi pr w r w' (Fa l all)) := by
 refine Ah ?_
 unfold vV mZ
 refine (Hp (n := 4) o k0 hr hl (by omega)).mono ?_
 unfold Fa
 rintro r w1 (⟨h1, rfl, h2⟩ | ⟨h1, v, rfl, hb1, hat, hr1, x1⟩)
 .rw [h2]; clear h2 w1
  have n1 : ((10 : Int) != 0) = true := rfl
  rw [if_pos h1]
  simp (disch := omega) only [dQ, fE, cQ, stepR_skip, eE, eS, eI, eP, eX, fB, fF, eN, dL, eL, eQ, eZ, eC, eF, eJ, eH, eD, fA, eU, eB, dR, eM, eY, eA, fY, gC, gB, fZ, fV, fX, gA, fW, gD, dH, Result.ok.injEq, Next.value.injEq, true_and, and_true, dZ, dY, eT, fC, eK, fG, PJ, dS, dT, dU, dV, dN, dK, dP, dM, dI, cY, if_true, if_false, PG, PM, PH, PI, PL, PK, PF, PE, cR, cO, cH, bY, cV, dJ, bW, bX, cS, cK, cL, dE, cP, dD, dC, dW, cZ, cF, bH, bR, aT, aC, aL, dF, aI, cD, dB, dA, bN, aH, bC, aZ, cM, aD, aX, aM, aV, cU, aW, cJ, bS, aF, aG, aK, dO, aP, aO, bD, aR, cB, aE, bZ, bT, bG, bB, aY, cX, aJ, bM, aU, aQ, aS, aA, dG, cN, bO, aN, cW, bU, bV, cI, bQ, bP, bL, cA, bJ, cC, bA, bK, bF, bE, cG, n1]
  exact ⟨by decide, rfl, fU.refl _ _⟩
 rw [if_neg (by omega)]
 have n1 : ((0 : Int) != 0) = false := rfl
 simp (disch := omega) only [dQ, fE, cQ, stepR_skip, eE, eS, eI, eP, eX, fB, fF, eN, dL, eL, eQ, eZ, eC, eF, eJ, eH, eD, fA, eU, eB, dR, eM, eY, eA, fY, gC, gB, fZ, fV, fX, gA, fW, gD, dH, Result.ok.injEq, Next.value.injEq, true_and, and_true, dZ, dY, eT, fC, eK, fG, PJ, dS, dT, dU, dV, dN, dK, dP, dM, dI, cY, if_true, if_false, PG, PM, PH, PI, PL, PK, PF, PE, cR, cO, cH, bY, cV, dJ, bW, bX, cS, cK, cL, dE, cP, dD, dC, dW, cZ, cF, bH, bR, aT, aC, aL, dF, aI, cD, dB, dA, bN, aH, bC, aZ, cM, aD, aX, aM, aV, cU, aW, cJ, bS, aF, aG, aK, dO, aP, aO, bD, aR, cB, aE, bZ, bT, bG, bB, aY, cX, aJ, bM, aU, aQ, aS, aA, dG, cN, bO, aN, cW, bU, bV, cI, bQ, bP, bL, cA, bJ, cC, bA, bK, bF, bE, cG, n1]
 refine (uP hb1 (by rw [PR]; omega)).mono ?_
 rintro r w2 ⟨p2, rfl, hr2, x2⟩
 have z1 := x1.size
 have hz := hr.lt
 refine (pD (n := 4) hr2 (by rw [PR]; omega) ⟨by omega, by omega⟩).mono ?_
 rintro r w3 ⟨rfl, hr3, x3⟩
 have ht : sT (l.take 4) 0 4 = (l.take 4, [], 0) := by
  unfold sT
  rw [if_neg (by decide), if_neg (by rw [PR]; omega), PX (by rw [PR]; omega), QZ (by rw [PR]; omega)]
 rw [ht]
 have h2 : w1.heap.size <= p2 := hr2.1
 have x13 : fU w1 w3 kY := x2.trans x3 fun y hy h => by omega
 refine (Of all (by omega) va w3 ((ha.ext x1 hv).ext x13 (lC _))).mono ?_
 rintro r w4 ⟨rfl, x4⟩
 rw [Ny]
 have a32 := OJ (ND all)
 obtain ⟨q, hq⟩ : ∃ q, q = jH (l.take 4) := ⟨_, rfl⟩
 rw [<- hq]
 obtain ⟨q2, hq2⟩ : ∃ q, q = XN all % 2 ^ 32 := ⟨_, rfl⟩
 rw [<- hq2] at a32 ⊢
 by_cases he : q = q2
 .have n2 : ((q : Int) != (q2 : Int)) = false := by rw [he]; simp
  rw [if_neg (by simpa using he)]
  simp (disch := omega) only [dQ, fE, cQ, stepR_skip, eE, eS, eI, eP, eX, fB, fF, eN, dL, eL, eQ, eZ, eC, eF, eJ, eH, eD, fA, eU, eB, dR, eM, eY, eA, fY, gC, gB, fZ, fV, fX, gA, fW, gD, dH, Result.ok.injEq, Next.value.injEq, true_and, and_true, dZ, dY, eT, fC, eK, fG, PJ, dS, dT, dU, dV, dN, dK, dP, dM, dI, cY, if_true, if_false, PG, PM, PH, PI, PL, PK, PF, PE, cR, cO, cH, bY, cV, dJ, bW, bX, cS, cK, cL, dE, cP, dD, dC, dW, cZ, cF, bH, bR, aT, aC, aL, dF, aI, cD, dB, dA, bN, aH, bC, aZ, cM, aD, aX, aM, aV, cU, aW, cJ, bS, aF, aG, aK, dO, aP, aO, bD, aR, cB, aE, bZ, bT, bG, bB, aY, cX, aJ, bM, aU, aQ, aS, aA, dG, cN, bO, aN, cW, bU, bV, cI, bQ, bP, bL, cA, bJ, cC, bA, bK, bF, bE, cG, a32, n2]
  exact ⟨rfl, (hr1.ext x13 fun _ _ _ h => h).ext x4 fun _ _ _ h => h, (x1.trans x13 fun _ _ h => h.elim).trans x4 fun _ _ h => h.elim⟩
 .have n2 : ((q : Int) != (q2 : Int)) = true := by simp; omega
  rw [if_pos he]
  simp (disch := omega) only [dQ, fE, cQ, stepR_skip, eE, eS, eI, eP, eX, fB, fF, eN, dL, eL, eQ, eZ, eC, eF, eJ, eH, eD, fA, eU, eB, dR, eM, eY, eA, fY, gC, gB, fZ, fV, fX, gA, fW, gD, dH, Result.ok.injEq, Next.value.injEq, true_and, and_true, dZ, dY, eT, fC, eK, fG, PJ, dS, dT, dU, dV, dN, dK, dP, dM, dI, cY, if_true, if_false, PG, PM, PH, PI, PL, PK, PF, PE, cR, cO, cH, bY, cV, dJ, bW, bX, cS, cK, cL, dE, cP, dD, dC, dW, cZ, cF, bH, bR, aT, aC, aL, dF, aI, cD, dB, dA, bN, aH, bC, aZ, cM, aD, aX, aM, aV, cU, aW, cJ, bS, aF, aG, aK, dO, aP, aO, bD, aR, cB, aE, bZ, bT, bG, bB, aY, cX, aJ, bM, aU, aQ, aS, aA, dG, cN, bO, aN, cW, bU, bV, cI, bQ, bP, bL, cA, bJ, cC, bA, bK, bF, bE, cG, a32, n2]
  exact ⟨by decide, rfl, (x1.trans x13 fun _ _ h => h.elim).trans x4 fun _ _ h => h.elim⟩
def xN (h : FH) (l all : List UInt8) : Except Int (List UInt8 × List UInt8) :=
 if h.known = true /\ all.length ≠ h.size then .error 11 else if h.sum = true then (match Fa l all with | .error e => .error e | .ok l' => .ok (all, l')) else .ok (all, l)
structure DM where
 l : List UInt8
 win : Nat
 most : Nat
 out : List UInt8
 fr : Nat
 sk : Nat
def mD (pr : Nat) (vo : Q7) (m : DM) : List Q7 := [.pointer (some ⟨pr, 0, none⟩), .int .u64 (m.win : Nat), .int .i64 (m.most : Nat), vo, .int .i64 (m.fr : Nat), .int .i64 (m.sk : Nat)]
def Nq (w : Q6) (base p : Nat) (m : DM) : Prop :=
 ∃ pr vo lo hi, ∃ O : Nat -> Prop, iE w p (mD pr vo m) /\ Bg w lo hi pr m.l 0 /\ uR w O 1 vo m.out.length (m.out.map lU) /\ base <= p /\ base <= lo /\ (∀ b, O b -> base <= b /\ b ≠ p /\ ¬ (lo <= b /\ b < hi)) /\ ¬ (lo <= p /\ p < hi) /\ hi <= w.heap.size
theorem Nc {w : Q6} {S M : Nat -> Prop} {n : Nat} {v : Q7} {l : List Q7} (h : uR w S 1 v n l) (hM : ∀ b, S b -> ¬ M b) : ¬ FY v M := by
 rcases h.2 with ⟨rfl, rfl⟩ | ⟨b, c, rest, rfl, h2, _⟩
 .exact fun h => h
 .have := hM b h2
  cases n <;> simp_all [FY]
def Ls (base p : Nat) (w : Q6) (dm : DM) (r : Q7) (w' : Q6) : Except Int (List UInt8 × List UInt8) -> Prop
 | .error e => e ≠ 0 /\ r = .int .i64 e /\ fU w w' (fun y => base <= y)
 | .ok (all, l) => r = .int .i64 0 /\ Nq w' base p ⟨l, dm.win, dm.most, dm.out ++ all, dm.fr + 1, dm.sk⟩ /\ fU w w' (fun y => base <= y)
theorem Ib {RR : Q7 -> Q6 -> Prop} {base p pr lo hi : Nat} {O : Nat -> Prop} {vo va : Q7} {all : List UInt8} {m : DM} {w : Q6}
 (o : iE w p (mD pr vo m)) (hr : Bg w lo hi pr m.l 0) (oo : uR w O 1 vo m.out.length (m.out.map lU)) (hp : base <= p) (hlo : base <= lo) (hO : ∀ b, O b -> base <= b /\ b ≠ p /\ ¬ (lo <= b /\ b < hi)) (q1 : ¬ (lo <= p /\ p < hi)) (hhi : hi <= w.heap.size)
 (ha : Bs w va all) (h1 : m.out.length <= 2000000) (h2 : all.length <= 2000000) (h3 : m.fr <= 2000000)
 (hk : ∀ w', Nq w' base p ⟨m.l, m.win, m.most, m.out ++ all, m.fr + 1, m.sk⟩ -> fU w w' (fun y => base <= y) -> RR (.int .i64 0) w') :
 iM RR (.pointer (some ⟨p, 0, none⟩)) va w := by
 unfold iM
 have hz := o.lt
 have c3 := o.cell (off := 3)
 simp only [mD, PE, PF] at c3
 simp (disch := omega) only [dQ, fE, cQ, stepR_skip, eE, eS, eI, eP, eX, fB, fF, eN, dL, eL, eQ, eZ, eC, eF, eJ, eH, eD, fA, eU, eB, dR, eM, eY, eA, fY, gC, gB, fZ, fV, fX, gA, fW, gD, dH, Result.ok.injEq, Next.value.injEq, true_and, and_true, dZ, dY, eT, fC, eK, fG, PJ, dS, dT, dU, dV, dN, dK, dP, dM, dI, cY, if_true, if_false, PG, PM, PH, PI, PL, PK, PF, PE, cR, cO, cH, bY, cV, dJ, bW, bX, cS, cK, cL, dE, cP, dD, dC, dW, cZ, cF, bH, bR, aT, aC, aL, dF, aI, cD, dB, dA, bN, aH, bC, aZ, cM, aD, aX, aM, aV, cU, aW, cJ, bS, aF, aG, aK, dO, aP, aO, bD, aR, cB, aE, bZ, bT, bG, bB, aY, cX, aJ, bM, aU, aQ, aS, aA, dG, cN, bO, aN, cW, bU, bV, cI, bQ, bP, bL, cA, bJ, cC, bA, bK, bF, bE, cG, c3]
 refine OC (S := fun b => O b ∨ w.heap.size <= b) (pY oo fun b h _ => .inl h) ha (fun b h => .inr h) (by omega) fun v' w1 o1 x1 => ?_
 have hp1 : ¬ (O p ∨ w.heap.size <= p) := by
  rintro (h | h)
  .exact (hO p h).2.1 rfl
  .omega
 have o2 := o.ext x1 hp1
 obtain ⟨a', c', hv'⟩ := o1.len
 try simp (disch := omega) only [dQ, fE, cQ, stepR_skip, eE, eS, eI, eP, eX, fB, fF, eN, dL, eL, eQ, eZ, eC, eF, eJ, eH, eD, fA, eU, eB, dR, eM, eY, eA, fY, gC, gB, fZ, fV, fX, gA, fW, gD, dH, Result.ok.injEq, Next.value.injEq, true_and, and_true, dZ, dY, eT, fC, eK, fG, PJ, dS, dT, dU, dV, dN, dK, dP, dM, dI, cY, if_true, if_false, PG, PM, PH, PI, PL, PK, PF, PE, cR, cO, cH, bY, cV, dJ, bW, bX, cS, cK, cL, dE, cP, dD, dC, dW, cZ, cF, bH, bR, aT, aC, aL, dF, aI, cD, dB, dA, bN, aH, bC, aZ, cM, aD, aX, aM, aV, cU, aW, cJ, bS, aF, aG, aK, dO, aP, aO, bD, aR, cB, aE, bZ, bT, bG, bB, aY, cX, aJ, bM, aU, aQ, aS, aA, dG, cN, bO, aN, cW, bU, bV, cI, bQ, bP, bL, cA, bJ, cC, bA, bK, bF, bE, cG]
 refine FM (off := 3) o2 (by rw [hv'] <;> rfl) (by simp [mD]) fun w3 o3 x3 s3 => ?_
 simp only [mD, PV, PW] at o3
 have c4 := o3.cell (off := 4)
 simp only [PE, PF] at c4
 have e4 : (m.fr : Int) + 1 = ((m.fr + 1 : Nat) : Int) := by omega
 have w4 : IntKind.i64.wrap ((m.fr + 1 : Nat) : Int) = ((m.fr + 1 : Nat) : Int) := dZ (by omega) (by omega)
 simp (disch := omega) only [dQ, fE, cQ, stepR_skip, eE, eS, eI, eP, eX, fB, fF, eN, dL, eL, eQ, eZ, eC, eF, eJ, eH, eD, fA, eU, eB, dR, eM, eY, eA, fY, gC, gB, fZ, fV, fX, gA, fW, gD, dH, Result.ok.injEq, Next.value.injEq, true_and, and_true, dZ, dY, eT, fC, eK, fG, PJ, dS, dT, dU, dV, dN, dK, dP, dM, dI, cY, if_true, if_false, PG, PM, PH, PI, PL, PK, PF, PE, cR, cO, cH, bY, cV, dJ, bW, bX, cS, cK, cL, dE, cP, dD, dC, dW, cZ, cF, bH, bR, aT, aC, aL, dF, aI, cD, dB, dA, bN, aH, bC, aZ, cM, aD, aX, aM, aV, cU, aW, cJ, bS, aF, aG, aK, dO, aP, aO, bD, aR, cB, aE, bZ, bT, bG, bB, aY, cX, aJ, bM, aU, aQ, aS, aA, dG, cN, bO, aN, cW, bU, bV, cI, bQ, bP, bL, cA, bJ, cC, bA, bK, bF, bE, cG, c4, e4, w4]
 refine Iq (off := 4) o3 rfl (by simp) fun w5 o5 x5 s5 => ?_
 simp only [PV, PW] at o5
 have x35 := x3.seq x5
 have zz1 := x1.size
 have zz3 := x35.size
 have x05 : fU w w5 (fun y => O y ∨ w.heap.size <= y ∨ y = p) := (x1.mono fun y _ h => h.elim .inl fun h => .inr (.inl h)).seq (x35.mono fun y _ h => .inr (.inr h))
 refine hk w5 ⟨pr, v', lo, hi, fun b => (O b ∨ w.heap.size <= b), o5, ?_, o1.ext x35 ?_, hp, hlo, ?_, q1, by omega⟩ (x05.mono ?_)
 .refine hr.ext x05 fun b h1 h2 h => ?_
  rcases h with h | h | h
  .exact (hO b h).2.2 ⟨h1, h2⟩
  .omega
  .exact q1 (h ▸ ⟨h1, h2⟩)
 .intro b h e
  exact hp1 (e ▸ h)
 .rintro b (h | h)
  .exact hO b h
  .exact ⟨by omega, by omega, by omega⟩
 .rintro y hy (h | h | h)
  .exact (hO y h).1
  .omega
  .omega
theorem KP {base p pr ph lo hi : Nat} {O A : Nat -> Prop} {vo va : Q7} {all : List UInt8} {m dm : DM} {h : FH} {w0 w : Q6}
 (hdm : dm.win = m.win /\ dm.most = m.most /\ dm.out = m.out /\ dm.fr = m.fr /\ dm.sk = m.sk) (hx : fU w0 w (fun y => base <= y))
 (o : iE w p (mD pr vo m)) (hr : Bg w lo hi pr m.l 0) (oo : uR w O 1 vo m.out.length (m.out.map lU)) (hp : base <= p) (hlo : base <= lo) (hO : ∀ b, O b -> base <= b /\ b ≠ p /\ ¬ (lo <= b /\ b < hi)) (q1 : ¬ (lo <= p /\ p < hi)) (hhi : hi <= w.heap.size)
 (oh : iE w ph (AM h)) (ha : uR w A 1 va all.length (all.map lU)) (hA : ∀ b, A b -> ¬ (lo <= b /\ b < hi)) (h1 : m.out.length <= 2000000) (h2 : all.length <= 2000000) (h3 : m.fr <= 2000000) (hl : m.l.length <= 1000000) (hsz : h.size < 2 ^ 64) :
 jU (fun r w' => Ls base p w0 dm r w' (xN h m.l all)) (.pointer (some ⟨p, 0, none⟩)) (.pointer (some ⟨ph, 0, none⟩)) va w := by
 obtain ⟨RR, hRR⟩ : ∃ RR : Q7 -> Q6 -> Prop, RR = fun r w' => Ls base p w0 dm r w' (xN h m.l all) := ⟨_, rfl⟩
 rw [<- hRR]
 unfold jU oD
 have c2 := oh.cell (off := 2)
 have c1 := oh.cell (off := 1)
 have c3 := oh.cell (off := 3)
 simp only [AM, PE, PF] at c1 c2 c3
 obtain ⟨a', c', hva⟩ := ha.len
 have hb : Bs w va all := IJ ha
 have wl : IntKind.u64.wrap (all.length : Int) = all.length := dY (by omega) (by omega)
 have hpr : lo <= pr /\ pr < hi := ⟨hr.1, hr.2.1⟩
 have hnp : ¬ FY va (fun y => y = pr) := Nc ha fun b hb e => hA b hb (e ▸ hpr)
 have fin : ¬ (h.known = true /\ all.length ≠ h.size) -> kA (.bool h.sum) (fK pg jW #[.pointer (some ⟨p, 0, none⟩), va] w fun t105 w => dQ pg (fD .neq 26 (.tmp 106) (.const (.int .i64 0)) t105 (.int .i64 0)) w fun t107 w => kA t107 (RR t105 w) (iM RR (.pointer (some ⟨p, 0, none⟩)) va w)) (iM RR (.pointer (some ⟨p, 0, none⟩)) va w) := by
  intro hn
  cases hs : h.sum with
  | false =>
    simp (disch := omega) only [dQ, fE, cQ, stepR_skip, eE, eS, eI, eP, eX, fB, fF, eN, dL, eL, eQ, eZ, eC, eF, eJ, eH, eD, fA, eU, eB, dR, eM, eY, eA, fY, gC, gB, fZ, fV, fX, gA, fW, gD, dH, Result.ok.injEq, Next.value.injEq, true_and, and_true, dZ, dY, eT, fC, eK, fG, PJ, dS, dT, dU, dV, dN, dK, dP, dM, dI, cY, if_true, if_false, PG, PM, PH, PI, PL, PK, PF, PE, cR, cO, cH, bY, cV, dJ, bW, bX, cS, cK, cL, dE, cP, dD, dC, dW, cZ, cF, bH, bR, aT, aC, aL, dF, aI, cD, dB, dA, bN, aH, bC, aZ, cM, aD, aX, aM, aV, cU, aW, cJ, bS, aF, aG, aK, dO, aP, aO, bD, aR, cB, aE, bZ, bT, bG, bB, aY, cX, aJ, bM, aU, aQ, aS, aA, dG, cN, bO, aN, cW, bU, bV, cI, bQ, bP, bL, cA, bJ, cC, bA, bK, bF, bE, cG]
    refine Ib o hr oo hp hlo hO q1 hhi hb h1 h2 h3 fun w' hd x => ?_
    rw [hRR]
    unfold xN
    rw [if_neg hn, if_neg (by rw [hs]; simp)]
    refine ⟨rfl, ?_, hx.seq x⟩
    rw [hdm.1, hdm.2.1, hdm.2.2.1, hdm.2.2.2.1, hdm.2.2.2.2]
    exact hd
  | true =>
    simp (disch := omega) only [dQ, fE, cQ, stepR_skip, eE, eS, eI, eP, eX, fB, fF, eN, dL, eL, eQ, eZ, eC, eF, eJ, eH, eD, fA, eU, eB, dR, eM, eY, eA, fY, gC, gB, fZ, fV, fX, gA, fW, gD, dH, Result.ok.injEq, Next.value.injEq, true_and, and_true, dZ, dY, eT, fC, eK, fG, PJ, dS, dT, dU, dV, dN, dK, dP, dM, dI, cY, if_true, if_false, PG, PM, PH, PI, PL, PK, PF, PE, cR, cO, cH, bY, cV, dJ, bW, bX, cS, cK, cL, dE, cP, dD, dC, dW, cZ, cF, bH, bR, aT, aC, aL, dF, aI, cD, dB, dA, bN, aH, bC, aZ, cM, aD, aX, aM, aV, cU, aW, cJ, bS, aF, aG, aK, dO, aP, aO, bD, aR, cB, aE, bZ, bT, bG, bB, aY, cX, aJ, bM, aU, aQ, aS, aA, dG, cN, bO, aN, cW, bU, bV, cI, bQ, bP, bL, cA, bJ, cC, bA, bK, bF, bE, cG]
    refine (Lt o (by rfl) hr hb hnp hl h2).mono ?_
    intro r w1 hs1
    have hdt : xN h m.l all = match Fa m.l all with | .error e => .error e | .ok l' => .ok (all, l') := by
     unfold xN
     rw [if_neg hn, if_pos hs]
     try rfl
    cases hd : Fa m.l all with
    | error e =>
      rw [hd] at hs1
      obtain ⟨he, rfl, x1⟩ := hs1
      have n1 : (e != 0) = true := by simp [he]
      simp (disch := omega) only [dQ, fE, cQ, stepR_skip, eE, eS, eI, eP, eX, fB, fF, eN, dL, eL, eQ, eZ, eC, eF, eJ, eH, eD, fA, eU, eB, dR, eM, eY, eA, fY, gC, gB, fZ, fV, fX, gA, fW, gD, dH, Result.ok.injEq, Next.value.injEq, true_and, and_true, dZ, dY, eT, fC, eK, fG, PJ, dS, dT, dU, dV, dN, dK, dP, dM, dI, cY, if_true, if_false, PG, PM, PH, PI, PL, PK, PF, PE, cR, cO, cH, bY, cV, dJ, bW, bX, cS, cK, cL, dE, cP, dD, dC, dW, cZ, cF, bH, bR, aT, aC, aL, dF, aI, cD, dB, dA, bN, aH, bC, aZ, cM, aD, aX, aM, aV, cU, aW, cJ, bS, aF, aG, aK, dO, aP, aO, bD, aR, cB, aE, bZ, bT, bG, bB, aY, cX, aJ, bM, aU, aQ, aS, aA, dG, cN, bO, aN, cW, bU, bV, cI, bQ, bP, bL, cA, bJ, cC, bA, bK, bF, bE, cG, n1]
      rw [hRR, hdt, hd]
      exact ⟨he, rfl, hx.seq (x1.mono fun y _ h => by omega)⟩
    | ok l' =>
      rw [hd] at hs1
      obtain ⟨rfl, hr1, x1⟩ := hs1
      have n1 : ((0 : Int) != 0) = false := rfl
      simp (disch := omega) only [dQ, fE, cQ, stepR_skip, eE, eS, eI, eP, eX, fB, fF, eN, dL, eL, eQ, eZ, eC, eF, eJ, eH, eD, fA, eU, eB, dR, eM, eY, eA, fY, gC, gB, fZ, fV, fX, gA, fW, gD, dH, Result.ok.injEq, Next.value.injEq, true_and, and_true, dZ, dY, eT, fC, eK, fG, PJ, dS, dT, dU, dV, dN, dK, dP, dM, dI, cY, if_true, if_false, PG, PM, PH, PI, PL, PK, PF, PE, cR, cO, cH, bY, cV, dJ, bW, bX, cS, cK, cL, dE, cP, dD, dC, dW, cZ, cF, bH, bR, aT, aC, aL, dF, aI, cD, dB, dA, bN, aH, bC, aZ, cM, aD, aX, aM, aV, cU, aW, cJ, bS, aF, aG, aK, dO, aP, aO, bD, aR, cB, aE, bZ, bT, bG, bB, aY, cX, aJ, bM, aU, aQ, aS, aA, dG, cN, bO, aN, cW, bU, bV, cI, bQ, bP, bL, cA, bJ, cC, bA, bK, bF, bE, cG, n1]
      have z1 := x1.size
      refine Ib (m := ⟨l', m.win, m.most, m.out, m.fr, m.sk⟩) (o.ext x1 fun e => q1 (e ▸ hpr)) hr1 (oo.ext x1 fun b hb e => (hO b hb).2.2 (e ▸ hpr)) hp hlo hO q1 (by omega) (hb.ext x1 hnp) h1 h2 h3 fun w' hd' x => ?_
      rw [hRR, hdt, hd]
      refine ⟨rfl, ?_, hx.seq ((x1.mono fun y _ h => by omega).seq x)⟩
      rw [hdm.1, hdm.2.1, hdm.2.2.1, hdm.2.2.2.1, hdm.2.2.2.2]
      exact hd'
 cases hkn : h.known with
 | false =>
   rw [hkn] at c2
   have := fin (by rw [hkn]; simp)
   subst hva
   simp (disch := omega) only [dQ, fE, cQ, stepR_skip, eE, eS, eI, eP, eX, fB, fF, eN, dL, eL, eQ, eZ, eC, eF, eJ, eH, eD, fA, eU, eB, dR, eM, eY, eA, fY, gC, gB, fZ, fV, fX, gA, fW, gD, dH, Result.ok.injEq, Next.value.injEq, true_and, and_true, dZ, dY, eT, fC, eK, fG, PJ, dS, dT, dU, dV, dN, dK, dP, dM, dI, cY, if_true, if_false, PG, PM, PH, PI, PL, PK, PF, PE, cR, cO, cH, bY, cV, dJ, bW, bX, cS, cK, cL, dE, cP, dD, dC, dW, cZ, cF, bH, bR, aT, aC, aL, dF, aI, cD, dB, dA, bN, aH, bC, aZ, cM, aD, aX, aM, aV, cU, aW, cJ, bS, aF, aG, aK, dO, aP, aO, bD, aR, cB, aE, bZ, bT, bG, bB, aY, cX, aJ, bM, aU, aQ, aS, aA, dG, cN, bO, aN, cW, bU, bV, cI, bQ, bP, bL, cA, bJ, cC, bA, bK, bF, bE, cG, c2, c3]
   exact this
 | true =>
   rw [hkn] at c2
   subst hva
   by_cases he : all.length = h.size
   .have n1 : ((all.length : Int) != (h.size : Int)) = false := by rw [he]; simp
    have := fin (by simp [he])
    simp (disch := omega) only [dQ, fE, cQ, stepR_skip, eE, eS, eI, eP, eX, fB, fF, eN, dL, eL, eQ, eZ, eC, eF, eJ, eH, eD, fA, eU, eB, dR, eM, eY, eA, fY, gC, gB, fZ, fV, fX, gA, fW, gD, dH, Result.ok.injEq, Next.value.injEq, true_and, and_true, dZ, dY, eT, fC, eK, fG, PJ, dS, dT, dU, dV, dN, dK, dP, dM, dI, cY, if_true, if_false, PG, PM, PH, PI, PL, PK, PF, PE, cR, cO, cH, bY, cV, dJ, bW, bX, cS, cK, cL, dE, cP, dD, dC, dW, cZ, cF, bH, bR, aT, aC, aL, dF, aI, cD, dB, dA, bN, aH, bC, aZ, cM, aD, aX, aM, aV, cU, aW, cJ, bS, aF, aG, aK, dO, aP, aO, bD, aR, cB, aE, bZ, bT, bG, bB, aY, cX, aJ, bM, aU, aQ, aS, aA, dG, cN, bO, aN, cW, bU, bV, cI, bQ, bP, bL, cA, bJ, cC, bA, bK, bF, bE, cG, c2, c3, c1, wl, n1]
    exact this
   .have n1 : ((all.length : Int) != (h.size : Int)) = true := by simp; omega
    simp (disch := omega) only [dQ, fE, cQ, stepR_skip, eE, eS, eI, eP, eX, fB, fF, eN, dL, eL, eQ, eZ, eC, eF, eJ, eH, eD, fA, eU, eB, dR, eM, eY, eA, fY, gC, gB, fZ, fV, fX, gA, fW, gD, dH, Result.ok.injEq, Next.value.injEq, true_and, and_true, dZ, dY, eT, fC, eK, fG, PJ, dS, dT, dU, dV, dN, dK, dP, dM, dI, cY, if_true, if_false, PG, PM, PH, PI, PL, PK, PF, PE, cR, cO, cH, bY, cV, dJ, bW, bX, cS, cK, cL, dE, cP, dD, dC, dW, cZ, cF, bH, bR, aT, aC, aL, dF, aI, cD, dB, dA, bN, aH, bC, aZ, cM, aD, aX, aM, aV, cU, aW, cJ, bS, aF, aG, aK, dO, aP, aO, bD, aR, cB, aE, bZ, bT, bG, bB, aY, cX, aJ, bM, aU, aQ, aS, aA, dG, cN, bO, aN, cW, bU, bV, cI, bQ, bP, bL, cA, bJ, cC, bA, bK, bF, bE, cG, c2, c3, c1, wl, n1]
    rw [hRR]
    unfold xN
    rw [if_pos ⟨hkn, he⟩]
    exact ⟨by decide, rfl, hx⟩
def yH (h : FH) (room : Nat) : Nat -> List UInt8 -> List UInt8 -> Option (Except Int (List UInt8 × List UInt8))
 | 0, _, _ => none
 | f + 1, l, all => match EG l all h.window room with
   | none => none
   | some (.error e) => some (.error e)
   | some (.ok (a, l', b)) => if h.known = true /\ h.size < a.length then some (.error 11) else if b then some (.ok (a, l')) else yH h room f l' a
def IL (h : FH) : Except Int (List UInt8 × List UInt8) -> Except Int (List UInt8 × List UInt8)
 | .error e => .error e
 | .ok (a, l') => xN h l' a
theorem Mj {l all : List UInt8} {win room : Nat} {e : Int} (h : EG l all win room = some (.error e)) : e ≠ 0 := by
 unfold EG at h
 repeat' split at h
 all_goals first | (cases h; decide) | cases h
theorem KC {l all a l' : List UInt8} {win room : Nat} {b : Bool} (h : EG l all win room = some (.ok (a, l', b))) : a.length <= room /\ l'.length <= l.length := by
 unfold EG at h
 repeat' split at h
 all_goals first | cases h | skip
 rw [PN, PU]
 omega
theorem Lf {base p pr ph pq lo hi aB f : Nat} {O : Nat -> Prop} {vo va : Q7} {all : List UInt8} {m dm : DM} {h : FH} {w0 w : Q6} {mm : Except Int (List UInt8 × List UInt8)}
 (hdm : dm.win = m.win /\ dm.most = m.most /\ dm.out = m.out /\ dm.fr = m.fr /\ dm.sk = m.sk) (hx : fU w0 w (fun y => base <= y))
 (o : iE w p (mD pr vo m)) (hr : Bg w lo hi pr m.l 0) (oo : uR w O 1 vo m.out.length (m.out.map lU)) (hp : base <= p) (hlo : base <= lo) (hO : ∀ b, O b -> base <= b /\ b ≠ p /\ ¬ (lo <= b /\ b < hi) /\ b < aB) (hpq : base <= pq /\ pq ≠ p /\ pq ≠ ph /\ ¬ O pq) (q1 : ¬ (lo <= p /\ p < hi)) (q2 : ¬ (lo <= ph /\ ph < hi)) (q3 : ¬ (lo <= pq /\ pq < hi)) (hb : p < aB /\ ph < aB /\ pq < aB /\ hi <= aB /\ base <= aB /\ aB <= w.heap.size)
 (oh : iE w ph (AM h)) (og : iE w pq gL) (ha : uR w (fun b => aB <= b) 1 va all.length (all.map lU)) (h1 : m.out.length <= m.most) (h2 : all.length <= 2000000) (h3 : m.fr <= 2000000) (hmost : m.most <= 2000000) (hl : m.l.length <= 1000000) (hsz : h.size < 2 ^ 64)
 (hm : yH h (m.most - m.out.length) f m.l all = some mm) :
 jT (fun r w' => Ls base p w0 dm r w' (IL h mm)) (.pointer (some ⟨p, 0, none⟩)) (.pointer (some ⟨ph, 0, none⟩)) (.pointer (some ⟨pq, 0, none⟩)) va w := by
 obtain ⟨RR, hRR⟩ : ∃ RR : Q7 -> Q6 -> Prop, RR = fun r w' => Ls base p w0 dm r w' (IL h mm) := ⟨_, rfl⟩
 rw [<- hRR]
 unfold jT nL nM
 refine iG.rule (fun f (va : Q7) w1 => ∃ all l, yH h (m.most - m.out.length) f l all = some mm /\ fU w w1 (fun y => aB <= y ∨ y = pr ∨ y = pq) /\ Bg w1 lo hi pr l 0 /\ uR w1 (fun b => aB <= b) 1 va all.length (all.map lU) /\ iE w1 pq gL /\ all.length <= 2000000 /\ l.length <= 1000000) f
  ⟨all, m.l, hm, fU.refl _ _, hr, ha, og, h2, hl⟩ ?_
 clear hm ha og hl h2 hr all
 rintro f va w1 ⟨all, l, hm, x1, hr, ha, og, h2, hl⟩
 have hpr : lo <= pr /\ pr < hi := ⟨hr.1, hr.2.1⟩
 have z1 := x1.size
 have hnp : ¬ (aB <= p ∨ p = pr ∨ p = pq) := by omega
 have hnh : ¬ (aB <= ph ∨ ph = pr ∨ ph = pq) := by omega
 have hnO : ∀ b, O b -> ¬ (aB <= b ∨ b = pr ∨ b = pq) := by
  rintro b hb (h | h | h)
  .have := (hO b hb).2.2.2; omega
  .exact (hO b hb).2.2.1 (h ▸ hpr)
  .exact hpq.2.2.2 (h ▸ hb)
 have o1 := o.ext x1 hnp
 have oh1 := oh.ext x1 hnh
 have oo1 := oo.ext x1 hnO
 cases f with
 | zero => cases hm
 | succ f =>
   rw [yH] at hm
   unfold lD
   have hg := tP (off := 0) og (by simp [gL])
   simp only [gL, P5, P0, P6] at hg
   have c0 := oh1.cell (off := 0)
   have c1 := oh1.cell (off := 1)
   have c2 := oh1.cell (off := 2)
   simp only [AM, PE, PF] at c0 c1 c2
   simp (disch := omega) only [dQ, fE, cQ, stepR_skip, eE, eS, eI, eP, eX, fB, fF, eN, dL, eL, eQ, eZ, eC, eF, eJ, eH, eD, fA, eU, eB, dR, eM, eY, eA, fY, gC, gB, fZ, fV, fX, gA, fW, gD, dH, Result.ok.injEq, Next.value.injEq, true_and, and_true, dZ, dY, eT, fC, eK, fG, PJ, dS, dT, dU, dV, dN, dK, dP, dM, dI, cY, if_true, if_false, PG, PM, PH, PI, PL, PK, PF, PE, cR, cO, cH, bY, cV, dJ, bW, bX, cS, cK, cL, dE, cP, dD, dC, dW, cZ, cF, bH, bR, aT, aC, aL, dF, aI, cD, dB, dA, bN, aH, bC, aZ, cM, aD, aX, aM, aV, cU, aW, cJ, bS, aF, aG, aK, dO, aP, aO, bD, aR, cB, aE, bZ, bT, bG, bB, aY, cX, aJ, bM, aU, aQ, aS, aA, dG, cN, bO, aN, cW, bU, bV, cI, bQ, bP, bL, cA, bJ, cC, bA, bK, bF, bE, cG, hg, c0]
   obtain ⟨mb, hmb⟩ : ∃ mb, EG l all h.window (m.most - m.out.length) = some mb := by
    cases hd : EG l all h.window (m.most - m.out.length) with
    | none => rw [hd] at hm; cases hm
    | some mb => exact ⟨mb, rfl⟩
   rw [hmb] at hm
   refine (LZ (n := m.out.length) (most := m.most) o1 rfl rfl rfl oo1.len hr ha (fun b h => ⟨by omega, by omega⟩) (fun b h => by omega) (by omega) q1 h1 hl h2 hmost hmb).mono ?_
   intro r w2 hb2
   cases mb with
   | error e =>
     have he := Mj hmb
     cases hm
     obtain ⟨rfl, x2⟩ := hb2
     have n1 : (e != 0) = true := by simp [he]
     unfold OM
     simp (disch := omega) only [dQ, fE, cQ, stepR_skip, eE, eS, eI, eP, eX, fB, fF, eN, dL, eL, eQ, eZ, eC, eF, eJ, eH, eD, fA, eU, eB, dR, eM, eY, eA, fY, gC, gB, fZ, fV, fX, gA, fW, gD, dH, Result.ok.injEq, Next.value.injEq, true_and, and_true, dZ, dY, eT, fC, eK, fG, PJ, dS, dT, dU, dV, dN, dK, dP, dM, dI, cY, if_true, if_false, PG, PM, PH, PI, PL, PK, PF, PE, cR, cO, cH, bY, cV, dJ, bW, bX, cS, cK, cL, dE, cP, dD, dC, dW, cZ, cF, bH, bR, aT, aC, aL, dF, aI, cD, dB, dA, bN, aH, bC, aZ, cM, aD, aX, aM, aV, cU, aW, cJ, bS, aF, aG, aK, dO, aP, aO, bD, aR, cB, aE, bZ, bT, bG, bB, aY, cX, aJ, bM, aU, aQ, aS, aA, dG, cN, bO, aN, cW, bU, bV, cI, bQ, bP, bL, cA, bJ, cC, bA, bK, bF, bE, cG, n1]
     have og2 : iE w2 pq gL := og.ext x2 (by omega)
     refine iU og2 rfl (by simp [one]) (by simp [gL]) fun w3 o3 x3 s3 => ?_
     try simp (disch := omega) only [dQ, fE, cQ, stepR_skip, eE, eS, eI, eP, eX, fB, fF, eN, dL, eL, eQ, eZ, eC, eF, eJ, eH, eD, fA, eU, eB, dR, eM, eY, eA, fY, gC, gB, fZ, fV, fX, gA, fW, gD, dH, Result.ok.injEq, Next.value.injEq, true_and, and_true, dZ, dY, eT, fC, eK, fG, PJ, dS, dT, dU, dV, dN, dK, dP, dM, dI, cY, if_true, if_false, PG, PM, PH, PI, PL, PK, PF, PE, cR, cO, cH, bY, cV, dJ, bW, bX, cS, cK, cL, dE, cP, dD, dC, dW, cZ, cF, bH, bR, aT, aC, aL, dF, aI, cD, dB, dA, bN, aH, bC, aZ, cM, aD, aX, aM, aV, cU, aW, cJ, bS, aF, aG, aK, dO, aP, aO, bD, aR, cB, aE, bZ, bT, bG, bB, aY, cX, aJ, bM, aU, aQ, aS, aA, dG, cN, bO, aN, cW, bU, bV, cI, bQ, bP, bL, cA, bJ, cC, bA, bK, bF, bE, cG, n1]
     rw [hRR]
     exact ⟨he, rfl, hx.seq ((((x1.mono fun y _ h => by omega).seq (x2.mono fun y _ h => by omega))).seq (x3.mono fun y _ h => by omega))⟩
   | ok t =>
     obtain ⟨a, l', b⟩ := t
     obtain ⟨v, rfl, o2, hr2, x2⟩ := hb2
     have hlen := KC hmb
     have n1 : ((0 : Int) != 0) = false := rfl
     have z2 := x2.size
     have og2 := og.ext x2 (by omega)
     obtain ⟨av, cv, hv⟩ := o2.len
     unfold OS
     subst hv
     simp (disch := omega) only [dQ, fE, cQ, stepR_skip, eE, eS, eI, eP, eX, fB, fF, eN, dL, eL, eQ, eZ, eC, eF, eJ, eH, eD, fA, eU, eB, dR, eM, eY, eA, fY, gC, gB, fZ, fV, fX, gA, fW, gD, dH, Result.ok.injEq, Next.value.injEq, true_and, and_true, dZ, dY, eT, fC, eK, fG, PJ, dS, dT, dU, dV, dN, dK, dP, dM, dI, cY, if_true, if_false, PG, PM, PH, PI, PL, PK, PF, PE, cR, cO, cH, bY, cV, dJ, bW, bX, cS, cK, cL, dE, cP, dD, dC, dW, cZ, cF, bH, bR, aT, aC, aL, dF, aI, cD, dB, dA, bN, aH, bC, aZ, cM, aD, aX, aM, aV, cU, aW, cJ, bS, aF, aG, aK, dO, aP, aO, bD, aR, cB, aE, bZ, bT, bG, bB, aY, cX, aJ, bM, aU, aQ, aS, aA, dG, cN, bO, aN, cW, bU, bV, cI, bQ, bP, bL, cA, bJ, cC, bA, bK, bF, bE, cG, n1]
     refine iU og2 rfl (by simp [one]) (by simp [gL]) fun w3 o3 x3 s3 => ?_
     simp only [gJ, gL, PV, PW] at o3
     have x13 : fU w w3 (fun y => aB <= y ∨ y = pr ∨ y = pq) := (x1.seq (x2.mono fun y _ h => by omega)).seq (x3.mono fun y _ h => by omega)
     have oh3 := oh.ext x13 hnh
     have d0 := oh3.cell (off := 0)
     have d1 := oh3.cell (off := 1)
     have d2 := oh3.cell (off := 2)
     simp only [AM, PE, PF] at d0 d1 d2
     have o3' := o.ext x13 hnp
     have hr3 := hr2.ext x3 (fun b h1 h2 h => by omega)
     have o2' := o2.ext x3 (fun b h1 h => by omega)
     have wl : IntKind.u64.wrap (a.length : Int) = a.length := dY (by omega) (by omega)
     have go : ¬ (h.known = true /\ h.size < a.length) -> kA (.bool b) (jU RR (.pointer (some ⟨p, 0, none⟩)) (.pointer (some ⟨ph, 0, none⟩)) (.slice av a.length cv) w3) (∃ Pr, Pr < f + 1 /\ ∃ all l, yH h (m.most - m.out.length) Pr l all = some mm /\ fU w w3 (fun y => aB <= y ∨ y = pr ∨ y = pq) /\ Bg w3 lo hi pr l 0 /\ uR w3 (fun b => aB <= b) 1 (.slice av a.length cv) all.length (all.map lU) /\ iE w3 pq gL /\ all.length <= 2000000 /\ l.length <= 1000000) := by
      intro hn
      simp only [if_neg hn] at hm
      cases b with
      | true =>
        cases hm
        simp (disch := omega) only [dQ, fE, cQ, stepR_skip, eE, eS, eI, eP, eX, fB, fF, eN, dL, eL, eQ, eZ, eC, eF, eJ, eH, eD, fA, eU, eB, dR, eM, eY, eA, fY, gC, gB, fZ, fV, fX, gA, fW, gD, dH, Result.ok.injEq, Next.value.injEq, true_and, and_true, dZ, dY, eT, fC, eK, fG, PJ, dS, dT, dU, dV, dN, dK, dP, dM, dI, cY, if_true, if_false, PG, PM, PH, PI, PL, PK, PF, PE, cR, cO, cH, bY, cV, dJ, bW, bX, cS, cK, cL, dE, cP, dD, dC, dW, cZ, cF, bH, bR, aT, aC, aL, dF, aI, cD, dB, dA, bN, aH, bC, aZ, cM, aD, aX, aM, aV, cU, aW, cJ, bS, aF, aG, aK, dO, aP, aO, bD, aR, cB, aE, bZ, bT, bG, bB, aY, cX, aJ, bM, aU, aQ, aS, aA, dG, cN, bO, aN, cW, bU, bV, cI, bQ, bP, bL, cA, bJ, cC, bA, bK, bF, bE, cG]
        rw [hRR]
        exact KP (m := ⟨l', m.win, m.most, m.out, m.fr, m.sk⟩) hdm (hx.seq (x13.mono fun y _ h => by omega)) o3' hr3 (oo.ext x13 hnO) hp hlo (fun b hb => ⟨(hO b hb).1, (hO b hb).2.1, (hO b hb).2.2.1⟩) q1 (by omega) oh3 o2' (fun b h => by omega) (show m.out.length <= 2000000 by omega) (by omega) h3 (show l'.length <= 1000000 by omega) hsz
      | false =>
        simp (disch := omega) only [dQ, fE, cQ, stepR_skip, eE, eS, eI, eP, eX, fB, fF, eN, dL, eL, eQ, eZ, eC, eF, eJ, eH, eD, fA, eU, eB, dR, eM, eY, eA, fY, gC, gB, fZ, fV, fX, gA, fW, gD, dH, Result.ok.injEq, Next.value.injEq, true_and, and_true, dZ, dY, eT, fC, eK, fG, PJ, dS, dT, dU, dV, dN, dK, dP, dM, dI, cY, if_true, if_false, PG, PM, PH, PI, PL, PK, PF, PE, cR, cO, cH, bY, cV, dJ, bW, bX, cS, cK, cL, dE, cP, dD, dC, dW, cZ, cF, bH, bR, aT, aC, aL, dF, aI, cD, dB, dA, bN, aH, bC, aZ, cM, aD, aX, aM, aV, cU, aW, cJ, bS, aF, aG, aK, dO, aP, aO, bD, aR, cB, aE, bZ, bT, bG, bB, aY, cX, aJ, bM, aU, aQ, aS, aA, dG, cN, bO, aN, cW, bU, bV, cI, bQ, bP, bL, cA, bJ, cC, bA, bK, bF, bE, cG]
        exact ⟨f, by omega, a, l', hm, x13, hr3, o2', o3, by omega, by omega⟩
     cases hkn : h.known with
     | false =>
       rw [hkn] at d2
       have := go (by rw [hkn]; simp)
       simp (disch := omega) only [dQ, fE, cQ, stepR_skip, eE, eS, eI, eP, eX, fB, fF, eN, dL, eL, eQ, eZ, eC, eF, eJ, eH, eD, fA, eU, eB, dR, eM, eY, eA, fY, gC, gB, fZ, fV, fX, gA, fW, gD, dH, Result.ok.injEq, Next.value.injEq, true_and, and_true, dZ, dY, eT, fC, eK, fG, PJ, dS, dT, dU, dV, dN, dK, dP, dM, dI, cY, if_true, if_false, PG, PM, PH, PI, PL, PK, PF, PE, cR, cO, cH, bY, cV, dJ, bW, bX, cS, cK, cL, dE, cP, dD, dC, dW, cZ, cF, bH, bR, aT, aC, aL, dF, aI, cD, dB, dA, bN, aH, bC, aZ, cM, aD, aX, aM, aV, cU, aW, cJ, bS, aF, aG, aK, dO, aP, aO, bD, aR, cB, aE, bZ, bT, bG, bB, aY, cX, aJ, bM, aU, aQ, aS, aA, dG, cN, bO, aN, cW, bU, bV, cI, bQ, bP, bL, cA, bJ, cC, bA, bK, bF, bE, cG, n1, d2]
       exact this
     | true =>
       rw [hkn] at d2
       by_cases hlt : h.size < a.length
       .have g1 : decide ((a.length : Int) > (h.size : Int)) = true := decide_eq_true (by omega)
        have g2 : decide ((h.size : Int) < (a.length : Int)) = true := decide_eq_true (by omega)
        simp only [if_pos (⟨hkn, hlt⟩ : h.known = true /\ h.size < a.length)] at hm
        cases hm
        simp (disch := omega) only [dQ, fE, cQ, stepR_skip, eE, eS, eI, eP, eX, fB, fF, eN, dL, eL, eQ, eZ, eC, eF, eJ, eH, eD, fA, eU, eB, dR, eM, eY, eA, fY, gC, gB, fZ, fV, fX, gA, fW, gD, dH, Result.ok.injEq, Next.value.injEq, true_and, and_true, dZ, dY, eT, fC, eK, fG, PJ, dS, dT, dU, dV, dN, dK, dP, dM, dI, cY, if_true, if_false, PG, PM, PH, PI, PL, PK, PF, PE, cR, cO, cH, bY, cV, dJ, bW, bX, cS, cK, cL, dE, cP, dD, dC, dW, cZ, cF, bH, bR, aT, aC, aL, dF, aI, cD, dB, dA, bN, aH, bC, aZ, cM, aD, aX, aM, aV, cU, aW, cJ, bS, aF, aG, aK, dO, aP, aO, bD, aR, cB, aE, bZ, bT, bG, bB, aY, cX, aJ, bM, aU, aQ, aS, aA, dG, cN, bO, aN, cW, bU, bV, cI, bQ, bP, bL, cA, bJ, cC, bA, bK, bF, bE, cG, n1, d2, d1, wl, g1, g2]
        rw [hRR]
        exact ⟨by decide, rfl, hx.seq (x13.mono fun y _ h => by omega)⟩
       .have g1 : decide ((a.length : Int) > (h.size : Int)) = false := decide_eq_false (by omega)
        have g2 : decide ((h.size : Int) < (a.length : Int)) = false := decide_eq_false (by omega)
        have := go (by simp [hlt])
        simp (disch := omega) only [dQ, fE, cQ, stepR_skip, eE, eS, eI, eP, eX, fB, fF, eN, dL, eL, eQ, eZ, eC, eF, eJ, eH, eD, fA, eU, eB, dR, eM, eY, eA, fY, gC, gB, fZ, fV, fX, gA, fW, gD, dH, Result.ok.injEq, Next.value.injEq, true_and, and_true, dZ, dY, eT, fC, eK, fG, PJ, dS, dT, dU, dV, dN, dK, dP, dM, dI, cY, if_true, if_false, PG, PM, PH, PI, PL, PK, PF, PE, cR, cO, cH, bY, cV, dJ, bW, bX, cS, cK, cL, dE, cP, dD, dC, dW, cZ, cF, bH, bR, aT, aC, aL, dF, aI, cD, dB, dA, bN, aH, bC, aZ, cM, aD, aX, aM, aV, cU, aW, cJ, bS, aF, aG, aK, dO, aP, aO, bD, aR, cB, aE, bZ, bT, bG, bB, aY, cX, aJ, bM, aU, aQ, aS, aA, dG, cN, bO, aN, cW, bU, bV, cI, bQ, bP, bL, cA, bJ, cC, bA, bK, bF, bE, cG, n1, d2, d1, wl, g1, g2]
        exact this
def GJ (l : List UInt8) (win room : Nat) : Option (Except Int (List UInt8 × List UInt8)) :=
 match yZ l with
 | .error e => some (.error e)
 | .ok (h, n) => if win < h.window ∨ (h.known = true /\ room < h.size) then some (.error 12) else match yH h room (l.length + 1) (l.drop n) [] with | none => none | some mm => some (IL h mm)
theorem MI {L dict : Nat} {s : List UInt8 × Int} {h : FH} {e : Int} (hh : Ft L s dict h = .error e) : e ≠ 0 := by
 unfold Ft at hh
 split at hh
 .cases hh; assumption
 .split at hh
  .cases hh; decide
  .cases hh
theorem KS {l : List UInt8} {e : Int} (h : yZ l = .error e) : e ≠ 0 := by
 unfold yZ at h
 split at h
 .cases h; assumption
 .split at h
  .cases h; decide
  .exact MI h
theorem Oe (s : List UInt8 × Int) (n : Nat) (hn : n <= 8) : He s n < 2 ^ 64 := by
 unfold He
 split
 .have := Hx s n
  have h2 : 256 ^ n <= 256 ^ 8 := Qt (by omega) hn
  have h3 : (256 : Nat) ^ 8 = 2 ^ 64 := by decide
  omega
 .decide
theorem NY (s : List UInt8 × Int) (d : Nat) (hd : d < 256) : Lv d (He s (D8 d)) < 2 ^ 64 := by
 have h4 : d / 64 = 0 ∨ d / 64 = 1 ∨ d / 64 = 2 ∨ d / 64 = 3 := by omega
 have h8 : D8 d <= 8 := by
  unfold D8
  rcases h4 with h | h | h | h <;> rw [h] <;> simp
  split <;> omega
 have := Oe s (D8 d) h8
 unfold Lv
 split
 .rename_i h2
  rw [h2] at this ⊢
  have h5 : He s 2 < 65536 := by
   unfold He
   rw [if_pos (by omega)]
   exact Hx s 2
  omega
 .exact this
theorem Mb {l : List UInt8} {h : FH} {n : Nat} (hh : yZ l = .ok (h, n)) : h.size < 2 ^ 64 /\ n <= l.length := by
 unfold yZ at hh
 split at hh
 .cases hh
 .split at hh
  .cases hh
  .unfold FT Ft at hh
   split at hh
   .cases hh
   .split at hh
    .cases hh
    .cases hh
     have hd : JF (l, 0) 1 < 256 := Hx (l, 0) 1
     exact ⟨NY _ _ hd, by omega⟩
theorem MS {w : Q6} : fK pg nG #[] w (fun r w' => r = .agg #[.int .u32 1, .int .u32 4, .int .u32 8] /\ fU w w' kY) := by
 refine Du ?_
 unfold Dh tI
 refine Gp fun w1 o1 x1 s1 => ?_
 try simp (disch := omega) only [dQ, fE, cQ, stepR_skip, eE, eS, eI, eP, eX, fB, fF, eN, dL, eL, eQ, eZ, eC, eF, eJ, eH, eD, fA, eU, eB, dR, eM, eY, eA, fY, gC, gB, fZ, fV, fX, gA, fW, gD, dH, Result.ok.injEq, Next.value.injEq, true_and, and_true, dZ, dY, eT, fC, eK, fG, PJ, dS, dT, dU, dV, dN, dK, dP, dM, dI, cY, if_true, if_false, PG, PM, PH, PI, PL, PK, PF, PE, cR, cO, cH, bY, cV, dJ, bW, bX, cS, cK, cL, dE, cP, dD, dC, dW, cZ, cF, bH, bR, aT, aC, aL, dF, aI, cD, dB, dA, bN, aH, bC, aZ, cM, aD, aX, aM, aV, cU, aW, cJ, bS, aF, aG, aK, dO, aP, aO, bD, aR, cB, aE, bZ, bT, bG, bB, aY, cX, aJ, bM, aU, aQ, aS, aA, dG, cN, bO, aN, cW, bU, bV, cI, bQ, bP, bL, cA, bJ, cC, bA, bK, bF, bE, cG]
 refine Fk o1 rfl (by simp [one]) (by simp) fun w2 o2 x2 s2 => ?_
 refine FE o2 (by simp [gJ]) ?_
 exact ⟨rfl, x1.new x2 (by omega)⟩
theorem Mw {base p : Nat} {dm : DM} {w : Q6} {mm : Except Int (List UInt8 × List UInt8)} (hd : Nq w base p dm) (h1 : dm.out.length <= dm.most) (h3 : dm.fr <= 2000000) (hmost : dm.most <= 2000000) (hl : dm.l.length <= 1000000)
 (hm : GJ dm.l dm.win (dm.most - dm.out.length) = some mm) :
 fK pg lL #[.pointer (some ⟨p, 0, none⟩)] w (fun r w' => Ls base p w dm r w' mm) := by
 refine AN ?_
 unfold xL mX mT mW sP oB
 obtain ⟨RR, hRR⟩ : ∃ RR : Q7 -> Q6 -> Prop, RR = fun r w' => Ls base p w dm r w' mm := ⟨_, rfl⟩
 rw [<- hRR]
 obtain ⟨pr, vo, lo, hi, O, o, hr, oo, hp, hlo, hO, q1, hhi⟩ := hd
 have hpr : lo <= pr /\ pr < hi := ⟨hr.1, hr.2.1⟩
 have hzp := o.lt
 have hO1 : uR w (fun b => O b /\ b < w.heap.size) 1 vo dm.out.length (dm.out.map lU) := pY oo fun b h h2 => ⟨h, h2⟩
 have xd := fU.dr w kY
 have zd := xd.size
 have c0 := (jD o).cell (off := 0)
 simp only [mD, PE] at c0
 simp (disch := omega) only [dQ, fE, cQ, stepR_skip, eE, eS, eI, eP, eX, fB, fF, eN, dL, eL, eQ, eZ, eC, eF, eJ, eH, eD, fA, eU, eB, dR, eM, eY, eA, fY, gC, gB, fZ, fV, fX, gA, fW, gD, dH, Result.ok.injEq, Next.value.injEq, true_and, and_true, dZ, dY, eT, fC, eK, fG, PJ, dS, dT, dU, dV, dN, dK, dP, dM, dI, cY, if_true, if_false, PG, PM, PH, PI, PL, PK, PF, PE, cR, cO, cH, bY, cV, dJ, bW, bX, cS, cK, cL, dE, cP, dD, dC, dW, cZ, cF, bH, bR, aT, aC, aL, dF, aI, cD, dB, dA, bN, aH, bC, aZ, cM, aD, aX, aM, aV, cU, aW, cJ, bS, aF, aG, aK, dO, aP, aO, bD, aR, cB, aE, bZ, bT, bG, bB, aY, cX, aJ, bM, aU, aQ, aS, aA, dG, cN, bO, aN, cW, bU, bV, cI, bQ, bP, bL, cA, bJ, cC, bA, bK, bF, bE, cG, c0]
 refine (CC (hr.ext xd (fun _ _ _ h => h))).mono ?_
 rintro r w1 ⟨rfl, hw1⟩
 rw [hw1]; clear hw1 w1
 have o := jD o
 have hr := hr.ext xd (fun _ _ _ h => h)
 have hO1 := hO1.ext xd (fun _ _ h => h)
 obtain ⟨wd, hwd⟩ : ∃ x, x = dr w := ⟨_, rfl⟩
 rw [<- hwd] at o hr hO1 xd zd c0 ⊢
 simp (disch := omega) only [dQ, fE, cQ, stepR_skip, eE, eS, eI, eP, eX, fB, fF, eN, dL, eL, eQ, eZ, eC, eF, eJ, eH, eD, fA, eU, eB, dR, eM, eY, eA, fY, gC, gB, fZ, fV, fX, gA, fW, gD, dH, Result.ok.injEq, Next.value.injEq, true_and, and_true, dZ, dY, eT, fC, eK, fG, PJ, dS, dT, dU, dV, dN, dK, dP, dM, dI, cY, if_true, if_false, PG, PM, PH, PI, PL, PK, PF, PE, cR, cO, cH, bY, cV, dJ, bW, bX, cS, cK, cL, dE, cP, dD, dC, dW, cZ, cF, bH, bR, aT, aC, aL, dF, aI, cD, dB, dA, bN, aH, bC, aZ, cM, aD, aX, aM, aV, cU, aW, cJ, bS, aF, aG, aK, dO, aP, aO, bD, aR, cB, aE, bZ, bT, bG, bB, aY, cX, aJ, bM, aU, aQ, aS, aA, dG, cN, bO, aN, cW, bU, bV, cI, bQ, bP, bL, cA, bJ, cC, bA, bK, bF, bE, cG, c0]
 refine (EU hr (by omega) (by omega)).mono ?_
 rintro rest w1 ⟨hb1, hat, hr1, x1⟩
 have ht : sT dm.l 0 dm.l.length = (dm.l, [], 0) := by
  unfold sT
  rw [if_neg (by decide), if_neg (by omega), PX (by omega), QZ (by omega)]
 rw [ht] at hb1 hr1
 have hb1 : Bs w1 rest dm.l := hb1
 clear hr1
 have o1 := o.ext x1 (fun e => q1 (e ▸ hpr))
 have oo1 : uR w1 (fun b => O b /\ b < w.heap.size) 1 vo dm.out.length (dm.out.map lU) := hO1.ext x1 fun b h e => (hO b h.1).2.2 (e ▸ hpr)
 have z1 := x1.size
 refine (JC hb1 hl).mono ?_
 rintro r w2 ⟨rfl, x2⟩
 unfold GJ at hm
 have z2 := x2.size
 cases hf : yZ dm.l with
 | error e =>
   have he := KS hf
   rw [hf] at hm
   cases hm
   have n1 : (e != 0) = true := by simp [he]
   unfold MM Pa
   simp (disch := omega) only [dQ, fE, cQ, stepR_skip, eE, eS, eI, eP, eX, fB, fF, eN, dL, eL, eQ, eZ, eC, eF, eJ, eH, eD, fA, eU, eB, dR, eM, eY, eA, fY, gC, gB, fZ, fV, fX, gA, fW, gD, dH, Result.ok.injEq, Next.value.injEq, true_and, and_true, dZ, dY, eT, fC, eK, fG, PJ, dS, dT, dU, dV, dN, dK, dP, dM, dI, cY, if_true, if_false, PG, PM, PH, PI, PL, PK, PF, PE, cR, cO, cH, bY, cV, dJ, bW, bX, cS, cK, cL, dE, cP, dD, dC, dW, cZ, cF, bH, bR, aT, aC, aL, dF, aI, cD, dB, dA, bN, aH, bC, aZ, cM, aD, aX, aM, aV, cU, aW, cJ, bS, aF, aG, aK, dO, aP, aO, bD, aR, cB, aE, bZ, bT, bG, bB, aY, cX, aJ, bM, aU, aQ, aS, aA, dG, cN, bO, aN, cW, bU, bV, cI, bQ, bP, bL, cA, bJ, cC, bA, bK, bF, bE, cG]
   refine qN fun w3 o3 x3 s3 => ?_
   refine jF o3 rfl (by simp [one]) (by simp) fun w4 o4 x4 s4 => ?_
   simp (disch := omega) only [dQ, fE, cQ, stepR_skip, eE, eS, eI, eP, eX, fB, fF, eN, dL, eL, eQ, eZ, eC, eF, eJ, eH, eD, fA, eU, eB, dR, eM, eY, eA, fY, gC, gB, fZ, fV, fX, gA, fW, gD, dH, Result.ok.injEq, Next.value.injEq, true_and, and_true, dZ, dY, eT, fC, eK, fG, PJ, dS, dT, dU, dV, dN, dK, dP, dM, dI, cY, if_true, if_false, PG, PM, PH, PI, PL, PK, PF, PE, cR, cO, cH, bY, cV, dJ, bW, bX, cS, cK, cL, dE, cP, dD, dC, dW, cZ, cF, bH, bR, aT, aC, aL, dF, aI, cD, dB, dA, bN, aH, bC, aZ, cM, aD, aX, aM, aV, cU, aW, cJ, bS, aF, aG, aK, dO, aP, aO, bD, aR, cB, aE, bZ, bT, bG, bB, aY, cX, aJ, bM, aU, aQ, aS, aA, dG, cN, bO, aN, cW, bU, bV, cI, bQ, bP, bL, cA, bJ, cC, bA, bK, bF, bE, cG, n1]
   rw [hRR]
   have x24 : fU w2 w4 kY := x3.new x4 (by omega)
   exact ⟨he, rfl, (((xd.mono fun _ _ h => h.elim).seq (x1.mono fun y _ h => by omega)).seq ((x2.seq x24).mono fun _ _ h => h.elim))⟩
 | ok t =>
   obtain ⟨h, n⟩ := t
   have hok := Mb hf
   rw [hf] at hm
   have n1 : ((0 : Int) != 0) = false := rfl
   unfold MM Pa
   simp (disch := omega) only [dQ, fE, cQ, stepR_skip, eE, eS, eI, eP, eX, fB, fF, eN, dL, eL, eQ, eZ, eC, eF, eJ, eH, eD, fA, eU, eB, dR, eM, eY, eA, fY, gC, gB, fZ, fV, fX, gA, fW, gD, dH, Result.ok.injEq, Next.value.injEq, true_and, and_true, dZ, dY, eT, fC, eK, fG, PJ, dS, dT, dU, dV, dN, dK, dP, dM, dI, cY, if_true, if_false, PG, PM, PH, PI, PL, PK, PF, PE, cR, cO, cH, bY, cV, dJ, bW, bX, cS, cK, cL, dE, cP, dD, dC, dW, cZ, cF, bH, bR, aT, aC, aL, dF, aI, cD, dB, dA, bN, aH, bC, aZ, cM, aD, aX, aM, aV, cU, aW, cJ, bS, aF, aG, aK, dO, aP, aO, bD, aR, cB, aE, bZ, bT, bG, bB, aY, cX, aJ, bM, aU, aQ, aS, aA, dG, cN, bO, aN, cW, bU, bV, cI, bQ, bP, bL, cA, bJ, cC, bA, bK, bF, bE, cG]
   refine qN fun w3 o3 x3 s3 => ?_
   obtain ⟨ph, hph⟩ : ∃ p, p = w2.heap.size := ⟨_, rfl⟩
   rw [<- hph] at o3 ⊢
   refine jF o3 rfl (by simp [one]) (by simp) fun w4 o4 x4 s4 => ?_
   simp only [gJ, PV, PW] at o4
   have oh4 : iE w4 ph (AM h) := o4
   have x24 : fU w2 w4 kY := x3.new x4 (by omega)
   have x14 : fU w1 w4 kY := x2.seq x24
   have hz3 := o4.lt
   obtain ⟨va, vc, hrest, hvc⟩ := hb1.len
   rw [PQ] at hrest hvc
   subst hrest
   have hb4 := hb1.ext x14 (lC _)
   have t0 : (n : Int).toNat = n := PJ _
   have hbd : Bs w4 (.slice (iL va vc n 1) (dm.l.length - n) (vc - n)) (dm.l.drop n) := by
    have := hb4.drop' (k := n) (by omega)
    rwa [<- QQ] at this
   simp (disch := omega) only [dQ, fE, cQ, stepR_skip, eE, eS, eI, eP, eX, fB, fF, eN, dL, eL, eQ, eZ, eC, eF, eJ, eH, eD, fA, eU, eB, dR, eM, eY, eA, fY, gC, gB, fZ, fV, fX, gA, fW, gD, dH, Result.ok.injEq, Next.value.injEq, true_and, and_true, dZ, dY, eT, fC, eK, fG, PJ, dS, dT, dU, dV, dN, dK, dP, dM, dI, cY, if_true, if_false, PG, PM, PH, PI, PL, PK, PF, PE, cR, cO, cH, bY, cV, dJ, bW, bX, cS, cK, cL, dE, cP, dD, dC, dW, cZ, cF, bH, bR, aT, aC, aL, dF, aI, cD, dB, dA, bN, aH, bC, aZ, cM, aD, aX, aM, aV, cU, aW, cJ, bS, aF, aG, aK, dO, aP, aO, bD, aR, cB, aE, bZ, bT, bG, bB, aY, cX, aJ, bM, aU, aQ, aS, aA, dG, cN, bO, aN, cW, bU, bV, cI, bQ, bP, bL, cA, bJ, cC, bA, bK, bF, bE, cG, n1, t0]
   refine (uP hbd (by rw [PU]; omega)).mono ?_
   rintro r w5 ⟨p5, rfl, hr5, x5⟩
   have z4 := x14.size
   have z5 := x5.size
   have o5 := (o1.ext x14 (fun h => h)).ext x5 (fun h => h)
   refine DK (off := 0) o5 rfl (by simp [mD]) fun w6 o6 x6 s6 => ?_
   simp only [mD, PV] at o6
   have x46 : fU w4 w6 (fun y => y = p) := (x5.mono fun _ _ h => h.elim).seq x6
   have x06 : fU w w6 (fun y => base <= y) := ((((xd.mono fun _ _ h => h.elim).seq (x1.mono fun y _ h => by omega)).seq (x14.mono fun _ _ h => h.elim)).seq (x46.mono fun y _ h => by omega))
   have hphp : ph ≠ p := by omega
   have oh6 := oh4.ext x46 hphp
   have oo6 := (oo1.ext x14 fun _ _ h => h).ext x46 fun b h e => (hO b h.1).2.1 e
   have h5lo : w4.heap.size <= p5 /\ p5 < w5.heap.size := ⟨hr5.1, hr5.2.1⟩
   have hr6 := hr5.ext x6 (fun b h1 h2 h => by omega)
   have ch0 := oh6.cell (off := 0)
   have ch1 := oh6.cell (off := 1)
   have ch2 := oh6.cell (off := 2)
   have eh0 := (jD oh6).cell (off := 0)
   have eh1 := (jD oh6).cell (off := 1)
   have eh2 := (jD oh6).cell (off := 2)
   simp only [AM, PE, PF] at ch0 ch1 ch2 eh0 eh1 eh2
   have co1 := o6.cell (off := 1)
   have co2 := o6.cell (off := 2)
   have co3 := o6.cell (off := 3)
   have eo1 := (jD o6).cell (off := 1)
   have eo2 := (jD o6).cell (off := 2)
   have eo3 := (jD o6).cell (off := 3)
   simp only [PE, PF] at co1 co2 co3 eo1 eo2 eo3
   obtain ⟨av, cv, hvo⟩ := oo6.len
   subst hvo
   have e9 : (dm.most : Int) - (dm.out.length : Int) = ((dm.most - dm.out.length : Nat) : Int) := by omega
   have w9 : IntKind.u64.wrap ((dm.most - dm.out.length : Nat) : Int) = ((dm.most - dm.out.length : Nat) : Int) := dY (by omega) (by omega)
   by_cases hbig : dm.win < h.window ∨ (h.known = true /\ dm.most - dm.out.length < h.size)
   .simp only [if_pos hbig] at hm
    cases hm
    have fin : RR (.int .i64 12) (dr w6) := by rw [hRR]; exact ⟨by decide, rfl, x06.seq (fU.dr w6 _)⟩
    by_cases hw : dm.win < h.window
    .have d1 : decide ((h.window : Int) > (dm.win : Int)) = true := decide_eq_true (by omega)
     have d2 : decide ((dm.win : Int) < (h.window : Int)) = true := decide_eq_true (by omega)
     have iu : lT undef true = false := rfl
     simp (disch := omega) only [dQ, fE, cQ, stepR_skip, eE, eS, eI, eP, eX, fB, fF, eN, dL, eL, eQ, eZ, eC, eF, eJ, eH, eD, fA, eU, eB, dR, eM, eY, eA, fY, gC, gB, fZ, fV, fX, gA, fW, gD, dH, Result.ok.injEq, Next.value.injEq, true_and, and_true, dZ, dY, eT, fC, eK, fG, PJ, dS, dT, dU, dV, dN, dK, dP, dM, dI, cY, if_true, if_false, PG, PM, PH, PI, PL, PK, PF, PE, cR, cO, cH, bY, cV, dJ, bW, bX, cS, cK, cL, dE, cP, dD, dC, dW, cZ, cF, bH, bR, aT, aC, aL, dF, aI, cD, dB, dA, bN, aH, bC, aZ, cM, aD, aX, aM, aV, cU, aW, cJ, bS, aF, aG, aK, dO, aP, aO, bD, aR, cB, aE, bZ, bT, bG, bB, aY, cX, aJ, bM, aU, aQ, aS, aA, dG, cN, bO, aN, cW, bU, bV, cI, bQ, bP, bL, cA, bJ, cC, bA, bK, bF, bE, cG, ch0, ch1, ch2, eh0, eh1, eh2, co1, co2, co3, eo1, eo2, eo3, d1, d2, iu]
     exact fin
    .have hks := hbig.resolve_left hw
     have d1 : decide ((h.window : Int) > (dm.win : Int)) = false := decide_eq_false (by omega)
     have d2 : decide ((dm.win : Int) < (h.window : Int)) = false := decide_eq_false (by omega)
     have d3 : decide ((h.size : Int) > ((dm.most - dm.out.length : Nat) : Int)) = true := decide_eq_true (by omega)
     have d4 : decide (((dm.most - dm.out.length : Nat) : Int) < (h.size : Int)) = true := decide_eq_true (by omega)
     rw [hks.1] at ch2 eh2
     simp (disch := omega) only [dQ, fE, cQ, stepR_skip, eE, eS, eI, eP, eX, fB, fF, eN, dL, eL, eQ, eZ, eC, eF, eJ, eH, eD, fA, eU, eB, dR, eM, eY, eA, fY, gC, gB, fZ, fV, fX, gA, fW, gD, dH, Result.ok.injEq, Next.value.injEq, true_and, and_true, dZ, dY, eT, fC, eK, fG, PJ, dS, dT, dU, dV, dN, dK, dP, dM, dI, cY, if_true, if_false, PG, PM, PH, PI, PL, PK, PF, PE, cR, cO, cH, bY, cV, dJ, bW, bX, cS, cK, cL, dE, cP, dD, dC, dW, cZ, cF, bH, bR, aT, aC, aL, dF, aI, cD, dB, dA, bN, aH, bC, aZ, cM, aD, aX, aM, aV, cU, aW, cJ, bS, aF, aG, aK, dO, aP, aO, bD, aR, cB, aE, bZ, bT, bG, bB, aY, cX, aJ, bM, aU, aQ, aS, aA, dG, cN, bO, aN, cW, bU, bV, cI, bQ, bP, bL, cA, bJ, cC, bA, bK, bF, bE, cG, ch0, ch1, ch2, eh0, eh1, eh2, co1, co2, co3, eo1, eo2, eo3, d1, d2, d3, d4, e9, w9]
     exact fin
   .simp only [if_neg hbig] at hm
    have hw : ¬ dm.win < h.window := fun h => hbig (.inl h)
    have d1 : decide ((h.window : Int) > (dm.win : Int)) = false := decide_eq_false (by omega)
    have d2 : decide ((dm.win : Int) < (h.window : Int)) = false := decide_eq_false (by omega)
    obtain ⟨mb, hmb⟩ : ∃ mb, yH h (dm.most - dm.out.length) (dm.l.length + 1) (dm.l.drop n) [] = some mb := by
     cases hd : yH h (dm.most - dm.out.length) (dm.l.length + 1) (dm.l.drop n) [] with
     | none => rw [hd] at hm; cases hm
     | some mb => exact ⟨mb, rfl⟩
    rw [hmb] at hm
    cases hm
    obtain ⟨K, hK⟩ : ∃ K : Q6 -> Prop, K = fun w => fK pg nG #[] w fun t64 w => dQ pg (iB 80 [(2, t64)]) w fun t65 w => dQ pg (lH 80) w fun Is w => dQ pg (fQ 80 Is t65) w fun _u w => jT RR (.pointer (some ⟨p, 0, none⟩)) (.pointer (some ⟨ph, 0, none⟩)) Is sN w := ⟨_, rfl⟩
    have main : K (dr w6) := by
     rw [hK]
     refine MS.mono ?_
     rintro r w7 ⟨rfl, x7⟩
     simp (disch := omega) only [dQ, fE, cQ, stepR_skip, eE, eS, eI, eP, eX, fB, fF, eN, dL, eL, eQ, eZ, eC, eF, eJ, eH, eD, fA, eU, eB, dR, eM, eY, eA, fY, gC, gB, fZ, fV, fX, gA, fW, gD, dH, Result.ok.injEq, Next.value.injEq, true_and, and_true, dZ, dY, eT, fC, eK, fG, PJ, dS, dT, dU, dV, dN, dK, dP, dM, dI, cY, if_true, if_false, PG, PM, PH, PI, PL, PK, PF, PE, cR, cO, cH, bY, cV, dJ, bW, bX, cS, cK, cL, dE, cP, dD, dC, dW, cZ, cF, bH, bR, aT, aC, aL, dF, aI, cD, dB, dA, bN, aH, bC, aZ, cM, aD, aX, aM, aV, cU, aW, cJ, bS, aF, aG, aK, dO, aP, aO, bD, aR, cB, aE, bZ, bT, bG, bB, aY, cX, aJ, bM, aU, aQ, aS, aA, dG, cN, bO, aN, cW, bU, bV, cI, bQ, bP, bL, cA, bJ, cC, bA, bK, bF, bE, cG]
     refine BO fun w8 o8 x8 s8 => ?_
     obtain ⟨pq, hpq⟩ : ∃ q, q = w7.heap.size := ⟨_, rfl⟩
     rw [<- hpq] at o8 ⊢
     refine iU o8 rfl (by simp [one]) (by simp) fun w9 o9 x9 s9 => ?_
     simp only [gJ, PV, PW] at o9
     have x69 : fU w6 w9 kY := (((fU.dr w6 kY).seq x7).seq x8).trans x9 fun y hy h => by
      have := (fU.dr w6 kY).size
      have := x7.size
      omega
     have zz : w6.heap.size <= w7.heap.size := by
      have := (fU.dr w6 kY).size
      have := x7.size
      omega
     have z6 := x6.size
     rw [hRR]
     have hz8 := o8.lt
     refine Lf (aB := w9.heap.size) (m := ⟨dm.l.drop n, dm.win, dm.most, dm.out, dm.fr, dm.sk⟩) ⟨rfl, rfl, rfl, rfl, rfl⟩ (x06.seq (x69.mono fun _ _ h => h.elim)) (o6.ext x69 (fun h => h)) (hr6.ext x69 fun _ _ _ h => h) (oo6.ext x69 fun _ _ h => h) hp (by omega) (fun b hb => ⟨(hO b hb.1).1, (hO b hb.1).2.1, by omega, by omega⟩) ⟨by omega, by omega, by omega, fun h => by omega⟩ (by omega) (by omega) (by omega) (by omega) (oh6.ext x69 (fun h => h)) o9 ?_ h1 (by simp) h3 hmost (by show (dm.l.drop n).length <= _; rw [PU]; omega) hok.1 hmb
     exact ⟨rfl, .inl ⟨rfl, rfl⟩⟩
    rw [hK] at main
    unfold sN at main
    cases hkn : h.known with
    | false =>
      rw [hkn] at ch2 eh2
      simp (disch := omega) only [dQ, fE, cQ, stepR_skip, eE, eS, eI, eP, eX, fB, fF, eN, dL, eL, eQ, eZ, eC, eF, eJ, eH, eD, fA, eU, eB, dR, eM, eY, eA, fY, gC, gB, fZ, fV, fX, gA, fW, gD, dH, Result.ok.injEq, Next.value.injEq, true_and, and_true, dZ, dY, eT, fC, eK, fG, PJ, dS, dT, dU, dV, dN, dK, dP, dM, dI, cY, if_true, if_false, PG, PM, PH, PI, PL, PK, PF, PE, cR, cO, cH, bY, cV, dJ, bW, bX, cS, cK, cL, dE, cP, dD, dC, dW, cZ, cF, bH, bR, aT, aC, aL, dF, aI, cD, dB, dA, bN, aH, bC, aZ, cM, aD, aX, aM, aV, cU, aW, cJ, bS, aF, aG, aK, dO, aP, aO, bD, aR, cB, aE, bZ, bT, bG, bB, aY, cX, aJ, bM, aU, aQ, aS, aA, dG, cN, bO, aN, cW, bU, bV, cI, bQ, bP, bL, cA, bJ, cC, bA, bK, bF, bE, cG, ch0, ch1, ch2, eh0, eh1, eh2, co1, co2, co3, eo1, eo2, eo3, d1, d2]
      exact main
    | true =>
      rw [hkn] at ch2 eh2
      have hns : ¬ dm.most - dm.out.length < h.size := fun h' => hbig (.inr ⟨hkn, h'⟩)
      have d3 : decide ((h.size : Int) > ((dm.most - dm.out.length : Nat) : Int)) = false := decide_eq_false (by omega)
      have d4 : decide (((dm.most - dm.out.length : Nat) : Int) < (h.size : Int)) = false := decide_eq_false (by omega)
      simp (disch := omega) only [dQ, fE, cQ, stepR_skip, eE, eS, eI, eP, eX, fB, fF, eN, dL, eL, eQ, eZ, eC, eF, eJ, eH, eD, fA, eU, eB, dR, eM, eY, eA, fY, gC, gB, fZ, fV, fX, gA, fW, gD, dH, Result.ok.injEq, Next.value.injEq, true_and, and_true, dZ, dY, eT, fC, eK, fG, PJ, dS, dT, dU, dV, dN, dK, dP, dM, dI, cY, if_true, if_false, PG, PM, PH, PI, PL, PK, PF, PE, cR, cO, cH, bY, cV, dJ, bW, bX, cS, cK, cL, dE, cP, dD, dC, dW, cZ, cF, bH, bR, aT, aC, aL, dF, aI, cD, dB, dA, bN, aH, bC, aZ, cM, aD, aX, aM, aV, cU, aW, cJ, bS, aF, aG, aK, dO, aP, aO, bD, aR, cB, aE, bZ, bT, bG, bB, aY, cX, aJ, bM, aU, aQ, aS, aA, dG, cN, bO, aN, cW, bU, bV, cI, bQ, bP, bL, cA, bJ, cC, bA, bK, bF, bE, cG, ch0, ch1, ch2, eh0, eh1, eh2, co1, co2, co3, eo1, eo2, eo3, d1, d2, d3, d4, e9, w9]
      exact main
def Lg (l : List UInt8) : Except Int (List UInt8) := if l.length < 4 then .error 10 else if l.length - 4 < jH (l.take 4) then .error 10 else .ok (l.drop (4 + jH (l.take 4)))
def OT (base p : Nat) (w : Q6) (dm : DM) (r : Q7) (w' : Q6) : Except Int (List UInt8) -> Prop
 | .error e => e ≠ 0 /\ r = .int .i64 e /\ fU w w' (fun y => base <= y)
 | .ok l => r = .int .i64 0 /\ Nq w' base p ⟨l, dm.win, dm.most, dm.out, dm.fr, dm.sk + 1⟩ /\ fU w w' (fun y => base <= y)
theorem Nl {base p : Nat} {dm : DM} {w : Q6} (hd : Nq w base p dm) (h3 : dm.sk <= 2000000) (hl : dm.l.length <= 1000000) :
 fK pg lY #[.pointer (some ⟨p, 0, none⟩)] w (fun r w' => OT base p w dm r w' (Lg dm.l)) := by
 refine Ba ?_
 unfold zD pA
 obtain ⟨pr, vo, lo, hi, O, o, hr, oo, hp, hlo, hO, q1, hhi⟩ := hd
 have hpr : lo <= pr /\ pr < hi := ⟨hr.1, hr.2.1⟩
 have c0 := o.cell (off := 0)
 simp only [mD, PE] at c0
 simp (disch := omega) only [dQ, fE, cQ, stepR_skip, eE, eS, eI, eP, eX, fB, fF, eN, dL, eL, eQ, eZ, eC, eF, eJ, eH, eD, fA, eU, eB, dR, eM, eY, eA, fY, gC, gB, fZ, fV, fX, gA, fW, gD, dH, Result.ok.injEq, Next.value.injEq, true_and, and_true, dZ, dY, eT, fC, eK, fG, PJ, dS, dT, dU, dV, dN, dK, dP, dM, dI, cY, if_true, if_false, PG, PM, PH, PI, PL, PK, PF, PE, cR, cO, cH, bY, cV, dJ, bW, bX, cS, cK, cL, dE, cP, dD, dC, dW, cZ, cF, bH, bR, aT, aC, aL, dF, aI, cD, dB, dA, bN, aH, bC, aZ, cM, aD, aX, aM, aV, cU, aW, cJ, bS, aF, aG, aK, dO, aP, aO, bD, aR, cB, aE, bZ, bT, bG, bB, aY, cX, aJ, bM, aU, aQ, aS, aA, dG, cN, bO, aN, cW, bU, bV, cI, bQ, bP, bL, cA, bJ, cC, bA, bK, bF, bE, cG, c0]
 refine (pD (n := 4) hr (by omega) ⟨by omega, by omega⟩).mono ?_
 rintro r w1 ⟨rfl, hr1, x1⟩
 have o1 := o.ext x1 (fun e => q1 (e ▸ hpr))
 have oo1 := oo.ext x1 fun b h e => (hO b h).2.2 (e ▸ hpr)
 have c1 := o1.cell (off := 0)
 simp only [mD, PE] at c1
 simp (disch := omega) only [dQ, fE, cQ, stepR_skip, eE, eS, eI, eP, eX, fB, fF, eN, dL, eL, eQ, eZ, eC, eF, eJ, eH, eD, fA, eU, eB, dR, eM, eY, eA, fY, gC, gB, fZ, fV, fX, gA, fW, gD, dH, Result.ok.injEq, Next.value.injEq, true_and, and_true, dZ, dY, eT, fC, eK, fG, PJ, dS, dT, dU, dV, dN, dK, dP, dM, dI, cY, if_true, if_false, PG, PM, PH, PI, PL, PK, PF, PE, cR, cO, cH, bY, cV, dJ, bW, bX, cS, cK, cL, dE, cP, dD, dC, dW, cZ, cF, bH, bR, aT, aC, aL, dF, aI, cD, dB, dA, bN, aH, bC, aZ, cM, aD, aX, aM, aV, cU, aW, cJ, bS, aF, aG, aK, dO, aP, aO, bD, aR, cB, aE, bZ, bT, bG, bB, aY, cX, aJ, bM, aU, aQ, aS, aA, dG, cN, bO, aN, cW, bU, bV, cI, bQ, bP, bL, cA, bJ, cC, bA, bK, bF, bE, cG, c1]
 refine (yV hr1).mono ?_
 rintro r w2 ⟨rfl, h2⟩
 rw [h2]; clear h2 w2
 unfold Lg
 by_cases h4 : dm.l.length < 4
 .have ht : sT dm.l 0 4 = ([], dm.l, 10) := by unfold sT; rw [if_neg (by decide), if_pos h4]
  rw [ht, if_pos h4]
  have n1 : ((10 : Int) != 0) = true := rfl
  simp (disch := omega) only [dQ, fE, cQ, stepR_skip, eE, eS, eI, eP, eX, fB, fF, eN, dL, eL, eQ, eZ, eC, eF, eJ, eH, eD, fA, eU, eB, dR, eM, eY, eA, fY, gC, gB, fZ, fV, fX, gA, fW, gD, dH, Result.ok.injEq, Next.value.injEq, true_and, and_true, dZ, dY, eT, fC, eK, fG, PJ, dS, dT, dU, dV, dN, dK, dP, dM, dI, cY, if_true, if_false, PG, PM, PH, PI, PL, PK, PF, PE, cR, cO, cH, bY, cV, dJ, bW, bX, cS, cK, cL, dE, cP, dD, dC, dW, cZ, cF, bH, bR, aT, aC, aL, dF, aI, cD, dB, dA, bN, aH, bC, aZ, cM, aD, aX, aM, aV, cU, aW, cJ, bS, aF, aG, aK, dO, aP, aO, bD, aR, cB, aE, bZ, bT, bG, bB, aY, cX, aJ, bM, aU, aQ, aS, aA, dG, cN, bO, aN, cW, bU, bV, cI, bQ, bP, bL, cA, bJ, cC, bA, bK, bF, bE, cG, n1]
  exact ⟨by decide, rfl, x1.mono fun y _ h => by omega⟩
 have ht : sT dm.l 0 4 = (dm.l.take 4, dm.l.drop 4, 0) := by unfold sT; rw [if_neg (by decide), if_neg h4]
 rw [ht] at hr1 ⊢
 rw [if_neg h4]
 have hlt : jH (dm.l.take 4) < 2 ^ 32 := by
  have := yU (dm.l.take 4)
  rw [PR, Qp (by omega)] at this
  exact this
 obtain ⟨n, hn⟩ : ∃ n, n = jH (dm.l.take 4) := ⟨_, rfl⟩
 have en : jH (dm.l.take 4, dm.l.drop 4, (0 : Int)).1 = n := hn.symm
 rw [<- hn] at hlt ⊢
 have hr1 : Bg w1 lo hi pr (dm.l.drop 4) 0 := hr1
 have hl4 : (dm.l.drop 4).length = dm.l.length - 4 := PU
 have n1 : ((0 : Int) != 0) = false := rfl
 have wl : IntKind.u64.wrap ((dm.l.drop 4).length : Int) = ((dm.l.drop 4).length : Int) := dY (by omega) (by omega)
 have wn : IntKind.i64.wrap (n : Int) = n := dZ (by omega) (by omega)
 simp (disch := omega) only [dQ, fE, cQ, stepR_skip, eE, eS, eI, eP, eX, fB, fF, eN, dL, eL, eQ, eZ, eC, eF, eJ, eH, eD, fA, eU, eB, dR, eM, eY, eA, fY, gC, gB, fZ, fV, fX, gA, fW, gD, dH, Result.ok.injEq, Next.value.injEq, true_and, and_true, dZ, dY, eT, fC, eK, fG, PJ, dS, dT, dU, dV, dN, dK, dP, dM, dI, cY, if_true, if_false, PG, PM, PH, PI, PL, PK, PF, PE, cR, cO, cH, bY, cV, dJ, bW, bX, cS, cK, cL, dE, cP, dD, dC, dW, cZ, cF, bH, bR, aT, aC, aL, dF, aI, cD, dB, dA, bN, aH, bC, aZ, cM, aD, aX, aM, aV, cU, aW, cJ, bS, aF, aG, aK, dO, aP, aO, bD, aR, cB, aE, bZ, bT, bG, bB, aY, cX, aJ, bM, aU, aQ, aS, aA, dG, cN, bO, aN, cW, bU, bV, cI, bQ, bP, bL, cA, bJ, cC, bA, bK, bF, bE, cG, n1, en, c1]
 refine (CC hr1).mono ?_
 rintro r w2 ⟨rfl, h2⟩
 rw [h2]; clear h2 w2
 by_cases hs : dm.l.length - 4 < n
 .have d1 : decide ((n : Int) > ((dm.l.drop 4).length : Int)) = true := decide_eq_true (by omega)
  have d2 : decide (((dm.l.drop 4).length : Int) < (n : Int)) = true := decide_eq_true (by omega)
  rw [if_pos hs]
  simp (disch := omega) only [dQ, fE, cQ, stepR_skip, eE, eS, eI, eP, eX, fB, fF, eN, dL, eL, eQ, eZ, eC, eF, eJ, eH, eD, fA, eU, eB, dR, eM, eY, eA, fY, gC, gB, fZ, fV, fX, gA, fW, gD, dH, Result.ok.injEq, Next.value.injEq, true_and, and_true, dZ, dY, eT, fC, eK, fG, PJ, dS, dT, dU, dV, dN, dK, dP, dM, dI, cY, if_true, if_false, PG, PM, PH, PI, PL, PK, PF, PE, cR, cO, cH, bY, cV, dJ, bW, bX, cS, cK, cL, dE, cP, dD, dC, dW, cZ, cF, bH, bR, aT, aC, aL, dF, aI, cD, dB, dA, bN, aH, bC, aZ, cM, aD, aX, aM, aV, cU, aW, cJ, bS, aF, aG, aK, dO, aP, aO, bD, aR, cB, aE, bZ, bT, bG, bB, aY, cX, aJ, bM, aU, aQ, aS, aA, dG, cN, bO, aN, cW, bU, bV, cI, bQ, bP, bL, cA, bJ, cC, bA, bK, bF, bE, cG, wl, d1, d2]
  exact ⟨by decide, rfl, x1.mono fun y _ h => by omega⟩
 have d1 : decide ((n : Int) > ((dm.l.drop 4).length : Int)) = false := decide_eq_false (by omega)
 have d2 : decide (((dm.l.drop 4).length : Int) < (n : Int)) = false := decide_eq_false (by omega)
 rw [if_neg hs]
 simp (disch := omega) only [dQ, fE, cQ, stepR_skip, eE, eS, eI, eP, eX, fB, fF, eN, dL, eL, eQ, eZ, eC, eF, eJ, eH, eD, fA, eU, eB, dR, eM, eY, eA, fY, gC, gB, fZ, fV, fX, gA, fW, gD, dH, Result.ok.injEq, Next.value.injEq, true_and, and_true, dZ, dY, eT, fC, eK, fG, PJ, dS, dT, dU, dV, dN, dK, dP, dM, dI, cY, if_true, if_false, PG, PM, PH, PI, PL, PK, PF, PE, cR, cO, cH, bY, cV, dJ, bW, bX, cS, cK, cL, dE, cP, dD, dC, dW, cZ, cF, bH, bR, aT, aC, aL, dF, aI, cD, dB, dA, bN, aH, bC, aZ, cM, aD, aX, aM, aV, cU, aW, cJ, bS, aF, aG, aK, dO, aP, aO, bD, aR, cB, aE, bZ, bT, bG, bB, aY, cX, aJ, bM, aU, aQ, aS, aA, dG, cN, bO, aN, cW, bU, bV, cI, bQ, bP, bL, cA, bJ, cC, bA, bK, bF, bE, cG, wl, d1, d2, c1, wn]
 refine (EU hr1 (by omega) (by omega)).mono ?_
 rintro rest w3 ⟨hb3, hat, hr3, x3⟩
 have ht3 : sT (dm.l.drop 4) 0 n = ((dm.l.drop 4).take n, dm.l.drop (4 + n), 0) := by unfold sT; rw [if_neg (by decide), if_neg (by omega), Qr]
 rw [ht3] at hr3
 have hr3 : Bg w3 lo hi pr (dm.l.drop (4 + n)) 0 := hr3
 have o3 := o1.ext x3 (fun e => q1 (e ▸ hpr))
 have oo3 := oo1.ext x3 fun b h e => (hO b h).2.2 (e ▸ hpr)
 have c5 := o3.cell (off := 5)
 simp only [mD, PE, PF] at c5
 have e5 : (dm.sk : Int) + 1 = ((dm.sk + 1 : Nat) : Int) := by omega
 have w5 : IntKind.i64.wrap ((dm.sk + 1 : Nat) : Int) = ((dm.sk + 1 : Nat) : Int) := dZ (by omega) (by omega)
 simp (disch := omega) only [dQ, fE, cQ, stepR_skip, eE, eS, eI, eP, eX, fB, fF, eN, dL, eL, eQ, eZ, eC, eF, eJ, eH, eD, fA, eU, eB, dR, eM, eY, eA, fY, gC, gB, fZ, fV, fX, gA, fW, gD, dH, Result.ok.injEq, Next.value.injEq, true_and, and_true, dZ, dY, eT, fC, eK, fG, PJ, dS, dT, dU, dV, dN, dK, dP, dM, dI, cY, if_true, if_false, PG, PM, PH, PI, PL, PK, PF, PE, cR, cO, cH, bY, cV, dJ, bW, bX, cS, cK, cL, dE, cP, dD, dC, dW, cZ, cF, bH, bR, aT, aC, aL, dF, aI, cD, dB, dA, bN, aH, bC, aZ, cM, aD, aX, aM, aV, cU, aW, cJ, bS, aF, aG, aK, dO, aP, aO, bD, aR, cB, aE, bZ, bT, bG, bB, aY, cX, aJ, bM, aU, aQ, aS, aA, dG, cN, bO, aN, cW, bU, bV, cI, bQ, bP, bL, cA, bJ, cC, bA, bK, bF, bE, cG, c5, e5, w5]
 refine Iq (off := 5) o3 rfl (by simp [mD]) fun w6 o6 x6 s6 => ?_
 simp only [mD, PV, PW] at o6
 have z1 := x1.size
 have z3 := x3.size
 have z6 := x6.size
 refine ⟨rfl, ⟨pr, vo, lo, hi, O, o6, hr3.ext x6 (fun b h1 h2 h => q1 (h ▸ ⟨h1, h2⟩)), oo3.ext x6 (fun b h e => (hO b h).2.1 e), hp, hlo, hO, q1, by omega⟩, ((x1.mono fun y _ h => by omega).seq (x3.mono fun y _ h => by omega)).seq (x6.mono fun y _ h => by omega)⟩
def ES (win most : Nat) : Nat -> List UInt8 -> List UInt8 -> Nat -> Nat -> Option (Except Int (List UInt8 × Nat × Nat))
 | 0, _, _, _, _ => none
 | f + 1, l, out, fr, sk => if l.length = 0 then some (.ok (out, fr, sk)) else if l.length < 4 then some (.error 10)
   else if jH (l.take 4) = 4247762216 then (match GJ (l.drop 4) win (most - out.length) with | none => none | some (.error e) => some (.error e) | some (.ok (a, l')) => ES win most f l' (out ++ a) (fr + 1) sk)
   else if 407710288 <= jH (l.take 4) /\ jH (l.take 4) < 407710304 then (match Lg (l.drop 4) with | .error e => some (.error e) | .ok l' => ES win most f l' out fr (sk + 1))
   else some (.error 11)
theorem Jd {h : FH} {room : Nat} : ∀ {f : Nat} {l all a l' : List UInt8}, yH h room f l all = some (.ok (a, l')) -> a.length <= room /\ l'.length <= l.length
 | 0, _, _, _, _, hh => by cases hh
 | f + 1, l, all, a, l', hh => by
   rw [yH] at hh
   cases hd : EG l all h.window room with
   | none => rw [hd] at hh; cases hh
   | some m =>
     rw [hd] at hh
     cases m with
     | error e => cases hh
     | ok t =>
       obtain ⟨a1, l1, b⟩ := t
       have h1 := KC hd
       simp only at hh
       split at hh
       .cases hh
       .split at hh
        .cases hh; exact h1
        .have := Jd hh
         exact ⟨this.1, by omega⟩
theorem Ni {l a l' : List UInt8} {win room : Nat} (hh : GJ l win room = some (.ok (a, l'))) : a.length <= room /\ l'.length <= l.length := by
 unfold GJ at hh
 cases hf : yZ l with
 | error e => rw [hf] at hh; cases hh
 | ok t =>
   obtain ⟨h, n⟩ := t
   rw [hf] at hh
   simp only at hh
   split at hh
   .cases hh
   .cases hb : yH h room (l.length + 1) (l.drop n) [] with
    | none => rw [hb] at hh; cases hh
    | some mm =>
      rw [hb] at hh
      cases mm with
      | error e => cases hh
      | ok t =>
        obtain ⟨a1, l1⟩ := t
        have h1 := Jd hb
        rw [PU] at h1
        have hh : xN h l1 a1 = .ok (a, l') := by injection hh
        unfold xN Fa at hh
        repeat' split at hh
        all_goals first | cases hh | skip
        all_goals rename_i hq
        all_goals first | (repeat' split at hq) | skip
        all_goals first | cases hq | skip
        all_goals (try rw [PU])
        all_goals omega
def NS (base p : Nat) (w : Q6) (win most : Nat) (r : Q7) (w' : Q6) : Except Int (List UInt8 × Nat × Nat) -> Prop
 | .error e => e ≠ 0 /\ r = .tuple #[.pointer none, .int .i64 e] /\ fU w w' (fun y => base <= y)
 | .ok (out, fr, sk) => r = .tuple #[.pointer (some ⟨p, 0, none⟩), .int .i64 0] /\ (∃ l, Nq w' base p ⟨l, win, most, out, fr, sk⟩) /\ fU w w' (fun y => base <= y)
theorem M4 {RR : Q7 -> Q6 -> Prop} {base p win most f : Nat} {l : List UInt8} {w0 w : Q6} {mm : Except Int (List UInt8 × Nat × Nat)} (hx : fU w0 w (fun y => base <= y)) (hd : Nq w base p ⟨l, win, most, [], 0, 0⟩) (hf : f <= 2000000) (hl : l.length <= 1000000) (hmost : most <= 2000000) (hm : ES win most f l [] 0 0 = some mm) (hR : ∀ r w', NS base p w0 win most r w' mm -> RR r w') :
 sK RR (.pointer (some ⟨p, 0, none⟩)) w := by
 unfold sK Aq zO
 refine iG.rule (fun f (t : Unit) w1 => ∃ l out fr sk, ES win most f l out fr sk = some mm /\ Nq w1 base p ⟨l, win, most, out, fr, sk⟩ /\ fU w0 w1 (fun y => base <= y) /\ out.length <= most /\ fr + f <= 2000000 /\ sk + f <= 2000000 /\ l.length <= 1000000) f
  ⟨l, [], 0, 0, hm, hd, hx, by simp, by omega, by omega, hl⟩ ?_
 clear hm hd hx hl hf l w
 rintro f t w ⟨l, out, fr, sk, hm, hd, hx, hout, hfr, hsk, hl⟩
 cases f with
 | zero => cases hm
 | succ f =>
   rw [ES] at hm
   unfold tT zJ
   have hd0 := hd
   obtain ⟨pr, vo, lo, hi, O, o, hr, oo, hp, hlo, hO, q1, hhi⟩ := hd
   have hpr : lo <= pr /\ pr < hi := ⟨hr.1, hr.2.1⟩
   have c0 := o.cell (off := 0)
   simp only [mD, PE] at c0
   simp (disch := omega) only [dQ, fE, cQ, stepR_skip, eE, eS, eI, eP, eX, fB, fF, eN, dL, eL, eQ, eZ, eC, eF, eJ, eH, eD, fA, eU, eB, dR, eM, eY, eA, fY, gC, gB, fZ, fV, fX, gA, fW, gD, dH, Result.ok.injEq, Next.value.injEq, true_and, and_true, dZ, dY, eT, fC, eK, fG, PJ, dS, dT, dU, dV, dN, dK, dP, dM, dI, cY, if_true, if_false, PG, PM, PH, PI, PL, PK, PF, PE, cR, cO, cH, bY, cV, dJ, bW, bX, cS, cK, cL, dE, cP, dD, dC, dW, cZ, cF, bH, bR, aT, aC, aL, dF, aI, cD, dB, dA, bN, aH, bC, aZ, cM, aD, aX, aM, aV, cU, aW, cJ, bS, aF, aG, aK, dO, aP, aO, bD, aR, cB, aE, bZ, bT, bG, bB, aY, cX, aJ, bM, aU, aQ, aS, aA, dG, cN, bO, aN, cW, bU, bV, cI, bQ, bP, bL, cA, bJ, cC, bA, bK, bF, bE, cG, c0]
   refine (CC hr).mono ?_
   rintro r w1 ⟨rfl, h2⟩
   rw [h2]; clear h2 w1
   by_cases h0 : l.length = 0
   .rw [if_pos h0] at hm
    cases hm
    have d1 : decide ((l.length : Int) > 0) = false := decide_eq_false (by omega)
    have d2 : decide ((0 : Int) < (l.length : Int)) = false := decide_eq_false (by omega)
    simp (disch := omega) only [dQ, fE, cQ, stepR_skip, eE, eS, eI, eP, eX, fB, fF, eN, dL, eL, eQ, eZ, eC, eF, eJ, eH, eD, fA, eU, eB, dR, eM, eY, eA, fY, gC, gB, fZ, fV, fX, gA, fW, gD, dH, Result.ok.injEq, Next.value.injEq, true_and, and_true, dZ, dY, eT, fC, eK, fG, PJ, dS, dT, dU, dV, dN, dK, dP, dM, dI, cY, if_true, if_false, PG, PM, PH, PI, PL, PK, PF, PE, cR, cO, cH, bY, cV, dJ, bW, bX, cS, cK, cL, dE, cP, dD, dC, dW, cZ, cF, bH, bR, aT, aC, aL, dF, aI, cD, dB, dA, bN, aH, bC, aZ, cM, aD, aX, aM, aV, cU, aW, cJ, bS, aF, aG, aK, dO, aP, aO, bD, aR, cB, aE, bZ, bT, bG, bB, aY, cX, aJ, bM, aU, aQ, aS, aA, dG, cN, bO, aN, cW, bU, bV, cI, bQ, bP, bL, cA, bJ, cC, bA, bK, bF, bE, cG, d1, d2]
    unfold uC
    refine hR _ _ ?_
    exact ⟨rfl, ⟨l, hd0⟩, hx⟩
   rw [if_neg h0] at hm
   have d1 : decide ((l.length : Int) > 0) = true := decide_eq_true (by omega)
   have d2 : decide ((0 : Int) < (l.length : Int)) = true := decide_eq_true (by omega)
   simp (disch := omega) only [dQ, fE, cQ, stepR_skip, eE, eS, eI, eP, eX, fB, fF, eN, dL, eL, eQ, eZ, eC, eF, eJ, eH, eD, fA, eU, eB, dR, eM, eY, eA, fY, gC, gB, fZ, fV, fX, gA, fW, gD, dH, Result.ok.injEq, Next.value.injEq, true_and, and_true, dZ, dY, eT, fC, eK, fG, PJ, dS, dT, dU, dV, dN, dK, dP, dM, dI, cY, if_true, if_false, PG, PM, PH, PI, PL, PK, PF, PE, cR, cO, cH, bY, cV, dJ, bW, bX, cS, cK, cL, dE, cP, dD, dC, dW, cZ, cF, bH, bR, aT, aC, aL, dF, aI, cD, dB, dA, bN, aH, bC, aZ, cM, aD, aX, aM, aV, cU, aW, cJ, bS, aF, aG, aK, dO, aP, aO, bD, aR, cB, aE, bZ, bT, bG, bB, aY, cX, aJ, bM, aU, aQ, aS, aA, dG, cN, bO, aN, cW, bU, bV, cI, bQ, bP, bL, cA, bJ, cC, bA, bK, bF, bE, cG, d1, d2]
   unfold Ak Dk Ad
   simp (disch := omega) only [dQ, fE, cQ, stepR_skip, eE, eS, eI, eP, eX, fB, fF, eN, dL, eL, eQ, eZ, eC, eF, eJ, eH, eD, fA, eU, eB, dR, eM, eY, eA, fY, gC, gB, fZ, fV, fX, gA, fW, gD, dH, Result.ok.injEq, Next.value.injEq, true_and, and_true, dZ, dY, eT, fC, eK, fG, PJ, dS, dT, dU, dV, dN, dK, dP, dM, dI, cY, if_true, if_false, PG, PM, PH, PI, PL, PK, PF, PE, cR, cO, cH, bY, cV, dJ, bW, bX, cS, cK, cL, dE, cP, dD, dC, dW, cZ, cF, bH, bR, aT, aC, aL, dF, aI, cD, dB, dA, bN, aH, bC, aZ, cM, aD, aX, aM, aV, cU, aW, cJ, bS, aF, aG, aK, dO, aP, aO, bD, aR, cB, aE, bZ, bT, bG, bB, aY, cX, aJ, bM, aU, aQ, aS, aA, dG, cN, bO, aN, cW, bU, bV, cI, bQ, bP, bL, cA, bJ, cC, bA, bK, bF, bE, cG, c0]
   refine (pD (n := 4) hr (by show l.length <= _; omega) ⟨by omega, by omega⟩).mono ?_
   rintro r w1 ⟨rfl, hr1, x1⟩
   have o1 := o.ext x1 (fun e => q1 (e ▸ hpr))
   have oo1 := oo.ext x1 fun b h e => (hO b h).2.2 (e ▸ hpr)
   have z1 := x1.size
   have hx1 : fU w0 w1 (fun y => base <= y) := hx.seq (x1.mono fun y _ h => by omega)
   have c1 := o1.cell (off := 0)
   simp only [mD, PE] at c1
   simp (disch := omega) only [dQ, fE, cQ, stepR_skip, eE, eS, eI, eP, eX, fB, fF, eN, dL, eL, eQ, eZ, eC, eF, eJ, eH, eD, fA, eU, eB, dR, eM, eY, eA, fY, gC, gB, fZ, fV, fX, gA, fW, gD, dH, Result.ok.injEq, Next.value.injEq, true_and, and_true, dZ, dY, eT, fC, eK, fG, PJ, dS, dT, dU, dV, dN, dK, dP, dM, dI, cY, if_true, if_false, PG, PM, PH, PI, PL, PK, PF, PE, cR, cO, cH, bY, cV, dJ, bW, bX, cS, cK, cL, dE, cP, dD, dC, dW, cZ, cF, bH, bR, aT, aC, aL, dF, aI, cD, dB, dA, bN, aH, bC, aZ, cM, aD, aX, aM, aV, cU, aW, cJ, bS, aF, aG, aK, dO, aP, aO, bD, aR, cB, aE, bZ, bT, bG, bB, aY, cX, aJ, bM, aU, aQ, aS, aA, dG, cN, bO, aN, cW, bU, bV, cI, bQ, bP, bL, cA, bJ, cC, bA, bK, bF, bE, cG, c1]
   refine (yV hr1).mono ?_
   rintro r w2 ⟨rfl, h2⟩
   rw [h2]; clear h2 w2
   by_cases h4 : l.length < 4
   .have ht : sT l 0 4 = ([], l, 10) := by unfold sT; rw [if_neg (by decide), if_pos h4]
    rw [if_pos h4] at hm
    cases hm
    have hr1 : Bg w1 lo hi pr (sT l 0 4).2.1 (sT l 0 4).2.2 := hr1
    have hl' : (DM.mk l win most out fr sk).l = l := rfl
    rw [hl', ht]
    rw [ht] at hr1
    have n1 : ((10 : Int) != 0) = true := rfl
    simp (disch := omega) only [dQ, fE, cQ, stepR_skip, eE, eS, eI, eP, eX, fB, fF, eN, dL, eL, eQ, eZ, eC, eF, eJ, eH, eD, fA, eU, eB, dR, eM, eY, eA, fY, gC, gB, fZ, fV, fX, gA, fW, gD, dH, Result.ok.injEq, Next.value.injEq, true_and, and_true, dZ, dY, eT, fC, eK, fG, PJ, dS, dT, dU, dV, dN, dK, dP, dM, dI, cY, if_true, if_false, PG, PM, PH, PI, PL, PK, PF, PE, cR, cO, cH, bY, cV, dJ, bW, bX, cS, cK, cL, dE, cP, dD, dC, dW, cZ, cF, bH, bR, aT, aC, aL, dF, aI, cD, dB, dA, bN, aH, bC, aZ, cM, aD, aX, aM, aV, cU, aW, cJ, bS, aF, aG, aK, dO, aP, aO, bD, aR, cB, aE, bZ, bT, bG, bB, aY, cX, aJ, bM, aU, aQ, aS, aA, dG, cN, bO, aN, cW, bU, bV, cI, bQ, bP, bL, cA, bJ, cC, bA, bK, bF, bE, cG, n1, c1]
    refine (yV hr1).mono ?_
    rintro r w2 ⟨rfl, h2⟩
    rw [h2]; clear h2 w2
    refine hR _ _ ?_
    exact ⟨by decide, rfl, hx1⟩
   rw [if_neg h4] at hm
   have ht : sT l 0 4 = (l.take 4, l.drop 4, 0) := by unfold sT; rw [if_neg (by decide), if_neg h4]
   have hr1 : Bg w1 lo hi pr (sT l 0 4).2.1 (sT l 0 4).2.2 := hr1
   have hl' : (DM.mk l win most out fr sk).l = l := rfl
   rw [hl', ht]
   rw [ht] at hr1
   have hr1 : Bg w1 lo hi pr (l.drop 4) 0 := hr1
   have hd1 : Nq w1 base p ⟨l.drop 4, win, most, out, fr, sk⟩ := ⟨pr, vo, lo, hi, O, o1, hr1, oo1, hp, hlo, hO, q1, by omega⟩
   have hl4 : (l.drop 4).length = l.length - 4 := PU
   obtain ⟨n, hn⟩ : ∃ n, n = jH (l.take 4) := ⟨_, rfl⟩
   have en : jH (l.take 4, l.drop 4, (0 : Int)).1 = n := hn.symm
   rw [<- hn] at hm
   have n0 : ((0 : Int) != 0) = false := rfl
   by_cases hmg : n = 4247762216
   .have g1 : ((n : Int) == 4247762216) = true := by rw [hmg] <;> rfl
    rw [if_pos hmg] at hm
    obtain ⟨mb, hmb⟩ : ∃ mb, GJ (l.drop 4) win (most - out.length) = some mb := by
     cases hd : GJ (l.drop 4) win (most - out.length) with
     | none => rw [hd] at hm; cases hm
     | some mb => exact ⟨mb, rfl⟩
    rw [hmb] at hm
    simp (disch := omega) only [dQ, fE, cQ, stepR_skip, eE, eS, eI, eP, eX, fB, fF, eN, dL, eL, eQ, eZ, eC, eF, eJ, eH, eD, fA, eU, eB, dR, eM, eY, eA, fY, gC, gB, fZ, fV, fX, gA, fW, gD, dH, Result.ok.injEq, Next.value.injEq, true_and, and_true, dZ, dY, eT, fC, eK, fG, PJ, dS, dT, dU, dV, dN, dK, dP, dM, dI, cY, if_true, if_false, PG, PM, PH, PI, PL, PK, PF, PE, cR, cO, cH, bY, cV, dJ, bW, bX, cS, cK, cL, dE, cP, dD, dC, dW, cZ, cF, bH, bR, aT, aC, aL, dF, aI, cD, dB, dA, bN, aH, bC, aZ, cM, aD, aX, aM, aV, cU, aW, cJ, bS, aF, aG, aK, dO, aP, aO, bD, aR, cB, aE, bZ, bT, bG, bB, aY, cX, aJ, bM, aU, aQ, aS, aA, dG, cN, bO, aN, cW, bU, bV, cI, bQ, bP, bL, cA, bJ, cC, bA, bK, bF, bE, cG, en, n0, g1]
    refine (Mw hd1 hout (show fr <= 2000000 by omega) hmost (by show (l.drop 4).length <= _; omega) hmb).mono ?_
    intro r w2 hq
    unfold nJ
    cases mb with
    | error e =>
      obtain ⟨he, rfl, x2⟩ := hq
      cases hm
      have n1 : (e != 0) = true := by simp [he]
      simp (disch := omega) only [dQ, fE, cQ, stepR_skip, eE, eS, eI, eP, eX, fB, fF, eN, dL, eL, eQ, eZ, eC, eF, eJ, eH, eD, fA, eU, eB, dR, eM, eY, eA, fY, gC, gB, fZ, fV, fX, gA, fW, gD, dH, Result.ok.injEq, Next.value.injEq, true_and, and_true, dZ, dY, eT, fC, eK, fG, PJ, dS, dT, dU, dV, dN, dK, dP, dM, dI, cY, if_true, if_false, PG, PM, PH, PI, PL, PK, PF, PE, cR, cO, cH, bY, cV, dJ, bW, bX, cS, cK, cL, dE, cP, dD, dC, dW, cZ, cF, bH, bR, aT, aC, aL, dF, aI, cD, dB, dA, bN, aH, bC, aZ, cM, aD, aX, aM, aV, cU, aW, cJ, bS, aF, aG, aK, dO, aP, aO, bD, aR, cB, aE, bZ, bT, bG, bB, aY, cX, aJ, bM, aU, aQ, aS, aA, dG, cN, bO, aN, cW, bU, bV, cI, bQ, bP, bL, cA, bJ, cC, bA, bK, bF, bE, cG, n1]
      refine hR _ _ ?_
      exact ⟨he, rfl, hx1.seq x2⟩
    | ok t =>
      obtain ⟨a, l'⟩ := t
      obtain ⟨rfl, hd2, x2⟩ := hq
      have hok := Ni hmb
      simp (disch := omega) only [dQ, fE, cQ, stepR_skip, eE, eS, eI, eP, eX, fB, fF, eN, dL, eL, eQ, eZ, eC, eF, eJ, eH, eD, fA, eU, eB, dR, eM, eY, eA, fY, gC, gB, fZ, fV, fX, gA, fW, gD, dH, Result.ok.injEq, Next.value.injEq, true_and, and_true, dZ, dY, eT, fC, eK, fG, PJ, dS, dT, dU, dV, dN, dK, dP, dM, dI, cY, if_true, if_false, PG, PM, PH, PI, PL, PK, PF, PE, cR, cO, cH, bY, cV, dJ, bW, bX, cS, cK, cL, dE, cP, dD, dC, dW, cZ, cF, bH, bR, aT, aC, aL, dF, aI, cD, dB, dA, bN, aH, bC, aZ, cM, aD, aX, aM, aV, cU, aW, cJ, bS, aF, aG, aK, dO, aP, aO, bD, aR, cB, aE, bZ, bT, bG, bB, aY, cX, aJ, bM, aU, aQ, aS, aA, dG, cN, bO, aN, cW, bU, bV, cI, bQ, bP, bL, cA, bJ, cC, bA, bK, bF, bE, cG, n0]
      exact ⟨f, by omega, l', out ++ a, fr + 1, sk, hm, hd2, hx1.seq x2, by rw [PN]; omega, by omega, by omega, by omega⟩
   have g1 : ((n : Int) == 4247762216) = false := by simp; omega
   rw [if_neg hmg] at hm
   by_cases hs : 407710288 <= n /\ n < 407710304
   .have g2 : decide ((n : Int) ≥ 407710288) = true := decide_eq_true (by omega)
    have g3 : decide ((407710288 : Int) <= (n : Int)) = true := decide_eq_true (by omega)
    have g4 : decide ((n : Int) < 407710304) = true := decide_eq_true (by omega)
    rw [if_pos hs] at hm
    simp (disch := omega) only [dQ, fE, cQ, stepR_skip, eE, eS, eI, eP, eX, fB, fF, eN, dL, eL, eQ, eZ, eC, eF, eJ, eH, eD, fA, eU, eB, dR, eM, eY, eA, fY, gC, gB, fZ, fV, fX, gA, fW, gD, dH, Result.ok.injEq, Next.value.injEq, true_and, and_true, dZ, dY, eT, fC, eK, fG, PJ, dS, dT, dU, dV, dN, dK, dP, dM, dI, cY, if_true, if_false, PG, PM, PH, PI, PL, PK, PF, PE, cR, cO, cH, bY, cV, dJ, bW, bX, cS, cK, cL, dE, cP, dD, dC, dW, cZ, cF, bH, bR, aT, aC, aL, dF, aI, cD, dB, dA, bN, aH, bC, aZ, cM, aD, aX, aM, aV, cU, aW, cJ, bS, aF, aG, aK, dO, aP, aO, bD, aR, cB, aE, bZ, bT, bG, bB, aY, cX, aJ, bM, aU, aQ, aS, aA, dG, cN, bO, aN, cW, bU, bV, cI, bQ, bP, bL, cA, bJ, cC, bA, bK, bF, bE, cG, en, n0, g1, g2, g3, g4]
    refine (Nl hd1 (show sk <= 2000000 by omega) (by show (l.drop 4).length <= _; omega)).mono ?_
    intro r w2 hq
    unfold nJ
    have hq : OT base p w1 ⟨l.drop 4, win, most, out, fr, sk⟩ r w2 (Lg (l.drop 4)) := hq
    cases hk : Lg (l.drop 4) with
    | error e =>
      rw [hk] at hq hm
      obtain ⟨he, rfl, x2⟩ := hq
      cases hm
      have n1 : (e != 0) = true := by simp [he]
      simp (disch := omega) only [dQ, fE, cQ, stepR_skip, eE, eS, eI, eP, eX, fB, fF, eN, dL, eL, eQ, eZ, eC, eF, eJ, eH, eD, fA, eU, eB, dR, eM, eY, eA, fY, gC, gB, fZ, fV, fX, gA, fW, gD, dH, Result.ok.injEq, Next.value.injEq, true_and, and_true, dZ, dY, eT, fC, eK, fG, PJ, dS, dT, dU, dV, dN, dK, dP, dM, dI, cY, if_true, if_false, PG, PM, PH, PI, PL, PK, PF, PE, cR, cO, cH, bY, cV, dJ, bW, bX, cS, cK, cL, dE, cP, dD, dC, dW, cZ, cF, bH, bR, aT, aC, aL, dF, aI, cD, dB, dA, bN, aH, bC, aZ, cM, aD, aX, aM, aV, cU, aW, cJ, bS, aF, aG, aK, dO, aP, aO, bD, aR, cB, aE, bZ, bT, bG, bB, aY, cX, aJ, bM, aU, aQ, aS, aA, dG, cN, bO, aN, cW, bU, bV, cI, bQ, bP, bL, cA, bJ, cC, bA, bK, bF, bE, cG, n1]
      refine hR _ _ ?_
      exact ⟨he, rfl, hx1.seq x2⟩
    | ok l' =>
      rw [hk] at hq hm
      obtain ⟨rfl, hd2, x2⟩ := hq
      have hle : l'.length <= (l.drop 4).length := by
       unfold Lg at hk
       repeat' split at hk
       all_goals first | cases hk | skip
       rw [PU]
       omega
      simp (disch := omega) only [dQ, fE, cQ, stepR_skip, eE, eS, eI, eP, eX, fB, fF, eN, dL, eL, eQ, eZ, eC, eF, eJ, eH, eD, fA, eU, eB, dR, eM, eY, eA, fY, gC, gB, fZ, fV, fX, gA, fW, gD, dH, Result.ok.injEq, Next.value.injEq, true_and, and_true, dZ, dY, eT, fC, eK, fG, PJ, dS, dT, dU, dV, dN, dK, dP, dM, dI, cY, if_true, if_false, PG, PM, PH, PI, PL, PK, PF, PE, cR, cO, cH, bY, cV, dJ, bW, bX, cS, cK, cL, dE, cP, dD, dC, dW, cZ, cF, bH, bR, aT, aC, aL, dF, aI, cD, dB, dA, bN, aH, bC, aZ, cM, aD, aX, aM, aV, cU, aW, cJ, bS, aF, aG, aK, dO, aP, aO, bD, aR, cB, aE, bZ, bT, bG, bB, aY, cX, aJ, bM, aU, aQ, aS, aA, dG, cN, bO, aN, cW, bU, bV, cI, bQ, bP, bL, cA, bJ, cC, bA, bK, bF, bE, cG, n0]
      exact ⟨f, by omega, l', out, fr, sk + 1, hm, hd2, hx1.seq x2, hout, by omega, by omega, by omega⟩
   .rw [if_neg hs] at hm
    cases hm
    have n1 : ((11 : Int) != 0) = true := rfl
    unfold nJ
    by_cases h1 : 407710288 <= n
    .have g2 : decide ((n : Int) ≥ 407710288) = true := decide_eq_true (by omega)
     have g3 : decide ((407710288 : Int) <= (n : Int)) = true := decide_eq_true (by omega)
     have g4 : decide ((n : Int) < 407710304) = false := decide_eq_false (by omega)
     simp (disch := omega) only [dQ, fE, cQ, stepR_skip, eE, eS, eI, eP, eX, fB, fF, eN, dL, eL, eQ, eZ, eC, eF, eJ, eH, eD, fA, eU, eB, dR, eM, eY, eA, fY, gC, gB, fZ, fV, fX, gA, fW, gD, dH, Result.ok.injEq, Next.value.injEq, true_and, and_true, dZ, dY, eT, fC, eK, fG, PJ, dS, dT, dU, dV, dN, dK, dP, dM, dI, cY, if_true, if_false, PG, PM, PH, PI, PL, PK, PF, PE, cR, cO, cH, bY, cV, dJ, bW, bX, cS, cK, cL, dE, cP, dD, dC, dW, cZ, cF, bH, bR, aT, aC, aL, dF, aI, cD, dB, dA, bN, aH, bC, aZ, cM, aD, aX, aM, aV, cU, aW, cJ, bS, aF, aG, aK, dO, aP, aO, bD, aR, cB, aE, bZ, bT, bG, bB, aY, cX, aJ, bM, aU, aQ, aS, aA, dG, cN, bO, aN, cW, bU, bV, cI, bQ, bP, bL, cA, bJ, cC, bA, bK, bF, bE, cG, en, n0, g1, g2, g3, g4, n1]
     refine hR _ _ ?_
     exact ⟨by decide, rfl, hx1⟩
    .have g2 : decide ((n : Int) ≥ 407710288) = false := decide_eq_false (by omega)
     have g3 : decide ((407710288 : Int) <= (n : Int)) = false := decide_eq_false (by omega)
     simp (disch := omega) only [dQ, fE, cQ, stepR_skip, eE, eS, eI, eP, eX, fB, fF, eN, dL, eL, eQ, eZ, eC, eF, eJ, eH, eD, fA, eU, eB, dR, eM, eY, eA, fY, gC, gB, fZ, fV, fX, gA, fW, gD, dH, Result.ok.injEq, Next.value.injEq, true_and, and_true, dZ, dY, eT, fC, eK, fG, PJ, dS, dT, dU, dV, dN, dK, dP, dM, dI, cY, if_true, if_false, PG, PM, PH, PI, PL, PK, PF, PE, cR, cO, cH, bY, cV, dJ, bW, bX, cS, cK, cL, dE, cP, dD, dC, dW, cZ, cF, bH, bR, aT, aC, aL, dF, aI, cD, dB, dA, bN, aH, bC, aZ, cM, aD, aX, aM, aV, cU, aW, cJ, bS, aF, aG, aK, dO, aP, aO, bD, aR, cB, aE, bZ, bT, bG, bB, aY, cX, aJ, bM, aU, aQ, aS, aA, dG, cN, bO, aN, cW, bU, bV, cI, bQ, bP, bL, cA, bJ, cC, bA, bK, bF, bE, cG, en, n0, g1, g2, g3, n1]
     refine hR _ _ ?_
     exact ⟨by decide, rfl, hx1⟩
def MN (l : List UInt8) (log most : Nat) : Option (Except Int (List UInt8 × Nat × Nat)) := ES (2 ^ log) most (l.length + 1) l [] 0 0
theorem G7 {v : Q7} {l : List UInt8} {log most : Nat} {w : Q6} {mm : Except Int (List UInt8 × Nat × Nat)} (hb : Bs w v l) (hl : l.length <= 1000000) (hlog : 10 <= log /\ log <= 22) (hmost : most <= 2000000) (hm : MN l log most = some mm) :
 fK pg pI #[v, .int .i64 (log : Nat), .int .i64 (most : Nat)] w (fun r w' => ∃ p, NS w.heap.size p w (2 ^ log) most r w' mm) := by
 refine BL ?_
 obtain ⟨RR, hRR⟩ : ∃ RR : Q7 -> Q6 -> Prop, RR = fun r w' => ∃ p, NS w.heap.size p w (2 ^ log) most r w' mm := ⟨_, rfl⟩
 rw [<- hRR]
 unfold DA rX sI
 have d1 : decide ((log : Int) < 10) = false := decide_eq_false (by omega)
 have d2 : decide ((log : Int) > 22) = false := decide_eq_false (by omega)
 have d3 : decide ((22 : Int) < (log : Int)) = false := decide_eq_false (by omega)
 have d4 : decide ((most : Int) < 0) = false := decide_eq_false (by omega)
 have hlb : 2 ^ log <= 2 ^ 22 := Qt (by omega) hlog.2
 have e1 : (1 : Int) * 2 ^ min log IntKind.u64.bits = ((2 ^ log : Nat) : Int) := by
  rw [Qp (by have : IntKind.u64.bits = 64 := rfl; omega)]
  simp
 have e2 : IntKind.u64.wrap ((2 ^ log : Nat) : Int) = ((2 ^ log : Nat) : Int) := by
  have : ∀ W : Nat, W <= 2 ^ 22 -> IntKind.u64.wrap (W : Int) = (W : Int) := fun W hW => dY (by omega) (by omega)
  exact this _ hlb
 have t0 : (log : Int).toNat = log := PJ _
 have g0 : (0 : Int) <= (log : Int) := by omega
 simp (disch := omega) only [dQ, fE, cQ, stepR_skip, eE, eS, eI, eP, eX, fB, fF, eN, dL, eL, eQ, eZ, eC, eF, eJ, eH, eD, fA, eU, eB, dR, eM, eY, eA, fY, gC, gB, fZ, fV, fX, gA, fW, gD, dH, Result.ok.injEq, Next.value.injEq, true_and, and_true, dZ, dY, eT, fC, eK, fG, PJ, dS, dT, dU, dV, dN, dK, dP, dM, dI, cY, if_true, if_false, PG, PM, PH, PI, PL, PK, PF, PE, cR, cO, cH, bY, cV, dJ, bW, bX, cS, cK, cL, dE, cP, dD, dC, dW, cZ, cF, bH, bR, aT, aC, aL, dF, aI, cD, dB, dA, bN, aH, bC, aZ, cM, aD, aX, aM, aV, cU, aW, cJ, bS, aF, aG, aK, dO, aP, aO, bD, aR, cB, aE, bZ, bT, bG, bB, aY, cX, aJ, bM, aU, aQ, aS, aA, dG, cN, bO, aN, cW, bU, bV, cI, bQ, bP, bL, cA, bJ, cC, bA, bK, bF, bE, cG, d1, d2, d3, d4]
 have hb1 := hb.ext (fU.dr w kY) (lC _)
 refine (uP hb1 (by omega)).mono ?_
 rintro r w1 ⟨pr, rfl, hr, x1⟩
 have zd := (fU.dr w kY).size
 have z1 := x1.size
 simp (disch := omega) only [dQ, fE, cQ, stepR_skip, eE, eS, eI, eP, eX, fB, fF, eN, dL, eL, eQ, eZ, eC, eF, eJ, eH, eD, fA, eU, eB, dR, eM, eY, eA, fY, gC, gB, fZ, fV, fX, gA, fW, gD, dH, Result.ok.injEq, Next.value.injEq, true_and, and_true, dZ, dY, eT, fC, eK, fG, PJ, dS, dT, dU, dV, dN, dK, dP, dM, dI, cY, if_true, if_false, PG, PM, PH, PI, PL, PK, PF, PE, cR, cO, cH, bY, cV, dJ, bW, bX, cS, cK, cL, dE, cP, dD, dC, dW, cZ, cF, bH, bR, aT, aC, aL, dF, aI, cD, dB, dA, bN, aH, bC, aZ, cM, aD, aX, aM, aV, cU, aW, cJ, bS, aF, aG, aK, dO, aP, aO, bD, aR, cB, aE, bZ, bT, bG, bB, aY, cX, aJ, bM, aU, aQ, aS, aA, dG, cN, bO, aN, cW, bU, bV, cI, bQ, bP, bL, cA, bJ, cC, bA, bK, bF, bE, cG, e1, e2, t0, g0]
 refine CQ fun w2 o2 x2 s2 => ?_
 have o2 : iE w2 w1.heap.size (mD pr sN ⟨l, 2 ^ log, most, [], 0, 0⟩) := o2
 have hz := o2.lt
 have hpr : (dr w).heap.size <= pr /\ pr < w1.heap.size := ⟨hr.1, hr.2.1⟩
 refine M4 (base := w.heap.size) (p := w1.heap.size) (w0 := w) (w := w2) (f := l.length + 1) (l := l) (win := 2 ^ log) (most := most) (mm := mm) ((((fU.dr w kY).seq x1).seq x2).mono fun _ _ h => h.elim) ⟨pr, sN, (dr w).heap.size, w1.heap.size, (fun b => False), o2, hr.ext x2 (fun _ _ _ h => h), ⟨rfl, .inl ⟨rfl, rfl⟩⟩, by omega, by omega, fun b h => h.elim, by omega, by omega⟩ (by omega) hl hmost hm fun r w' h => ?_
 rw [hRR]
 exact ⟨_, h⟩
theorem Kf {v : Q7} {log most : Int} {w : Q6} (h : log < 10) :
 fK pg pI #[v, .int .i64 log, .int .i64 most] w (fun r w' => r = .tuple #[.pointer none, .int .i64 1] /\ w' = w) := by
 refine BL ?_
 unfold DA rX sI
 have d1 : decide ((log : Int) < 10) = true := decide_eq_true (by omega)
 simp (disch := omega) only [dQ, fE, cQ, stepR_skip, eE, eS, eI, eP, eX, fB, fF, eN, dL, eL, eQ, eZ, eC, eF, eJ, eH, eD, fA, eU, eB, dR, eM, eY, eA, fY, gC, gB, fZ, fV, fX, gA, fW, gD, dH, Result.ok.injEq, Next.value.injEq, true_and, and_true, dZ, dY, eT, fC, eK, fG, PJ, dS, dT, dU, dV, dN, dK, dP, dM, dI, cY, if_true, if_false, PG, PM, PH, PI, PL, PK, PF, PE, cR, cO, cH, bY, cV, dJ, bW, bX, cS, cK, cL, dE, cP, dD, dC, dW, cZ, cF, bH, bR, aT, aC, aL, dF, aI, cD, dB, dA, bN, aH, bC, aZ, cM, aD, aX, aM, aV, cU, aW, cJ, bS, aF, aG, aK, dO, aP, aO, bD, aR, cB, aE, bZ, bT, bG, bB, aY, cX, aJ, bM, aU, aQ, aS, aA, dG, cN, bO, aN, cW, bU, bV, cI, bQ, bP, bL, cA, bJ, cC, bA, bK, bF, bE, cG, d1]
def Pk (w : Q6) (r : Q7) (w' : Q6) : Except Int (List UInt8 × Nat × Nat) -> Prop
 | .error e => r = .tuple #[sN, .int .i64 e] /\ fU w w' kY
 | .ok (out, fr, sk) => ∃ v, r = .tuple #[v, .int .i64 0] /\ Bs w' v out /\ fU w w' kY
theorem CG {v : Q7} {l : List UInt8} {log most : Nat} {w : Q6} {mm : Except Int (List UInt8 × Nat × Nat)} (hb : Bs w v l) (hl : l.length <= 1000000) (hlog : 10 <= log /\ log <= 22) (hmost : most <= 2000000) (hm : MN l log most = some mm) :
 fK pg iH #[v, .int .i64 (log : Nat), .int .i64 (most : Nat)] w (fun r w' => Pk w r w' mm) := by
 refine qU ?_
 unfold tV mJ
 refine (G7 hb hl hlog hmost hm).mono ?_
 rintro r w1 ⟨p, hq⟩
 cases mm with
 | error e =>
   obtain ⟨he, rfl, x⟩ := hq
   have n1 : (e != 0) = true := by simp [he]
   simp (disch := omega) only [dQ, fE, cQ, stepR_skip, eE, eS, eI, eP, eX, fB, fF, eN, dL, eL, eQ, eZ, eC, eF, eJ, eH, eD, fA, eU, eB, dR, eM, eY, eA, fY, gC, gB, fZ, fV, fX, gA, fW, gD, dH, Result.ok.injEq, Next.value.injEq, true_and, and_true, dZ, dY, eT, fC, eK, fG, PJ, dS, dT, dU, dV, dN, dK, dP, dM, dI, cY, if_true, if_false, PG, PM, PH, PI, PL, PK, PF, PE, cR, cO, cH, bY, cV, dJ, bW, bX, cS, cK, cL, dE, cP, dD, dC, dW, cZ, cF, bH, bR, aT, aC, aL, dF, aI, cD, dB, dA, bN, aH, bC, aZ, cM, aD, aX, aM, aV, cU, aW, cJ, bS, aF, aG, aK, dO, aP, aO, bD, aR, cB, aE, bZ, bT, bG, bB, aY, cX, aJ, bM, aU, aQ, aS, aA, dG, cN, bO, aN, cW, bU, bV, cI, bQ, bP, bL, cA, bJ, cC, bA, bK, bF, bE, cG, n1]
   exact ⟨rfl, x.mono fun y hy h => by omega⟩
 | ok t =>
   obtain ⟨out, fr, sk⟩ := t
   obtain ⟨rfl, ⟨l', hd⟩, x⟩ := hq
   obtain ⟨pr, vo, lo, hi, O, o, hr, oo, hp, hlo, hO, q1, hhi⟩ := hd
   have n1 : ((0 : Int) != 0) = false := rfl
   have c3 := o.cell (off := 3)
   simp only [mD, PE, PF] at c3
   simp (disch := omega) only [dQ, fE, cQ, stepR_skip, eE, eS, eI, eP, eX, fB, fF, eN, dL, eL, eQ, eZ, eC, eF, eJ, eH, eD, fA, eU, eB, dR, eM, eY, eA, fY, gC, gB, fZ, fV, fX, gA, fW, gD, dH, Result.ok.injEq, Next.value.injEq, true_and, and_true, dZ, dY, eT, fC, eK, fG, PJ, dS, dT, dU, dV, dN, dK, dP, dM, dI, cY, if_true, if_false, PG, PM, PH, PI, PL, PK, PF, PE, cR, cO, cH, bY, cV, dJ, bW, bX, cS, cK, cL, dE, cP, dD, dC, dW, cZ, cF, bH, bR, aT, aC, aL, dF, aI, cD, dB, dA, bN, aH, bC, aZ, cM, aD, aX, aM, aV, cU, aW, cJ, bS, aF, aG, aK, dO, aP, aO, bD, aR, cB, aE, bZ, bT, bG, bB, aY, cX, aJ, bM, aU, aQ, aS, aA, dG, cN, bO, aN, cW, bU, bV, cI, bQ, bP, bL, cA, bJ, cC, bA, bK, bF, bE, cG, n1, c3]
   exact ⟨vo, rfl, IJ oo, x.mono fun y hy h => by omega⟩
theorem Ki {v : Q7} {log most : Int} {w : Q6} (h : log < 10) :
 fK pg iH #[v, .int .i64 log, .int .i64 most] w (fun r w' => r = .tuple #[sN, .int .i64 1] /\ w' = w) := by
 refine qU ?_
 unfold tV mJ
 refine (Kf h).mono ?_
 rintro r w1 ⟨rfl, h2⟩
 rw [h2]; clear h2 w1
 have n1 : ((1 : Int) != 0) = true := rfl
 simp (disch := omega) only [dQ, fE, cQ, stepR_skip, eE, eS, eI, eP, eX, fB, fF, eN, dL, eL, eQ, eZ, eC, eF, eJ, eH, eD, fA, eU, eB, dR, eM, eY, eA, fY, gC, gB, fZ, fV, fX, gA, fW, gD, dH, Result.ok.injEq, Next.value.injEq, true_and, and_true, dZ, dY, eT, fC, eK, fG, PJ, dS, dT, dU, dV, dN, dK, dP, dM, dI, cY, if_true, if_false, PG, PM, PH, PI, PL, PK, PF, PE, cR, cO, cH, bY, cV, dJ, bW, bX, cS, cK, cL, dE, cP, dD, dC, dW, cZ, cF, bH, bR, aT, aC, aL, dF, aI, cD, dB, dA, bN, aH, bC, aZ, cM, aD, aX, aM, aV, cU, aW, cJ, bS, aF, aG, aK, dO, aP, aO, bD, aR, cB, aE, bZ, bT, bG, bB, aY, cX, aJ, bM, aU, aQ, aS, aA, dG, cN, bO, aN, cW, bU, bV, cI, bQ, bP, bL, cA, bJ, cC, bA, bK, bF, bE, cG, n1]
 exact rfl
def NG : Except Int (List UInt8 × Nat × Nat) -> Q7
 | .error e => .tuple #[.int .i64 0, .int .i64 0, .int .i64 e]
 | .ok (_, fr, sk) => .tuple #[.int .i64 (fr : Nat), .int .i64 (sk : Nat), .int .i64 0]
theorem MD {v : Q7} {l : List UInt8} {log most : Nat} {w : Q6} {mm : Except Int (List UInt8 × Nat × Nat)} (hb : Bs w v l) (hl : l.length <= 1000000) (hlog : 10 <= log /\ log <= 22) (hmost : most <= 2000000) (hm : MN l log most = some mm) :
 fK pg qE #[v, .int .i64 (log : Nat), .int .i64 (most : Nat)] w (fun r w' => r = NG mm /\ fU w w' kY) := by
 refine DG ?_
 unfold Dn tR
 refine (G7 hb hl hlog hmost hm).mono ?_
 rintro r w1 ⟨p, hq⟩
 cases mm with
 | error e =>
   obtain ⟨he, rfl, x⟩ := hq
   have n1 : (e != 0) = true := by simp [he]
   simp (disch := omega) only [dQ, fE, cQ, stepR_skip, eE, eS, eI, eP, eX, fB, fF, eN, dL, eL, eQ, eZ, eC, eF, eJ, eH, eD, fA, eU, eB, dR, eM, eY, eA, fY, gC, gB, fZ, fV, fX, gA, fW, gD, dH, Result.ok.injEq, Next.value.injEq, true_and, and_true, dZ, dY, eT, fC, eK, fG, PJ, dS, dT, dU, dV, dN, dK, dP, dM, dI, cY, if_true, if_false, PG, PM, PH, PI, PL, PK, PF, PE, cR, cO, cH, bY, cV, dJ, bW, bX, cS, cK, cL, dE, cP, dD, dC, dW, cZ, cF, bH, bR, aT, aC, aL, dF, aI, cD, dB, dA, bN, aH, bC, aZ, cM, aD, aX, aM, aV, cU, aW, cJ, bS, aF, aG, aK, dO, aP, aO, bD, aR, cB, aE, bZ, bT, bG, bB, aY, cX, aJ, bM, aU, aQ, aS, aA, dG, cN, bO, aN, cW, bU, bV, cI, bQ, bP, bL, cA, bJ, cC, bA, bK, bF, bE, cG, n1]
   exact ⟨rfl, x.mono fun y hy h => by omega⟩
 | ok t =>
   obtain ⟨out, fr, sk⟩ := t
   obtain ⟨rfl, ⟨l', hd⟩, x⟩ := hq
   obtain ⟨pr, vo, lo, hi, O, o, hr, oo, hp, hlo, hO, q1, hhi⟩ := hd
   have n1 : ((0 : Int) != 0) = false := rfl
   have c4 := o.cell (off := 4)
   have c5 := o.cell (off := 5)
   have d4 := (jD o).cell (off := 4)
   have d5 := (jD o).cell (off := 5)
   simp only [mD, PE, PF] at c4 c5 d4 d5
   simp (disch := omega) only [dQ, fE, cQ, stepR_skip, eE, eS, eI, eP, eX, fB, fF, eN, dL, eL, eQ, eZ, eC, eF, eJ, eH, eD, fA, eU, eB, dR, eM, eY, eA, fY, gC, gB, fZ, fV, fX, gA, fW, gD, dH, Result.ok.injEq, Next.value.injEq, true_and, and_true, dZ, dY, eT, fC, eK, fG, PJ, dS, dT, dU, dV, dN, dK, dP, dM, dI, cY, if_true, if_false, PG, PM, PH, PI, PL, PK, PF, PE, cR, cO, cH, bY, cV, dJ, bW, bX, cS, cK, cL, dE, cP, dD, dC, dW, cZ, cF, bH, bR, aT, aC, aL, dF, aI, cD, dB, dA, bN, aH, bC, aZ, cM, aD, aX, aM, aV, cU, aW, cJ, bS, aF, aG, aK, dO, aP, aO, bD, aR, cB, aE, bZ, bT, bG, bB, aY, cX, aJ, bM, aU, aQ, aS, aA, dG, cN, bO, aN, cW, bU, bV, cI, bQ, bP, bL, cA, bJ, cC, bA, bK, bF, bE, cG, n1, c4, c5, d4, d5]
   exact ⟨rfl, (x.seq (fU.dr w1 _)).mono fun y hy h => by omega⟩
theorem KQ (w : Q6) : fK pg tW #[] w (fun r w' => r = .bool true /\ fU w w' kY) := by
 refine Fp ?_
 unfold FL yC
 refine rI (cells := #[.int .u8 40, .int .u8 181, .int .u8 47, .int .u8 253, .int .u8 32, .int .u8 2, .int .u8 17, .int .u8 0, .int .u8 0, .int .u8 7, .int .u8 8]) (by decide) (by decide) (by kernel_rfl) fun w1 o1 x1 s1 => ?_
 refine EO o1 fun w2 o2 x2 s2 => ?_
 have x02 : fU w w2 kY := x1.new x2 (by omega)
 have b2 := o2.bs (off := 0) (c := 11) (l := [40, 181, 47, 253, 32, 2, 17, 0, 0, 7, 8]) (by decide) (fun i hi => by
  have : ∀ i : Fin 11, ([.int .u8 40, .int .u8 181, .int .u8 47, .int .u8 253, .int .u8 32, .int .u8 2, .int .u8 17, .int .u8 0, .int .u8 0, .int .u8 7, .int .u8 8] : List Q7)[0 + i.val]? = some (lU (([40, 181, 47, 253, 32, 2, 17, 0, 0, 7, 8] : List UInt8)[i.val])) := by
   intro i
   match i with
   | ⟨0, _⟩ => rfl
   | ⟨1, _⟩ => rfl
   | ⟨2, _⟩ => rfl
   | ⟨3, _⟩ => rfl
   | ⟨4, _⟩ => rfl
   | ⟨5, _⟩ => rfl
   | ⟨6, _⟩ => rfl
   | ⟨7, _⟩ => rfl
   | ⟨8, _⟩ => rfl
   | ⟨9, _⟩ => rfl
   | ⟨10, _⟩ => rfl
  exact this ⟨i, hi⟩)
 refine (CG (log := 20) (most := 100) (mm := .ok ([7, 8], 1, 0)) b2 (by decide) (by omega) (by omega) (by kernel_rfl)).mono ?_
 rintro r w3 ⟨v3, rfl, b3, x3⟩
 simp (disch := omega) only [dQ, fE, cQ, stepR_skip, eE, eS, eI, eP, eX, fB, fF, eN, dL, eL, eQ, eZ, eC, eF, eJ, eH, eD, fA, eU, eB, dR, eM, eY, eA, fY, gC, gB, fZ, fV, fX, gA, fW, gD, dH, Result.ok.injEq, Next.value.injEq, true_and, and_true, dZ, dY, eT, fC, eK, fG, PJ, dS, dT, dU, dV, dN, dK, dP, dM, dI, cY, if_true, if_false, PG, PM, PH, PI, PL, PK, PF, PE, cR, cO, cH, bY, cV, dJ, bW, bX, cS, cK, cL, dE, cP, dD, dC, dW, cZ, cF, bH, bR, aT, aC, aL, dF, aI, cD, dB, dA, bN, aH, bC, aZ, cM, aD, aX, aM, aV, cU, aW, cJ, bS, aF, aG, aK, dO, aP, aO, bD, aR, cB, aE, bZ, bT, bG, bB, aY, cX, aJ, bM, aU, aQ, aS, aA, dG, cN, bO, aN, cW, bU, bV, cI, bQ, bP, bL, cA, bJ, cC, bA, bK, bF, bE, cG]
 refine rI (cells := #[.int .u8 1, .int .u8 2, .int .u8 3]) (by decide) (by decide) (by kernel_rfl) fun w4 o4 x4 s4 => ?_
 have b4 := o4.bs (off := 0) (c := 3) (l := [1, 2, 3]) (by decide) (fun i hi => by
  match i, hi with
  | 0, _ => rfl
  | 1, _ => rfl
  | 2, _ => rfl)
 refine (CG (log := 20) (most := 100) (mm := .error 10) b4 (by decide) (by omega) (by omega) (by kernel_rfl)).mono ?_
 rintro r w5 ⟨rfl, x5⟩
 unfold sN
 simp (disch := omega) only [dQ, fE, cQ, stepR_skip, eE, eS, eI, eP, eX, fB, fF, eN, dL, eL, eQ, eZ, eC, eF, eJ, eH, eD, fA, eU, eB, dR, eM, eY, eA, fY, gC, gB, fZ, fV, fX, gA, fW, gD, dH, Result.ok.injEq, Next.value.injEq, true_and, and_true, dZ, dY, eT, fC, eK, fG, PJ, dS, dT, dU, dV, dN, dK, dP, dM, dI, cY, if_true, if_false, PG, PM, PH, PI, PL, PK, PF, PE, cR, cO, cH, bY, cV, dJ, bW, bX, cS, cK, cL, dE, cP, dD, dC, dW, cZ, cF, bH, bR, aT, aC, aL, dF, aI, cD, dB, dA, bN, aH, bC, aZ, cM, aD, aX, aM, aV, cU, aW, cJ, bS, aF, aG, aK, dO, aP, aO, bD, aR, cB, aE, bZ, bT, bG, bB, aY, cX, aJ, bM, aU, aQ, aS, aA, dG, cN, bO, aN, cW, bU, bV, cI, bQ, bP, bL, cA, bJ, cC, bA, bK, bF, bE, cG]
 refine (Ki (by omega)).mono ?_
 rintro r w6 ⟨rfl, h6⟩
 rw [h6]; clear h6 w6
 unfold sN
 simp (disch := omega) only [dQ, fE, cQ, stepR_skip, eE, eS, eI, eP, eX, fB, fF, eN, dL, eL, eQ, eZ, eC, eF, eJ, eH, eD, fA, eU, eB, dR, eM, eY, eA, fY, gC, gB, fZ, fV, fX, gA, fW, gD, dH, Result.ok.injEq, Next.value.injEq, true_and, and_true, dZ, dY, eT, fC, eK, fG, PJ, dS, dT, dU, dV, dN, dK, dP, dM, dI, cY, if_true, if_false, PG, PM, PH, PI, PL, PK, PF, PE, cR, cO, cH, bY, cV, dJ, bW, bX, cS, cK, cL, dE, cP, dD, dC, dW, cZ, cF, bH, bR, aT, aC, aL, dF, aI, cD, dB, dA, bN, aH, bC, aZ, cM, aD, aX, aM, aV, cU, aW, cJ, bS, aF, aG, aK, dO, aP, aO, bD, aR, cB, aE, bZ, bT, bG, bB, aY, cX, aJ, bM, aU, aQ, aS, aA, dG, cN, bO, aN, cW, bU, bV, cI, bQ, bP, bL, cA, bJ, cC, bA, bK, bF, bE, cG]
 refine rI (cells := #[.int .u8 80, .int .u8 42, .int .u8 77, .int .u8 24, .int .u8 1, .int .u8 0, .int .u8 0, .int .u8 0, .int .u8 9]) (by decide) (by decide) (by kernel_rfl) fun w6 o6 x6 s6 => ?_
 refine EO o6 fun w7 o7 x7 s7 => ?_
 have b7 := o7.bs (off := 0) (c := 9) (l := [80, 42, 77, 24, 1, 0, 0, 0, 9]) (by decide) (fun i hi => by
  match i, hi with
  | 0, _ => rfl
  | 1, _ => rfl
  | 2, _ => rfl
  | 3, _ => rfl
  | 4, _ => rfl
  | 5, _ => rfl
  | 6, _ => rfl
  | 7, _ => rfl
  | 8, _ => rfl)
 have x57 : fU w5 w7 kY := x6.new x7 (by omega)
 refine (MD (log := 20) (most := 100) (mm := .ok ([], 0, 1)) b7 (by decide) (by omega) (by omega) (by kernel_rfl)).mono ?_
 rintro r w8 ⟨rfl, x8⟩
 have b8 := ((((b3.ext x4 (lC _)).ext x5 (lC _)).ext x57 (lC _)).ext x8 (lC _))
 have hs := kU b8
 have e1 : ((⟨#[7, 8]⟩ : ByteArray).toList == (⟨#[7, 8]⟩ : ByteArray).toList) = true := beq_self_eq_true _
 have n0 : ((0 : Int) == 0) = true := rfl
 have n1 : (((0 : Nat) : Int) == 0) = true := rfl
 have n2 : (((1 : Nat) : Int) == 1) = true := rfl
 have n3 : ((10 : Int) == 10) = true := rfl
 have n4 : ((1 : Int) == 1) = true := rfl
 unfold NG
 simp (disch := omega) only [dQ, fE, cQ, stepR_skip, eE, eS, eI, eP, eX, fB, fF, eN, dL, eL, eQ, eZ, eC, eF, eJ, eH, eD, fA, eU, eB, dR, eM, eY, eA, fY, gC, gB, fZ, fV, fX, gA, fW, gD, dH, Result.ok.injEq, Next.value.injEq, true_and, and_true, dZ, dY, eT, fC, eK, fG, PJ, dS, dT, dU, dV, dN, dK, dP, dM, dI, cY, if_true, if_false, PG, PM, PH, PI, PL, PK, PF, PE, cR, cO, cH, bY, cV, dJ, bW, bX, cS, cK, cL, dE, cP, dD, dC, dW, cZ, cF, bH, bR, aT, aC, aL, dF, aI, cD, dB, dA, bN, aH, bC, aZ, cM, aD, aX, aM, aV, cU, aW, cJ, bS, aF, aG, aK, dO, aP, aO, bD, aR, cB, aE, bZ, bT, bG, bB, aY, cX, aJ, bM, aU, aQ, aS, aA, dG, cN, bO, aN, cW, bU, bV, cI, bQ, bP, bL, cA, bJ, cC, bA, bK, bF, bE, cG, hs, e1, Oy, n0, n1, n2, n3, n4]
 exact ((((((x02.seq x3).seq x4).seq x5).seq x57).seq x8))
def Pz (k : UInt8) (b : List UInt8) : List UInt8 := UInt8.ofNat (80 + k.toNat % 16) :: 42 :: 77 :: 24 :: UInt8.ofNat b.length :: 0 :: 0 :: 0 :: b
def L6 : List (UInt8 × List UInt8) -> List UInt8
 | [] => []
 | (k, b) :: L => Pz k b ++ L6 L
def Kr : Nat -> List (UInt8 × List UInt8) -> List Nat
 | _, [] => []
 | n, (k, b) :: L => (n + (8 + b.length)) :: Kr (n + (8 + b.length)) L
def Oa (w : Q6) (v : Q7) (ls : List (List UInt8)) : Prop := ∃ vs : List Q7, Sl w v vs /\ vs.length = ls.length /\ ∀ i (h : i < ls.length) (h' : i < vs.length), Bs w vs[i] ls[i]
theorem Oa.ext {w w' : Q6} {v : Q7} {ls : List (List UInt8)} (h : Oa w v ls) (x : fU w w' kY) : Oa w' v ls := by
 obtain ⟨vs, h1, h2, h3⟩ := h
 exact ⟨vs, h1.ext x (lC _), h2, fun i a b => (h3 i a b).ext x (lC _)⟩
theorem Oa.len {w : Q6} {v : Q7} {ls : List (List UInt8)} (h : Oa w v ls) : ∃ a c, v = .slice a ls.length c := by
 obtain ⟨vs, ⟨a, n, c, rfl, hn, hc, _⟩, h2, h3⟩ := h
 exact ⟨a, c, by rw [<- h2, hn]⟩
theorem Oa.at {w : Q6} {v : Q7} {ls : List (List UInt8)} (h : Oa w v ls) {i : Nat} (hi : i < ls.length) : ∃ b o c u, v = .slice (some ⟨b, o, none⟩) ls.length c /\ w.cell? ⟨b, o + i, none⟩ = some u /\ Bs w u (ls[i]'hi) := by
 obtain ⟨vs, ⟨a, n, c, rfl, hn, hc, hh⟩, h2, h3⟩ := h
 obtain ⟨b, o, rfl, h4⟩ := hh (by omega)
 have h5 := h4 i (by omega)
 rw [PT (by omega)] at h5
 exact ⟨b, o, c, _, by rw [<- h2, hn], h5, h3 i hi (by omega)⟩
theorem J2 {w : Q6} {b : Nat} {l : List UInt8} (h : iE w b (l.map lU)) : Bs w (.slice (some ⟨b, 0, none⟩) l.length l.length) l :=
 h.bs (off := 0) (c := l.length) (PY _) (fun i hi => by rw [PM, Qv, PT hi] <;> rfl)
def iv (n : Nat) : Q7 := .int .i64 (n : Nat)
def Ow (base : Nat) (w : Q6) (va ve : Q7) (L : List (UInt8 × List UInt8)) : Prop :=
 ∃ S T : Nat -> Prop, uR w S 1 va (L6 L).length ((L6 L).map lU) /\ uR w T 1 ve (Kr 0 L).length ((Kr 0 L).map iv) /\ (∀ b, S b -> base <= b /\ ¬ T b) /\ (∀ b, T b -> base <= b)
theorem Ow.ext {base : Nat} {w w' : Q6} {va ve : Q7} {L : List (UInt8 × List UInt8)} (h : Ow base w va ve L) (x : fU w w' kY) : Ow base w' va ve L := by
 obtain ⟨S, T, h1, h2, h3, h4⟩ := h
 exact ⟨S, T, h1.ext x (fun _ _ h => h), h2.ext x (fun _ _ h => h), h3, h4⟩
theorem L8 {n : Nat} (h : n < 256) : (UInt8.ofNat n).toNat = n := by rw [UInt8.toNat_ofNat']; omega
def b3 (x : Nat) : List UInt8 := [UInt8.ofNat (x % 256), UInt8.ofNat (x / 256 % 256), UInt8.ofNat (x / 65536 % 256)]
theorem MY {x : Nat} (h : x < 2 ^ 24) : jH (b3 x) = x := by
 simp only [b3, jH]
 rw [L8 (by omega), L8 (by omega), L8 (by omega)]
 omega
theorem NF {x : Nat} {r : List UInt8} (h : x < 2 ^ 24) : bx (b3 x ++ r) = x := by
 have : (b3 x ++ r).take 3 = b3 x := rfl
 unfold bx
 rw [this, MY h]
theorem Et {x n : Nat} {w : Q6} (hx : x < 2 ^ 64) (hn : n <= 8) :
 fK pg kC #[.int .u64 (x : Nat), .int .i64 (n : Nat)] w (fun r w' => r = .string ⟨(iN x n).toArray⟩ /\ fU w w' kY) := by
 refine Hv ?_
 unfold Ie Bf By
 have d1 : decide ((n : Int) > 8) = false := decide_eq_false (by omega)
 have d2 : decide ((8 : Int) < (n : Int)) = false := decide_eq_false (by omega)
 obtain ⟨RR, hRR⟩ : ∃ RR : Q7 -> Q6 -> Prop, RR = fun r w' => r = .string ⟨(iN x n).toArray⟩ /\ fU w w' kY := ⟨_, rfl⟩
 rw [<- hRR]
 simp (disch := omega) only [dQ, fE, cQ, stepR_skip, eE, eS, eI, eP, eX, fB, fF, eN, dL, eL, eQ, eZ, eC, eF, eJ, eH, eD, fA, eU, eB, dR, eM, eY, eA, fY, gC, gB, fZ, fV, fX, gA, fW, gD, dH, Result.ok.injEq, Next.value.injEq, true_and, and_true, dZ, dY, eT, fC, eK, fG, PJ, dS, dT, dU, dV, dN, dK, dP, dM, dI, cY, if_true, if_false, PG, PM, PH, PI, PL, PK, PF, PE, cR, cO, cH, bY, cV, dJ, bW, bX, cS, cK, cL, dE, cP, dD, dC, dW, cZ, cF, bH, bR, aT, aC, aL, dF, aI, cD, dB, dA, bN, aH, bC, aZ, cM, aD, aX, aM, aV, cU, aW, cJ, bS, aF, aG, aK, dO, aP, aO, bD, aR, cB, aE, bZ, bT, bG, bB, aY, cX, aJ, bM, aU, aQ, aS, aA, dG, cN, bO, aN, cW, bU, bV, cI, bQ, bP, bL, cA, bJ, cC, bA, bK, bF, bE, cG, d1, d2]
 unfold BC Bd Bo A6 Bi
 refine iG.rule (fun m (t : Q7 × Q7 × Q7) w1 => ∃ i vo, m = n - i /\ t = (.int .u64 (x / 256 ^ i : Nat), vo, .int .i64 (i : Nat)) /\ i <= n /\ uR w1 (fun y => w.heap.size <= y) 1 vo (iN x i).length ((iN x i).map lU) /\ fU w w1 kY) n
  ⟨0, _, by omega, by rw [Nat.pow_zero, Nat.div_one] <;> rfl, by omega, ⟨rfl, .inl ⟨rfl, rfl⟩⟩, fU.refl _ _⟩ ?_
 rintro m t w1 ⟨i, vo, rfl, rfl, hi, hS, x1⟩
 show rL _ _ (.int .u64 (x / 256 ^ i : Nat)) (.int .i64 (n : Nat)) vo (.int .i64 (i : Nat)) w1
 unfold rL
 by_cases hlt : i < n
 rotate_left
 .have d3 : decide ((i : Int) < (n : Int)) = false := decide_eq_false (by omega)
  have hin : i = n := by omega
  rw [hin] at hS
  have hcv := kU (l := iN x n) (IJ hS)
  simp (disch := omega) only [dQ, fE, cQ, stepR_skip, eE, eS, eI, eP, eX, fB, fF, eN, dL, eL, eQ, eZ, eC, eF, eJ, eH, eD, fA, eU, eB, dR, eM, eY, eA, fY, gC, gB, fZ, fV, fX, gA, fW, gD, dH, Result.ok.injEq, Next.value.injEq, true_and, and_true, dZ, dY, eT, fC, eK, fG, PJ, dS, dT, dU, dV, dN, dK, dP, dM, dI, cY, if_true, if_false, PG, PM, PH, PI, PL, PK, PF, PE, cR, cO, cH, bY, cV, dJ, bW, bX, cS, cK, cL, dE, cP, dD, dC, dW, cZ, cF, bH, bR, aT, aC, aL, dF, aI, cD, dB, dA, bN, aH, bC, aZ, cM, aD, aX, aM, aV, cU, aW, cJ, bS, aF, aG, aK, dO, aP, aO, bD, aR, cB, aE, bZ, bT, bG, bB, aY, cX, aJ, bM, aU, aQ, aS, aA, dG, cN, bO, aN, cW, bU, bV, cI, bQ, bP, bL, cA, bJ, cC, bA, bK, bF, bE, cG, d3]
  unfold wD
  simp (disch := omega) only [dQ, fE, cQ, stepR_skip, eE, eS, eI, eP, eX, fB, fF, eN, dL, eL, eQ, eZ, eC, eF, eJ, eH, eD, fA, eU, eB, dR, eM, eY, eA, fY, gC, gB, fZ, fV, fX, gA, fW, gD, dH, Result.ok.injEq, Next.value.injEq, true_and, and_true, dZ, dY, eT, fC, eK, fG, PJ, dS, dT, dU, dV, dN, dK, dP, dM, dI, cY, if_true, if_false, PG, PM, PH, PI, PL, PK, PF, PE, cR, cO, cH, bY, cV, dJ, bW, bX, cS, cK, cL, dE, cP, dD, dC, dW, cZ, cF, bH, bR, aT, aC, aL, dF, aI, cD, dB, dA, bN, aH, bC, aZ, cM, aD, aX, aM, aV, cU, aW, cJ, bS, aF, aG, aK, dO, aP, aO, bD, aR, cB, aE, bZ, bT, bG, bB, aY, cX, aJ, bM, aU, aQ, aS, aA, dG, cN, bO, aN, cW, bU, bV, cI, bQ, bP, bL, cA, bJ, cC, bA, bK, bF, bE, cG, hcv]
  rw [hRR]
  exact ⟨rfl, x1⟩
 have d3 : decide ((i : Int) < (n : Int)) = true := decide_eq_true (by omega)
 have hle : x / 256 ^ i <= x := Nat.div_le_self _ _
 obtain ⟨q, hq⟩ : ∃ q, q = x / 256 ^ i := ⟨_, rfl⟩
 rw [<- hq] at hle ⊢
 have e1 : (q : Int).tmod 256 = ((q % 256 : Nat) : Int) := rfl
 have e2 : (q : Int).tdiv 256 = ((q / 256 : Nat) : Int) := rfl
 have w2 : IntKind.u64.wrap ((q % 256 : Nat) : Int) = ((q % 256 : Nat) : Int) := dY (by omega) (by omega)
 have w3 : IntKind.u64.wrap ((q / 256 : Nat) : Int) = ((q / 256 : Nat) : Int) := dY (by omega) (by omega)
 have w4 : IntKind.u8.wrap ((q % 256 : Nat) : Int) = ((q % 256 : Nat) : Int) := fG (by omega) (by omega)
 have e7 : (i : Int) + 1 = ((i + 1 : Nat) : Int) := by omega
 simp (disch := omega) only [dQ, fE, cQ, stepR_skip, eE, eS, eI, eP, eX, fB, fF, eN, dL, eL, eQ, eZ, eC, eF, eJ, eH, eD, fA, eU, eB, dR, eM, eY, eA, fY, gC, gB, fZ, fV, fX, gA, fW, gD, dH, Result.ok.injEq, Next.value.injEq, true_and, and_true, dZ, dY, eT, fC, eK, fG, PJ, dS, dT, dU, dV, dN, dK, dP, dM, dI, cY, if_true, if_false, PG, PM, PH, PI, PL, PK, PF, PE, cR, cO, cH, bY, cV, dJ, bW, bX, cS, cK, cL, dE, cP, dD, dC, dW, cZ, cF, bH, bR, aT, aC, aL, dF, aI, cD, dB, dA, bN, aH, bC, aZ, cM, aD, aX, aM, aV, cU, aW, cJ, bS, aF, aG, aK, dO, aP, aO, bD, aR, cB, aE, bZ, bT, bG, bB, aY, cX, aJ, bM, aU, aQ, aS, aA, dG, cN, bO, aN, cW, bU, bV, cI, bQ, bP, bL, cA, bJ, cC, bA, bK, bF, bE, cG, d3, e1, w2, w4]
 refine rI (cells := #[.int .u8 ((q % 256 : Nat) : Int)]) (by decide) (by decide) (by kernel_rfl) fun w2' o2 x2 s2 => ?_
 have ho : iE w2' w1.heap.size ([UInt8.ofNat (q % 256)].map lU) := by
  have e : ([UInt8.ofNat (q % 256)].map lU) = [.int .u8 ((q % 256 : Nat) : Int)] := by
   simp only [QO, List.map_nil, lU]
   rw [L8 (by omega)]
  rw [e]; exact o2
 have z1 := x1.size
 have z2 := x2.size
 have S2 : uR w2' (fun y => (w.heap.size <= y /\ y < w1.heap.size) ∨ w2'.heap.size <= y) 1 vo _ _ := (pY hS fun y hy h => .inl ⟨hy, h⟩).ext x2 fun _ _ h => h
 refine OC S2 (J2 ho) (fun y hy => .inr hy) (by rw [fO]; simp; omega) fun v3 w3' o3 x3 => ?_
 simp (disch := omega) only [dQ, fE, cQ, stepR_skip, eE, eS, eI, eP, eX, fB, fF, eN, dL, eL, eQ, eZ, eC, eF, eJ, eH, eD, fA, eU, eB, dR, eM, eY, eA, fY, gC, gB, fZ, fV, fX, gA, fW, gD, dH, Result.ok.injEq, Next.value.injEq, true_and, and_true, dZ, dY, eT, fC, eK, fG, PJ, dS, dT, dU, dV, dN, dK, dP, dM, dI, cY, if_true, if_false, PG, PM, PH, PI, PL, PK, PF, PE, cR, cO, cH, bY, cV, dJ, bW, bX, cS, cK, cL, dE, cP, dD, dC, dW, cZ, cF, bH, bR, aT, aC, aL, dF, aI, cD, dB, dA, bN, aH, bC, aZ, cM, aD, aX, aM, aV, cU, aW, cJ, bS, aF, aG, aK, dO, aP, aO, bD, aR, cB, aE, bZ, bT, bG, bB, aY, cX, aJ, bM, aU, aQ, aS, aA, dG, cN, bO, aN, cW, bU, bV, cI, bQ, bP, bL, cA, bJ, cC, bA, bK, bF, bE, cG, e2, w3, e7]
 have hs : iN x (i + 1) = iN x i ++ [UInt8.ofNat (q % 256)] := by rw [Io, <- hq]
 have hp : q / 256 = x / 256 ^ (i + 1) := by rw [hq, QG, Q4]
 refine ⟨n - (i + 1), by omega, i + 1, v3, rfl, by rw [hp], by omega, ?_, (x1.seq x2).trans x3 fun y hy h => by omega⟩
 rw [hs]
 exact pY o3 fun y hy _ => by omega
def sO (n : Nat) (s : Bool) : List UInt8 := if n < 256 then [40, 181, 47, 253] ++ iN (32 + (if s then 4 else 0)) 1 ++ iN n 1 else [40, 181, 47, 253] ++ iN (32 + (if s then 4 else 0) + 64) 1 ++ iN (n - 256) 2
theorem J1 {n : Nat} {s : Bool} {w : Q6} (hn : n < 65792) :
 fK pg qC #[.int .u64 (n : Nat), .bool s] w (fun r w' => r = .string ⟨(sO n s).toArray⟩ /\ fU w w' kY) := by
 refine Fo ?_
 unfold F2 wY wT
 obtain ⟨RR, hRR⟩ : ∃ RR : Q7 -> Q6 -> Prop, RR = fun r w' => r = .string ⟨(sO n s).toArray⟩ /\ fU w w' kY := ⟨_, rfl⟩
 rw [<- hRR]
 have hcat : ∀ (A B : List UInt8) (t : TypeId) (ox oy : Operand) (w : Q6), A.length + B.length <= 1000 -> (fD .add t ox oy (.string ⟨A.toArray⟩) (.string ⟨B.toArray⟩)).run pg w = .ok (.value (.string ⟨(A ++ B).toArray⟩)) w := by
  intro A B t ox oy w hl
  have h1 := NW (P := pg) (t := t) (ox := ox) (oy := oy) (w := w) ⟨A.toArray⟩ ⟨B.toArray⟩ (by
   have e1 : (⟨A.toArray⟩ : ByteArray).size = A.length := by simp [ByteArray.size]
   have e2 : (⟨B.toArray⟩ : ByteArray).size = B.length := by simp [ByteArray.size]
   omega)
  rw [h1]
  congr 3
 have main : ∀ d : Nat, d = 32 + (if s then 4 else 0) -> oN RR (.int .u64 (n : Nat)) (.int .u64 (d : Nat)) w := by
  intro d hd
  have hd2 : d <= 36 := by rw [hd]; split <;> omega
  unfold oN
  by_cases h1 : n < 256
  .have d1 : decide ((n : Int) < 256) = true := decide_eq_true (by omega)
   simp (disch := omega) only [dQ, fE, cQ, stepR_skip, eE, eS, eI, eP, eX, fB, fF, eN, dL, eL, eQ, eZ, eC, eF, eJ, eH, eD, fA, eU, eB, dR, eM, eY, eA, fY, gC, gB, fZ, fV, fX, gA, fW, gD, dH, Result.ok.injEq, Next.value.injEq, true_and, and_true, dZ, dY, eT, fC, eK, fG, PJ, dS, dT, dU, dV, dN, dK, dP, dM, dI, cY, if_true, if_false, PG, PM, PH, PI, PL, PK, PF, PE, cR, cO, cH, bY, cV, dJ, bW, bX, cS, cK, cL, dE, cP, dD, dC, dW, cZ, cF, bH, bR, aT, aC, aL, dF, aI, cD, dB, dA, bN, aH, bC, aZ, cM, aD, aX, aM, aV, cU, aW, cJ, bS, aF, aG, aK, dO, aP, aO, bD, aR, cB, aE, bZ, bT, bG, bB, aY, cX, aJ, bM, aU, aQ, aS, aA, dG, cN, bO, aN, cW, bU, bV, cI, bQ, bP, bL, cA, bJ, cC, bA, bK, bF, bE, cG, d1]
   refine (Et (n := 1) (by omega) (by omega)).mono ?_
   rintro r w1 ⟨rfl, x1⟩
   have c1 := fun t ox oy w => hcat [40, 181, 47, 253] (iN d 1) t ox oy w (by rw [fO]; simp)
   simp (disch := omega) only [dQ, fE, cQ, stepR_skip, eE, eS, eI, eP, eX, fB, fF, eN, dL, eL, eQ, eZ, eC, eF, eJ, eH, eD, fA, eU, eB, dR, eM, eY, eA, fY, gC, gB, fZ, fV, fX, gA, fW, gD, dH, Result.ok.injEq, Next.value.injEq, true_and, and_true, dZ, dY, eT, fC, eK, fG, PJ, dS, dT, dU, dV, dN, dK, dP, dM, dI, cY, if_true, if_false, PG, PM, PH, PI, PL, PK, PF, PE, cR, cO, cH, bY, cV, dJ, bW, bX, cS, cK, cL, dE, cP, dD, dC, dW, cZ, cF, bH, bR, aT, aC, aL, dF, aI, cD, dB, dA, bN, aH, bC, aZ, cM, aD, aX, aM, aV, cU, aW, cJ, bS, aF, aG, aK, dO, aP, aO, bD, aR, cB, aE, bZ, bT, bG, bB, aY, cX, aJ, bM, aU, aQ, aS, aA, dG, cN, bO, aN, cW, bU, bV, cI, bQ, bP, bL, cA, bJ, cC, bA, bK, bF, bE, cG, c1]
   refine (Et (n := 1) (by omega) (by omega)).mono ?_
   rintro r w2 ⟨rfl, x2⟩
   have c2 := fun t ox oy w => hcat ([40, 181, 47, 253] ++ iN d 1) (iN n 1) t ox oy w (by rw [PN, fO, fO]; simp)
   simp (disch := omega) only [dQ, fE, cQ, stepR_skip, eE, eS, eI, eP, eX, fB, fF, eN, dL, eL, eQ, eZ, eC, eF, eJ, eH, eD, fA, eU, eB, dR, eM, eY, eA, fY, gC, gB, fZ, fV, fX, gA, fW, gD, dH, Result.ok.injEq, Next.value.injEq, true_and, and_true, dZ, dY, eT, fC, eK, fG, PJ, dS, dT, dU, dV, dN, dK, dP, dM, dI, cY, if_true, if_false, PG, PM, PH, PI, PL, PK, PF, PE, cR, cO, cH, bY, cV, dJ, bW, bX, cS, cK, cL, dE, cP, dD, dC, dW, cZ, cF, bH, bR, aT, aC, aL, dF, aI, cD, dB, dA, bN, aH, bC, aZ, cM, aD, aX, aM, aV, cU, aW, cJ, bS, aF, aG, aK, dO, aP, aO, bD, aR, cB, aE, bZ, bT, bG, bB, aY, cX, aJ, bM, aU, aQ, aS, aA, dG, cN, bO, aN, cW, bU, bV, cI, bQ, bP, bL, cA, bJ, cC, bA, bK, bF, bE, cG, c2]
   rw [hRR]
   refine ⟨?_, x1.seq x2⟩
   unfold sO
   rw [if_pos h1, <- hd]
  .have d1 : decide ((n : Int) < 256) = false := decide_eq_false (by omega)
   have d2 : decide ((n : Int) < 65792) = true := decide_eq_true (by omega)
   have e1 : (d : Int) + 64 = ((d + 64 : Nat) : Int) := by omega
   have e2 : (n : Int) - 256 = ((n - 256 : Nat) : Int) := by omega
   have w1' : IntKind.u64.wrap ((d + 64 : Nat) : Int) = ((d + 64 : Nat) : Int) := dY (by omega) (by omega)
   have w2' : IntKind.u64.wrap ((n - 256 : Nat) : Int) = ((n - 256 : Nat) : Int) := dY (by omega) (by omega)
   simp (disch := omega) only [dQ, fE, cQ, stepR_skip, eE, eS, eI, eP, eX, fB, fF, eN, dL, eL, eQ, eZ, eC, eF, eJ, eH, eD, fA, eU, eB, dR, eM, eY, eA, fY, gC, gB, fZ, fV, fX, gA, fW, gD, dH, Result.ok.injEq, Next.value.injEq, true_and, and_true, dZ, dY, eT, fC, eK, fG, PJ, dS, dT, dU, dV, dN, dK, dP, dM, dI, cY, if_true, if_false, PG, PM, PH, PI, PL, PK, PF, PE, cR, cO, cH, bY, cV, dJ, bW, bX, cS, cK, cL, dE, cP, dD, dC, dW, cZ, cF, bH, bR, aT, aC, aL, dF, aI, cD, dB, dA, bN, aH, bC, aZ, cM, aD, aX, aM, aV, cU, aW, cJ, bS, aF, aG, aK, dO, aP, aO, bD, aR, cB, aE, bZ, bT, bG, bB, aY, cX, aJ, bM, aU, aQ, aS, aA, dG, cN, bO, aN, cW, bU, bV, cI, bQ, bP, bL, cA, bJ, cC, bA, bK, bF, bE, cG, d1, d2, e1, w1']
   refine (Et (n := 1) (by omega) (by omega)).mono ?_
   rintro r w1 ⟨rfl, x1⟩
   have c1 := fun t ox oy w => hcat [40, 181, 47, 253] (iN (d + 64) 1) t ox oy w (by rw [fO]; simp)
   simp (disch := omega) only [dQ, fE, cQ, stepR_skip, eE, eS, eI, eP, eX, fB, fF, eN, dL, eL, eQ, eZ, eC, eF, eJ, eH, eD, fA, eU, eB, dR, eM, eY, eA, fY, gC, gB, fZ, fV, fX, gA, fW, gD, dH, Result.ok.injEq, Next.value.injEq, true_and, and_true, dZ, dY, eT, fC, eK, fG, PJ, dS, dT, dU, dV, dN, dK, dP, dM, dI, cY, if_true, if_false, PG, PM, PH, PI, PL, PK, PF, PE, cR, cO, cH, bY, cV, dJ, bW, bX, cS, cK, cL, dE, cP, dD, dC, dW, cZ, cF, bH, bR, aT, aC, aL, dF, aI, cD, dB, dA, bN, aH, bC, aZ, cM, aD, aX, aM, aV, cU, aW, cJ, bS, aF, aG, aK, dO, aP, aO, bD, aR, cB, aE, bZ, bT, bG, bB, aY, cX, aJ, bM, aU, aQ, aS, aA, dG, cN, bO, aN, cW, bU, bV, cI, bQ, bP, bL, cA, bJ, cC, bA, bK, bF, bE, cG, c1, e2, w2']
   refine (Et (n := 2) (by omega) (by omega)).mono ?_
   rintro r w2 ⟨rfl, x2⟩
   have c2 := fun t ox oy w => hcat ([40, 181, 47, 253] ++ iN (d + 64) 1) (iN (n - 256) 2) t ox oy w (by rw [PN, fO, fO]; simp)
   simp (disch := omega) only [dQ, fE, cQ, stepR_skip, eE, eS, eI, eP, eX, fB, fF, eN, dL, eL, eQ, eZ, eC, eF, eJ, eH, eD, fA, eU, eB, dR, eM, eY, eA, fY, gC, gB, fZ, fV, fX, gA, fW, gD, dH, Result.ok.injEq, Next.value.injEq, true_and, and_true, dZ, dY, eT, fC, eK, fG, PJ, dS, dT, dU, dV, dN, dK, dP, dM, dI, cY, if_true, if_false, PG, PM, PH, PI, PL, PK, PF, PE, cR, cO, cH, bY, cV, dJ, bW, bX, cS, cK, cL, dE, cP, dD, dC, dW, cZ, cF, bH, bR, aT, aC, aL, dF, aI, cD, dB, dA, bN, aH, bC, aZ, cM, aD, aX, aM, aV, cU, aW, cJ, bS, aF, aG, aK, dO, aP, aO, bD, aR, cB, aE, bZ, bT, bG, bB, aY, cX, aJ, bM, aU, aQ, aS, aA, dG, cN, bO, aN, cW, bU, bV, cI, bQ, bP, bL, cA, bJ, cC, bA, bK, bF, bE, cG, c2]
   rw [hRR]
   refine ⟨?_, x1.seq x2⟩
   unfold sO
   rw [if_neg h1, <- hd]
 cases s with
 | false =>
   have := main 32 rfl
   simp (disch := omega) only [dQ, fE, cQ, stepR_skip, eE, eS, eI, eP, eX, fB, fF, eN, dL, eL, eQ, eZ, eC, eF, eJ, eH, eD, fA, eU, eB, dR, eM, eY, eA, fY, gC, gB, fZ, fV, fX, gA, fW, gD, dH, Result.ok.injEq, Next.value.injEq, true_and, and_true, dZ, dY, eT, fC, eK, fG, PJ, dS, dT, dU, dV, dN, dK, dP, dM, dI, cY, if_true, if_false, PG, PM, PH, PI, PL, PK, PF, PE, cR, cO, cH, bY, cV, dJ, bW, bX, cS, cK, cL, dE, cP, dD, dC, dW, cZ, cF, bH, bR, aT, aC, aL, dF, aI, cD, dB, dA, bN, aH, bC, aZ, cM, aD, aX, aM, aV, cU, aW, cJ, bS, aF, aG, aK, dO, aP, aO, bD, aR, cB, aE, bZ, bT, bG, bB, aY, cX, aJ, bM, aU, aQ, aS, aA, dG, cN, bO, aN, cW, bU, bV, cI, bQ, bP, bL, cA, bJ, cC, bA, bK, bF, bE, cG]
   exact this
 | true =>
   have := main 36 rfl
   simp (disch := omega) only [dQ, fE, cQ, stepR_skip, eE, eS, eI, eP, eX, fB, fF, eN, dL, eL, eQ, eZ, eC, eF, eJ, eH, eD, fA, eU, eB, dR, eM, eY, eA, fY, gC, gB, fZ, fV, fX, gA, fW, gD, dH, Result.ok.injEq, Next.value.injEq, true_and, and_true, dZ, dY, eT, fC, eK, fG, PJ, dS, dT, dU, dV, dN, dK, dP, dM, dI, cY, if_true, if_false, PG, PM, PH, PI, PL, PK, PF, PE, cR, cO, cH, bY, cV, dJ, bW, bX, cS, cK, cL, dE, cP, dD, dC, dW, cZ, cF, bH, bR, aT, aC, aL, dF, aI, cD, dB, dA, bN, aH, bC, aZ, cM, aD, aX, aM, aV, cU, aW, cJ, bS, aF, aG, aK, dO, aP, aO, bD, aR, cB, aE, bZ, bT, bG, bB, aY, cX, aJ, bM, aU, aQ, aS, aA, dG, cN, bO, aN, cW, bU, bV, cI, bQ, bP, bL, cA, bJ, cC, bA, bK, bF, bE, cG]
   exact this
theorem Ms {w : Q6} {a : Option Addr} {n c : Nat} {l : List Q7} (h : Sl w (.slice a n c) l) {k : Nat} (hk : k <= n) : Sl w (.slice a k c) (l.take k) := by
 obtain ⟨a', n', c', e, hn, hc, h⟩ := h
 cases e
 refine ⟨_, _, _, rfl, by rw [PR]; omega, by omega, fun h0 => ?_⟩
 obtain ⟨b, off, rfl, h2⟩ := h (by omega)
 refine ⟨b, off, rfl, fun i hi => ?_⟩
 rw [QB (by omega)]
 exact h2 i (by omega)
theorem NT {w : Q6} {a : Option Addr} {c : Nat} {l : List UInt8} (h : Bs w (.slice a l.length c) l) {lo n : Nat} (hk : lo + n <= l.length) : Bs w (.slice (iL a c lo 1) (lo + n - lo) (c - lo)) ((l.drop lo).take n) := by
 have h1 := h.drop' (k := lo) (by omega)
 have h2 := Ms h1 (k := n) (by omega)
 rw [<- QQ, <- QP] at h2
 rw [show lo + n - lo = n from by omega]
 exact h2
def jP (size : Nat) : Nat -> List UInt8 -> List UInt8
 | 0, _ => []
 | f + 1, r => if r.length <= size then b3 (8 * r.length + 1) ++ r else b3 (8 * size) ++ r.take size ++ jP size f (r.drop size)
def HO (b : List UInt8) (size : Nat) (s : Bool) : List UInt8 := sO b.length s ++ jP size (b.length + 1) b ++ (if s then iN (XN b) 4 else [])
theorem No {R : Q7 -> Q6 -> Prop} {base : Nat} {v0 vo : Q7} {b out : List UInt8} {s : Bool} {w : Q6} (h0 : Bs w v0 b) (hb : b.length <= 2000) (ho : uR w (fun y => base <= y) 1 vo out.length (out.map lU)) (hbase : base <= w.heap.size) (hout : out.length <= 1000000)
 (hk : ∀ w' vr, uR w' (fun y => base <= y) 1 vr (out ++ (if s then iN (XN b) 4 else [])).length ((out ++ (if s then iN (XN b) 4 else [])).map lU) -> fU w w' (fun y => base <= y) -> R vr w') :
 kZ R v0 (.bool s) vo w := by
 unfold kZ yA
 cases s with
 | false =>
   simp only [PG, if_false, QF] at hk
   simp (disch := omega) only [dQ, fE, cQ, stepR_skip, eE, eS, eI, eP, eX, fB, fF, eN, dL, eL, eQ, eZ, eC, eF, eJ, eH, eD, fA, eU, eB, dR, eM, eY, eA, fY, gC, gB, fZ, fV, fX, gA, fW, gD, dH, Result.ok.injEq, Next.value.injEq, true_and, and_true, dZ, dY, eT, fC, eK, fG, PJ, dS, dT, dU, dV, dN, dK, dP, dM, dI, cY, if_true, if_false, PG, PM, PH, PI, PL, PK, PF, PE, cR, cO, cH, bY, cV, dJ, bW, bX, cS, cK, cL, dE, cP, dD, dC, dW, cZ, cF, bH, bR, aT, aC, aL, dF, aI, cD, dB, dA, bN, aH, bC, aZ, cM, aD, aX, aM, aV, cU, aW, cJ, bS, aF, aG, aK, dO, aP, aO, bD, aR, cB, aE, bZ, bT, bG, bB, aY, cX, aJ, bM, aU, aQ, aS, aA, dG, cN, bO, aN, cW, bU, bV, cI, bQ, bP, bL, cA, bJ, cC, bA, bK, bF, bE, cG]
   unfold oX
   exact hk w vo ho (fU.refl _ _)
 | true =>
   simp only [if_true] at hk
   have hcv := kU h0
   simp (disch := omega) only [dQ, fE, cQ, stepR_skip, eE, eS, eI, eP, eX, fB, fF, eN, dL, eL, eQ, eZ, eC, eF, eJ, eH, eD, fA, eU, eB, dR, eM, eY, eA, fY, gC, gB, fZ, fV, fX, gA, fW, gD, dH, Result.ok.injEq, Next.value.injEq, true_and, and_true, dZ, dY, eT, fC, eK, fG, PJ, dS, dT, dU, dV, dN, dK, dP, dM, dI, cY, if_true, if_false, PG, PM, PH, PI, PL, PK, PF, PE, cR, cO, cH, bY, cV, dJ, bW, bX, cS, cK, cL, dE, cP, dD, dC, dW, cZ, cF, bH, bR, aT, aC, aL, dF, aI, cD, dB, dA, bN, aH, bC, aZ, cM, aD, aX, aM, aV, cU, aW, cJ, bS, aF, aG, aK, dO, aP, aO, bD, aR, cB, aE, bZ, bT, bG, bB, aY, cX, aJ, bM, aU, aQ, aS, aA, dG, cN, bO, aN, cW, bU, bV, cI, bQ, bP, bL, cA, bJ, cC, bA, bK, bF, bE, cG, hcv]
   obtain ⟨y, hy⟩ : ∃ y : ByteArray, y = ⟨b.toArray⟩ := ⟨_, rfl⟩
   have hly : FW y = b := by rw [hy] <;> rfl
   have hys : y.size = b.length := by rw [<- oY, hly]
   rw [<- hy]
   refine (OI y (by omega) w).mono ?_
   rintro r w1 ⟨rfl, x1⟩
   rw [hly, Ny]
   obtain ⟨X, hX⟩ : ∃ X, X = XN b := ⟨_, rfl⟩
   have hXl := ND b
   rw [<- hX] at hXl hk ⊢
   have q1 : (X : Int).fdiv (2 ^ min (Int.toNat 8) IntKind.u64.bits) = ((X / 256 : Nat) : Int) := by
    have : (2 : Int) ^ min (Int.toNat 8) IntKind.u64.bits = 256 := by decide
    rw [this, Qb _ (by omega)]; omega
   have q2 : (X : Int).fdiv (2 ^ min (Int.toNat 16) IntKind.u64.bits) = ((X / 65536 : Nat) : Int) := by
    have : (2 : Int) ^ min (Int.toNat 16) IntKind.u64.bits = 65536 := by decide
    rw [this, Qb _ (by omega)]; omega
   have q3 : (X : Int).fdiv (2 ^ min (Int.toNat 24) IntKind.u64.bits) = ((X / 16777216 : Nat) : Int) := by
    have : (2 : Int) ^ min (Int.toNat 24) IntKind.u64.bits = 16777216 := by decide
    rw [this, Qb _ (by omega)]; omega
   simp (disch := omega) only [dQ, fE, cQ, stepR_skip, eE, eS, eI, eP, eX, fB, fF, eN, dL, eL, eQ, eZ, eC, eF, eJ, eH, eD, fA, eU, eB, dR, eM, eY, eA, fY, gC, gB, fZ, fV, fX, gA, fW, gD, dH, Result.ok.injEq, Next.value.injEq, true_and, and_true, dZ, dY, eT, fC, eK, fG, PJ, dS, dT, dU, dV, dN, dK, dP, dM, dI, cY, if_true, if_false, PG, PM, PH, PI, PL, PK, PF, PE, cR, cO, cH, bY, cV, dJ, bW, bX, cS, cK, cL, dE, cP, dD, dC, dW, cZ, cF, bH, bR, aT, aC, aL, dF, aI, cD, dB, dA, bN, aH, bC, aZ, cM, aD, aX, aM, aV, cU, aW, cJ, bS, aF, aG, aK, dO, aP, aO, bD, aR, cB, aE, bZ, bT, bG, bB, aY, cX, aJ, bM, aU, aQ, aS, aA, dG, cN, bO, aN, cW, bU, bV, cI, bQ, bP, bL, cA, bJ, cC, bA, bK, bF, bE, cG, q1, q2, q3, Px]
   refine rI (cells := #[.int .u8 ((X : Int) % 256), .int .u8 (((X / 256 : Nat) : Int) % 256), .int .u8 (((X / 65536 : Nat) : Int) % 256), .int .u8 (((X / 16777216 : Nat) : Int) % 256)]) (by decide) (by decide) (by kernel_rfl) fun w2 o2 x2 s2 => ?_
   have hc : (#[.int .u8 ((X : Int) % 256), .int .u8 (((X / 256 : Nat) : Int) % 256), .int .u8 (((X / 65536 : Nat) : Int) % 256), .int .u8 (((X / 16777216 : Nat) : Int) % 256)] : Array Q7).toList = (iN X 4).map lU := by
    simp only [iN, QO, List.map_nil, lU]
    rw [L8 (by omega), L8 (by omega), L8 (by omega), L8 (by omega), QG, QG]
    rfl
   rw [hc] at o2
   have hb2 := J2 o2
   rw [fO] at hb2
   have z1 := x1.size
   have z2 := x2.size
   have S2 : uR w2 (fun y => (base <= y /\ y < w1.heap.size) ∨ w2.heap.size <= y) 1 vo _ _ := (pY (ho.ext x1 fun _ _ h => h) fun y hy h => .inl ⟨hy, h⟩).ext x2 fun _ _ h => h
   refine OC S2 hb2 (fun y hy => .inr hy) (by rw [fO]; omega) fun v3 w3 o3 x3 => ?_
   unfold oX
   exact hk w3 v3 (pY o3 fun y hy _ => by omega) ((((x1.seq x2).mono fun _ _ h => h.elim).seq (x3.mono fun y _ h => by omega)))
theorem JS {R : Q7 -> Q6 -> Prop} {base : Nat} {v0 vo : Q7} {b hd : List UInt8} {size : Nat} {s : Bool} {w : Q6} (h0 : Bs w v0 b) (hb : b.length <= 2000) (hs : 1 <= size /\ size <= 256) (ho : uR w (fun y => base <= y) 1 vo hd.length (hd.map lU)) (hbase : base <= w.heap.size) (hhd : hd.length <= 10)
 (hnb : ∀ w', fU w w' (fun y => base <= y) -> Bs w' v0 b)
 (hk : ∀ w' vr, uR w' (fun y => base <= y) 1 vr (hd ++ jP size (b.length + 1) b).length ((hd ++ jP size (b.length + 1) b).map lU) -> fU w w' (fun y => base <= y) -> kZ R v0 (.bool s) vr w') :
 nF R v0 (.int .i64 (size : Nat)) (.bool s) vo (.int .i64 0) w := by
 unfold nF vL vS uZ vH
 refine iG.rule (fun m (t : Q7 × Q7 × Q7) w1 => ∃ f at' i vf dn, m = f /\ t = (vf, .int .i64 (at' : Nat), .int .i64 (i : Nat)) /\ i + f = b.length + 1 /\ i <= at' /\ at' <= b.length /\ 0 < f /\ dn ++ jP size f (b.drop at') = hd ++ jP size (b.length + 1) b /\ dn.length <= 10 + 300 * i /\ uR w1 (fun y => base <= y) 1 vf dn.length (dn.map lU) /\ fU w w1 (fun y => base <= y)) (b.length + 1)
  ⟨b.length + 1, 0, 0, vo, hd, rfl, rfl, by omega, by omega, by omega, by omega, rfl, by omega, ho, fU.refl _ _⟩ ?_
 rintro m t w1 ⟨f, at', i, vf, dn, rfl, rfl, hif, hia, hal, hf, hdn, hdl, hS, x1⟩
 obtain ⟨f, rfl⟩ : ∃ g, m = g + 1 := ⟨m - 1, by omega⟩
 show nD _ _ v0 (.int .i64 (size : Nat)) (.bool s) vf (.int .i64 (at' : Nat)) (.int .i64 (i : Nat)) w1
 unfold nD vN
 have g0 := hnb w1 x1
 obtain ⟨a0, c0, e0, hcap⟩ := g0.len
 rw [PQ] at e0 hcap
 have z1 := x1.size
 have d1 : decide ((i : Int) <= (b.length : Int)) = true := decide_eq_true (by omega)
 have main : ∀ n : Nat, n = min size (b.length - at') -> rV (fun hJ fR gE fS iQ nC w9 => mN (fun _ _ _ fS iQ nC w9 => (fun (t : Q7 × Q7 × Q7) w1 => ∃ m, m < f + 1 /\ ∃ f at' i vf dn, m = f /\ t = (vf, .int .i64 (at' : Nat), .int .i64 (i : Nat)) /\ i + f = b.length + 1 /\ i <= at' /\ at' <= b.length /\ 0 < f /\ dn ++ jP size f (b.drop at') = hd ++ jP size (b.length + 1) b /\ dn.length <= 10 + 300 * i /\ uR w1 (fun y => base <= y) 1 vf dn.length (dn.map lU) /\ fU w w1 (fun y => base <= y)) (fS, iQ, nC) w9) hJ fR gE fS iQ nC w9) (fun hJ gE fS w9 => kZ R hJ gE fS w9) v0 (.int .i64 (size : Nat)) (.bool s) vf (.int .i64 (at' : Nat)) (.int .i64 (i : Nat)) (.int .i64 (n : Nat)) w1 := by
  intro n hn
  have hn1 : at' + n <= b.length := by omega
  have last : ∀ B : Bool, B = (at' + n == b.length) -> oR (fun hJ fR gE fS iQ nC w9 => mN (fun _ _ _ fS iQ nC w9 => (fun (t : Q7 × Q7 × Q7) w1 => ∃ m, m < f + 1 /\ ∃ f at' i vf dn, m = f /\ t = (vf, .int .i64 (at' : Nat), .int .i64 (i : Nat)) /\ i + f = b.length + 1 /\ i <= at' /\ at' <= b.length /\ 0 < f /\ dn ++ jP size f (b.drop at') = hd ++ jP size (b.length + 1) b /\ dn.length <= 10 + 300 * i /\ uR w1 (fun y => base <= y) 1 vf dn.length (dn.map lU) /\ fU w w1 (fun y => base <= y)) (fS, iQ, nC) w9) hJ fR gE fS iQ nC w9) (fun hJ gE fS w9 => kZ R hJ gE fS w9) v0 (.int .i64 (size : Nat)) (.bool s) vf (.int .i64 (at' : Nat)) (.int .i64 (i : Nat)) (.int .i64 (n : Nat)) (.int .i64 (8 * n + (if B then 1 else 0) : Nat)) w1 := by
   intro B hB
   obtain ⟨x, hx⟩ : ∃ x, x = 8 * n + (if B then 1 else 0) := ⟨_, rfl⟩
   have hxl : x < 2 ^ 16 := by rw [hx]; split <;> omega
   rw [<- hx]
   unfold oR
   have q1 : (x : Int).tdiv 256 = ((x / 256 : Nat) : Int) := rfl
   have q2 : (x : Int).tdiv 65536 = ((x / 65536 : Nat) : Int) := rfl
   have u1 : IntKind.i64.wrap ((x / 256 : Nat) : Int) = ((x / 256 : Nat) : Int) := dZ (by omega) (by omega)
   have u2 : IntKind.i64.wrap ((x / 65536 : Nat) : Int) = ((x / 65536 : Nat) : Int) := dZ (by omega) (by omega)
   have e1 : (at' : Int) + (n : Int) = ((at' + n : Nat) : Int) := by omega
   have u3 : IntKind.i64.wrap ((at' + n : Nat) : Int) = ((at' + n : Nat) : Int) := dZ (by omega) (by omega)
   have t0 : (at' : Int).toNat = at' := PJ _
   have t1 : ((at' + n : Nat) : Int).toNat = at' + n := PJ _
   simp (disch := omega) only [dQ, fE, cQ, stepR_skip, eE, eS, eI, eP, eX, fB, fF, eN, dL, eL, eQ, eZ, eC, eF, eJ, eH, eD, fA, eU, eB, dR, eM, eY, eA, fY, gC, gB, fZ, fV, fX, gA, fW, gD, dH, Result.ok.injEq, Next.value.injEq, true_and, and_true, dZ, dY, eT, fC, eK, fG, PJ, dS, dT, dU, dV, dN, dK, dP, dM, dI, cY, if_true, if_false, PG, PM, PH, PI, PL, PK, PF, PE, cR, cO, cH, bY, cV, dJ, bW, bX, cS, cK, cL, dE, cP, dD, dC, dW, cZ, cF, bH, bR, aT, aC, aL, dF, aI, cD, dB, dA, bN, aH, bC, aZ, cM, aD, aX, aM, aV, cU, aW, cJ, bS, aF, aG, aK, dO, aP, aO, bD, aR, cB, aE, bZ, bT, bG, bB, aY, cX, aJ, bM, aU, aQ, aS, aA, dG, cN, bO, aN, cW, bU, bV, cI, bQ, bP, bL, cA, bJ, cC, bA, bK, bF, bE, cG, q1, q2, u1, u2, Px]
   refine rI (cells := #[.int .u8 ((x : Int) % 256), .int .u8 ((x / 256 : Nat) : Int), .int .u8 ((x / 65536 : Nat) : Int)]) (by decide) (by decide) (by kernel_rfl) fun w2 o2 x2 s2 => ?_
   have hc : (#[.int .u8 ((x : Int) % 256), .int .u8 ((x / 256 : Nat) : Int), .int .u8 ((x / 65536 : Nat) : Int)] : Array Q7).toList = (b3 x).map lU := by
    simp only [b3, QO, List.map_nil, lU]
    rw [L8 (by omega), L8 (by omega), L8 (by omega), Qa (show x / 256 < 256 by omega), Qa (show x / 65536 < 256 by omega)]
    rfl
   rw [hc] at o2
   have hb2 := J2 o2
   have z2 := x2.size
   have S2 : uR w2 (fun y => (base <= y /\ y < w1.heap.size) ∨ w2.heap.size <= y) 1 vf _ _ := (pY hS fun y hy h => .inl ⟨hy, h⟩).ext x2 fun _ _ h => h
   refine OC S2 hb2 (fun y hy => .inr hy) (by rw [show (b3 x).length = 3 from rfl]; omega) fun v3 w3 o3 x3 => ?_
   have z3 := x3.size
   have x03 : fU w w3 (fun y => base <= y) := x1.seq ((x2.mono fun _ _ h => h.elim).seq (x3.mono fun y _ h => by omega))
   have g3 := hnb w3 x03
   rw [e0] at g3
   have hmid := NT g3 hn1
   rw [e0]
   simp (disch := omega) only [dQ, fE, cQ, stepR_skip, eE, eS, eI, eP, eX, fB, fF, eN, dL, eL, eQ, eZ, eC, eF, eJ, eH, eD, fA, eU, eB, dR, eM, eY, eA, fY, gC, gB, fZ, fV, fX, gA, fW, gD, dH, Result.ok.injEq, Next.value.injEq, true_and, and_true, dZ, dY, eT, fC, eK, fG, PJ, dS, dT, dU, dV, dN, dK, dP, dM, dI, cY, if_true, if_false, PG, PM, PH, PI, PL, PK, PF, PE, cR, cO, cH, bY, cV, dJ, bW, bX, cS, cK, cL, dE, cP, dD, dC, dW, cZ, cF, bH, bR, aT, aC, aL, dF, aI, cD, dB, dA, bN, aH, bC, aZ, cM, aD, aX, aM, aV, cU, aW, cJ, bS, aF, aG, aK, dO, aP, aO, bD, aR, cB, aE, bZ, bT, bG, bB, aY, cX, aJ, bM, aU, aQ, aS, aA, dG, cN, bO, aN, cW, bU, bV, cI, bQ, bP, bL, cA, bJ, cC, bA, bK, bF, bE, cG, e1, t0, t1]
   have o3' : uR w3 (fun y => base <= y) 1 v3 (dn ++ b3 x).length ((dn ++ b3 x).map lU) := pY o3 fun y hy _ => by omega
   have hml : ((b.drop at').take n).length = n := by rw [PR, PU]; omega
   refine OC o3' hmid (fun y hy => by omega) (by rw [PN, hml, show (b3 x).length = 3 from rfl]; omega) fun v4 w4 o4 x4 => ?_
   have x04 := x03.seq x4
   have hrl : (b.drop at').length = b.length - at' := PU
   rw [<- e0]
   cases hBB : B with
   | true =>
     rw [hBB] at hB hx
     have hl : at' + n = b.length := by simpa using hB.symm
     have q : (((at' + n : Nat) : Int) == (b.length : Int)) = true := by rw [hl]; simp
     have hfin : dn ++ b3 x ++ (b.drop at').take n = hd ++ jP size (b.length + 1) b := by
      rw [<- hdn, jP, if_pos (by omega), PX (by omega), P1, hrl, hx]
      have e9 : 8 * (b.length - at') + 1 = 8 * n + (if true = true then 1 else 0) := by simp; omega
      rw [e9]
     rw [hfin] at o4
     have := hk w4 v4 o4 x04
     rw [e0] at this ⊢
     simp (disch := omega) only [dQ, fE, cQ, stepR_skip, eE, eS, eI, eP, eX, fB, fF, eN, dL, eL, eQ, eZ, eC, eF, eJ, eH, eD, fA, eU, eB, dR, eM, eY, eA, fY, gC, gB, fZ, fV, fX, gA, fW, gD, dH, Result.ok.injEq, Next.value.injEq, true_and, and_true, dZ, dY, eT, fC, eK, fG, PJ, dS, dT, dU, dV, dN, dK, dP, dM, dI, cY, if_true, if_false, PG, PM, PH, PI, PL, PK, PF, PE, cR, cO, cH, bY, cV, dJ, bW, bX, cS, cK, cL, dE, cP, dD, dC, dW, cZ, cF, bH, bR, aT, aC, aL, dF, aI, cD, dB, dA, bN, aH, bC, aZ, cM, aD, aX, aM, aV, cU, aW, cJ, bS, aF, aG, aK, dO, aP, aO, bD, aR, cB, aE, bZ, bT, bG, bB, aY, cX, aJ, bM, aU, aQ, aS, aA, dG, cN, bO, aN, cW, bU, bV, cI, bQ, bP, bL, cA, bJ, cC, bA, bK, bF, bE, cG, e1, q]
     exact this
   | false =>
     rw [hBB] at hB hx
     have hl : ¬ at' + n = b.length := by simpa using hB.symm
     have q : (((at' + n : Nat) : Int) == (b.length : Int)) = false := beq_eq_false_iff_ne.2 (by omega)
     have hns : n = size := by omega
     have e7 : (i : Int) + 1 = ((i + 1 : Nat) : Int) := by omega
     have hfin : dn ++ b3 x ++ (b.drop at').take n ++ jP size f (b.drop (at' + n)) = hd ++ jP size (b.length + 1) b := by
      rw [<- hdn, jP, if_neg (by omega), Qr, hx, hns]
      simp
     rw [e0]
     simp (disch := omega) only [dQ, fE, cQ, stepR_skip, eE, eS, eI, eP, eX, fB, fF, eN, dL, eL, eQ, eZ, eC, eF, eJ, eH, eD, fA, eU, eB, dR, eM, eY, eA, fY, gC, gB, fZ, fV, fX, gA, fW, gD, dH, Result.ok.injEq, Next.value.injEq, true_and, and_true, dZ, dY, eT, fC, eK, fG, PJ, dS, dT, dU, dV, dN, dK, dP, dM, dI, cY, if_true, if_false, PG, PM, PH, PI, PL, PK, PF, PE, cR, cO, cH, bY, cV, dJ, bW, bX, cS, cK, cL, dE, cP, dD, dC, dW, cZ, cF, bH, bR, aT, aC, aL, dF, aI, cD, dB, dA, bN, aH, bC, aZ, cM, aD, aX, aM, aV, cU, aW, cJ, bS, aF, aG, aK, dO, aP, aO, bD, aR, cB, aE, bZ, bT, bG, bB, aY, cX, aJ, bM, aU, aQ, aS, aA, dG, cN, bO, aN, cW, bU, bV, cI, bQ, bP, bL, cA, bJ, cC, bA, bK, bF, bE, cG, e1, q]
     unfold mN
     simp (disch := omega) only [dQ, fE, cQ, stepR_skip, eE, eS, eI, eP, eX, fB, fF, eN, dL, eL, eQ, eZ, eC, eF, eJ, eH, eD, fA, eU, eB, dR, eM, eY, eA, fY, gC, gB, fZ, fV, fX, gA, fW, gD, dH, Result.ok.injEq, Next.value.injEq, true_and, and_true, dZ, dY, eT, fC, eK, fG, PJ, dS, dT, dU, dV, dN, dK, dP, dM, dI, cY, if_true, if_false, PG, PM, PH, PI, PL, PK, PF, PE, cR, cO, cH, bY, cV, dJ, bW, bX, cS, cK, cL, dE, cP, dD, dC, dW, cZ, cF, bH, bR, aT, aC, aL, dF, aI, cD, dB, dA, bN, aH, bC, aZ, cM, aD, aX, aM, aV, cU, aW, cJ, bS, aF, aG, aK, dO, aP, aO, bD, aR, cB, aE, bZ, bT, bG, bB, aY, cX, aJ, bM, aU, aQ, aS, aA, dG, cN, bO, aN, cW, bU, bV, cI, bQ, bP, bL, cA, bJ, cC, bA, bK, bF, bE, cG, e7]
     refine ⟨f, by omega, f, at' + n, i + 1, v4, _, rfl, rfl, by omega, by omega, hn1, by omega, hfin, ?_, o4, x04⟩
     rw [PN, PN, hml, show (b3 x).length = 3 from rfl]
     omega
  unfold rV xC
  have e1 : (8 : Int) * (n : Int) = ((8 * n : Nat) : Int) := by omega
  have e2 : (at' : Int) + (n : Int) = ((at' + n : Nat) : Int) := by omega
  have e3 : ((8 * n : Nat) : Int) + 1 = ((8 * n + 1 : Nat) : Int) := by omega
  by_cases hl : at' + n = b.length
  .have q : (((at' + n : Nat) : Int) == (b.length : Int)) = true := by rw [hl]; simp
   have := last true (by simp [hl])
   rw [e0] at this ⊢
   simp (disch := omega) only [dQ, fE, cQ, stepR_skip, eE, eS, eI, eP, eX, fB, fF, eN, dL, eL, eQ, eZ, eC, eF, eJ, eH, eD, fA, eU, eB, dR, eM, eY, eA, fY, gC, gB, fZ, fV, fX, gA, fW, gD, dH, Result.ok.injEq, Next.value.injEq, true_and, and_true, dZ, dY, eT, fC, eK, fG, PJ, dS, dT, dU, dV, dN, dK, dP, dM, dI, cY, if_true, if_false, PG, PM, PH, PI, PL, PK, PF, PE, cR, cO, cH, bY, cV, dJ, bW, bX, cS, cK, cL, dE, cP, dD, dC, dW, cZ, cF, bH, bR, aT, aC, aL, dF, aI, cD, dB, dA, bN, aH, bC, aZ, cM, aD, aX, aM, aV, cU, aW, cJ, bS, aF, aG, aK, dO, aP, aO, bD, aR, cB, aE, bZ, bT, bG, bB, aY, cX, aJ, bM, aU, aQ, aS, aA, dG, cN, bO, aN, cW, bU, bV, cI, bQ, bP, bL, cA, bJ, cC, bA, bK, bF, bE, cG, e1, e2, e3, q]
   exact this
  .have q : (((at' + n : Nat) : Int) == (b.length : Int)) = false := beq_eq_false_iff_ne.2 (by omega)
   have := last false (by simp [hl])
   rw [e0] at this ⊢
   simp (disch := omega) only [dQ, fE, cQ, stepR_skip, eE, eS, eI, eP, eX, fB, fF, eN, dL, eL, eQ, eZ, eC, eF, eJ, eH, eD, fA, eU, eB, dR, eM, eY, eA, fY, gC, gB, fZ, fV, fX, gA, fW, gD, dH, Result.ok.injEq, Next.value.injEq, true_and, and_true, dZ, dY, eT, fC, eK, fG, PJ, dS, dT, dU, dV, dN, dK, dP, dM, dI, cY, if_true, if_false, PG, PM, PH, PI, PL, PK, PF, PE, cR, cO, cH, bY, cV, dJ, bW, bX, cS, cK, cL, dE, cP, dD, dC, dW, cZ, cF, bH, bR, aT, aC, aL, dF, aI, cD, dB, dA, bN, aH, bC, aZ, cM, aD, aX, aM, aV, cU, aW, cJ, bS, aF, aG, aK, dO, aP, aO, bD, aR, cB, aE, bZ, bT, bG, bB, aY, cX, aJ, bM, aU, aQ, aS, aA, dG, cN, bO, aN, cW, bU, bV, cI, bQ, bP, bL, cA, bJ, cC, bA, bK, bF, bE, cG, e1, e2, e3, q]
   exact this
 rw [e0]
 simp (disch := omega) only [dQ, fE, cQ, stepR_skip, eE, eS, eI, eP, eX, fB, fF, eN, dL, eL, eQ, eZ, eC, eF, eJ, eH, eD, fA, eU, eB, dR, eM, eY, eA, fY, gC, gB, fZ, fV, fX, gA, fW, gD, dH, Result.ok.injEq, Next.value.injEq, true_and, and_true, dZ, dY, eT, fC, eK, fG, PJ, dS, dT, dU, dV, dN, dK, dP, dM, dI, cY, if_true, if_false, PG, PM, PH, PI, PL, PK, PF, PE, cR, cO, cH, bY, cV, dJ, bW, bX, cS, cK, cL, dE, cP, dD, dC, dW, cZ, cF, bH, bR, aT, aC, aL, dF, aI, cD, dB, dA, bN, aH, bC, aZ, cM, aD, aX, aM, aV, cU, aW, cJ, bS, aF, aG, aK, dO, aP, aO, bD, aR, cB, aE, bZ, bT, bG, bB, aY, cX, aJ, bM, aU, aQ, aS, aA, dG, cN, bO, aN, cW, bU, bV, cI, bQ, bP, bL, cA, bJ, cC, bA, bK, bF, bE, cG, d1]
 unfold vF vP Cx yG
 have e5 : (b.length : Int) - (at' : Int) = ((b.length - at' : Nat) : Int) := by omega
 by_cases hsz : b.length - at' < size
 .have d2 : decide ((size : Int) > ((b.length - at' : Nat) : Int)) = true := decide_eq_true (by omega)
  have d3 : decide (((b.length - at' : Nat) : Int) < (size : Int)) = true := decide_eq_true (by omega)
  have := main (b.length - at') (by omega)
  rw [e0] at this
  simp (disch := omega) only [dQ, fE, cQ, stepR_skip, eE, eS, eI, eP, eX, fB, fF, eN, dL, eL, eQ, eZ, eC, eF, eJ, eH, eD, fA, eU, eB, dR, eM, eY, eA, fY, gC, gB, fZ, fV, fX, gA, fW, gD, dH, Result.ok.injEq, Next.value.injEq, true_and, and_true, dZ, dY, eT, fC, eK, fG, PJ, dS, dT, dU, dV, dN, dK, dP, dM, dI, cY, if_true, if_false, PG, PM, PH, PI, PL, PK, PF, PE, cR, cO, cH, bY, cV, dJ, bW, bX, cS, cK, cL, dE, cP, dD, dC, dW, cZ, cF, bH, bR, aT, aC, aL, dF, aI, cD, dB, dA, bN, aH, bC, aZ, cM, aD, aX, aM, aV, cU, aW, cJ, bS, aF, aG, aK, dO, aP, aO, bD, aR, cB, aE, bZ, bT, bG, bB, aY, cX, aJ, bM, aU, aQ, aS, aA, dG, cN, bO, aN, cW, bU, bV, cI, bQ, bP, bL, cA, bJ, cC, bA, bK, bF, bE, cG, e5, d2, d3]
  exact this
 .have d2 : decide ((size : Int) > ((b.length - at' : Nat) : Int)) = false := decide_eq_false (by omega)
  have d3 : decide (((b.length - at' : Nat) : Int) < (size : Int)) = false := decide_eq_false (by omega)
  have := main size (by omega)
  rw [e0] at this
  simp (disch := omega) only [dQ, fE, cQ, stepR_skip, eE, eS, eI, eP, eX, fB, fF, eN, dL, eL, eQ, eZ, eC, eF, eJ, eH, eD, fA, eU, eB, dR, eM, eY, eA, fY, gC, gB, fZ, fV, fX, gA, fW, gD, dH, Result.ok.injEq, Next.value.injEq, true_and, and_true, dZ, dY, eT, fC, eK, fG, PJ, dS, dT, dU, dV, dN, dK, dP, dM, dI, cY, if_true, if_false, PG, PM, PH, PI, PL, PK, PF, PE, cR, cO, cH, bY, cV, dJ, bW, bX, cS, cK, cL, dE, cP, dD, dC, dW, cZ, cF, bH, bR, aT, aC, aL, dF, aI, cD, dB, dA, bN, aH, bC, aZ, cM, aD, aX, aM, aV, cU, aW, cJ, bS, aF, aG, aK, dO, aP, aO, bD, aR, cB, aE, bZ, bT, bG, bB, aY, cX, aJ, bM, aU, aQ, aS, aA, dG, cN, bO, aN, cW, bU, bV, cI, bQ, bP, bL, cA, bJ, cC, bA, bK, bF, bE, cG, e5, d2, d3]
  exact this
theorem Hr (size : Nat) (hs : 1 <= size) : ∀ (f : Nat) (r : List UInt8), (jP size f r).length <= 3 * f + r.length
 | 0, _ => by simp [jP]
 | f + 1, r => by
   rw [jP]
   split
   .rw [PN, show (b3 (8 * r.length + 1)).length = 3 from rfl]; omega
   .have := Hr size hs f (r.drop size)
    rw [PU] at this
    rw [PN, PN, PR, show (b3 (8 * size)).length = 3 from rfl]
    omega
theorem IK (size : Nat) (hs : 1 <= size) : ∀ (f : Nat) (r : List UInt8), r.length < f -> r.length <= (jP size f r).length
 | 0, _, h => absurd h (by omega)
 | f + 1, r, h => by
   rw [jP]
   split
   .rw [PN]; omega
   .have := IK size hs f (r.drop size) (by rw [PU]; omega)
    rw [PU] at this
    rw [PN, PN, PR]
    omega
theorem JH (n : Nat) (s : Bool) : (sO n s).length <= 7 := by
 unfold sO
 split
 .rw [PN, PN, fO, fO]; simp
 .rw [PN, PN, fO, fO]; simp
theorem MO {v0 : Q7} {b : List UInt8} {size : Nat} {s : Bool} {w : Q6} (h0 : Bs w v0 b) (hb : b.length <= 2000) (hs : 1 <= size /\ size <= 256) :
 fK pg tU #[v0, .int .i64 (size : Nat), .bool s] w (fun r w' => uR w' (fun y => w.heap.size <= y) 1 r (HO b size s).length ((HO b size s).map lU) /\ fU w w' kY) := by
 refine Fg ?_
 obtain ⟨RR, hRR⟩ : ∃ RR : Q7 -> Q6 -> Prop, RR = fun r w' => uR w' (fun y => w.heap.size <= y) 1 r (HO b size s).length ((HO b size s).map lU) /\ fU w w' kY := ⟨_, rfl⟩
 rw [<- hRR]
 unfold F7 vE vC
 obtain ⟨a0, c0, e0, hcap⟩ := h0.len
 rw [PQ] at e0
 have wl : IntKind.u64.wrap (b.length : Int) = b.length := dY (by omega) (by omega)
 obtain ⟨K, hK⟩ : ∃ K : Q6 -> Prop, K = fun w => fK pg qC #[.int .u64 (b.length : Nat), .bool s] w fun t17 w => dQ pg (iO 9 22 t17) w fun t18 w => nF RR v0 (.int .i64 (size : Nat)) (.bool s) t18 (.int .i64 0) w := ⟨_, rfl⟩
 have main : K w := by
  rw [hK]
  refine (J1 (by omega)).mono ?_
  rintro r w1 ⟨rfl, x1⟩
  refine DR fun w2 c hsl x2 s2 ho => ?_
  obtain ⟨r, o2, hc⟩ := ho
  have z1 := x1.size
  have hl : (⟨(sO b.length s).toArray⟩ : ByteArray).size = (sO b.length s).length := by simp [ByteArray.size]
  have hd : (⟨(sO b.length s).toArray⟩ : ByteArray).data.toList = sO b.length s := by simp
  rw [hd] at o2 hsl
  rw [hl] at hc ⊢
  have x02 := x1.seq x2
  have hS : uR w2 (fun y => w.heap.size <= y) 1 (.slice (some ⟨w1.heap.size, 0, none⟩) (sO b.length s).length c) (sO b.length s).length ((sO b.length s).map lU) :=
   ⟨by simp, .inr ⟨w1.heap.size, c, List.replicate r (.int .u8 0), rfl, z1, o2, by simp; omega, by omega⟩⟩
  have hlen := Hr size hs.1 (b.length + 1) b
  have hhd := JH b.length s
  have z2 := x2.size
  have keep : ∀ w', fU w2 w' (fun y => w.heap.size <= y) -> Bs w' v0 b := fun w' x => h0.ext (x02.trans x fun y hy h => by omega) (lC _)
  refine JS (base := w.heap.size) (hd := sO b.length s) (keep w2 (fU.refl _ _)) hb hs hS (by omega) (by omega) keep fun w3 v3 o3 x3 => ?_
  have z3 := x3.size
  refine No (base := w.heap.size) (keep w3 x3) hb o3 (by omega) (by rw [PN]; omega) fun w4 v4 o4 x4 => ?_
  rw [hRR]
  exact ⟨o4, x02.trans (x3.seq x4) fun y hy h => by omega⟩
 rw [hK] at main
 rw [e0] at main ⊢
 simp (disch := omega) only [dQ, fE, cQ, stepR_skip, eE, eS, eI, eP, eX, fB, fF, eN, dL, eL, eQ, eZ, eC, eF, eJ, eH, eD, fA, eU, eB, dR, eM, eY, eA, fY, gC, gB, fZ, fV, fX, gA, fW, gD, dH, Result.ok.injEq, Next.value.injEq, true_and, and_true, dZ, dY, eT, fC, eK, fG, PJ, dS, dT, dU, dV, dN, dK, dP, dM, dI, cY, if_true, if_false, PG, PM, PH, PI, PL, PK, PF, PE, cR, cO, cH, bY, cV, dJ, bW, bX, cS, cK, cL, dE, cP, dD, dC, dW, cZ, cF, bH, bR, aT, aC, aL, dF, aI, cD, dB, dA, bN, aH, bC, aZ, cM, aD, aX, aM, aV, cU, aW, cJ, bS, aF, aG, aK, dO, aP, aO, bD, aR, cB, aE, bZ, bT, bG, bB, aY, cX, aJ, bM, aU, aQ, aS, aA, dG, cN, bO, aN, cW, bU, bV, cI, bQ, bP, bL, cA, bJ, cC, bA, bK, bF, bE, cG, wl]
 exact main
theorem O5 (l r : List UInt8) : sT (l ++ r) 0 l.length = (l, r, 0) := by
 unfold sT
 rw [if_neg (by simp), if_neg (by rw [PN]; omega), List.take_left, List.drop_left]
theorem LR {l r : List UInt8} {n : Nat} (h : l.length = n) : GU (l ++ r, 0) n = (r, 0) /\ JF (l ++ r, 0) n = jH l := by
 subst h
 unfold GU JF
 rw [O5]
 exact ⟨rfl, rfl⟩
theorem Hk {n win room : Nat} {b : Bool} {m r all : List UInt8} (hm : m.length = n) (hn : n <= win) (hn2 : n <= 131072) (hr : all.length + n <= room) : EG (b3 (8 * n + (if b then 1 else 0)) ++ (m ++ r)) all win room = some (.ok (all ++ m, r, b)) := by
 obtain ⟨x, hx⟩ : ∃ x, x = 8 * n + (if b then 1 else 0) := ⟨_, rfl⟩
 have hx2 : x < 2 ^ 24 := by rw [hx]; split <;> omega
 rw [<- hx]
 unfold EG
 have hl : (b3 x ++ (m ++ r)).length = 3 + n + r.length := by simp [b3, hm]; omega
 have hb := NF (r := m ++ r) hx2
 have hk : vY (b3 x ++ (m ++ r)) = 0 := by unfold vY; rw [hb, hx]; split <;> omega
 have hs : xP (b3 x ++ (m ++ r)) = n := by unfold xP; rw [hb, hx]; split <;> omega
 have hd : Ct (b3 x ++ (m ++ r)) = n := by unfold Ct; rw [hk, hs] <;> rfl
 have hdr : (b3 x ++ (m ++ r)).drop 3 = m ++ r := rfl
 have hmm : Jc (b3 x ++ (m ++ r)) = m := by unfold Jc; rw [hk, hs, hdr, if_neg (by omega), <- hm, List.take_left]
 have hq : (bx (b3 x ++ (m ++ r)) % 2 == 1) = b := by
  rw [hb, hx]
  cases b
  .have : (8 * n + (if false = true then 1 else 0)) % 2 = 0 := by simp; omega
   rw [this] <;> rfl
  .have : (8 * n + (if true = true then 1 else 0)) % 2 = 1 := by simp; omega
   rw [this] <;> rfl
 rw [hl, hk, hs, hd, hmm, hq, hm, if_neg (by omega), if_neg (by omega), if_neg (by omega), if_neg (by omega), if_neg (by omega), if_neg (by omega), <- Qr, hdr, <- hm, List.drop_left]
theorem FP {n c win room : Nat} {b : Bool} {m all : List UInt8} (hm : m.length = n) (hn : n <= win) (hn2 : n <= 131072) (hc : c < 3 + n) : EG ((b3 (8 * n + (if b then 1 else 0)) ++ m).take c) all win room = some (.error 10) := by
 obtain ⟨x, hx⟩ : ∃ x, x = 8 * n + (if b then 1 else 0) := ⟨_, rfl⟩
 have hx2 : x < 2 ^ 24 := by rw [hx]; split <;> omega
 rw [<- hx]
 unfold EG
 have hl : ((b3 x ++ m).take c).length = c := by rw [PR, PN, hm, show (b3 x).length = 3 from rfl]; omega
 rw [hl]
 by_cases h3 : c < 3
 .rw [if_pos h3]
 rw [if_neg h3]
 have hb : bx ((b3 x ++ m).take c) = x := by
  have := NF (r := m) hx2
  unfold bx at this ⊢
  rw [List.take_take, Qp (by omega)]
  exact this
 have hk : vY ((b3 x ++ m).take c) = 0 := by unfold vY; rw [hb, hx]; split <;> omega
 have hs : xP ((b3 x ++ m).take c) = n := by unfold xP; rw [hb, hx]; split <;> omega
 have hd : Ct ((b3 x ++ m).take c) = n := by unfold Ct; rw [hk, hs] <;> rfl
 rw [hk, hs, hd, if_neg (by omega), if_neg (by omega), if_neg (by omega), if_pos (by omega)]
theorem Ho {h : FH} {room size : Nat} (hs : 1 <= size /\ size <= 256) : ∀ (f : Nat) (r T all : List UInt8) (g : Nat), f <= g -> r.length < f -> r.length <= h.window -> r.length <= 2000 -> all.length + r.length <= room -> (h.known = true -> all.length + r.length <= h.size) -> yH h room g (jP size f r ++ T) all = some (.ok (all ++ r, T))
 | 0, _, _, _, _, _, hf, _, _, _, _ => absurd hf (by omega)
 | f + 1, r, T, all, g, hg, hf, hw, h2, hr, hk => by
   obtain ⟨g, rfl⟩ : ∃ q, g = q + 1 := ⟨g - 1, by omega⟩
   rw [jP, yH]
   by_cases hl : r.length <= size
   .have e : b3 (8 * r.length + 1) ++ r ++ T = b3 (8 * r.length + (if true then 1 else 0)) ++ (r ++ T) := by rw [P1] <;> rfl
    rw [if_pos hl, e, Hk rfl hw (by omega) hr]
    have : ¬ (h.known = true /\ h.size < (all ++ r).length) := by
     rintro ⟨h1, h2⟩
     have := hk h1
     rw [PN] at h2
     omega
    simp only [if_neg this]
    rfl
   .have htl : (r.take size).length = size := by rw [PR]; omega
    have e : b3 (8 * size) ++ r.take size ++ jP size f (r.drop size) ++ T = b3 (8 * size + (if false then 1 else 0)) ++ (r.take size ++ (jP size f (r.drop size) ++ T)) := by rw [P1, P1] <;> rfl
    rw [if_neg hl, e, Hk htl (by omega) (by omega) (by omega)]
    have : ¬ (h.known = true /\ h.size < (all ++ r.take size).length) := by
     rintro ⟨h1, h2⟩
     have := hk h1
     rw [PN, htl] at h2
     omega
    simp only [if_neg this, PG, if_false]
    have hdl : (r.drop size).length = r.length - size := PU
    rw [Ho hs f (r.drop size) T (all ++ r.take size) g (by omega) (by omega) (by omega) (by omega) (by rw [PN, htl]; omega) (fun h1 => by have := hk h1; rw [PN, htl]; omega), P1, List.take_append_drop]
theorem F3 {h : FH} {room size : Nat} (hs : 1 <= size /\ size <= 256) : ∀ (f : Nat) (r all : List UInt8) (g c : Nat), c < g -> r.length < f -> r.length <= h.window -> r.length <= 2000 -> all.length + r.length <= room -> (h.known = true -> all.length + r.length <= h.size) -> c < (jP size f r).length -> yH h room g ((jP size f r).take c) all = some (.error 10)
 | 0, _, _, _, _, _, hf, _, _, _, _, _ => absurd hf (by omega)
 | f + 1, r, all, g, c, hg, hf, hw, h2, hr, hk, hc => by
   obtain ⟨g, rfl⟩ : ∃ q, g = q + 1 := ⟨g - 1, by omega⟩
   rw [jP] at hc ⊢
   rw [yH]
   by_cases hl : r.length <= size
   .rw [if_pos hl] at hc ⊢
    rw [PN, show (b3 (8 * r.length + 1)).length = 3 from rfl] at hc
    have e : b3 (8 * r.length + 1) ++ r = b3 (8 * r.length + (if true then 1 else 0)) ++ r := rfl
    rw [e, FP rfl hw (by omega) hc]
   .rw [if_neg hl] at hc ⊢
    have htl : (r.take size).length = size := by rw [PR]; omega
    have hbl : (b3 (8 * size) ++ r.take size).length = 3 + size := by rw [PN, htl] <;> rfl
    rw [PN, hbl] at hc
    by_cases hc2 : c < 3 + size
    .have e : (b3 (8 * size) ++ r.take size ++ jP size f (r.drop size)).take c = (b3 (8 * size + (if false then 1 else 0)) ++ r.take size).take c := by rw [Qc (by rw [hbl]; omega)] <;> rfl
     rw [e, FP htl (by omega) (by omega) hc2]
    .have e : (b3 (8 * size) ++ r.take size ++ jP size f (r.drop size)).take c = b3 (8 * size + (if false then 1 else 0)) ++ (r.take size ++ (jP size f (r.drop size)).take (c - (3 + size))) := by
      rw [Q1, hbl, PX (by rw [hbl]; omega), P1] <;> rfl
     rw [e, Hk htl (by omega) (by omega) (by omega)]
     have : ¬ (h.known = true /\ h.size < (all ++ r.take size).length) := by
      rintro ⟨h1, h2⟩
      have := hk h1
      rw [PN, htl] at h2
      omega
     simp only [if_neg this, PG, if_false]
     have hdl : (r.drop size).length = r.length - size := PU
     exact F3 hs f (r.drop size) (all ++ r.take size) g (c - (3 + size)) (by omega) (by omega) (by omega) (by omega) (by rw [PN, htl]; omega) (fun h1 => by have := hk h1; rw [PN, htl]; omega) (by omega)
def Dz (n : Nat) (s : Bool) : Nat := 32 + (if s then 4 else 0) + (if n < 256 then 0 else 64)
def wQ (n : Nat) : List UInt8 := if n < 256 then iN n 1 else iN (n - 256) 2
theorem BE (n : Nat) (s : Bool) : sO n s = [40, 181, 47, 253] ++ (iN (Dz n s) 1 ++ wQ n) := by
 unfold sO Dz wQ
 split <;> rw [P1] <;> rfl
theorem NK {n : Nat} (s : Bool) (hn : n < 65792) : Dz n s < 256 /\ CY (Dz n s) = true /\ Kc (Dz n s) = 0 /\ D8 (Dz n s) = (if n < 256 then 1 else 2) /\ (Dz n s / 8 % 2 = 0) /\ (Dz n s / 4 % 2 == 1) = s /\ (wQ n).length = (if n < 256 then 1 else 2) /\ Lv (Dz n s) (jH (wQ n)) = n := by
 unfold Dz wQ
 by_cases h : n < 256
 .simp only [if_pos h]
  have e : jH (iN n 1) = n := by rw [tD]; exact Qa (by omega)
  rw [e]
  cases s <;> refine ⟨by decide, by decide, by decide, by decide, by decide, by decide, fO _ _, ?_⟩ <;> · unfold Lv; rw [if_neg (by decide)]
 .simp only [if_neg h]
  have e : jH (iN (n - 256) 2) = n - 256 := by rw [tD]; exact Qa (by omega)
  rw [e]
  cases s <;> refine ⟨by decide, by decide, by decide, by decide, by decide, by decide, fO _ _, ?_⟩ <;> · unfold Lv; rw [if_pos (by decide)]; omega
theorem Jg {n : Nat} {s : Bool} (hn : n < 65792) (r : List UInt8) : yZ (iN (Dz n s) 1 ++ (wQ n ++ r)) = .ok (⟨n, n, true, s⟩, 1 + (wQ n).length) := by
 obtain ⟨f1, f2, f3, f4, f5, f6, f7, f8⟩ := NK s hn
 have h1 := LR (l := iN (Dz n s) 1) (r := wQ n ++ r) (n := 1) (fO _ _)
 have h2 := LR (l := wQ n) (r := r) (n := (wQ n).length) rfl
 have e1 : jH (iN (Dz n s) 1) = Dz n s := by rw [tD]; exact Qa (by omega)
 unfold yZ
 rw [h1.1, h1.2, e1, if_neg (by simp), if_neg (by omega)]
 unfold FT NB
 rw [f2, f3, f4, <- f7]
 have hp : 0 < (wQ n).length := by rw [f7]; split <;> omega
 have o1 : IB (wQ n ++ r, 0) 0 = (wQ n ++ r, 0) := rfl
 have o2 : He (wQ n ++ r, 0) 0 = 0 := rfl
 have o3 : IB (wQ n ++ r, 0) (wQ n).length = (r, 0) := by unfold IB; rw [if_pos hp]; exact h2.1
 have o4 : He (wQ n ++ r, 0) (wQ n).length = jH (wQ n) := by unfold He; rw [if_pos hp]; exact h2.2
 simp only [if_true, o1, o2, o3, o4, f8, f6]
 unfold Ft
 rw [if_neg (by simp), if_neg (by simp), decide_eq_true hp]
 have e9 : (iN (Dz n s) 1 ++ (wQ n ++ r)).length - r.length = 1 + (wQ n).length := by
  rw [PN, PN, fO]
  omega
 rw [e9]
theorem MW {b T : List UInt8} {size win room : Nat} {s : Bool} (hb : b.length <= 2000) (hs : 1 <= size /\ size <= 256) (hw : b.length <= win) : GJ ((sO b.length s).drop 4 ++ (jP size (b.length + 1) b ++ T)) win room = if room < b.length then some (.error 12) else some (xN ⟨b.length, b.length, true, s⟩ T b) := by
 have e0 : (sO b.length s).drop 4 ++ (jP size (b.length + 1) b ++ T) = iN (Dz b.length s) 1 ++ (wQ b.length ++ (jP size (b.length + 1) b ++ T)) := by
  rw [BE]
  show (iN (Dz b.length s) 1 ++ wQ b.length) ++ _ = _
  rw [P1]
 rw [e0]
 unfold GJ
 rw [Jg (by omega)]
 by_cases hr : room < b.length
 .have : win < b.length ∨ (true = true /\ room < b.length) := .inr ⟨rfl, hr⟩
  rw [if_pos hr]
  show (if win < b.length ∨ (true = true /\ room < b.length) then _ else _) = _
  rw [if_pos this]
 .have : ¬ (win < b.length ∨ (true = true /\ room < b.length)) := by rintro (h | h) <;> omega
  rw [if_neg hr]
  show (if win < b.length ∨ (true = true /\ room < b.length) then _ else _) = _
  rw [if_neg this]
  have hd : (iN (Dz b.length s) 1 ++ (wQ b.length ++ (jP size (b.length + 1) b ++ T))).drop (1 + (wQ b.length).length) = jP size (b.length + 1) b ++ T := by
   rw [<- P1, List.drop_left' (by rw [PN, fO])]
  rw [hd, Ho hs (b.length + 1) b T [] _ (by
    simp only [PN]
    have : b.length <= (jP size (b.length + 1) b).length := IK size hs.1 (b.length + 1) b (by omega)
    omega) (by omega) (PY _) hb (by simp; omega) (fun _ => by simp)]
  rfl
theorem MA : jH [40, 181, 47, 253] = 4247762216 := by decide
theorem IS {b T out : List UInt8} {size win most f fr sk : Nat} {s : Bool} (hb : b.length <= 2000) (hs : 1 <= size /\ size <= 256) (hw : b.length <= win) (ho : out.length <= most) :
 ES win most (f + 1) (sO b.length s ++ (jP size (b.length + 1) b ++ T)) out fr sk = if most < out.length + b.length then some (.error 12) else match xN ⟨b.length, b.length, true, s⟩ T b with | .error e => some (.error e) | .ok (a, l') => ES win most f l' (out ++ a) (fr + 1) sk := by
 have h4 : (sO b.length s ++ (jP size (b.length + 1) b ++ T)).take 4 = [40, 181, 47, 253] := by rw [BE] <;> rfl
 have hd : (sO b.length s ++ (jP size (b.length + 1) b ++ T)).drop 4 = (sO b.length s).drop 4 ++ (jP size (b.length + 1) b ++ T) := by rw [BE] <;> rfl
 have hl : 4 <= (sO b.length s ++ (jP size (b.length + 1) b ++ T)).length := by rw [BE]; simp
 rw [ES, if_neg (by omega), if_neg (by omega), h4, MA, if_pos rfl, hd, MW hb hs hw]
 by_cases h : most < out.length + b.length
 .rw [if_pos h, if_pos (by omega)]
 .rw [if_neg h, if_neg (by omega)]
  cases xN ⟨b.length, b.length, true, s⟩ T b <;> rfl
theorem G3 {b T : List UInt8} {s : Bool} : xN ⟨b.length, b.length, true, s⟩ T b = if s then (match Fa T b with | .error e => .error e | .ok l' => .ok (b, l')) else .ok (b, T) := by
 unfold xN
 rw [if_neg (by simp)]
 all_goals (cases s <;> rfl)
theorem Nn {b r : List UInt8} : Fa (iN (XN b) 4 ++ r) b = .ok r := by
 unfold Fa
 have hl : (iN (XN b) 4).length = 4 := fO _ _
 have e1 : (iN (XN b) 4 ++ r).take 4 = iN (XN b) 4 := by rw [Qc (by omega), PX (by omega)]
 have e2 : (iN (XN b) 4 ++ r).drop 4 = r := List.drop_left' hl
 have e3 : jH (iN (XN b) 4) = XN b % 2 ^ 32 := tD 4 (XN b)
 rw [e1, e2, e3, if_neg (by rw [PN, hl]; omega), if_neg (by simp)]
theorem Oo (b r : List UInt8) (size : Nat) (s : Bool) : HO b size s ++ r = sO b.length s ++ (jP size (b.length + 1) b ++ ((if s then iN (XN b) 4 else []) ++ r)) := by
 unfold HO
 simp only [P1]
theorem M0 {b r out : List UInt8} {size win most f fr sk : Nat} {s : Bool} (hb : b.length <= 2000) (hs : 1 <= size /\ size <= 256) (hw : b.length <= win) (ho : out.length <= most) : ES win most (f + 1) (HO b size s ++ r) out fr sk = if most < out.length + b.length then some (.error 12) else ES win most f r (out ++ b) (fr + 1) sk := by
 rw [Oo, IS hb hs hw ho, G3]
 cases s with
 | false => rfl
 | true =>
   simp only [if_true]
   rw [Nn]
theorem Ov {b : List UInt8} {size most : Nat} {s : Bool} (hb : b.length <= 2000) (hs : 1 <= size /\ size <= 256) : MN (HO b size s) 20 most = if most < b.length then some (.error 12) else some (.ok (b, 1, 0)) := by
 unfold MN
 have h20 : b.length <= 2 ^ 20 := by
  have : (2 : Nat) ^ 20 = 1048576 := by decide
  omega
 have := M0 (r := []) (out := []) (f := (HO b size s).length) (win := 2 ^ 20) (most := most) (fr := 0) (sk := 0) (s := s) hb hs h20 (Nat.zero_le _)
 rw [QF] at this
 rw [this]
 by_cases h : most < b.length
 .rw [if_pos h, if_pos (by simpa using h)]
 .rw [if_neg h, if_neg (by simpa using h)]
  have hl : 0 < (HO b size s).length := by unfold HO; rw [BE]; simp
  obtain ⟨q, hq⟩ : ∃ q, (HO b size s).length = q + 1 := ⟨(HO b size s).length - 1, by omega⟩
  rw [hq, ES]
  simp
theorem M9 {b T : List UInt8} {size most : Nat} (hb : b.length <= 2000) (hs : 1 <= size /\ size <= 256) (hm : b.length <= most) (hT : T.length = 4) (hT2 : jH T ≠ XN b % 2 ^ 32) : MN (sO b.length true ++ (jP size (b.length + 1) b ++ T)) 20 most = some (.error 13) := by
 unfold MN
 have h20 : b.length <= 2 ^ 20 := by
  have : (2 : Nat) ^ 20 = 1048576 := by decide
  omega
 rw [IS hb hs h20 (Nat.zero_le _), if_neg (by simp; omega), G3]
 simp only [if_true]
 have : Fa T b = .error 13 := by
  unfold Fa
  rw [if_neg (by omega), PX (by omega), if_pos hT2]
 rw [this]
theorem KN {n c : Nat} {s : Bool} (hn : n < 65792) (hc : c < 1 + (wQ n).length) : ∃ e, yZ ((iN (Dz n s) 1 ++ wQ n).take c) = .error e := by
 obtain ⟨f1, f2, f3, f4, f5, f6, f7, f8⟩ := NK s hn
 cases c with
 | zero =>
   refine ⟨10, ?_⟩
   rw [P6]
   rfl
 | succ c =>
   have e1 : (iN (Dz n s) 1 ++ wQ n).take (c + 1) = iN (Dz n s) 1 ++ (wQ n).take c := by
    rw [Q1, fO, PX (by rw [fO]; omega)] <;> rfl
   have h1 := LR (l := iN (Dz n s) 1) (r := (wQ n).take c) (n := 1) (fO _ _)
   have e2 : jH (iN (Dz n s) 1) = Dz n s := by rw [tD]; exact Qa (by omega)
   have h2 : GU ((wQ n).take c, 0) (wQ n).length = ((wQ n).take c, 10) := by
    unfold GU sT
    rw [if_neg (by simp), if_pos (by rw [PR]; omega)]
   have hp : 0 < (wQ n).length := by rw [f7]; split <;> omega
   rw [e1]
   unfold yZ
   rw [h1.1, h1.2, e2, if_neg (by simp), if_neg (by omega)]
   unfold FT NB
   rw [f2, f3, f4, <- f7]
   have o1 : IB ((wQ n).take c, 0) 0 = ((wQ n).take c, 0) := rfl
   have o3 : IB ((wQ n).take c, 0) (wQ n).length = ((wQ n).take c, 10) := by unfold IB; rw [if_pos hp]; exact h2
   simp only [if_true, o1, o3]
   unfold Ft
   exact ⟨10, by rw [if_pos (by simp)]⟩
def KU (b : List UInt8) (s : Bool) : List UInt8 := if s then iN (XN b) 4 else []
theorem MC {b : List UInt8} {size win room c : Nat} {s : Bool} (hb : b.length <= 2000) (hs : 1 <= size /\ size <= 256) (hw : b.length <= win) (hr : b.length <= room) (hc : c < (iN (Dz b.length s) 1 ++ wQ b.length ++ (jP size (b.length + 1) b ++ KU b s)).length) :
 ∃ e, GJ ((iN (Dz b.length s) 1 ++ wQ b.length ++ (jP size (b.length + 1) b ++ KU b s)).take c) win room = some (.error e) := by
 obtain ⟨H, hH⟩ : ∃ H, H = iN (Dz b.length s) 1 ++ wQ b.length := ⟨_, rfl⟩
 have hHl : H.length = 1 + (wQ b.length).length := by rw [hH, PN, fO]
 rw [<- hH] at hc ⊢
 rw [PN, PN] at hc
 by_cases h1 : c < H.length
 .obtain ⟨e, he⟩ := KN (s := s) (n := b.length) (c := c) (by omega) (by omega)
  rw [<- hH] at he
  refine ⟨e, ?_⟩
  unfold GJ
  rw [Qc (by omega), he]
 .have e1 : (H ++ (jP size (b.length + 1) b ++ KU b s)).take c = iN (Dz b.length s) 1 ++ (wQ b.length ++ (jP size (b.length + 1) b ++ KU b s).take (c - H.length)) := by
   rw [Q1, PX (by omega), hH, P1]
  rw [e1]
  unfold GJ
  rw [Jg (by omega)]
  have hbig : ¬ (win < b.length ∨ (true = true /\ room < b.length)) := by rintro (h | h) <;> omega
  have hd : ∀ r : List UInt8, (iN (Dz b.length s) 1 ++ (wQ b.length ++ r)).drop (1 + (wQ b.length).length) = r := by
   intro r
   rw [<- P1, List.drop_left' (by rw [PN, fO])]
  obtain ⟨c', hc'⟩ : ∃ c', c' = c - H.length := ⟨_, rfl⟩
  rw [<- hc']
  have hge := IK size hs.1 (b.length + 1) b (by omega)
  by_cases h2 : c' < (jP size (b.length + 1) b).length
  .refine ⟨10, ?_⟩
   show (if win < b.length ∨ (true = true /\ room < b.length) then _ else _) = _
   rw [if_neg hbig, Qc (by omega), hd, F3 hs (b.length + 1) b [] _ c' (by
     simp only [PN, fO, PR]
     omega) (by omega) (PY _) hb (by simp; omega) (fun _ => by simp) h2]
   rfl
  .have e2 : (jP size (b.length + 1) b ++ KU b s).take c' = jP size (b.length + 1) b ++ (KU b s).take (c' - (jP size (b.length + 1) b).length) := by
    rw [Q1, PX (by omega)]
   refine ⟨10, ?_⟩
   show (if win < b.length ∨ (true = true /\ room < b.length) then _ else _) = _
   rw [if_neg hbig, e2, hd, Ho hs (b.length + 1) b _ [] _ (by
     simp only [PN, fO]
     omega) (by omega) (PY _) hb (by simp; omega) (fun _ => by simp)]
   cases s with
   | false =>
     unfold KU at hc
     simp only [PG, if_false, List.length_nil] at hc
     omega
   | true =>
     have hTl : (KU b true).length = 4 := fO _ _
     have : IL ⟨b.length, b.length, true, true⟩ (.ok ([] ++ b, (KU b true).take (c' - (jP size (b.length + 1) b).length))) = .error 10 := by
      show xN ⟨b.length, b.length, true, true⟩ _ b = _
      rw [G3]
      simp only [if_true]
      have : Fa ((KU b true).take (c' - (jP size (b.length + 1) b).length)) b = .error 10 := by
       unfold Fa
       rw [if_pos (by rw [PR]; omega)]
      rw [this]
     show some (IL _ _) = _
     rw [this]
theorem Nh {b : List UInt8} {size most c : Nat} {s : Bool} (hb : b.length <= 2000) (hs : 1 <= size /\ size <= 256) (hm : b.length <= most) (h0 : 0 < c) (hc : c < (HO b size s).length) : ∃ e, MN ((HO b size s).take c) 20 most = some (.error e) := by
 have hF : HO b size s = [40, 181, 47, 253] ++ (iN (Dz b.length s) 1 ++ wQ b.length ++ (jP size (b.length + 1) b ++ KU b s)) := by
  unfold HO KU
  rw [BE]
  simp only [P1]
 obtain ⟨X, hX⟩ : ∃ X, X = iN (Dz b.length s) 1 ++ wQ b.length ++ (jP size (b.length + 1) b ++ KU b s) := ⟨_, rfl⟩
 rw [hF, <- hX] at hc ⊢
 have hl : (([40, 181, 47, 253] ++ X).take c).length = c := by rw [PR]; omega
 unfold MN
 rw [hl, ES, hl, if_neg (by omega)]
 by_cases h4 : c < 4
 .exact ⟨10, by rw [if_pos h4]⟩
 .have e1 : (([40, 181, 47, 253] ++ X).take c).take 4 = [40, 181, 47, 253] := by rw [List.take_take, Qp (by omega)] <;> rfl
  have e2 : (([40, 181, 47, 253] ++ X).take c).drop 4 = X.take (c - 4) := by rw [List.drop_take] <;> rfl
  have h20 : b.length <= 2 ^ 20 := by
   have : (2 : Nat) ^ 20 = 1048576 := by decide
   omega
  obtain ⟨e, he⟩ := MC (s := s) (c := c - 4) (win := 2 ^ 20) (room := most - ([] : List UInt8).length) hb hs h20 (by simpa using hm) (by rw [<- hX]; rw [PN] at hc; simp at hc; omega)
  rw [<- hX] at he
  exact ⟨e, by rw [if_neg h4, e1, MA, if_pos rfl, e2, he]⟩
theorem I3 : ∀ {l m : List UInt8}, l.length = m.length -> jH l = jH m -> l = m
 | [], [], _, _ => rfl
 | [], _ :: _, h, _ => by simp at h
 | _ :: _, [], h, _ => by simp at h
 | a :: l, b :: m, h, e => by
   simp only [jH] at e
   have h1 := Qq a
   have h2 := Qq b
   have e1 : a.toNat = b.toNat := by omega
   have e2 : jH l = jH m := by omega
   rw [I3 (by simpa using h) e2, UInt8.toNat_inj.1 e1]
theorem Lq {v : Q7} {l : List UInt8} {log most : Nat} {w : Q6} {e : Int} (hb : Bs w v l) (hl : l.length <= 1000000) (hlog : 10 <= log /\ log <= 22) (hmost : most <= 2000000) (hm : MN l log most = some (.error e)) :
 fK pg iH #[v, .int .i64 (log : Nat), .int .i64 (most : Nat)] w (fun r w' => e ≠ 0 /\ r = .tuple #[sN, .int .i64 e] /\ fU w w' kY) := by
 refine qU ?_
 unfold tV mJ
 refine (G7 hb hl hlog hmost hm).mono ?_
 rintro r w1 ⟨p, hq⟩
 obtain ⟨he, rfl, x⟩ := hq
 have n1 : (e != 0) = true := by simp [he]
 simp (disch := omega) only [dQ, fE, cQ, stepR_skip, eE, eS, eI, eP, eX, fB, fF, eN, dL, eL, eQ, eZ, eC, eF, eJ, eH, eD, fA, eU, eB, dR, eM, eY, eA, fY, gC, gB, fZ, fV, fX, gA, fW, gD, dH, Result.ok.injEq, Next.value.injEq, true_and, and_true, dZ, dY, eT, fC, eK, fG, PJ, dS, dT, dU, dV, dN, dK, dP, dM, dI, cY, if_true, if_false, PG, PM, PH, PI, PL, PK, PF, PE, cR, cO, cH, bY, cV, dJ, bW, bX, cS, cK, cL, dE, cP, dD, dC, dW, cZ, cF, bH, bR, aT, aC, aL, dF, aI, cD, dB, dA, bN, aH, bC, aZ, cM, aD, aX, aM, aV, cU, aW, cJ, bS, aF, aG, aK, dO, aP, aO, bD, aR, cB, aE, bZ, bT, bG, bB, aY, cX, aJ, bM, aU, aQ, aS, aA, dG, cN, bO, aN, cW, bU, bV, cI, bQ, bP, bL, cA, bJ, cC, bA, bK, bF, bE, cG, n1]
 exact ⟨he, rfl, x.mono fun y hy h => by omega⟩
theorem Nf (c : UInt8) : CK .u8 (c.toNat : Int) 1 = ((c ^^^ 1).toNat : Int) := by
 have : ∀ k : Fin 256, CK .u8 (k.val : Int) 1 = ((UInt8.ofNat k.val ^^^ 1).toNat : Int) := by decide +kernel
 have h := this ⟨c.toNat, Qq c⟩
 rw [h]
 simp
theorem Ng (c : UInt8) : c ^^^ 1 ≠ c := by
 have : ∀ k : Fin 256, UInt8.ofNat k.val ^^^ 1 ≠ UInt8.ofNat k.val := by decide +kernel
 have h := this ⟨c.toNat, Qq c⟩
 simpa using h
theorem LG {n : Nat} (h : n < 65536) : uM .u16 (n : Int) 3 = ((n % 4 : Nat) : Int) := by
 unfold uM
 have e1 : (BitVec.ofInt IntKind.u16.bits (n : Int) &&& BitVec.ofInt IntKind.u16.bits 3).toNat = n % 4 := by
  rw [BitVec.toNat_and]
  simp only [IntKind.bits, BitVec.toNat_ofInt]
  have h1 : ((n : Int) % ((2 ^ 16 : Nat) : Int)).toNat = n := by omega
  have h2 : ((3 : Int) % ((2 ^ 16 : Nat) : Int)).toNat = 3 := by decide
  rw [h1, h2, NJ]
 rw [e1]
 exact eK (by omega) (by omega)
theorem Ns {X j : Nat} (hj : j < 4) {c : UInt8} (hc : (iN X 4)[3 - j]? = some c) : jH ((iN X 4).set (3 - j) (c ^^^ 1)) ≠ X % 2 ^ 32 := by
 intro h
 have hl : (iN X 4).length = 4 := fO _ _
 have h2 : jH (iN X 4) = X % 2 ^ 32 := tD 4 X
 have h3 := I3 (by rw [QV]) (h.trans h2.symm)
 have h4 : ((iN X 4).set (3 - j) (c ^^^ 1))[3 - j]? = some (c ^^^ 1) := by rw [List.getElem?_set_self (by omega)]
 rw [h3, hc] at h4
 exact Ng c (Qj h4).symm
theorem HW {v0 : Q7} {b : List UInt8} {n1 n3 n4 : Nat} {s : Bool} {w : Q6} (h0 : Bs w v0 b) (hbl : b.length <= 9223372036854775807) (hn1 : n1 < 256) (hn3 : n3 < 65536) (hn4 : n4 < 65536) :
 fK pg pO #[v0, .int .u8 (n1 : Nat), .bool s, .int .u16 (n3 : Nat), .int .u16 (n4 : Nat)] w (fun r w' => r = .bool true /\ fU w w' kY) := by
 refine A2 ?_
 obtain ⟨RR, hRR⟩ : ∃ RR : Q7 -> Q6 -> Prop, RR = fun r w' => r = .bool true /\ fU w w' kY := ⟨_, rfl⟩
 rw [<- hRR]
 unfold zG oP
 refine (KQ w).mono ?_
 rintro r w1 ⟨rfl, x1⟩
 obtain ⟨a0, c0, e0, _⟩ := h0.len
 rw [PQ] at e0
 by_cases hb : 2000 < b.length
 .have d1 : decide ((b.length : Int) > 2000) = true := decide_eq_true (by omega)
  have d2 : decide ((2000 : Int) < (b.length : Int)) = true := decide_eq_true (by omega)
  subst e0
  simp (disch := omega) only [dQ, fE, cQ, stepR_skip, eE, eS, eI, eP, eX, fB, fF, eN, dL, eL, eQ, eZ, eC, eF, eJ, eH, eD, fA, eU, eB, dR, eM, eY, eA, fY, gC, gB, fZ, fV, fX, gA, fW, gD, dH, Result.ok.injEq, Next.value.injEq, true_and, and_true, dZ, dY, eT, fC, eK, fG, PJ, dS, dT, dU, dV, dN, dK, dP, dM, dI, cY, if_true, if_false, PG, PM, PH, PI, PL, PK, PF, PE, cR, cO, cH, bY, cV, dJ, bW, bX, cS, cK, cL, dE, cP, dD, dC, dW, cZ, cF, bH, bR, aT, aC, aL, dF, aI, cD, dB, dA, bN, aH, bC, aZ, cM, aD, aX, aM, aV, cU, aW, cJ, bS, aF, aG, aK, dO, aP, aO, bD, aR, cB, aE, bZ, bT, bG, bB, aY, cX, aJ, bM, aU, aQ, aS, aA, dG, cN, bO, aN, cW, bU, bV, cI, bQ, bP, bL, cA, bJ, cC, bA, bK, bF, bE, cG, d1, d2]
  rw [hRR]
  exact ⟨rfl, x1⟩
 have hb : b.length <= 2000 := by omega
 have d1 : decide ((b.length : Int) > 2000) = false := decide_eq_false (by omega)
 have d2 : decide ((2000 : Int) < (b.length : Int)) = false := decide_eq_false (by omega)
 have u1 : IntKind.i64.wrap (n1 : Int) = n1 := dZ (by omega) (by omega)
 have u4 : IntKind.i64.wrap (n4 : Int) = n4 := dZ (by omega) (by omega)
 have u3 : IntKind.i64.wrap (n3 : Int) = n3 := dZ (by omega) (by omega)
 have e1 : (n1 : Int) + 1 = ((n1 + 1 : Nat) : Int) := by omega
 have hsz : 1 <= n1 + 1 /\ n1 + 1 <= 256 := by omega
 have keep : ∀ w', fU w w' kY -> Bs w' v0 b := fun w' x => h0.ext x (lC _)
 subst e0
 simp (disch := omega) only [dQ, fE, cQ, stepR_skip, eE, eS, eI, eP, eX, fB, fF, eN, dL, eL, eQ, eZ, eC, eF, eJ, eH, eD, fA, eU, eB, dR, eM, eY, eA, fY, gC, gB, fZ, fV, fX, gA, fW, gD, dH, Result.ok.injEq, Next.value.injEq, true_and, and_true, dZ, dY, eT, fC, eK, fG, PJ, dS, dT, dU, dV, dN, dK, dP, dM, dI, cY, if_true, if_false, PG, PM, PH, PI, PL, PK, PF, PE, cR, cO, cH, bY, cV, dJ, bW, bX, cS, cK, cL, dE, cP, dD, dC, dW, cZ, cF, bH, bR, aT, aC, aL, dF, aI, cD, dB, dA, bN, aH, bC, aZ, cM, aD, aX, aM, aV, cU, aW, cJ, bS, aF, aG, aK, dO, aP, aO, bD, aR, cB, aE, bZ, bT, bG, bB, aY, cX, aJ, bM, aU, aQ, aS, aA, dG, cN, bO, aN, cW, bU, bV, cI, bQ, bP, bL, cA, bJ, cC, bA, bK, bF, bE, cG, d1, d2, u1, e1]
 refine (MO (s := s) (keep w1 x1) hb hsz).mono ?_
 rintro vf w2 ⟨o2, x2⟩
 have x02 := x1.seq x2
 obtain ⟨F, hF⟩ : ∃ F, F = HO b (n1 + 1) s := ⟨_, rfl⟩
 rw [<- hF] at o2
 have hFl : F.length <= 20000 := by
  have h1 := Hr (n1 + 1) hsz.1 (b.length + 1) b
  have h2 := JH b.length s
  rw [hF]; unfold HO
  rw [PN, PN]
  have h3 : (if s then iN (XN b) 4 else []).length <= 4 := by cases s <;> simp [fO]
  omega
 have hF4 : 5 <= F.length := by
  rw [hF]; unfold HO
  rw [BE]
  simp [fO]
 obtain ⟨bf, cf, rest, hvf, hbf, hown⟩ : ∃ bf cf rest, vf = .slice (some ⟨bf, 0, none⟩) F.length cf /\ w1.heap.size <= bf /\ iE w2 bf (F.map lU ++ rest) := by
  rcases o2.2 with ⟨_, h2⟩ | ⟨bf, cf, rest, h1, h2, h3, _, _⟩
  .omega
  .exact ⟨bf, cf, rest, h1, h2, h3⟩
 obtain ⟨af, haf⟩ : ∃ af : Option Addr, af = some ⟨bf, 0, none⟩ := ⟨_, rfl⟩
 rw [<- haf] at hvf
 have hb2 : Bs w2 vf F := IJ o2
 have hdec := Ov (most := n4) (s := s) hb hsz
 rw [<- hF] at hdec
 try simp (disch := omega) only [dQ, fE, cQ, stepR_skip, eE, eS, eI, eP, eX, fB, fF, eN, dL, eL, eQ, eZ, eC, eF, eJ, eH, eD, fA, eU, eB, dR, eM, eY, eA, fY, gC, gB, fZ, fV, fX, gA, fW, gD, dH, Result.ok.injEq, Next.value.injEq, true_and, and_true, dZ, dY, eT, fC, eK, fG, PJ, dS, dT, dU, dV, dN, dK, dP, dM, dI, cY, if_true, if_false, PG, PM, PH, PI, PL, PK, PF, PE, cR, cO, cH, bY, cV, dJ, bW, bX, cS, cK, cL, dE, cP, dD, dC, dW, cZ, cF, bH, bR, aT, aC, aL, dF, aI, cD, dB, dA, bN, aH, bC, aZ, cM, aD, aX, aM, aV, cU, aW, cJ, bS, aF, aG, aK, dO, aP, aO, bD, aR, cB, aE, bZ, bT, bG, bB, aY, cX, aJ, bM, aU, aQ, aS, aA, dG, cN, bO, aN, cW, bU, bV, cI, bQ, bP, bL, cA, bJ, cC, bA, bK, bF, bE, cG, u4]
 by_cases hm : n4 < b.length
 .rw [if_pos hm] at hdec
  refine (CG (log := 20) hb2 (by omega) (by omega) (by omega) hdec).mono ?_
  rintro r w3 ⟨rfl, x3⟩
  have g1 : decide ((n4 : Int) < (b.length : Int)) = true := decide_eq_true (by omega)
  have q1 : ((12 : Int) == 12) = true := rfl
  have q0 : (((0 : Nat) : Int) == 0) = true := rfl
  unfold sN
  simp (disch := omega) only [dQ, fE, cQ, stepR_skip, eE, eS, eI, eP, eX, fB, fF, eN, dL, eL, eQ, eZ, eC, eF, eJ, eH, eD, fA, eU, eB, dR, eM, eY, eA, fY, gC, gB, fZ, fV, fX, gA, fW, gD, dH, Result.ok.injEq, Next.value.injEq, true_and, and_true, dZ, dY, eT, fC, eK, fG, PJ, dS, dT, dU, dV, dN, dK, dP, dM, dI, cY, if_true, if_false, PG, PM, PH, PI, PL, PK, PF, PE, cR, cO, cH, bY, cV, dJ, bW, bX, cS, cK, cL, dE, cP, dD, dC, dW, cZ, cF, bH, bR, aT, aC, aL, dF, aI, cD, dB, dA, bN, aH, bC, aZ, cM, aD, aX, aM, aV, cU, aW, cJ, bS, aF, aG, aK, dO, aP, aO, bD, aR, cB, aE, bZ, bT, bG, bB, aY, cX, aJ, bM, aU, aQ, aS, aA, dG, cN, bO, aN, cW, bU, bV, cI, bQ, bP, bL, cA, bJ, cC, bA, bK, bF, bE, cG, u4, g1, q1, q0]
  rw [hRR]
  exact ⟨rfl, x02.seq x3⟩
 rw [if_neg hm] at hdec
 refine (CG (log := 20) hb2 (by omega) (by omega) (by omega) hdec).mono ?_
 rintro r w3 ⟨v3, rfl, hb3, x3⟩
 have g1 : decide ((n4 : Int) < (b.length : Int)) = false := decide_eq_false (by omega)
 have x03 := x02.seq x3
 obtain ⟨c, hc⟩ : ∃ c, c = 1 + n3 % (F.length - 1) := ⟨_, rfl⟩
 have hc1 : c < F.length := by have := Nat.mod_lt n3 (show 0 < F.length - 1 by omega); omega
 obtain ⟨e, he⟩ := Nh (s := s) (c := c) (most := n4) hb hsz (by omega) (by omega) (by rw [<- hF]; exact hc1)
 rw [<- hF] at he
 subst hvf
 have e5 : (F.length : Int) - 1 = ((F.length - 1 : Nat) : Int) := by omega
 have e6 : (n3 : Int).tmod ((F.length - 1 : Nat) : Int) = ((n3 % (F.length - 1) : Nat) : Int) := rfl
 have u6 : IntKind.i64.wrap ((n3 % (F.length - 1) : Nat) : Int) = ((n3 % (F.length - 1) : Nat) : Int) := by
  have := Nat.mod_lt n3 (show 0 < F.length - 1 by omega)
  exact dZ (by omega) (by omega)
 have e7 : (1 : Int) + ((n3 % (F.length - 1) : Nat) : Int) = (c : Int) := by rw [hc]; omega
 have hbF3 := hb2.ext x3 (lC _)
 have hcapF : F.length <= cf := by
  obtain ⟨_, _, hee, hcap⟩ := hbF3.len
  rw [PQ] at hee hcap
  cases hee
  exact hcap
 have hbc0 := hbF3.take' (k := c) (by omega)
 rw [<- QP] at hbc0
 have hbc : Bs w3 _ (F.take c) := hbc0
 have t0 : (c : Int).toNat = c := PJ _
 have nz : ¬ ((F.length - 1 : Nat) : Int) = 0 := by omega
 simp (disch := omega) only [dQ, fE, cQ, stepR_skip, eE, eS, eI, eP, eX, fB, fF, eN, dL, eL, eQ, eZ, eC, eF, eJ, eH, eD, fA, eU, eB, dR, eM, eY, eA, fY, gC, gB, fZ, fV, fX, gA, fW, gD, dH, Result.ok.injEq, Next.value.injEq, true_and, and_true, dZ, dY, eT, fC, eK, fG, PJ, dS, dT, dU, dV, dN, dK, dP, dM, dI, cY, if_true, if_false, PG, PM, PH, PI, PL, PK, PF, PE, cR, cO, cH, bY, cV, dJ, bW, bX, cS, cK, cL, dE, cP, dD, dC, dW, cZ, cF, bH, bR, aT, aC, aL, dF, aI, cD, dB, dA, bN, aH, bC, aZ, cM, aD, aX, aM, aV, cU, aW, cJ, bS, aF, aG, aK, dO, aP, aO, bD, aR, cB, aE, bZ, bT, bG, bB, aY, cX, aJ, bM, aU, aQ, aS, aA, dG, cN, bO, aN, cW, bU, bV, cI, bQ, bP, bL, cA, bJ, cC, bA, bK, bF, bE, cG, u4, g1, u3, e5, e6, u6, e7, t0]
 refine (Lq (log := 20) hbc (by rw [PR]; omega) (by omega) (by omega) he).mono ?_
 rintro r w4 ⟨hne, rfl, x4⟩
 have x04 := x03.seq x4
 have q0 : ((0 : Int) != 0) = false := rfl
 have qe : (e == 0) = false := beq_eq_false_iff_ne.2 hne
 have qn : (((0 : Nat) : Int) != 0) = false := rfl
 have hcv3 := kU (hb3.ext x4 (lC _))
 have hcvb := kU (keep w4 x04)
 have bself : ((⟨b.toArray⟩ : ByteArray).toList == (⟨b.toArray⟩ : ByteArray).toList) = true := beq_self_eq_true _
 unfold sN
 cases hs' : s with
 | false =>
   simp (disch := omega) only [dQ, fE, cQ, stepR_skip, eE, eS, eI, eP, eX, fB, fF, eN, dL, eL, eQ, eZ, eC, eF, eJ, eH, eD, fA, eU, eB, dR, eM, eY, eA, fY, gC, gB, fZ, fV, fX, gA, fW, gD, dH, Result.ok.injEq, Next.value.injEq, true_and, and_true, dZ, dY, eT, fC, eK, fG, PJ, dS, dT, dU, dV, dN, dK, dP, dM, dI, cY, if_true, if_false, PG, PM, PH, PI, PL, PK, PF, PE, cR, cO, cH, bY, cV, dJ, bW, bX, cS, cK, cL, dE, cP, dD, dC, dW, cZ, cF, bH, bR, aT, aC, aL, dF, aI, cD, dB, dA, bN, aH, bC, aZ, cM, aD, aX, aM, aV, cU, aW, cJ, bS, aF, aG, aK, dO, aP, aO, bD, aR, cB, aE, bZ, bT, bG, bB, aY, cX, aJ, bM, aU, aQ, aS, aA, dG, cN, bO, aN, cW, bU, bV, cI, bQ, bP, bL, cA, bJ, cC, bA, bK, bF, bE, cG, q0, qe, qn, hcv3, hcvb, Mr, bself]
   rw [hRR]
   exact ⟨rfl, x04⟩
 | true =>
   rw [hs'] at hF
   obtain ⟨P, hP⟩ : ∃ P, P = sO b.length true ++ jP (n1 + 1) (b.length + 1) b := ⟨_, rfl⟩
   have hFP : F = P ++ iN (XN b) 4 := by rw [hF, hP]; unfold HO; rfl
   have hPl : F.length = P.length + 4 := by rw [hFP, PN, fO]
   obtain ⟨j, hj⟩ : ∃ j, j = n3 % 4 := ⟨_, rfl⟩
   have hj4 : j < 4 := by omega
   have a3 := LG hn3
   rw [<- hj] at a3
   have uj : IntKind.i64.wrap (j : Int) = j := dZ (by omega) (by omega)
   obtain ⟨k, hk⟩ : ∃ k, k = P.length + (3 - j) := ⟨_, rfl⟩
   have ek : ((F.length - 1 : Nat) : Int) - (j : Int) = (k : Int) := by omega
   have hkl : k < F.length := by omega
   have hown4 := (hown.ext x3 (fun h => h)).ext x4 (fun h => h)
   obtain ⟨ch, hch⟩ : ∃ ch, ch = F[k]'hkl := ⟨_, rfl⟩
   have hcell := hown4.cell (off := k)
   rw [P3 (by rw [PQ]; exact hkl), Qv, PT hkl, <- hch] at hcell
   have hcell : w4.cell? ⟨bf, k, none⟩ = some (.int .u8 (ch.toNat : Nat)) := hcell
   have tk : (k : Int).toNat = k := PJ _
   have zk : 0 + k = k := by omega
   have hx := Nf ch
   have hkb : (k : Int) < (F.length : Int) := by omega
   subst haf
   simp (disch := omega) only [dQ, fE, cQ, stepR_skip, eE, eS, eI, eP, eX, fB, fF, eN, dL, eL, eQ, eZ, eC, eF, eJ, eH, eD, fA, eU, eB, dR, eM, eY, eA, fY, gC, gB, fZ, fV, fX, gA, fW, gD, dH, Result.ok.injEq, Next.value.injEq, true_and, and_true, dZ, dY, eT, fC, eK, fG, PJ, dS, dT, dU, dV, dN, dK, dP, dM, dI, cY, if_true, if_false, PG, PM, PH, PI, PL, PK, PF, PE, cR, cO, cH, bY, cV, dJ, bW, bX, cS, cK, cL, dE, cP, dD, dC, dW, cZ, cF, bH, bR, aT, aC, aL, dF, aI, cD, dB, dA, bN, aH, bC, aZ, cM, aD, aX, aM, aV, cU, aW, cJ, bS, aF, aG, aK, dO, aP, aO, bD, aR, cB, aE, bZ, bT, bG, bB, aY, cX, aJ, bM, aU, aQ, aS, aA, dG, cN, bO, aN, cW, bU, bV, cI, bQ, bP, bL, cA, bJ, cC, bA, bK, bF, bE, cG, q0, qe, qn, hcv3, hcvb, Mr, bself, e5, a3, uj, ek, tk, zk, hcell, hx]
   refine MH (off := k) hown4 rfl (by rw [PN, PQ]; omega) fun w5 o5 x5 s5 => ?_
   have hset : (F.map lU ++ rest).set k (.int .u8 ((ch ^^^ 1).toNat : Nat)) = (F.set k (ch ^^^ 1)).map lU ++ rest := by
    rw [Q5 _ _ (by rw [PQ]; exact hkl), List.map_set]
    rfl
   rw [hset] at o5
   have hbF5 : Bs w5 (.slice (some ⟨bf, 0, none⟩) F.length cf) (F.set k (ch ^^^ 1)) := by
    have := o5.bs (off := 0) (c := cf) (l := F.set k (ch ^^^ 1)) (by rw [QV]; exact hcapF) (fun i hi => by
     rw [PM, P3 (by rw [PQ]; exact hi), Qv, PT hi] <;> rfl)
    rw [QV] at this
    exact this
   have hset2 : F.set k (ch ^^^ 1) = sO b.length true ++ (jP (n1 + 1) (b.length + 1) b ++ (iN (XN b) 4).set (3 - j) (ch ^^^ 1)) := by
    rw [<- P1, <- hP, hFP, Qh _ _ (by omega), hk, QD]
   have hch2 : (iN (XN b) 4)[3 - j]? = some ch := by
    have h1 : F[k]? = some ch := by rw [hch, PT hkl]
    rw [hFP, Ql (by omega), hk, QD] at h1
    exact h1
   have hd5 := M9 (most := n4) (T := (iN (XN b) 4).set (3 - j) (ch ^^^ 1)) hb hsz (by omega) (by rw [QV, fO]) (Ns hj4 hch2)
   rw [<- hset2] at hd5
   have z1 := x1.size
   have x05 : fU w w5 kY := x04.trans x5 fun y hy h => by omega
   try simp (disch := omega) only [dQ, fE, cQ, stepR_skip, eE, eS, eI, eP, eX, fB, fF, eN, dL, eL, eQ, eZ, eC, eF, eJ, eH, eD, fA, eU, eB, dR, eM, eY, eA, fY, gC, gB, fZ, fV, fX, gA, fW, gD, dH, Result.ok.injEq, Next.value.injEq, true_and, and_true, dZ, dY, eT, fC, eK, fG, PJ, dS, dT, dU, dV, dN, dK, dP, dM, dI, cY, if_true, if_false, PG, PM, PH, PI, PL, PK, PF, PE, cR, cO, cH, bY, cV, dJ, bW, bX, cS, cK, cL, dE, cP, dD, dC, dW, cZ, cF, bH, bR, aT, aC, aL, dF, aI, cD, dB, dA, bN, aH, bC, aZ, cM, aD, aX, aM, aV, cU, aW, cJ, bS, aF, aG, aK, dO, aP, aO, bD, aR, cB, aE, bZ, bT, bG, bB, aY, cX, aJ, bM, aU, aQ, aS, aA, dG, cN, bO, aN, cW, bU, bV, cI, bQ, bP, bL, cA, bJ, cC, bA, bK, bF, bE, cG, u4]
   refine (CG (log := 20) hbF5 (by rw [QV]; omega) (by omega) (by omega) hd5).mono ?_
   rintro r w6 ⟨rfl, x6⟩
   have q13 : ((13 : Int) == 13) = true := rfl
   unfold sN
   simp (disch := omega) only [dQ, fE, cQ, stepR_skip, eE, eS, eI, eP, eX, fB, fF, eN, dL, eL, eQ, eZ, eC, eF, eJ, eH, eD, fA, eU, eB, dR, eM, eY, eA, fY, gC, gB, fZ, fV, fX, gA, fW, gD, dH, Result.ok.injEq, Next.value.injEq, true_and, and_true, dZ, dY, eT, fC, eK, fG, PJ, dS, dT, dU, dV, dN, dK, dP, dM, dI, cY, if_true, if_false, PG, PM, PH, PI, PL, PK, PF, PE, cR, cO, cH, bY, cV, dJ, bW, bX, cS, cK, cL, dE, cP, dD, dC, dW, cZ, cF, bH, bR, aT, aC, aL, dF, aI, cD, dB, dA, bN, aH, bC, aZ, cM, aD, aX, aM, aV, cU, aW, cJ, bS, aF, aG, aK, dO, aP, aO, bD, aR, cB, aE, bZ, bT, bG, bB, aY, cX, aJ, bM, aU, aQ, aS, aA, dG, cN, bO, aN, cW, bU, bV, cI, bQ, bP, bL, cA, bJ, cC, bA, bK, bF, bE, cG, q13]
   rw [hRR]
   exact ⟨rfl, x05.seq x6⟩
end Go.Proofs.YthohephggmkeeaaDoor
namespace Go.En
open Go Go.ChangeShapes Go.WideShapes Go.ChangeAt Go.RowKit
theorem HJ {H : Type} {enc : TypeId × Q7 -> H} {P : Program} (hl : laidOutB P = true) {W W' : Q6} (hb : Below W.heap.size W W') : ∀ (ts : List TypeId) (vs : List Q7) (ds : List (DataW H)) (ps : List MemPlace),
 (ts.all fun t => P.readableRec t && decide (t < P.types.size)) = true -> DataW.TrodAll enc P W 0 (fun _ => true) true ts vs ds ps -> (∀ x ∈ ps, x.block < W.heap.size) →
 DataW.TrodAll enc P W' 0 (fun b => decide (b < W.heap.size)) true ts vs ds ps := by
 intro ts
 induction ts with
 | nil =>
   intro vs ds ps _ h _
   cases vs <;> cases ds <;> simp [DataW.TrodAll] at h ⊢
   exact h
 | cons t ts ih =>
   intro vs ds ps hr h hlt
   cases vs with
   | nil => simp [DataW.TrodAll] at h
   | cons v vs =>
     cases ds with
     | nil => simp [DataW.TrodAll] at h
     | cons d ds =>
       obtain ⟨p, q, h1, h2, rfl⟩ := h
       rw [List.all_cons, PO, PO, decide_eq_true_eq] at hr
       exact ⟨p, q, Below.trod hl hr.1.1 hr.1.2 h1 hb (fun x hx => hlt x (Qs _ hx)), ih _ _ _ hr.2 h2 (fun x hx => hlt x (QJ _ hx)), rfl⟩
theorem LJ {H : Type} {enc : TypeId × Q7 -> H} {P : Program} {f : Func} {s : ChangeSpec} {apart fresh handsOn : Bool} {tb : TypeId} {W W' : Q6} {args : Array Q7} {ds gs : List (DataW H)} {before : List MemPlace}
 (hl : laidOutB P = true) (hr : (f.params.toList.all fun t => P.readableRec t && decide (t < P.types.size)) = true) (hres : f.resultTypes = #[tb]) (hbool : P.underlying tb = some .bool)
 (hW : DataW.Whole enc P f.params.toList s.vars apart W args.toList ds gs before) (hvars : s.vars = []) (h1 : (s.fn H (ds ++ gs)).results = [.lit (.bool true)]) (h2 : (s.fn H (ds ++ gs)).args = ds) (h3 : (s.fn H (ds ++ gs)).vars = [])
 (hx : fU W W' kY) : s.post enc P f apart fresh handsOn false W args (.bool true) W' := by
 have hb := hx.below
 have hlt : ∀ x ∈ before, x.block < W.heap.size := fun x hx => hW.lt x hx
 have hW' := hW
 obtain ⟨p, q, hA, hV, rfl, _, _⟩ := hW
 rw [hvars] at hV
 obtain ⟨_, rfl⟩ := trodVars_none hV
 rw [QF] at hW' hlt
 refine ⟨ds, gs, p, [], p, [], hW', ?_, ?_, ?_, hb.frame _, fun h => by cases h⟩
 .rw [h1, hres]
  exact trodAll_cons_mk (shut_bool hbool _) trodAll_mk0
 .rw [h2]; exact HJ hl hb _ _ _ _ hr hA hlt
 .rw [h3, hvars] <;> rfl
theorem Na {H : Type} {enc : TypeId × Q7 -> H} {P : Program} {W : Q6} {base b0 : Nat} {r : Reach} {sp : Nat -> Bool} {hd : Bool} {t e : TypeId} {k : IntKind} {v : Q7} {d : DataW H} {ps : List MemPlace} (ht : P.underlying t = some (.slice e)) (he : P.underlying e = some (.int k)) (hc : P.cellsOf e = 1)
 (hval : Value.okWide P W r b0 t v) (h : DataW.Trod enc P W base sp hd t v d ps) :
 ∃ zs : List Int, Sl W v (zs.map (Value.int k)) /\ zs.length <= 9223372036854775807 /\ ∀ z ∈ zs, (Lit.int k z).wf = true := by
 obtain ⟨a0, len, cap, rfl⟩ := okWide_slice ht hval
 obtain ⟨fuel, hf⟩ := h
 rcases open_ints ht he hc hf with ⟨hcs, -⟩ | ⟨a, len', cap', zs, hcs, _, hl, hm, hz, -, hcell, hwz⟩
 .have : Value.slice a0 len cap = .slice none 0 0 := by simpa [Value.cells] using hcs
  cases this
  exact ⟨[], ⟨none, 0, 0, rfl, rfl, PY _, fun h => absurd h (by simp)⟩, by simp, by simp⟩
 .have : Value.slice a0 len cap = .slice (some a) len' cap' := by simpa [Value.cells] using hcs
  cases this
  unfold maxLen at hm
  have hle : len <= zs.length := by rw [hz]; split <;> omega
  refine ⟨zs.take len, ⟨some a, len, cap, rfl, by rw [PQ, PR]; omega, hl, fun h0 => ?_⟩, by rw [PR]; omega, fun z hz => hwz z (List.mem_of_mem_take hz)⟩
  obtain ⟨b, off, spot⟩ := a
  have hs : spot = none := by
   have h0 := hcell 0 (by omega)
   unfold World.cell? at h0
   split at h0
   .cases spot
    .rfl
    .simp [Addr.add] at h0
   .cases h0
  subst hs
  refine ⟨b, off, rfl, fun i hi => ?_⟩
  rw [<- yB, hcell i (by omega), Qv, QB hi, P7, PT (by omega)]
  rfl
theorem Me (zs : List Int) (h : ∀ z ∈ zs, (Lit.int .u8 z).wf = true) : ∃ l : List UInt8, zs.map (Value.int .u8) = l.map lU /\ l.length = zs.length := by
 refine ⟨zs.map fun z => UInt8.ofNat z.toNat, ?_, by simp⟩
 rw [List.map_map]
 refine Qm fun z hz => ?_
 have := h z hz
 have hx : 0 <= z /\ z <= 255 := by simpa [Lit.wf, IntKind.min, IntKind.max, IntKind.signed, IntKind.bits] using this
 show _ = lU (UInt8.ofNat z.toNat)
 unfold lU
 rw [UInt8.toNat_ofNat']
 congr 1
 omega
end Go.En
