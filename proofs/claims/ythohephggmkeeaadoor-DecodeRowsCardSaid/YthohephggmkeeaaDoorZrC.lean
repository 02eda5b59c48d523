/- Parts of the proof of DecodeRows: merged and given short names by a program of ours. -/
import Derived.WalkKit
import Derived.ProofKit
import Derived.OpenShut
import Derived.Deep.Matrix
import Derived.Test.YthohephggmkeeaaDoorZrB
set_option linter.unusedVariables false
set_option linter.unusedSimpArgs false
open Array renaming length_toList → QZ
open Bool renaming false_eq_true → Qm, not_false → Qq, not_true → Qr, and_eq_true → Qu
open Int renaming fdiv_eq_ediv_of_nonneg → QT, toNat_natCast → Qp
open List renaming map_congr_left → Q3, cons_append → Q9, set_cons_zero → QB, set_cons_succ → QC, mem_cons_of_mem → QE, append_assoc → QF, getD_eq_getElem?_getD → QG, take_succ_cons → QI, length_replicate → QJ, length_cons → QK, take_of_length_le → QL, drop_zero → QN, getElem?_append_left → QO, take_zero → QP, mem_range → QQ, getElem?_toArray → QW, length_eq_zero_iff → QY, getElem?_cons_zero → Qk, getElem?_cons_succ → Ql, length_append → Qt, getElem?_eq_getElem → Qv, length_map → Qw, length_drop → Qy, length_take → Qz, mem_map → RB, drop_of_length_le → RE, map_take → RG, map_nil → RJ, drop_drop → Ra, mem_append_left → Rb, getElem?_take_of_lt → Rc, nil_append → Rd, getElem?_map → Rg, take_append_of_le_length → Rh, map_cons → Rl, append_nil → Rn, mem_append_right → Rr, map_drop → Rx
open Nat renaming add_mul → Q6, le_refl → QD, mod_eq_of_lt → QV, zero_add → Qs, mul_le_mul_right → RK, pow_succ → RL, pow_le_pow_right → Re, and_two_pow_sub_one_eq_mod → Rf, min_eq_left → Rj, div_div_eq_div_mul → Ro
open Option renaming map_some → QR, isNone_some → Qn, isNone_none → Qo, getD_some → Rv
open UInt8 renaming toNat_ofNat' → Q5, toNat_lt → Ru
namespace Go.Proofs.YthohephggmkeeaaDoor
open Go Go.En
set_option maxRecDepth 4000
theorem Jo (s : ByteArray) (hs : s.size <= 1099511627776) (w : RM) (R : RN -> RM -> Prop) (y : Int) (i : Nat) (hi : i <= s.size)
 (hR : R (.int .u64 (Ku (e1 y ((Gm s).drop i) ((Gm s).drop i).length))) w) :
 zQ R (.string s) (.int .u64 y) (.int .i64 (i : Int)) w := by
 obtain ⟨D, hD⟩ : ∃ D, D = (Gm s).drop i := ⟨_, rfl⟩
 have hDl : D.length = s.size - i := by rw [hD, Qy, qA]
 rw [<- hD] at hR
 unfold zQ Di CX
 refine iO.rule (fun m t w' => ∃ j : Nat, i + j <= s.size /\ m = s.size - j /\ t = (.int .u64 (e1 y D j), .int .i64 ((i + j : Nat) : Int)) /\ w' = w) s.size ⟨0, by omega, rfl, rfl, rfl⟩ ?_
 rintro m t w' ⟨j, hj, rfl, rfl, rfl⟩
 have hg : ∀ (h : i + j < s.size), s[i + j]'h = D[j]'(by omega) := fun h => by
  rw [Lp]; simp only [hD, List.getElem_drop]
 obtain ⟨k, hk⟩ : ∃ k, k = i + j := ⟨_, rfl⟩
 rw [<- hk]
 by_cases hlt : k < s.size
 .have hb : (D[j]'(by omega)).toNat < 256 := Ru _
  have hd : decide ((k : Int) < (s.size : Int)) = true := by simpa using hlt
  have hg' : s[k]'hlt = D[j]'(by omega) := by subst hk; exact hg _
  simp (disch := omega) only [vD, dQ, fE, cQ, stepR_skip, eC, fB, eH, eT, eS, eM, fH, eP, dK, eN, eJ, eY, eE, eB, eK, eD, eI, eX, fC, eF, dR, eU, eZ, eA, gA, gB, gC, gG, gE, gF, gD, gH, gI, dH, Result.ok.injEq, Next.value.injEq, true_and, and_true, dZ, dY, fA, eL, eQ, fG, Qp, dS, dW, dV, dT, dN, dM, dO, dL, dI, cY, if_true, if_false, Qm, Qs, Qn, Qo, Qr, Qq, Ql, Qk, cR, cP, cD, bT, cV, dJ, bX, bW, cS, cM, cK, dD, cN, dB, dC, dX, cZ, cC, bE, bQ, aT, aA, aK, dE, aJ, cF, dF, dA, bN, aH, bB, aY, cL, aD, aX, aM, aV, cU, aW, cJ, bS, aC, aE, aL, dP, aP, aN, bC, aR, cI, aF, bZ, bU, bL, bD, bA, cX, aI, bM, aS, aU, aQ, aG, dG, cO, bO, aO, cW, bV, bY, cG, bP, bR, bK, cH, bF, cB, aZ, bJ, bH, bG, cA, hd, hg']
  refine (vI _ 11 (by omega) _).mono ?_
  rintro r w1 ⟨rfl, rfl⟩
  simp (disch := omega) only [dQ, fE, cQ, stepR_skip, eC, fB, eH, eT, eS, eM, fH, eP, dK, eN, eJ, eY, eE, eB, eK, eD, eI, eX, fC, eF, dR, eU, eZ, eA, gA, gB, gC, gG, gE, gF, gD, gH, gI, dH, Result.ok.injEq, Next.value.injEq, true_and, and_true, dZ, dY, fA, eL, eQ, fG, Qp, dS, dW, dV, dT, dN, dM, dO, dL, dI, cY, if_true, if_false, Qm, Qs, Qn, Qo, Qr, Qq, Ql, Qk, cR, cP, cD, bT, cV, dJ, bX, bW, cS, cM, cK, dD, cN, dB, dC, dX, cZ, cC, bE, bQ, aT, aA, aK, dE, aJ, cF, dF, dA, bN, aH, bB, aY, cL, aD, aX, aM, aV, cU, aW, cJ, bS, aC, aE, aL, dP, aP, aN, bC, aR, cI, aF, bZ, bU, bL, bD, bA, cX, aI, bM, aS, aU, aQ, aG, dG, cO, bO, aO, cW, bV, bY, cG, bP, bR, bK, cH, bF, cB, aZ, bJ, bH, bG, cA]
  refine ⟨s.size - (j + 1), by omega, j + 1, by omega, rfl, ?_⟩
  have hg : D.getD j 0 = D[j]'(by omega) := by rw [QG, Qv (by omega)] <;> rfl
  rw [e1, hg, show i + (j + 1) = k + 1 from by omega]
  rfl
 .have hd : decide ((k : Int) < (s.size : Int)) = false := by simpa using hlt
  have : j = D.length := by omega
  subst this
  simp (disch := omega) only [vD, zS, dQ, fE, cQ, stepR_skip, eC, fB, eH, eT, eS, eM, fH, eP, dK, eN, eJ, eY, eE, eB, eK, eD, eI, eX, fC, eF, dR, eU, eZ, eA, gA, gB, gC, gG, gE, gF, gD, gH, gI, dH, Result.ok.injEq, Next.value.injEq, true_and, and_true, dZ, dY, fA, eL, eQ, fG, Qp, dS, dW, dV, dT, dN, dM, dO, dL, dI, cY, if_true, if_false, Qm, Qs, Qn, Qo, Qr, Qq, Ql, Qk, cR, cP, cD, bT, cV, dJ, bX, bW, cS, cM, cK, dD, cN, dB, dC, dX, cZ, cC, bE, bQ, aT, aA, aK, dE, aJ, cF, dF, dA, bN, aH, bB, aY, cL, aD, aX, aM, aV, cU, aW, cJ, bS, aC, aE, aL, dP, aP, aN, bC, aR, cI, aF, bZ, bU, bL, bD, bA, cX, aI, bM, aS, aU, aQ, aG, dG, cO, bO, aO, cW, bV, bY, cG, bP, bR, bK, cH, bF, cB, aZ, bJ, bH, bG, cA, hd]
  exact hR
theorem JJ (s : ByteArray) (hs : s.size <= 1099511627776) (w0 : RM) (R : RN -> RM -> Prop) (x : Int) (i : Nat) (hi : i <= s.size)
 (hR : ∀ w, fW w0 w kY -> R (.int .u64 (Ku (J4 x ((Gm s).drop i)))) w) :
 ∀ w, fW w0 w kY -> xD R (.string s) (.int .u64 x) (.int .i64 (i : Int)) w := by
 intro w hx
 obtain ⟨B, hB⟩ : ∃ B, B = (Gm s).drop i := ⟨_, rfl⟩
 have hBl : B.length = s.size - i := by rw [hB, Qy, qA]
 rw [<- hB] at hR
 unfold xD B0 Da
 refine iO.rule (fun n t w' => ∃ j : Nat, 8 * j <= B.length /\ n = B.length - j /\ t = (.int .u64 (e8 x B j), .int .i64 ((i + 8 * j : Nat) : Int)) /\ fW w0 w' kY) B.length ⟨0, by omega, rfl, rfl, hx⟩ ?_
 rintro n t w ⟨j, hj, rfl, rfl, hx⟩
 have hBd : (Gm s).drop (i + 8 * j) = B.drop (8 * j) := by rw [hB, Ra]
 obtain ⟨k, hk⟩ : ∃ k, k = i + 8 * j := ⟨_, rfl⟩
 rw [<- hk] at hBd
 rw [<- hk]
 by_cases h8 : k + 8 <= s.size
 .have hd : decide ((k : Int) + 8 <= (s.size : Int)) = true := by simp; omega
  simp (disch := omega) only [vC, dQ, fE, cQ, stepR_skip, eC, fB, eH, eT, eS, eM, fH, eP, dK, eN, eJ, eY, eE, eB, eK, eD, eI, eX, fC, eF, dR, eU, eZ, eA, gA, gB, gC, gG, gE, gF, gD, gH, gI, dH, Result.ok.injEq, Next.value.injEq, true_and, and_true, dZ, dY, fA, eL, eQ, fG, Qp, dS, dW, dV, dT, dN, dM, dO, dL, dI, cY, if_true, if_false, Qm, Qs, Qn, Qo, Qr, Qq, Ql, Qk, cR, cP, cD, bT, cV, dJ, bX, bW, cS, cM, cK, dD, cN, dB, dC, dX, cZ, cC, bE, bQ, aT, aA, aK, dE, aJ, cF, dF, dA, bN, aH, bB, aY, cL, aD, aX, aM, aV, cU, aW, cJ, bS, aC, aE, aL, dP, aP, aN, bC, aR, cI, aF, bZ, bU, bL, bD, bA, cX, aI, bM, aS, aU, aQ, aG, dG, cO, bO, aO, cW, bV, bY, cG, bP, bR, bK, cH, bF, cB, aZ, bJ, bH, bG, cA, hd]
  refine (KL s k 8 (by omega) (by omega) h8 w).mono ?_
  rintro r w1 ⟨rfl, x1⟩
  refine (Ei _ _ _).mono ?_
  rintro r w2 ⟨rfl, rfl⟩
  simp (disch := omega) only [dQ, fE, cQ, stepR_skip, eC, fB, eH, eT, eS, eM, fH, eP, dK, eN, eJ, eY, eE, eB, eK, eD, eI, eX, fC, eF, dR, eU, eZ, eA, gA, gB, gC, gG, gE, gF, gD, gH, gI, dH, Result.ok.injEq, Next.value.injEq, true_and, and_true, dZ, dY, fA, eL, eQ, fG, Qp, dS, dW, dV, dT, dN, dM, dO, dL, dI, cY, if_true, if_false, Qm, Qs, Qn, Qo, Qr, Qq, Ql, Qk, cR, cP, cD, bT, cV, dJ, bX, bW, cS, cM, cK, dD, cN, dB, dC, dX, cZ, cC, bE, bQ, aT, aA, aK, dE, aJ, cF, dF, dA, bN, aH, bB, aY, cL, aD, aX, aM, aV, cU, aW, cJ, bS, aC, aE, aL, dP, aP, aN, bC, aR, cI, aF, bZ, bU, bL, bD, bA, cX, aI, bM, aS, aU, aQ, aG, dG, cO, bO, aO, cW, bV, bY, cG, bP, bR, bK, cH, bF, cB, aZ, bJ, bH, bG, cA]
  refine (vI _ 27 (by omega) _).mono ?_
  rintro r w2 ⟨rfl, rfl⟩
  simp (disch := omega) only [dQ, fE, cQ, stepR_skip, eC, fB, eH, eT, eS, eM, fH, eP, dK, eN, eJ, eY, eE, eB, eK, eD, eI, eX, fC, eF, dR, eU, eZ, eA, gA, gB, gC, gG, gE, gF, gD, gH, gI, dH, Result.ok.injEq, Next.value.injEq, true_and, and_true, dZ, dY, fA, eL, eQ, fG, Qp, dS, dW, dV, dT, dN, dM, dO, dL, dI, cY, if_true, if_false, Qm, Qs, Qn, Qo, Qr, Qq, Ql, Qk, cR, cP, cD, bT, cV, dJ, bX, bW, cS, cM, cK, dD, cN, dB, dC, dX, cZ, cC, bE, bQ, aT, aA, aK, dE, aJ, cF, dF, dA, bN, aH, bB, aY, cL, aD, aX, aM, aV, cU, aW, cJ, bS, aC, aE, aL, dP, aP, aN, bC, aR, cI, aF, bZ, bU, bL, bD, bA, cX, aI, bM, aS, aU, aQ, aG, dG, cO, bO, aO, cW, bV, bY, cG, bP, bR, bK, cH, bF, cB, aZ, bJ, bH, bG, cA]
  refine ⟨B.length - (j + 1), by omega, j + 1, by omega, rfl, ?_, hx.seq x1⟩
  rw [hBd, e8, show i + 8 * (j + 1) = k + 8 from by omega]
  rfl
 .have hd : decide ((k : Int) + 8 <= (s.size : Int)) = false := by simp; omega
  have hj8 : j = B.length / 8 := by omega
  obtain ⟨C, hC⟩ : ∃ C, C = B.drop (8 * j) := ⟨_, rfl⟩
  have hCl : C.length = s.size - k := by rw [hC, Qy]; omega
  have htail : J4 x B = (let r := yB (e8 x B j) C; e1 r.1 r.2 r.2.length) := by rw [hC, hj8] <;> rfl
  rw [htail] at hR
  rw [<- hC] at hBd
  simp (disch := omega) only [vC, CV, C5, dQ, fE, cQ, stepR_skip, eC, fB, eH, eT, eS, eM, fH, eP, dK, eN, eJ, eY, eE, eB, eK, eD, eI, eX, fC, eF, dR, eU, eZ, eA, gA, gB, gC, gG, gE, gF, gD, gH, gI, dH, Result.ok.injEq, Next.value.injEq, true_and, and_true, dZ, dY, fA, eL, eQ, fG, Qp, dS, dW, dV, dT, dN, dM, dO, dL, dI, cY, if_true, if_false, Qm, Qs, Qn, Qo, Qr, Qq, Ql, Qk, cR, cP, cD, bT, cV, dJ, bX, bW, cS, cM, cK, dD, cN, dB, dC, dX, cZ, cC, bE, bQ, aT, aA, aK, dE, aJ, cF, dF, dA, bN, aH, bB, aY, cL, aD, aX, aM, aV, cU, aW, cJ, bS, aC, aE, aL, dP, aP, aN, bC, aR, cI, aF, bZ, bU, bL, bD, bA, cX, aI, bM, aS, aU, aQ, aG, dG, cO, bO, aO, cW, bV, bY, cG, bP, bR, bK, cH, bF, cB, aZ, bJ, bH, bG, cA, hd]
  by_cases h4 : k + 4 <= s.size
  .have hd : decide ((k : Int) + 4 <= (s.size : Int)) = true := by simp; omega
   have ha : yB (e8 x B j) C = (Nh (e8 x B j) (pF (C.take 4)), C.drop 4) := by unfold yB; rw [if_pos (by omega)]
   rw [ha] at hR
   simp (disch := omega) only [dQ, fE, cQ, stepR_skip, eC, fB, eH, eT, eS, eM, fH, eP, dK, eN, eJ, eY, eE, eB, eK, eD, eI, eX, fC, eF, dR, eU, eZ, eA, gA, gB, gC, gG, gE, gF, gD, gH, gI, dH, Result.ok.injEq, Next.value.injEq, true_and, and_true, dZ, dY, fA, eL, eQ, fG, Qp, dS, dW, dV, dT, dN, dM, dO, dL, dI, cY, if_true, if_false, Qm, Qs, Qn, Qo, Qr, Qq, Ql, Qk, cR, cP, cD, bT, cV, dJ, bX, bW, cS, cM, cK, dD, cN, dB, dC, dX, cZ, cC, bE, bQ, aT, aA, aK, dE, aJ, cF, dF, dA, bN, aH, bB, aY, cL, aD, aX, aM, aV, cU, aW, cJ, bS, aC, aE, aL, dP, aP, aN, bC, aR, cI, aF, bZ, bU, bL, bD, bA, cX, aI, bM, aS, aU, aQ, aG, dG, cO, bO, aO, cW, bV, bY, cG, bP, bR, bK, cH, bF, cB, aZ, bJ, bH, bG, cA, hd]
   refine (KL s k 4 (by omega) (by omega) h4 w).mono ?_
   rintro r w1 ⟨rfl, x1⟩
   simp (disch := omega) only [dQ, fE, cQ, stepR_skip, eC, fB, eH, eT, eS, eM, fH, eP, dK, eN, eJ, eY, eE, eB, eK, eD, eI, eX, fC, eF, dR, eU, eZ, eA, gA, gB, gC, gG, gE, gF, gD, gH, gI, dH, Result.ok.injEq, Next.value.injEq, true_and, and_true, dZ, dY, fA, eL, eQ, fG, Qp, dS, dW, dV, dT, dN, dM, dO, dL, dI, cY, if_true, if_false, Qm, Qs, Qn, Qo, Qr, Qq, Ql, Qk, cR, cP, cD, bT, cV, dJ, bX, bW, cS, cM, cK, dD, cN, dB, dC, dX, cZ, cC, bE, bQ, aT, aA, aK, dE, aJ, cF, dF, dA, bN, aH, bB, aY, cL, aD, aX, aM, aV, cU, aW, cJ, bS, aC, aE, aL, dP, aP, aN, bC, aR, cI, aF, bZ, bU, bL, bD, bA, cX, aI, bM, aS, aU, aQ, aG, dG, cO, bO, aO, cW, bV, bY, cG, bP, bR, bK, cH, bF, cB, aZ, bJ, bH, bG, cA]
   refine (vI _ 23 (by omega) _).mono ?_
   rintro r w2 ⟨rfl, rfl⟩
   simp (disch := omega) only [dQ, fE, cQ, stepR_skip, eC, fB, eH, eT, eS, eM, fH, eP, dK, eN, eJ, eY, eE, eB, eK, eD, eI, eX, fC, eF, dR, eU, eZ, eA, gA, gB, gC, gG, gE, gF, gD, gH, gI, dH, Result.ok.injEq, Next.value.injEq, true_and, and_true, dZ, dY, fA, eL, eQ, fG, Qp, dS, dW, dV, dT, dN, dM, dO, dL, dI, cY, if_true, if_false, Qm, Qs, Qn, Qo, Qr, Qq, Ql, Qk, cR, cP, cD, bT, cV, dJ, bX, bW, cS, cM, cK, dD, cN, dB, dC, dX, cZ, cC, bE, bQ, aT, aA, aK, dE, aJ, cF, dF, dA, bN, aH, bB, aY, cL, aD, aX, aM, aV, cU, aW, cJ, bS, aC, aE, aL, dP, aP, aN, bC, aR, cI, aF, bZ, bU, bL, bD, bA, cX, aI, bM, aS, aU, aQ, aG, dG, cO, bO, aO, cW, bV, bY, cG, bP, bR, bK, cH, bF, cB, aZ, bJ, bH, bG, cA]
   have hD : (Gm s).drop (k + 4) = C.drop 4 := by rw [<- hBd, Ra]
   refine Jo s hs _ R _ (k + 4) h4 ?_
   rw [hD, hBd]
   exact hR _ (hx.seq x1)
  .have hd : decide ((k : Int) + 4 <= (s.size : Int)) = false := by simp; omega
   have ha : yB (e8 x B j) C = (e8 x B j, C) := by unfold yB; rw [if_neg (by omega)]
   rw [ha] at hR
   simp (disch := omega) only [dQ, fE, cQ, stepR_skip, eC, fB, eH, eT, eS, eM, fH, eP, dK, eN, eJ, eY, eE, eB, eK, eD, eI, eX, fC, eF, dR, eU, eZ, eA, gA, gB, gC, gG, gE, gF, gD, gH, gI, dH, Result.ok.injEq, Next.value.injEq, true_and, and_true, dZ, dY, fA, eL, eQ, fG, Qp, dS, dW, dV, dT, dN, dM, dO, dL, dI, cY, if_true, if_false, Qm, Qs, Qn, Qo, Qr, Qq, Ql, Qk, cR, cP, cD, bT, cV, dJ, bX, bW, cS, cM, cK, dD, cN, dB, dC, dX, cZ, cC, bE, bQ, aT, aA, aK, dE, aJ, cF, dF, dA, bN, aH, bB, aY, cL, aD, aX, aM, aV, cU, aW, cJ, bS, aC, aE, aL, dP, aP, aN, bC, aR, cI, aF, bZ, bU, bL, bD, bA, cX, aI, bM, aS, aU, aQ, aG, dG, cO, bO, aO, cW, bV, bY, cG, bP, bR, bK, cH, bF, cB, aZ, bJ, bH, bG, cA, hd]
   refine Jo s hs _ R _ k (by omega) ?_
   rw [hBd]
   exact hR _ hx
theorem Mz (s : ByteArray) (vs : List Int) (hv4 : vs.length = 4) (b : Nat) (i : RN) (w : RM) (ho : iL w b (vs.map (Value.int .u64))) (kn : RN -> RN -> RN -> RM -> Prop)
 (hk : kn (.string s) (.int .u64 (jB vs 4)) i (dr w)) :
 xK kn (.string s) i (.pointer (some ⟨b, 0, none⟩)) w := by
 have hod := Bl ho
 have hg : ∀ k, (h : k < 4) -> (vs.map (Value.int .u64))[k]? = some (.int .u64 (vs[k]'(by omega))) := fun k h => by
  simp [show k < vs.length by omega]
 have g0 := hg 0 (by omega)
 have g1 := hg 1 (by omega)
 have g2 := hg 2 (by omega)
 have g3 := hg 3 (by omega)
 have t0 : (0 : Int).toNat = 0 := rfl
 have t1 : (1 : Int).toNat = 1 := rfl
 have t2 : (2 : Int).toNat = 2 := rfl
 have t3 : (3 : Int).toNat = 3 := rfl
 simp (disch := omega) only [xK, B7, dQ, fE, cQ, stepR_skip, eC, fB, eH, eT, eS, eM, fH, eP, dK, eN, eJ, eY, eE, eB, eK, eD, eI, eX, fC, eF, dR, eU, eZ, eA, gA, gB, gC, gG, gE, gF, gD, gH, gI, dH, Result.ok.injEq, Next.value.injEq, true_and, and_true, dZ, dY, fA, eL, eQ, fG, Qp, dS, dW, dV, dT, dN, dM, dO, dL, dI, cY, if_true, if_false, Qm, Qs, Qn, Qo, Qr, Qq, Ql, Qk, cR, cP, cD, bT, cV, dJ, bX, bW, cS, cM, cK, dD, cN, dB, dC, dX, cZ, cC, bE, bQ, aT, aA, aK, dE, aJ, cF, dF, dA, bN, aH, bB, aY, cL, aD, aX, aM, aV, cU, aW, cJ, bS, aC, aE, aL, dP, aP, aN, bC, aR, cI, aF, bZ, bU, bL, bD, bA, cX, aI, bM, aS, aU, aQ, aG, dG, cO, bO, aO, cW, bV, bY, cG, bP, bR, bK, cH, bF, cB, aZ, bJ, bH, bG, cA, t0, t1, t2, t3, hod.cell, g0]
 refine (vI _ 1 (by omega) _).mono ?_
 rintro r w1 ⟨rfl, rfl⟩
 simp (disch := omega) only [dQ, fE, cQ, stepR_skip, eC, fB, eH, eT, eS, eM, fH, eP, dK, eN, eJ, eY, eE, eB, eK, eD, eI, eX, fC, eF, dR, eU, eZ, eA, gA, gB, gC, gG, gE, gF, gD, gH, gI, dH, Result.ok.injEq, Next.value.injEq, true_and, and_true, dZ, dY, fA, eL, eQ, fG, Qp, dS, dW, dV, dT, dN, dM, dO, dL, dI, cY, if_true, if_false, Qm, Qs, Qn, Qo, Qr, Qq, Ql, Qk, cR, cP, cD, bT, cV, dJ, bX, bW, cS, cM, cK, dD, cN, dB, dC, dX, cZ, cC, bE, bQ, aT, aA, aK, dE, aJ, cF, dF, dA, bN, aH, bB, aY, cL, aD, aX, aM, aV, cU, aW, cJ, bS, aC, aE, aL, dP, aP, aN, bC, aR, cI, aF, bZ, bU, bL, bD, bA, cX, aI, bM, aS, aU, aQ, aG, dG, cO, bO, aO, cW, bV, bY, cG, bP, bR, bK, cH, bF, cB, aZ, bJ, bH, bG, cA, t0, t1, t2, t3, hod.cell, g0, g1, g2, g3]
 refine (vI _ 7 (by omega) _).mono ?_
 rintro r w1 ⟨rfl, rfl⟩
 simp (disch := omega) only [dQ, fE, cQ, stepR_skip, eC, fB, eH, eT, eS, eM, fH, eP, dK, eN, eJ, eY, eE, eB, eK, eD, eI, eX, fC, eF, dR, eU, eZ, eA, gA, gB, gC, gG, gE, gF, gD, gH, gI, dH, Result.ok.injEq, Next.value.injEq, true_and, and_true, dZ, dY, fA, eL, eQ, fG, Qp, dS, dW, dV, dT, dN, dM, dO, dL, dI, cY, if_true, if_false, Qm, Qs, Qn, Qo, Qr, Qq, Ql, Qk, cR, cP, cD, bT, cV, dJ, bX, bW, cS, cM, cK, dD, cN, dB, dC, dX, cZ, cC, bE, bQ, aT, aA, aK, dE, aJ, cF, dF, dA, bN, aH, bB, aY, cL, aD, aX, aM, aV, cU, aW, cJ, bS, aC, aE, aL, dP, aP, aN, bC, aR, cI, aF, bZ, bU, bL, bD, bA, cX, aI, bM, aS, aU, aQ, aG, dG, cO, bO, aO, cW, bV, bY, cG, bP, bR, bK, cH, bF, cB, aZ, bJ, bH, bG, cA, t0, t1, t2, t3, hod.cell, g0, g1, g2, g3]
 refine (vI _ 12 (by omega) _).mono ?_
 rintro r w1 ⟨rfl, rfl⟩
 simp (disch := omega) only [dQ, fE, cQ, stepR_skip, eC, fB, eH, eT, eS, eM, fH, eP, dK, eN, eJ, eY, eE, eB, eK, eD, eI, eX, fC, eF, dR, eU, eZ, eA, gA, gB, gC, gG, gE, gF, gD, gH, gI, dH, Result.ok.injEq, Next.value.injEq, true_and, and_true, dZ, dY, fA, eL, eQ, fG, Qp, dS, dW, dV, dT, dN, dM, dO, dL, dI, cY, if_true, if_false, Qm, Qs, Qn, Qo, Qr, Qq, Ql, Qk, cR, cP, cD, bT, cV, dJ, bX, bW, cS, cM, cK, dD, cN, dB, dC, dX, cZ, cC, bE, bQ, aT, aA, aK, dE, aJ, cF, dF, dA, bN, aH, bB, aY, cL, aD, aX, aM, aV, cU, aW, cJ, bS, aC, aE, aL, dP, aP, aN, bC, aR, cI, aF, bZ, bU, bL, bD, bA, cX, aI, bM, aS, aU, aQ, aG, dG, cO, bO, aO, cW, bV, bY, cG, bP, bR, bK, cH, bF, cB, aZ, bJ, bH, bG, cA, t0, t1, t2, t3, hod.cell, g0, g1, g2, g3]
 refine (vI _ 18 (by omega) _).mono ?_
 rintro r w1 ⟨rfl, rfl⟩
 have hj : jA vs 4 = IntKind.u64.wrap (IntKind.u64.wrap (IntKind.u64.wrap (AI (vs[0]'(by omega)) 1 + AI (vs[1]'(by omega)) 7) + AI (vs[2]'(by omega)) 12) + AI (vs[3]'(by omega)) 18) := by
  have hd : ∀ k, (h : k < 4) -> vs.getD k 0 = vs[k]'(by omega) := fun k h => by
   rw [QG, Qv (by omega)] <;> rfl
  have hr := KQ (vs[0]'(by omega)) 1
  have e : IntKind.u64.wrap ((0 : Int) + AI (vs[0]'(by omega)) 1) = AI (vs[0]'(by omega)) 1 := by rw [Int.zero_add]; exact dY hr.1 (by have := hr.2; omega)
  simp only [jA, hd 0 (by omega), hd 1 (by omega), hd 2 (by omega), hd 3 (by omega)]
  show IntKind.u64.wrap (IntKind.u64.wrap (IntKind.u64.wrap (IntKind.u64.wrap ((0 : Int) + AI _ 1) + AI _ 7) + AI _ 12) + AI _ 18) = _
  rw [e]
 simp (disch := omega) only [dQ, fE, cQ, stepR_skip, eC, fB, eH, eT, eS, eM, fH, eP, dK, eN, eJ, eY, eE, eB, eK, eD, eI, eX, fC, eF, dR, eU, eZ, eA, gA, gB, gC, gG, gE, gF, gD, gH, gI, dH, Result.ok.injEq, Next.value.injEq, true_and, and_true, dZ, dY, fA, eL, eQ, fG, Qp, dS, dW, dV, dT, dN, dM, dO, dL, dI, cY, if_true, if_false, Qm, Qs, Qn, Qo, Qr, Qq, Ql, Qk, cR, cP, cD, bT, cV, dJ, bX, bW, cS, cM, cK, dD, cN, dB, dC, dX, cZ, cC, bE, bQ, aT, aA, aK, dE, aJ, cF, dF, dA, bN, aH, bB, aY, cL, aD, aX, aM, aV, cU, aW, cJ, bS, aC, aE, aL, dP, aP, aN, bC, aR, cI, aF, bZ, bU, bL, bD, bA, cX, aI, bM, aS, aU, aQ, aG, dG, cO, bO, aO, cW, bV, bY, cG, bP, bR, bK, cH, bF, cB, aZ, bJ, bH, bG, cA, BD, BA, <- hj]
 refine iO.rule (fun n t w' => ∃ i : Nat, i <= 4 /\ n = 4 - i /\ t = (.int .u64 (jB vs i), .int .i64 (i : Int)) /\ w' = dr w) 4 ⟨0, by omega, rfl, rfl, rfl⟩ ?_
 rintro n t w' ⟨j, hj, rfl, rfl, rfl⟩
 by_cases hlt : j < 4
 .have hd : decide ((j : Int) < 4) = true := by simp; omega
  simp (disch := omega) only [tE, dQ, fE, cQ, stepR_skip, eC, fB, eH, eT, eS, eM, fH, eP, dK, eN, eJ, eY, eE, eB, eK, eD, eI, eX, fC, eF, dR, eU, eZ, eA, gA, gB, gC, gG, gE, gF, gD, gH, gI, dH, Result.ok.injEq, Next.value.injEq, true_and, and_true, dZ, dY, fA, eL, eQ, fG, Qp, dS, dW, dV, dT, dN, dM, dO, dL, dI, cY, if_true, if_false, Qm, Qs, Qn, Qo, Qr, Qq, Ql, Qk, cR, cP, cD, bT, cV, dJ, bX, bW, cS, cM, cK, dD, cN, dB, dC, dX, cZ, cC, bE, bQ, aT, aA, aK, dE, aJ, cF, dF, dA, bN, aH, bB, aY, cL, aD, aX, aM, aV, cU, aW, cJ, bS, aC, aE, aL, dP, aP, aN, bC, aR, cI, aF, bZ, bU, bL, bD, bA, cX, aI, bM, aS, aU, aQ, aG, dG, cO, bO, aO, cW, bV, bY, cG, bP, bR, bK, cH, bF, cB, aZ, bJ, bH, bG, cA, hd, hod.cell, hg j hlt]
  refine (Ei _ _ _).mono ?_
  rintro r w1 ⟨rfl, rfl⟩
  simp (disch := omega) only [dQ, fE, cQ, stepR_skip, eC, fB, eH, eT, eS, eM, fH, eP, dK, eN, eJ, eY, eE, eB, eK, eD, eI, eX, fC, eF, dR, eU, eZ, eA, gA, gB, gC, gG, gE, gF, gD, gH, gI, dH, Result.ok.injEq, Next.value.injEq, true_and, and_true, dZ, dY, fA, eL, eQ, fG, Qp, dS, dW, dV, dT, dN, dM, dO, dL, dI, cY, if_true, if_false, Qm, Qs, Qn, Qo, Qr, Qq, Ql, Qk, cR, cP, cD, bT, cV, dJ, bX, bW, cS, cM, cK, dD, cN, dB, dC, dX, cZ, cC, bE, bQ, aT, aA, aK, dE, aJ, cF, dF, dA, bN, aH, bB, aY, cL, aD, aX, aM, aV, cU, aW, cJ, bS, aC, aE, aL, dP, aP, aN, bC, aR, cI, aF, bZ, bU, bL, bD, bA, cX, aI, bM, aS, aU, aQ, aG, dG, cO, bO, aO, cW, bV, bY, cG, bP, bR, bK, cH, bF, cB, aZ, bJ, bH, bG, cA]
  refine ⟨4 - (j + 1), by omega, j + 1, by omega, rfl, ?_⟩
  have hvd : vs.getD j 0 = vs[j]'(by omega) := by rw [QG, Qv (by omega)] <;> rfl
  rw [jB, hvd]
  rfl
 .have : j = 4 := by omega
  subst this
  have hd : decide (((4 : Nat) : Int) < 4) = false := by simp
  simp (disch := omega) only [tE, dQ, fE, cQ, stepR_skip, eC, fB, eH, eT, eS, eM, fH, eP, dK, eN, eJ, eY, eE, eB, eK, eD, eI, eX, fC, eF, dR, eU, eZ, eA, gA, gB, gC, gG, gE, gF, gD, gH, gI, dH, Result.ok.injEq, Next.value.injEq, true_and, and_true, dZ, dY, fA, eL, eQ, fG, Qp, dS, dW, dV, dT, dN, dM, dO, dL, dI, cY, if_true, if_false, Qm, Qs, Qn, Qo, Qr, Qq, Ql, Qk, cR, cP, cD, bT, cV, dJ, bX, bW, cS, cM, cK, dD, cN, dB, dC, dX, cZ, cC, bE, bQ, aT, aA, aK, dE, aJ, cF, dF, dA, bN, aH, bB, aY, cL, aD, aX, aM, aV, cU, aW, cJ, bS, aC, aE, aL, dP, aP, aN, bC, aR, cI, aF, bZ, bU, bL, bD, bA, cX, aI, bM, aS, aU, aQ, aG, dG, cO, bO, aO, cW, bV, bY, cG, bP, bR, bK, cH, bF, cB, aZ, bJ, bH, bG, cA, hd]
  exact hk
theorem J9 (s : ByteArray) (hs : s.size <= 1099511627776) (w0 : RM) (b : Nat) (hb : w0.heap.size <= b) (kn : RN -> RN -> RN -> RM -> Prop)
 (hk : ∀ w, iL w b ((Ba (s.size / 32) (Gm s)).map (Value.int .u64)) -> fW w0 w kY -> kn (.string s) (.int .i64 ((32 * (s.size / 32) : Nat) : Int)) (.pointer (some ⟨b, 0, none⟩)) w)
 (w : RM) (ho : iL w b (Ox.map (Value.int .u64))) (hx : fW w0 w kY) :
 xJ kn (.string s) (.int .i64 0) (.pointer (some ⟨b, 0, none⟩)) w := by
 unfold xJ BX
 refine iO.rule (fun n t w' => ∃ q : Nat, 32 * q <= s.size /\ n = s.size - q /\ t = .int .i64 ((32 * q : Nat) : Int) /\ iL w' b ((Ba q (Gm s)).map (Value.int .u64)) /\ fW w0 w' kY) s.size ⟨0, by omega, rfl, rfl, ho, hx⟩ ?_
 rintro n t w ⟨q, hq, rfl, rfl, ho, hx⟩
 obtain ⟨i, hi⟩ : ∃ i, i = 32 * q := ⟨_, rfl⟩
 rw [<- hi]
 by_cases hlt : i + 32 <= s.size
 .have hd : decide ((i : Int) + 32 <= (s.size : Int)) = true := by simp; omega
  obtain ⟨S, hS⟩ : ∃ S, S = ((Gm s).drop (32 * q)).take 32 := ⟨_, rfl⟩
  obtain ⟨vs, hvs⟩ : ∃ vs, vs = Ba q (Gm s) := ⟨_, rfl⟩
  have hv4 : vs.length = 4 := by rw [hvs]; exact mI _ _
  have hnext : Ba (q + 1) (Gm s) = A6 vs S 4 := by rw [hvs, hS] <;> rfl
  rw [<- hvs] at ho
  simp (disch := omega) only [sS, xA, wW, BI, xC, xF, wY, xB, dQ, fE, cQ, stepR_skip, eC, fB, eH, eT, eS, eM, fH, eP, dK, eN, eJ, eY, eE, eB, eK, eD, eI, eX, fC, eF, dR, eU, eZ, eA, gA, gB, gC, gG, gE, gF, gD, gH, gI, dH, Result.ok.injEq, Next.value.injEq, true_and, and_true, dZ, dY, fA, eL, eQ, fG, Qp, dS, dW, dV, dT, dN, dM, dO, dL, dI, cY, if_true, if_false, Qm, Qs, Qn, Qo, Qr, Qq, Ql, Qk, cR, cP, cD, bT, cV, dJ, bX, bW, cS, cM, cK, dD, cN, dB, dC, dX, cZ, cC, bE, bQ, aT, aA, aK, dE, aJ, cF, dF, dA, bN, aH, bB, aY, cL, aD, aX, aM, aV, cU, aW, cJ, bS, aC, aE, aL, dP, aP, aN, bC, aR, cI, aF, bZ, bU, bL, bD, bA, cX, aI, bM, aS, aU, aQ, aG, dG, cO, bO, aO, cW, bV, bY, cG, bP, bR, bK, cH, bF, cB, aZ, bJ, bH, bG, cA, hd]
  refine iO.rule (fun n t w' => ∃ k : Nat, k <= 4 /\ n = 4 - k /\ t = .int .i64 (k : Int) /\ iL w' b ((A6 vs S k).map (Value.int .u64)) /\ fW w0 w' kY) 4
   ⟨0, by omega, rfl, rfl, by rw [Iz]; exact ho, hx⟩ ?_
  rintro n t w ⟨k, hk4, rfl, rfl, ho, hx⟩
  by_cases hlk : k < 4
  .have hd : decide ((k : Int) < 4) = true := by simp; omega
   have hod := Bl ho
   have hg : ((A6 vs S k).map (Value.int .u64))[k]? = some (.int .u64 (vs[k]'(by omega))) := by
    rw [Rg, Kb vs S k (by omega)] <;> rfl
   simp (disch := omega) only [sP, dQ, fE, cQ, stepR_skip, eC, fB, eH, eT, eS, eM, fH, eP, dK, eN, eJ, eY, eE, eB, eK, eD, eI, eX, fC, eF, dR, eU, eZ, eA, gA, gB, gC, gG, gE, gF, gD, gH, gI, dH, Result.ok.injEq, Next.value.injEq, true_and, and_true, dZ, dY, fA, eL, eQ, fG, Qp, dS, dW, dV, dT, dN, dM, dO, dL, dI, cY, if_true, if_false, Qm, Qs, Qn, Qo, Qr, Qq, Ql, Qk, cR, cP, cD, bT, cV, dJ, bX, bW, cS, cM, cK, dD, cN, dB, dC, dX, cZ, cC, bE, bQ, aT, aA, aK, dE, aJ, cF, dF, dA, bN, aH, bB, aY, cL, aD, aX, aM, aV, cU, aW, cJ, bS, aC, aE, aL, dP, aP, aN, bC, aR, cI, aF, bZ, bU, bL, bD, bA, cX, aI, bM, aS, aU, aQ, aG, dG, cO, bO, aO, cW, bV, bY, cG, bP, bR, bK, cH, bF, cB, aZ, bJ, bH, bG, cA, hd, hod.cell, hg]
   have hsl : ((Gm s).drop (i + 8 * k)).take 8 = (S.drop (8 * k)).take 8 := by
    rw [hS, List.drop_take, List.take_take, Ra, <- hi, show min 8 (32 - 8 * k) = 8 from by omega]
   refine (KL s (i + 8 * k) 8 (by omega) (by omega) (by omega) (dr w)).mono ?_
   rintro r w1 ⟨rfl, x1⟩
   have o1 := hod.ext x1 (fun h => h)
   rw [hsl]
   simp (disch := omega) only [dQ, fE, cQ, stepR_skip, eC, fB, eH, eT, eS, eM, fH, eP, dK, eN, eJ, eY, eE, eB, eK, eD, eI, eX, fC, eF, dR, eU, eZ, eA, gA, gB, gC, gG, gE, gF, gD, gH, gI, dH, Result.ok.injEq, Next.value.injEq, true_and, and_true, dZ, dY, fA, eL, eQ, fG, Qp, dS, dW, dV, dT, dN, dM, dO, dL, dI, cY, if_true, if_false, Qm, Qs, Qn, Qo, Qr, Qq, Ql, Qk, cR, cP, cD, bT, cV, dJ, bX, bW, cS, cM, cK, dD, cN, dB, dC, dX, cZ, cC, bE, bQ, aT, aA, aK, dE, aJ, cF, dF, dA, bN, aH, bB, aY, cL, aD, aX, aM, aV, cU, aW, cJ, bS, aC, aE, aL, dP, aP, aN, bC, aR, cI, aF, bZ, bU, bL, bD, bA, cX, aI, bM, aS, aU, aQ, aG, dG, cO, bO, aO, cW, bV, bY, cG, bP, bR, bK, cH, bF, cB, aZ, bJ, bH, bG, cA, o1.cell, hg]
   refine (Ei _ _ _).mono ?_
   rintro r w2 ⟨rfl, rfl⟩
   have hbo : w0.heap.size <= b := hb
   refine uP o1 rfl (by rw [Qw, mE]; omega) fun w2 o2 x2 s2 => ?_
   rw [<- List.map_set, JG vs S k (by omega)] at o2
   exact ⟨4 - (k + 1), by omega, k + 1, by omega, rfl, rfl, o2, ((hx.seq (fW.dr _ _)).seq x1).new x2 hb⟩
  .have : k = 4 := by omega
   subst this
   have hd : decide (((4 : Nat) : Int) < 4) = false := by simp
   simp (disch := omega) only [sP, xM, dQ, fE, cQ, stepR_skip, eC, fB, eH, eT, eS, eM, fH, eP, dK, eN, eJ, eY, eE, eB, eK, eD, eI, eX, fC, eF, dR, eU, eZ, eA, gA, gB, gC, gG, gE, gF, gD, gH, gI, dH, Result.ok.injEq, Next.value.injEq, true_and, and_true, dZ, dY, fA, eL, eQ, fG, Qp, dS, dW, dV, dT, dN, dM, dO, dL, dI, cY, if_true, if_false, Qm, Qs, Qn, Qo, Qr, Qq, Ql, Qk, cR, cP, cD, bT, cV, dJ, bX, bW, cS, cM, cK, dD, cN, dB, dC, dX, cZ, cC, bE, bQ, aT, aA, aK, dE, aJ, cF, dF, dA, bN, aH, bB, aY, cL, aD, aX, aM, aV, cU, aW, cJ, bS, aC, aE, aL, dP, aP, aN, bC, aR, cI, aF, bZ, bU, bL, bD, bA, cX, aI, bM, aS, aU, aQ, aG, dG, cO, bO, aO, cW, bV, bY, cG, bP, bR, bK, cH, bF, cB, aZ, bJ, bH, bG, cA, hd]
   rw [<- hnext] at ho
   refine ⟨s.size - (q + 1), by omega, q + 1, by omega, rfl, ?_, ho, hx⟩
   rw [show 32 * (q + 1) = i + 32 from by omega]
   rfl
 .have hd : decide ((i : Int) + 32 <= (s.size : Int)) = false := by simp; omega
  simp (disch := omega) only [sS, xA, wW, BI, xC, xF, wY, xB, dQ, fE, cQ, stepR_skip, eC, fB, eH, eT, eS, eM, fH, eP, dK, eN, eJ, eY, eE, eB, eK, eD, eI, eX, fC, eF, dR, eU, eZ, eA, gA, gB, gC, gG, gE, gF, gD, gH, gI, dH, Result.ok.injEq, Next.value.injEq, true_and, and_true, dZ, dY, fA, eL, eQ, fG, Qp, dS, dW, dV, dT, dN, dM, dO, dL, dI, cY, if_true, if_false, Qm, Qs, Qn, Qo, Qr, Qq, Ql, Qk, cR, cP, cD, bT, cV, dJ, bX, bW, cS, cM, cK, dD, cN, dB, dC, dX, cZ, cC, bE, bQ, aT, aA, aK, dE, aJ, cF, dF, dA, bN, aH, bB, aY, cL, aD, aX, aM, aV, cU, aW, cJ, bS, aC, aE, aL, dP, aP, aN, bC, aR, cI, aF, bZ, bU, bL, bD, bA, cX, aI, bM, aS, aU, aQ, aG, dG, cO, bO, aO, cW, bV, bY, cG, bP, bR, bK, cH, bF, cB, aZ, bJ, bH, bG, cA, hd]
  have : q = s.size / 32 := by omega
  subst this
  rw [hi]
  exact hk _ ho hx
theorem Py (s : ByteArray) (hs : s.size <= 1099511627776) (w : RM) :
 fK pg BZ #[.string s] w (fun r w' => r = .int .u64 (Nt (Gm s)) /\ fW w w' kY) := by
 refine Iv ?_
 have hl : (Gm s).length = s.size := qA s
 unfold J8 Bu B3 Bw BV Bx BT
 by_cases h32 : 32 <= s.size
 .have hd : decide ((32 : Int) <= (s.size : Int)) = true := by simp; omega
  have hd' : decide ((s.size : Int) ≥ 32) = true := by simp; omega
  simp (disch := omega) only [Fp, Bz, By, dQ, fE, cQ, stepR_skip, eC, fB, eH, eT, eS, eM, fH, eP, dK, eN, eJ, eY, eE, eB, eK, eD, eI, eX, fC, eF, dR, eU, eZ, eA, gA, gB, gC, gG, gE, gF, gD, gH, gI, dH, Result.ok.injEq, Next.value.injEq, true_and, and_true, dZ, dY, fA, eL, eQ, fG, Qp, dS, dW, dV, dT, dN, dM, dO, dL, dI, cY, if_true, if_false, Qm, Qs, Qn, Qo, Qr, Qq, Ql, Qk, cR, cP, cD, bT, cV, dJ, bX, bW, cS, cM, cK, dD, cN, dB, dC, dX, cZ, cC, bE, bQ, aT, aA, aK, dE, aJ, cF, dF, dA, bN, aH, bB, aY, cL, aD, aX, aM, aV, cU, aW, cJ, bS, aC, aE, aL, dP, aP, aN, bC, aR, cI, aF, bZ, bU, bL, bD, bA, cX, aI, bM, aS, aU, aQ, aG, dG, cO, bO, aO, cW, bV, bY, cG, bP, bR, bK, cH, bF, cB, aZ, bJ, bH, bG, cA, hd, hd']
  refine Ij fun w1 o1 x1 s1 => ?_
  refine HM o1 rfl (by simp [one]) (by decide) fun w2 o2 x2 s2 => ?_
  refine J9 s hs w _ (QD _) _ (fun w3 o3 x3 => ?_) w2 o2 (x1.new x2 (QD _))
  refine Mz s _ (mI _ _) _ _ w3 o3 _ ?_
  simp (disch := omega) only [wZ, xE, dQ, fE, cQ, stepR_skip, eC, fB, eH, eT, eS, eM, fH, eP, dK, eN, eJ, eY, eE, eB, eK, eD, eI, eX, fC, eF, dR, eU, eZ, eA, gA, gB, gC, gG, gE, gF, gD, gH, gI, dH, Result.ok.injEq, Next.value.injEq, true_and, and_true, dZ, dY, fA, eL, eQ, fG, Qp, dS, dW, dV, dT, dN, dM, dO, dL, dI, cY, if_true, if_false, Qm, Qs, Qn, Qo, Qr, Qq, Ql, Qk, cR, cP, cD, bT, cV, dJ, bX, bW, cS, cM, cK, dD, cN, dB, dC, dX, cZ, cC, bE, bQ, aT, aA, aK, dE, aJ, cF, dF, dA, bN, aH, bB, aY, cL, aD, aX, aM, aV, cU, aW, cJ, bS, aC, aE, aL, dP, aP, aN, bC, aR, cI, aF, bZ, bU, bL, bD, bA, cX, aI, bM, aS, aU, aQ, aG, dG, cO, bO, aO, cW, bV, bY, cG, bP, bR, bK, cH, bF, cB, aZ, bJ, bH, bG, cA]
  refine JJ s hs w _ _ _ (by omega) (fun w4 x4 => ⟨?_, x4⟩) _ (x3.seq (fW.dr _ _))
  unfold Nt Hy
  rw [hl, if_neg (by omega)]
 .have hd : decide ((32 : Int) <= (s.size : Int)) = false := by simp; omega
  have hd' : decide ((s.size : Int) ≥ 32) = false := by simp; omega
  simp (disch := omega) only [B4, wZ, xE, dQ, fE, cQ, stepR_skip, eC, fB, eH, eT, eS, eM, fH, eP, dK, eN, eJ, eY, eE, eB, eK, eD, eI, eX, fC, eF, dR, eU, eZ, eA, gA, gB, gC, gG, gE, gF, gD, gH, gI, dH, Result.ok.injEq, Next.value.injEq, true_and, and_true, dZ, dY, fA, eL, eQ, fG, Qp, dS, dW, dV, dT, dN, dM, dO, dL, dI, cY, if_true, if_false, Qm, Qs, Qn, Qo, Qr, Qq, Ql, Qk, cR, cP, cD, bT, cV, dJ, bX, bW, cS, cM, cK, dD, cN, dB, dC, dX, cZ, cC, bE, bQ, aT, aA, aK, dE, aJ, cF, dF, dA, bN, aH, bB, aY, cL, aD, aX, aM, aV, cU, aW, cJ, bS, aC, aE, aL, dP, aP, aN, bC, aR, cI, aF, bZ, bU, bL, bD, bA, cX, aI, bM, aS, aU, aQ, aG, dG, cO, bO, aO, cW, bV, bY, cG, bP, bR, bK, cH, bF, cB, aZ, bJ, bH, bG, cA, hd, hd']
  refine JJ s hs w _ _ 0 (by omega) (fun w4 x4 => ⟨?_, x4⟩) _ (fW.refl _ _)
  unfold Nt Hy
  have e : IntKind.u64.wrap (2870177450012600261 + (s.size : Int)) = 2870177450012600261 + (s.size : Int) := dY (by omega) (by omega)
  rw [hl, if_pos (by omega), show s.size / 32 = 0 from by omega, e, Nat.mul_zero]
end Go.Proofs.YthohephggmkeeaaDoor
namespace Go.Proofs.YthohephggmkeeaaDoor
open Go Go.En Go.Pu
set_option maxRecDepth 4000
def XN (L : List UInt8) : Nat := (Nt L).toNat
theorem FU (a b : Int) : 0 <= Eh .u64 a b /\ Eh .u64 a b < 2 ^ 64 := by
 unfold Eh
 have h : (BitVec.ofInt IntKind.u64.bits a ^^^ BitVec.ofInt IntKind.u64.bits b).toNat < 2 ^ 64 := BitVec.isLt _
 rw [dY (by omega) (by omega)]
 omega
theorem Ow (L : List UInt8) : XN L < 2 ^ 64 := by
 have := FU
 unfold XN Nt Ku
 simp only []
 generalize IntKind.u64.wrap (Eh .u64 (IntKind.u64.wrap _) _ * 1609587929392839161) = y
 have := FU y (y.fdiv (2 ^ min (32 : Int).toNat IntKind.u64.bits))
 omega
theorem OB (L : List UInt8) : Nt L = (XN L : Int) := by
 have : 0 <= Nt L := by
  unfold Nt Ku
  exact (FU _ _).1
 unfold XN
 omega
theorem PI {x : Nat} (h : x < 2 ^ 64) : vM .u64 (x : Int) 4294967295 = ((x % 2 ^ 32 : Nat) : Int) := by
 unfold vM
 have e : IntKind.u64.bits = 64 := rfl
 have e2 : (4294967295 : Int) = ((2 ^ 32 - 1 : Nat) : Int) := by decide
 rw [e2, e, BitVec.ofInt_natCast, BitVec.ofInt_natCast, BitVec.toNat_and, BitVec.toNat_ofNat, BitVec.toNat_ofNat, QV h, QV (by omega), Rf]
 exact dY (by omega) (by omega)
def IZ (l all : List UInt8) : Except Int (List UInt8) := if l.length < 4 then .error 10 else if kB (l.take 4) ≠ XN all % 2 ^ 32 then .error 13 else .ok (l.drop 4)
def Pr (lo hi pr : Nat) (w : RM) (r : RN) (w' : RM) : Except Int (List UInt8) -> Prop
 | .error e => e ≠ 0 /\ r = .int .i64 e /\ fW w w' (fun y => y = pr)
 | .ok l => r = .int .i64 0 /\ B2 w' lo hi pr l 0 /\ fW w w' (fun y => y = pr)
theorem LZ {p pr lo hi : Nat} {va : RN} {all l : List UInt8} {cs : List RN} {w : RM} (o : iL w p cs) (k0 : cs[0]? = some (.pointer (some ⟨pr, 0, none⟩))) (hr : B2 w lo hi pr l 0) (ha : Bs w va all) (hv : ¬ Gv va (fun y => y = pr)) (hl : l.length <= 1000000) (hall : all.length <= 2000000) :
 fK pg kC #[.pointer (some ⟨p, 0, none⟩), va] w (fun r w' => Pr lo hi pr w r w' (IZ l all)) := by
 refine AB ?_
 unfold wU nN
 refine (HI (n := 4) o k0 hr hl (by omega)).mono ?_
 unfold IZ
 rintro r w1 (⟨h1, rfl, h2⟩ | ⟨h1, v, rfl, hb1, hat, hr1, x1⟩)
 .rw [h2]; clear h2 w1
  have n1 : ((10 : Int) != 0) = true := rfl
  rw [if_pos h1]
  simp (disch := omega) only [dQ, fE, cQ, stepR_skip, eC, fB, eH, eT, eS, eM, fH, eP, dK, eN, eJ, eY, eE, eB, eK, eD, eI, eX, fC, eF, dR, eU, eZ, eA, gA, gB, gC, gG, gE, gF, gD, gH, gI, dH, Result.ok.injEq, Next.value.injEq, true_and, and_true, dZ, dY, fA, eL, eQ, fG, Qp, dS, dW, dV, dT, dN, dM, dO, dL, dI, cY, if_true, if_false, Qm, Qs, Qn, Qo, Qr, Qq, Ql, Qk, cR, cP, cD, bT, cV, dJ, bX, bW, cS, cM, cK, dD, cN, dB, dC, dX, cZ, cC, bE, bQ, aT, aA, aK, dE, aJ, cF, dF, dA, bN, aH, bB, aY, cL, aD, aX, aM, aV, cU, aW, cJ, bS, aC, aE, aL, dP, aP, aN, bC, aR, cI, aF, bZ, bU, bL, bD, bA, cX, aI, bM, aS, aU, aQ, aG, dG, cO, bO, aO, cW, bV, bY, cG, bP, bR, bK, cH, bF, cB, aZ, bJ, bH, bG, cA, n1]
  exact ⟨by decide, rfl, fW.refl _ _⟩
 rw [if_neg (by omega)]
 have n1 : ((0 : Int) != 0) = false := rfl
 simp (disch := omega) only [dQ, fE, cQ, stepR_skip, eC, fB, eH, eT, eS, eM, fH, eP, dK, eN, eJ, eY, eE, eB, eK, eD, eI, eX, fC, eF, dR, eU, eZ, eA, gA, gB, gC, gG, gE, gF, gD, gH, gI, dH, Result.ok.injEq, Next.value.injEq, true_and, and_true, dZ, dY, fA, eL, eQ, fG, Qp, dS, dW, dV, dT, dN, dM, dO, dL, dI, cY, if_true, if_false, Qm, Qs, Qn, Qo, Qr, Qq, Ql, Qk, cR, cP, cD, bT, cV, dJ, bX, bW, cS, cM, cK, dD, cN, dB, dC, dX, cZ, cC, bE, bQ, aT, aA, aK, dE, aJ, cF, dF, dA, bN, aH, bB, aY, cL, aD, aX, aM, aV, cU, aW, cJ, bS, aC, aE, aL, dP, aP, aN, bC, aR, cI, aF, bZ, bU, bL, bD, bA, cX, aI, bM, aS, aU, aQ, aG, dG, cO, bO, aO, cW, bV, bY, cG, bP, bR, bK, cH, bF, cB, aZ, bJ, bH, bG, cA, n1]
 refine (vK hb1 (by rw [Qz]; omega)).mono ?_
 rintro r w2 ⟨p2, rfl, hr2, x2⟩
 have z1 := x1.size
 have hz := hr.lt
 refine (pP (n := 4) hr2 (by rw [Qz]; omega) ⟨by omega, by omega⟩).mono ?_
 rintro r w3 ⟨rfl, hr3, x3⟩
 have ht : tZ (l.take 4) 0 4 = (l.take 4, [], 0) := by
  unfold tZ
  rw [if_neg (by decide), if_neg (by rw [Qz]; omega), QL (by rw [Qz]; omega), RE (by rw [Qz]; omega)]
 rw [ht]
 have h2 : w1.heap.size <= p2 := hr2.1
 have x13 : fW w1 w3 kY := x2.trans x3 fun y hy h => by omega
 refine (OQ all (by omega) va w3 ((ha.ext x1 hv).ext x13 (kQ _))).mono ?_
 rintro r w4 ⟨rfl, x4⟩
 rw [OB]
 have a32 := PI (Ow all)
 obtain ⟨q, hq⟩ : ∃ q, q = kB (l.take 4) := ⟨_, rfl⟩
 rw [<- hq]
 obtain ⟨q2, hq2⟩ : ∃ q, q = XN all % 2 ^ 32 := ⟨_, rfl⟩
 rw [<- hq2] at a32 ⊢
 by_cases he : q = q2
 .have n2 : ((q : Int) != (q2 : Int)) = false := by rw [he]; simp
  rw [if_neg (by simpa using he)]
  simp (disch := omega) only [dQ, fE, cQ, stepR_skip, eC, fB, eH, eT, eS, eM, fH, eP, dK, eN, eJ, eY, eE, eB, eK, eD, eI, eX, fC, eF, dR, eU, eZ, eA, gA, gB, gC, gG, gE, gF, gD, gH, gI, dH, Result.ok.injEq, Next.value.injEq, true_and, and_true, dZ, dY, fA, eL, eQ, fG, Qp, dS, dW, dV, dT, dN, dM, dO, dL, dI, cY, if_true, if_false, Qm, Qs, Qn, Qo, Qr, Qq, Ql, Qk, cR, cP, cD, bT, cV, dJ, bX, bW, cS, cM, cK, dD, cN, dB, dC, dX, cZ, cC, bE, bQ, aT, aA, aK, dE, aJ, cF, dF, dA, bN, aH, bB, aY, cL, aD, aX, aM, aV, cU, aW, cJ, bS, aC, aE, aL, dP, aP, aN, bC, aR, cI, aF, bZ, bU, bL, bD, bA, cX, aI, bM, aS, aU, aQ, aG, dG, cO, bO, aO, cW, bV, bY, cG, bP, bR, bK, cH, bF, cB, aZ, bJ, bH, bG, cA, a32, n2]
  exact ⟨rfl, (hr1.ext x13 fun _ _ _ h => h).ext x4 fun _ _ _ h => h, (x1.trans x13 fun _ _ h => h.elim).trans x4 fun _ _ h => h.elim⟩
 .have n2 : ((q : Int) != (q2 : Int)) = true := by simp; omega
  rw [if_pos he]
  simp (disch := omega) only [dQ, fE, cQ, stepR_skip, eC, fB, eH, eT, eS, eM, fH, eP, dK, eN, eJ, eY, eE, eB, eK, eD, eI, eX, fC, eF, dR, eU, eZ, eA, gA, gB, gC, gG, gE, gF, gD, gH, gI, dH, Result.ok.injEq, Next.value.injEq, true_and, and_true, dZ, dY, fA, eL, eQ, fG, Qp, dS, dW, dV, dT, dN, dM, dO, dL, dI, cY, if_true, if_false, Qm, Qs, Qn, Qo, Qr, Qq, Ql, Qk, cR, cP, cD, bT, cV, dJ, bX, bW, cS, cM, cK, dD, cN, dB, dC, dX, cZ, cC, bE, bQ, aT, aA, aK, dE, aJ, cF, dF, dA, bN, aH, bB, aY, cL, aD, aX, aM, aV, cU, aW, cJ, bS, aC, aE, aL, dP, aP, aN, bC, aR, cI, aF, bZ, bU, bL, bD, bA, cX, aI, bM, aS, aU, aQ, aG, dG, cO, bO, aO, cW, bV, bY, cG, bP, bR, bK, cH, bF, cB, aZ, bJ, bH, bG, cA, a32, n2]
  exact ⟨by decide, rfl, (x1.trans x13 fun _ _ h => h.elim).trans x4 fun _ _ h => h.elim⟩
def zY (h : FH) (l all : List UInt8) : Except Int (List UInt8 × List UInt8) :=
 if h.known = true /\ all.length ≠ h.size then .error 11 else if h.sum = true then (match IZ l all with | .error e => .error e | .ok l' => .ok (all, l')) else .ok (all, l)
structure DM where
 l : List UInt8
 win : Nat
 most : Nat
 out : List UInt8
 fr : Nat
 sk : Nat
def mZ (pr : Nat) (vo : RN) (m : DM) : List RN := [.pointer (some ⟨pr, 0, none⟩), .int .u64 (m.win : Nat), .int .i64 (m.most : Nat), vo, .int .i64 (m.fr : Nat), .int .i64 (m.sk : Nat)]
def Ol (w : RM) (base p : Nat) (m : DM) : Prop :=
 ∃ pr vo lo hi, ∃ O : Nat -> Prop, iL w p (mZ pr vo m) /\ B2 w lo hi pr m.l 0 /\ sG w O 1 vo m.out.length (m.out.map lN) /\ base <= p /\ base <= lo /\ (∀ b, O b -> base <= b /\ b ≠ p /\ ¬ (lo <= b /\ b < hi)) /\ ¬ (lo <= p /\ p < hi) /\ hi <= w.heap.size
theorem NW {w : RM} {S M : Nat -> Prop} {n : Nat} {v : RN} {l : List RN} (h : sG w S 1 v n l) (hM : ∀ b, S b -> ¬ M b) : ¬ Gv v M := by
 rcases h.2 with ⟨rfl, rfl⟩ | ⟨b, c, rest, rfl, h2, _⟩
 .exact fun h => h
 .have := hM b h2
  cases n <;> simp_all [Gv]
def LF (base p : Nat) (w : RM) (dm : DM) (r : RN) (w' : RM) : Except Int (List UInt8 × List UInt8) -> Prop
 | .error e => e ≠ 0 /\ r = .int .i64 e /\ fW w w' (fun y => base <= y)
 | .ok (all, l) => r = .int .i64 0 /\ Ol w' base p ⟨l, dm.win, dm.most, dm.out ++ all, dm.fr + 1, dm.sk⟩ /\ fW w w' (fun y => base <= y)
theorem IE {RR : RN -> RM -> Prop} {base p pr lo hi : Nat} {O : Nat -> Prop} {vo va : RN} {all : List UInt8} {m : DM} {w : RM}
 (o : iL w p (mZ pr vo m)) (hr : B2 w lo hi pr m.l 0) (oo : sG w O 1 vo m.out.length (m.out.map lN)) (hp : base <= p) (hlo : base <= lo) (hO : ∀ b, O b -> base <= b /\ b ≠ p /\ ¬ (lo <= b /\ b < hi)) (q1 : ¬ (lo <= p /\ p < hi)) (hhi : hi <= w.heap.size)
 (ha : Bs w va all) (h1 : m.out.length <= 2000000) (h2 : all.length <= 2000000) (h3 : m.fr <= 2000000)
 (hk : ∀ w', Ol w' base p ⟨m.l, m.win, m.most, m.out ++ all, m.fr + 1, m.sk⟩ -> fW w w' (fun y => base <= y) -> RR (.int .i64 0) w') :
 iS RR (.pointer (some ⟨p, 0, none⟩)) va w := by
 unfold iS
 have hz := o.lt
 have c3 := o.cell (off := 3)
 simp only [mZ, Qk, Ql] at c3
 simp (disch := omega) only [dQ, fE, cQ, stepR_skip, eC, fB, eH, eT, eS, eM, fH, eP, dK, eN, eJ, eY, eE, eB, eK, eD, eI, eX, fC, eF, dR, eU, eZ, eA, gA, gB, gC, gG, gE, gF, gD, gH, gI, dH, Result.ok.injEq, Next.value.injEq, true_and, and_true, dZ, dY, fA, eL, eQ, fG, Qp, dS, dW, dV, dT, dN, dM, dO, dL, dI, cY, if_true, if_false, Qm, Qs, Qn, Qo, Qr, Qq, Ql, Qk, cR, cP, cD, bT, cV, dJ, bX, bW, cS, cM, cK, dD, cN, dB, dC, dX, cZ, cC, bE, bQ, aT, aA, aK, dE, aJ, cF, dF, dA, bN, aH, bB, aY, cL, aD, aX, aM, aV, cU, aW, cJ, bS, aC, aE, aL, dP, aP, aN, bC, aR, cI, aF, bZ, bU, bL, bD, bA, cX, aI, bM, aS, aU, aQ, aG, dG, cO, bO, aO, cW, bV, bY, cG, bP, bR, bK, cH, bF, cB, aZ, bJ, bH, bG, cA, c3]
 refine NS (S := fun b => O b ∨ w.heap.size <= b) (mH oo fun b h _ => .inl h) ha (fun b h => .inr h) (by omega) fun v' w1 o1 x1 => ?_
 have hp1 : ¬ (O p ∨ w.heap.size <= p) := by
  rintro (h | h)
  .exact (hO p h).2.1 rfl
  .omega
 have o2 := o.ext x1 hp1
 obtain ⟨a', c', hv'⟩ := o1.len
 try simp (disch := omega) only [dQ, fE, cQ, stepR_skip, eC, fB, eH, eT, eS, eM, fH, eP, dK, eN, eJ, eY, eE, eB, eK, eD, eI, eX, fC, eF, dR, eU, eZ, eA, gA, gB, gC, gG, gE, gF, gD, gH, gI, dH, Result.ok.injEq, Next.value.injEq, true_and, and_true, dZ, dY, fA, eL, eQ, fG, Qp, dS, dW, dV, dT, dN, dM, dO, dL, dI, cY, if_true, if_false, Qm, Qs, Qn, Qo, Qr, Qq, Ql, Qk, cR, cP, cD, bT, cV, dJ, bX, bW, cS, cM, cK, dD, cN, dB, dC, dX, cZ, cC, bE, bQ, aT, aA, aK, dE, aJ, cF, dF, dA, bN, aH, bB, aY, cL, aD, aX, aM, aV, cU, aW, cJ, bS, aC, aE, aL, dP, aP, aN, bC, aR, cI, aF, bZ, bU, bL, bD, bA, cX, aI, bM, aS, aU, aQ, aG, dG, cO, bO, aO, cW, bV, bY, cG, bP, bR, bK, cH, bF, cB, aZ, bJ, bH, bG, cA]
 refine Gx (off := 3) o2 (by rw [hv'] <;> rfl) (by simp [mZ]) fun w3 o3 x3 s3 => ?_
 simp only [mZ, QB, QC] at o3
 have c4 := o3.cell (off := 4)
 simp only [Qk, Ql] at c4
 have e4 : (m.fr : Int) + 1 = ((m.fr + 1 : Nat) : Int) := by omega
 have w4 : IntKind.i64.wrap ((m.fr + 1 : Nat) : Int) = ((m.fr + 1 : Nat) : Int) := dZ (by omega) (by omega)
 simp (disch := omega) only [dQ, fE, cQ, stepR_skip, eC, fB, eH, eT, eS, eM, fH, eP, dK, eN, eJ, eY, eE, eB, eK, eD, eI, eX, fC, eF, dR, eU, eZ, eA, gA, gB, gC, gG, gE, gF, gD, gH, gI, dH, Result.ok.injEq, Next.value.injEq, true_and, and_true, dZ, dY, fA, eL, eQ, fG, Qp, dS, dW, dV, dT, dN, dM, dO, dL, dI, cY, if_true, if_false, Qm, Qs, Qn, Qo, Qr, Qq, Ql, Qk, cR, cP, cD, bT, cV, dJ, bX, bW, cS, cM, cK, dD, cN, dB, dC, dX, cZ, cC, bE, bQ, aT, aA, aK, dE, aJ, cF, dF, dA, bN, aH, bB, aY, cL, aD, aX, aM, aV, cU, aW, cJ, bS, aC, aE, aL, dP, aP, aN, bC, aR, cI, aF, bZ, bU, bL, bD, bA, cX, aI, bM, aS, aU, aQ, aG, dG, cO, bO, aO, cW, bV, bY, cG, bP, bR, bK, cH, bF, cB, aZ, bJ, bH, bG, cA, c4, e4, w4]
 refine Je (off := 4) o3 rfl (by simp) fun w5 o5 x5 s5 => ?_
 simp only [QB, QC] at o5
 have x35 := x3.seq x5
 have zz1 := x1.size
 have zz3 := x35.size
 have x05 : fW w w5 (fun y => O y ∨ w.heap.size <= y ∨ y = p) := (x1.mono fun y _ h => h.elim .inl fun h => .inr (.inl h)).seq (x35.mono fun y _ h => .inr (.inr h))
 refine hk w5 ⟨pr, v', lo, hi, fun b => (O b ∨ w.heap.size <= b), o5, ?_, o1.ext x35 ?_, hp, hlo, ?_, q1, by omega⟩ (x05.mono ?_)
 .refine hr.ext x05 fun b h1 h2 h => ?_
  rcases h with h | h | h
  .exact (hO b h).2.2 ⟨h1, h2⟩
  .omega
  .exact q1 (h ▸ ⟨h1, h2⟩)
 .intro b h e
  exact hp1 (e ▸ h)
 .rintro b (h | h)
  .exact hO b h
  .exact ⟨by omega, by omega, by omega⟩
 .rintro y hy (h | h | h)
  .exact (hO y h).1
  .omega
  .omega
theorem LI {base p pr ph lo hi : Nat} {O A : Nat -> Prop} {vo va : RN} {all : List UInt8} {m dm : DM} {h : FH} {w0 w : RM}
 (hdm : dm.win = m.win /\ dm.most = m.most /\ dm.out = m.out /\ dm.fr = m.fr /\ dm.sk = m.sk) (hx : fW w0 w (fun y => base <= y))
 (o : iL w p (mZ pr vo m)) (hr : B2 w lo hi pr m.l 0) (oo : sG w O 1 vo m.out.length (m.out.map lN)) (hp : base <= p) (hlo : base <= lo) (hO : ∀ b, O b -> base <= b /\ b ≠ p /\ ¬ (lo <= b /\ b < hi)) (q1 : ¬ (lo <= p /\ p < hi)) (hhi : hi <= w.heap.size)
 (oh : iL w ph (Bj h)) (ha : sG w A 1 va all.length (all.map lN)) (hA : ∀ b, A b -> ¬ (lo <= b /\ b < hi)) (h1 : m.out.length <= 2000000) (h2 : all.length <= 2000000) (h3 : m.fr <= 2000000) (hl : m.l.length <= 1000000) (hsz : h.size < 2 ^ 64) :
 kD (fun r w' => LF base p w0 dm r w' (zY h m.l all)) (.pointer (some ⟨p, 0, none⟩)) (.pointer (some ⟨ph, 0, none⟩)) va w := by
 obtain ⟨RR, hRR⟩ : ∃ RR : RN -> RM -> Prop, RR = fun r w' => LF base p w0 dm r w' (zY h m.l all) := ⟨_, rfl⟩
 rw [<- hRR]
 unfold kD oU
 have c2 := oh.cell (off := 2)
 have c1 := oh.cell (off := 1)
 have c3 := oh.cell (off := 3)
 simp only [Bj, Qk, Ql] at c1 c2 c3
 obtain ⟨a', c', hva⟩ := ha.len
 have hb : Bs w va all := H8 ha
 have wl : IntKind.u64.wrap (all.length : Int) = all.length := dY (by omega) (by omega)
 have hpr : lo <= pr /\ pr < hi := ⟨hr.1, hr.2.1⟩
 have hnp : ¬ Gv va (fun y => y = pr) := NW ha fun b hb e => hA b hb (e ▸ hpr)
 have fin : ¬ (h.known = true /\ all.length ≠ h.size) -> kK (.bool h.sum) (fK pg kC #[.pointer (some ⟨p, 0, none⟩), va] w fun t105 w => dQ pg (fD .neq 26 (.tmp 106) (.const (.int .i64 0)) t105 (.int .i64 0)) w fun t107 w => kK t107 (RR t105 w) (iS RR (.pointer (some ⟨p, 0, none⟩)) va w)) (iS RR (.pointer (some ⟨p, 0, none⟩)) va w) := by
  intro hn
  cases hs : h.sum with
  | false =>
    simp (disch := omega) only [dQ, fE, cQ, stepR_skip, eC, fB, eH, eT, eS, eM, fH, eP, dK, eN, eJ, eY, eE, eB, eK, eD, eI, eX, fC, eF, dR, eU, eZ, eA, gA, gB, gC, gG, gE, gF, gD, gH, gI, dH, Result.ok.injEq, Next.value.injEq, true_and, and_true, dZ, dY, fA, eL, eQ, fG, Qp, dS, dW, dV, dT, dN, dM, dO, dL, dI, cY, if_true, if_false, Qm, Qs, Qn, Qo, Qr, Qq, Ql, Qk, cR, cP, cD, bT, cV, dJ, bX, bW, cS, cM, cK, dD, cN, dB, dC, dX, cZ, cC, bE, bQ, aT, aA, aK, dE, aJ, cF, dF, dA, bN, aH, bB, aY, cL, aD, aX, aM, aV, cU, aW, cJ, bS, aC, aE, aL, dP, aP, aN, bC, aR, cI, aF, bZ, bU, bL, bD, bA, cX, aI, bM, aS, aU, aQ, aG, dG, cO, bO, aO, cW, bV, bY, cG, bP, bR, bK, cH, bF, cB, aZ, bJ, bH, bG, cA]
    refine IE o hr oo hp hlo hO q1 hhi hb h1 h2 h3 fun w' hd x => ?_
    rw [hRR]
    unfold zY
    rw [if_neg hn, if_neg (by rw [hs]; simp)]
    refine ⟨rfl, ?_, hx.seq x⟩
    rw [hdm.1, hdm.2.1, hdm.2.2.1, hdm.2.2.2.1, hdm.2.2.2.2]
    exact hd
  | true =>
    simp (disch := omega) only [dQ, fE, cQ, stepR_skip, eC, fB, eH, eT, eS, eM, fH, eP, dK, eN, eJ, eY, eE, eB, eK, eD, eI, eX, fC, eF, dR, eU, eZ, eA, gA, gB, gC, gG, gE, gF, gD, gH, gI, dH, Result.ok.injEq, Next.value.injEq, true_and, and_true, dZ, dY, fA, eL, eQ, fG, Qp, dS, dW, dV, dT, dN, dM, dO, dL, dI, cY, if_true, if_false, Qm, Qs, Qn, Qo, Qr, Qq, Ql, Qk, cR, cP, cD, bT, cV, dJ, bX, bW, cS, cM, cK, dD, cN, dB, dC, dX, cZ, cC, bE, bQ, aT, aA, aK, dE, aJ, cF, dF, dA, bN, aH, bB, aY, cL, aD, aX, aM, aV, cU, aW, cJ, bS, aC, aE, aL, dP, aP, aN, bC, aR, cI, aF, bZ, bU, bL, bD, bA, cX, aI, bM, aS, aU, aQ, aG, dG, cO, bO, aO, cW, bV, bY, cG, bP, bR, bK, cH, bF, cB, aZ, bJ, bH, bG, cA]
    refine (LZ o (by rfl) hr hb hnp hl h2).mono ?_
    intro r w1 hs1
    have hdt : zY h m.l all = match IZ m.l all with | .error e => .error e | .ok l' => .ok (all, l') := by
     unfold zY
     rw [if_neg hn, if_pos hs]
     try rfl
    cases hd : IZ m.l all with
    | error e =>
      rw [hd] at hs1
      obtain ⟨he, rfl, x1⟩ := hs1
      have n1 : (e != 0) = true := by simp [he]
      simp (disch := omega) only [dQ, fE, cQ, stepR_skip, eC, fB, eH, eT, eS, eM, fH, eP, dK, eN, eJ, eY, eE, eB, eK, eD, eI, eX, fC, eF, dR, eU, eZ, eA, gA, gB, gC, gG, gE, gF, gD, gH, gI, dH, Result.ok.injEq, Next.value.injEq, true_and, and_true, dZ, dY, fA, eL, eQ, fG, Qp, dS, dW, dV, dT, dN, dM, dO, dL, dI, cY, if_true, if_false, Qm, Qs, Qn, Qo, Qr, Qq, Ql, Qk, cR, cP, cD, bT, cV, dJ, bX, bW, cS, cM, cK, dD, cN, dB, dC, dX, cZ, cC, bE, bQ, aT, aA, aK, dE, aJ, cF, dF, dA, bN, aH, bB, aY, cL, aD, aX, aM, aV, cU, aW, cJ, bS, aC, aE, aL, dP, aP, aN, bC, aR, cI, aF, bZ, bU, bL, bD, bA, cX, aI, bM, aS, aU, aQ, aG, dG, cO, bO, aO, cW, bV, bY, cG, bP, bR, bK, cH, bF, cB, aZ, bJ, bH, bG, cA, n1]
      rw [hRR, hdt, hd]
      exact ⟨he, rfl, hx.seq (x1.mono fun y _ h => by omega)⟩
    | ok l' =>
      rw [hd] at hs1
      obtain ⟨rfl, hr1, x1⟩ := hs1
      have n1 : ((0 : Int) != 0) = false := rfl
      simp (disch := omega) only [dQ, fE, cQ, stepR_skip, eC, fB, eH, eT, eS, eM, fH, eP, dK, eN, eJ, eY, eE, eB, eK, eD, eI, eX, fC, eF, dR, eU, eZ, eA, gA, gB, gC, gG, gE, gF, gD, gH, gI, dH, Result.ok.injEq, Next.value.injEq, true_and, and_true, dZ, dY, fA, eL, eQ, fG, Qp, dS, dW, dV, dT, dN, dM, dO, dL, dI, cY, if_true, if_false, Qm, Qs, Qn, Qo, Qr, Qq, Ql, Qk, cR, cP, cD, bT, cV, dJ, bX, bW, cS, cM, cK, dD, cN, dB, dC, dX, cZ, cC, bE, bQ, aT, aA, aK, dE, aJ, cF, dF, dA, bN, aH, bB, aY, cL, aD, aX, aM, aV, cU, aW, cJ, bS, aC, aE, aL, dP, aP, aN, bC, aR, cI, aF, bZ, bU, bL, bD, bA, cX, aI, bM, aS, aU, aQ, aG, dG, cO, bO, aO, cW, bV, bY, cG, bP, bR, bK, cH, bF, cB, aZ, bJ, bH, bG, cA, n1]
      have z1 := x1.size
      refine IE (m := ⟨l', m.win, m.most, m.out, m.fr, m.sk⟩) (o.ext x1 fun e => q1 (e ▸ hpr)) hr1 (oo.ext x1 fun b hb e => (hO b hb).2.2 (e ▸ hpr)) hp hlo hO q1 (by omega) (hb.ext x1 hnp) h1 h2 h3 fun w' hd' x => ?_
      rw [hRR, hdt, hd]
      refine ⟨rfl, ?_, hx.seq ((x1.mono fun y _ h => by omega).seq x)⟩
      rw [hdm.1, hdm.2.1, hdm.2.2.1, hdm.2.2.2.1, hdm.2.2.2.2]
      exact hd'
 cases hkn : h.known with
 | false =>
   rw [hkn] at c2
   have := fin (by rw [hkn]; simp)
   subst hva
   simp (disch := omega) only [dQ, fE, cQ, stepR_skip, eC, fB, eH, eT, eS, eM, fH, eP, dK, eN, eJ, eY, eE, eB, eK, eD, eI, eX, fC, eF, dR, eU, eZ, eA, gA, gB, gC, gG, gE, gF, gD, gH, gI, dH, Result.ok.injEq, Next.value.injEq, true_and, and_true, dZ, dY, fA, eL, eQ, fG, Qp, dS, dW, dV, dT, dN, dM, dO, dL, dI, cY, if_true, if_false, Qm, Qs, Qn, Qo, Qr, Qq, Ql, Qk, cR, cP, cD, bT, cV, dJ, bX, bW, cS, cM, cK, dD, cN, dB, dC, dX, cZ, cC, bE, bQ, aT, aA, aK, dE, aJ, cF, dF, dA, bN, aH, bB, aY, cL, aD, aX, aM, aV, cU, aW, cJ, bS, aC, aE, aL, dP, aP, aN, bC, aR, cI, aF, bZ, bU, bL, bD, bA, cX, aI, bM, aS, aU, aQ, aG, dG, cO, bO, aO, cW, bV, bY, cG, bP, bR, bK, cH, bF, cB, aZ, bJ, bH, bG, cA, c2, c3]
   exact this
 | true =>
   rw [hkn] at c2
   subst hva
   by_cases he : all.length = h.size
   .have n1 : ((all.length : Int) != (h.size : Int)) = false := by rw [he]; simp
    have := fin (by simp [he])
    simp (disch := omega) only [dQ, fE, cQ, stepR_skip, eC, fB, eH, eT, eS, eM, fH, eP, dK, eN, eJ, eY, eE, eB, eK, eD, eI, eX, fC, eF, dR, eU, eZ, eA, gA, gB, gC, gG, gE, gF, gD, gH, gI, dH, Result.ok.injEq, Next.value.injEq, true_and, and_true, dZ, dY, fA, eL, eQ, fG, Qp, dS, dW, dV, dT, dN, dM, dO, dL, dI, cY, if_true, if_false, Qm, Qs, Qn, Qo, Qr, Qq, Ql, Qk, cR, cP, cD, bT, cV, dJ, bX, bW, cS, cM, cK, dD, cN, dB, dC, dX, cZ, cC, bE, bQ, aT, aA, aK, dE, aJ, cF, dF, dA, bN, aH, bB, aY, cL, aD, aX, aM, aV, cU, aW, cJ, bS, aC, aE, aL, dP, aP, aN, bC, aR, cI, aF, bZ, bU, bL, bD, bA, cX, aI, bM, aS, aU, aQ, aG, dG, cO, bO, aO, cW, bV, bY, cG, bP, bR, bK, cH, bF, cB, aZ, bJ, bH, bG, cA, c2, c3, c1, wl, n1]
    exact this
   .have n1 : ((all.length : Int) != (h.size : Int)) = true := by simp; omega
    simp (disch := omega) only [dQ, fE, cQ, stepR_skip, eC, fB, eH, eT, eS, eM, fH, eP, dK, eN, eJ, eY, eE, eB, eK, eD, eI, eX, fC, eF, dR, eU, eZ, eA, gA, gB, gC, gG, gE, gF, gD, gH, gI, dH, Result.ok.injEq, Next.value.injEq, true_and, and_true, dZ, dY, fA, eL, eQ, fG, Qp, dS, dW, dV, dT, dN, dM, dO, dL, dI, cY, if_true, if_false, Qm, Qs, Qn, Qo, Qr, Qq, Ql, Qk, cR, cP, cD, bT, cV, dJ, bX, bW, cS, cM, cK, dD, cN, dB, dC, dX, cZ, cC, bE, bQ, aT, aA, aK, dE, aJ, cF, dF, dA, bN, aH, bB, aY, cL, aD, aX, aM, aV, cU, aW, cJ, bS, aC, aE, aL, dP, aP, aN, bC, aR, cI, aF, bZ, bU, bL, bD, bA, cX, aI, bM, aS, aU, aQ, aG, dG, cO, bO, aO, cW, bV, bY, cG, bP, bR, bK, cH, bF, cB, aZ, bJ, bH, bG, cA, c2, c3, c1, wl, n1]
    rw [hRR]
    unfold zY
    rw [if_pos ⟨hkn, he⟩]
    exact ⟨by decide, rfl, hx⟩
def AZ (h : FH) (room : Nat) : Nat -> List UInt8 -> List UInt8 -> Option (Except Int (List UInt8 × List UInt8))
 | 0, _, _ => none
 | f + 1, l, all => match He l all h.window room with
   | none => none
   | some (.error e) => some (.error e)
   | some (.ok (a, l', b)) => if h.known = true /\ h.size < a.length then some (.error 11) else if b then some (.ok (a, l')) else AZ h room f l' a
def Mk (h : FH) : Except Int (List UInt8 × List UInt8) -> Except Int (List UInt8 × List UInt8)
 | .error e => .error e
 | .ok (a, l') => zY h l' a
theorem MS {l all : List UInt8} {win room : Nat} {e : Int} (h : He l all win room = some (.error e)) : e ≠ 0 := by
 unfold He at h
 repeat' split at h
 all_goals first | (cases h; decide) | cases h
theorem Lx {l all a l' : List UInt8} {win room : Nat} {b : Bool} (h : He l all win room = some (.ok (a, l', b))) : a.length <= room /\ l'.length <= l.length := by
 unfold He at h
 repeat' split at h
 all_goals first | cases h | skip
 rw [Qt, Qy]
 omega
theorem L8 {base p pr ph pq lo hi aB f : Nat} {O : Nat -> Prop} {vo va : RN} {all : List UInt8} {m dm : DM} {h : FH} {w0 w : RM} {mm : Except Int (List UInt8 × List UInt8)}
 (hdm : dm.win = m.win /\ dm.most = m.most /\ dm.out = m.out /\ dm.fr = m.fr /\ dm.sk = m.sk) (hx : fW w0 w (fun y => base <= y))
 (o : iL w p (mZ pr vo m)) (hr : B2 w lo hi pr m.l 0) (oo : sG w O 1 vo m.out.length (m.out.map lN)) (hp : base <= p) (hlo : base <= lo) (hO : ∀ b, O b -> base <= b /\ b ≠ p /\ ¬ (lo <= b /\ b < hi) /\ b < aB) (hpq : base <= pq /\ pq ≠ p /\ pq ≠ ph /\ ¬ O pq) (q1 : ¬ (lo <= p /\ p < hi)) (q2 : ¬ (lo <= ph /\ ph < hi)) (q3 : ¬ (lo <= pq /\ pq < hi)) (hb : p < aB /\ ph < aB /\ pq < aB /\ hi <= aB /\ base <= aB /\ aB <= w.heap.size)
 (oh : iL w ph (Bj h)) (og : iL w pq gL) (ha : sG w (fun b => aB <= b) 1 va all.length (all.map lN)) (h1 : m.out.length <= m.most) (h2 : all.length <= 2000000) (h3 : m.fr <= 2000000) (hmost : m.most <= 2000000) (hl : m.l.length <= 1000000) (hsz : h.size < 2 ^ 64)
 (hm : AZ h (m.most - m.out.length) f m.l all = some mm) :
 kF (fun r w' => LF base p w0 dm r w' (Mk h mm)) (.pointer (some ⟨p, 0, none⟩)) (.pointer (some ⟨ph, 0, none⟩)) (.pointer (some ⟨pq, 0, none⟩)) va w := by
 obtain ⟨RR, hRR⟩ : ∃ RR : RN -> RM -> Prop, RR = fun r w' => LF base p w0 dm r w' (Mk h mm) := ⟨_, rfl⟩
 rw [<- hRR]
 unfold kF oF oL
 refine iO.rule (fun f (va : RN) w1 => ∃ all l, AZ h (m.most - m.out.length) f l all = some mm /\ fW w w1 (fun y => aB <= y ∨ y = pr ∨ y = pq) /\ B2 w1 lo hi pr l 0 /\ sG w1 (fun b => aB <= b) 1 va all.length (all.map lN) /\ iL w1 pq gL /\ all.length <= 2000000 /\ l.length <= 1000000) f
  ⟨all, m.l, hm, fW.refl _ _, hr, ha, og, h2, hl⟩ ?_
 clear hm ha og hl h2 hr all
 rintro f va w1 ⟨all, l, hm, x1, hr, ha, og, h2, hl⟩
 have hpr : lo <= pr /\ pr < hi := ⟨hr.1, hr.2.1⟩
 have z1 := x1.size
 have hnp : ¬ (aB <= p ∨ p = pr ∨ p = pq) := by omega
 have hnh : ¬ (aB <= ph ∨ ph = pr ∨ ph = pq) := by omega
 have hnO : ∀ b, O b -> ¬ (aB <= b ∨ b = pr ∨ b = pq) := by
  rintro b hb (h | h | h)
  .have := (hO b hb).2.2.2; omega
  .exact (hO b hb).2.2.1 (h ▸ hpr)
  .exact hpq.2.2.2 (h ▸ hb)
 have o1 := o.ext x1 hnp
 have oh1 := oh.ext x1 hnh
 have oo1 := oo.ext x1 hnO
 cases f with
 | zero => cases hm
 | succ f =>
   rw [AZ] at hm
   unfold lS
   have hg := uI (off := 0) og (by simp [gL])
   simp only [gL, QN, QI, QP] at hg
   have c0 := oh1.cell (off := 0)
   have c1 := oh1.cell (off := 1)
   have c2 := oh1.cell (off := 2)
   simp only [Bj, Qk, Ql] at c0 c1 c2
   simp (disch := omega) only [dQ, fE, cQ, stepR_skip, eC, fB, eH, eT, eS, eM, fH, eP, dK, eN, eJ, eY, eE, eB, eK, eD, eI, eX, fC, eF, dR, eU, eZ, eA, gA, gB, gC, gG, gE, gF, gD, gH, gI, dH, Result.ok.injEq, Next.value.injEq, true_and, and_true, dZ, dY, fA, eL, eQ, fG, Qp, dS, dW, dV, dT, dN, dM, dO, dL, dI, cY, if_true, if_false, Qm, Qs, Qn, Qo, Qr, Qq, Ql, Qk, cR, cP, cD, bT, cV, dJ, bX, bW, cS, cM, cK, dD, cN, dB, dC, dX, cZ, cC, bE, bQ, aT, aA, aK, dE, aJ, cF, dF, dA, bN, aH, bB, aY, cL, aD, aX, aM, aV, cU, aW, cJ, bS, aC, aE, aL, dP, aP, aN, bC, aR, cI, aF, bZ, bU, bL, bD, bA, cX, aI, bM, aS, aU, aQ, aG, dG, cO, bO, aO, cW, bV, bY, cG, bP, bR, bK, cH, bF, cB, aZ, bJ, bH, bG, cA, hg, c0]
   obtain ⟨mb, hmb⟩ : ∃ mb, He l all h.window (m.most - m.out.length) = some mb := by
    cases hd : He l all h.window (m.most - m.out.length) with
    | none => rw [hd] at hm; cases hm
    | some mb => exact ⟨mb, rfl⟩
   rw [hmb] at hm
   refine (M0 (n := m.out.length) (most := m.most) o1 rfl rfl rfl oo1.len hr ha (fun b h => ⟨by omega, by omega⟩) (fun b h => by omega) (by omega) q1 h1 hl h2 hmost hmb).mono ?_
   intro r w2 hb2
   cases mb with
   | error e =>
     have he := MS hmb
     cases hm
     obtain ⟨rfl, x2⟩ := hb2
     have n1 : (e != 0) = true := by simp [he]
     unfold Pw
     simp (disch := omega) only [dQ, fE, cQ, stepR_skip, eC, fB, eH, eT, eS, eM, fH, eP, dK, eN, eJ, eY, eE, eB, eK, eD, eI, eX, fC, eF, dR, eU, eZ, eA, gA, gB, gC, gG, gE, gF, gD, gH, gI, dH, Result.ok.injEq, Next.value.injEq, true_and, and_true, dZ, dY, fA, eL, eQ, fG, Qp, dS, dW, dV, dT, dN, dM, dO, dL, dI, cY, if_true, if_false, Qm, Qs, Qn, Qo, Qr, Qq, Ql, Qk, cR, cP, cD, bT, cV, dJ, bX, bW, cS, cM, cK, dD, cN, dB, dC, dX, cZ, cC, bE, bQ, aT, aA, aK, dE, aJ, cF, dF, dA, bN, aH, bB, aY, cL, aD, aX, aM, aV, cU, aW, cJ, bS, aC, aE, aL, dP, aP, aN, bC, aR, cI, aF, bZ, bU, bL, bD, bA, cX, aI, bM, aS, aU, aQ, aG, dG, cO, bO, aO, cW, bV, bY, cG, bP, bR, bK, cH, bF, cB, aZ, bJ, bH, bG, cA, n1]
     have og2 : iL w2 pq gL := og.ext x2 (by omega)
     refine jE og2 rfl (by simp [one]) (by simp [gL]) fun w3 o3 x3 s3 => ?_
     try simp (disch := omega) only [dQ, fE, cQ, stepR_skip, eC, fB, eH, eT, eS, eM, fH, eP, dK, eN, eJ, eY, eE, eB, eK, eD, eI, eX, fC, eF, dR, eU, eZ, eA, gA, gB, gC, gG, gE, gF, gD, gH, gI, dH, Result.ok.injEq, Next.value.injEq, true_and, and_true, dZ, dY, fA, eL, eQ, fG, Qp, dS, dW, dV, dT, dN, dM, dO, dL, dI, cY, if_true, if_false, Qm, Qs, Qn, Qo, Qr, Qq, Ql, Qk, cR, cP, cD, bT, cV, dJ, bX, bW, cS, cM, cK, dD, cN, dB, dC, dX, cZ, cC, bE, bQ, aT, aA, aK, dE, aJ, cF, dF, dA, bN, aH, bB, aY, cL, aD, aX, aM, aV, cU, aW, cJ, bS, aC, aE, aL, dP, aP, aN, bC, aR, cI, aF, bZ, bU, bL, bD, bA, cX, aI, bM, aS, aU, aQ, aG, dG, cO, bO, aO, cW, bV, bY, cG, bP, bR, bK, cH, bF, cB, aZ, bJ, bH, bG, cA, n1]
     rw [hRR]
     exact ⟨he, rfl, hx.seq ((((x1.mono fun y _ h => by omega).seq (x2.mono fun y _ h => by omega))).seq (x3.mono fun y _ h => by omega))⟩
   | ok t =>
     obtain ⟨a, l', b⟩ := t
     obtain ⟨v, rfl, o2, hr2, x2⟩ := hb2
     have hlen := Lx hmb
     have n1 : ((0 : Int) != 0) = false := rfl
     have z2 := x2.size
     have og2 := og.ext x2 (by omega)
     obtain ⟨av, cv, hv⟩ := o2.len
     unfold Pq
     subst hv
     simp (disch := omega) only [dQ, fE, cQ, stepR_skip, eC, fB, eH, eT, eS, eM, fH, eP, dK, eN, eJ, eY, eE, eB, eK, eD, eI, eX, fC, eF, dR, eU, eZ, eA, gA, gB, gC, gG, gE, gF, gD, gH, gI, dH, Result.ok.injEq, Next.value.injEq, true_and, and_true, dZ, dY, fA, eL, eQ, fG, Qp, dS, dW, dV, dT, dN, dM, dO, dL, dI, cY, if_true, if_false, Qm, Qs, Qn, Qo, Qr, Qq, Ql, Qk, cR, cP, cD, bT, cV, dJ, bX, bW, cS, cM, cK, dD, cN, dB, dC, dX, cZ, cC, bE, bQ, aT, aA, aK, dE, aJ, cF, dF, dA, bN, aH, bB, aY, cL, aD, aX, aM, aV, cU, aW, cJ, bS, aC, aE, aL, dP, aP, aN, bC, aR, cI, aF, bZ, bU, bL, bD, bA, cX, aI, bM, aS, aU, aQ, aG, dG, cO, bO, aO, cW, bV, bY, cG, bP, bR, bK, cH, bF, cB, aZ, bJ, bH, bG, cA, n1]
     refine jE og2 rfl (by simp [one]) (by simp [gL]) fun w3 o3 x3 s3 => ?_
     simp only [gO, gL, QB, QC] at o3
     have x13 : fW w w3 (fun y => aB <= y ∨ y = pr ∨ y = pq) := (x1.seq (x2.mono fun y _ h => by omega)).seq (x3.mono fun y _ h => by omega)
     have oh3 := oh.ext x13 hnh
     have d0 := oh3.cell (off := 0)
     have d1 := oh3.cell (off := 1)
     have d2 := oh3.cell (off := 2)
     simp only [Bj, Qk, Ql] at d0 d1 d2
     have o3' := o.ext x13 hnp
     have hr3 := hr2.ext x3 (fun b h1 h2 h => by omega)
     have o2' := o2.ext x3 (fun b h1 h => by omega)
     have wl : IntKind.u64.wrap (a.length : Int) = a.length := dY (by omega) (by omega)
     have go : ¬ (h.known = true /\ h.size < a.length) -> kK (.bool b) (kD RR (.pointer (some ⟨p, 0, none⟩)) (.pointer (some ⟨ph, 0, none⟩)) (.slice av a.length cv) w3) (∃ P8, P8 < f + 1 /\ ∃ all l, AZ h (m.most - m.out.length) P8 l all = some mm /\ fW w w3 (fun y => aB <= y ∨ y = pr ∨ y = pq) /\ B2 w3 lo hi pr l 0 /\ sG w3 (fun b => aB <= b) 1 (.slice av a.length cv) all.length (all.map lN) /\ iL w3 pq gL /\ all.length <= 2000000 /\ l.length <= 1000000) := by
      intro hn
      simp only [if_neg hn] at hm
      cases b with
      | true =>
        cases hm
        simp (disch := omega) only [dQ, fE, cQ, stepR_skip, eC, fB, eH, eT, eS, eM, fH, eP, dK, eN, eJ, eY, eE, eB, eK, eD, eI, eX, fC, eF, dR, eU, eZ, eA, gA, gB, gC, gG, gE, gF, gD, gH, gI, dH, Result.ok.injEq, Next.value.injEq, true_and, and_true, dZ, dY, fA, eL, eQ, fG, Qp, dS, dW, dV, dT, dN, dM, dO, dL, dI, cY, if_true, if_false, Qm, Qs, Qn, Qo, Qr, Qq, Ql, Qk, cR, cP, cD, bT, cV, dJ, bX, bW, cS, cM, cK, dD, cN, dB, dC, dX, cZ, cC, bE, bQ, aT, aA, aK, dE, aJ, cF, dF, dA, bN, aH, bB, aY, cL, aD, aX, aM, aV, cU, aW, cJ, bS, aC, aE, aL, dP, aP, aN, bC, aR, cI, aF, bZ, bU, bL, bD, bA, cX, aI, bM, aS, aU, aQ, aG, dG, cO, bO, aO, cW, bV, bY, cG, bP, bR, bK, cH, bF, cB, aZ, bJ, bH, bG, cA]
        rw [hRR]
        exact LI (m := ⟨l', m.win, m.most, m.out, m.fr, m.sk⟩) hdm (hx.seq (x13.mono fun y _ h => by omega)) o3' hr3 (oo.ext x13 hnO) hp hlo (fun b hb => ⟨(hO b hb).1, (hO b hb).2.1, (hO b hb).2.2.1⟩) q1 (by omega) oh3 o2' (fun b h => by omega) (show m.out.length <= 2000000 by omega) (by omega) h3 (show l'.length <= 1000000 by omega) hsz
      | false =>
        simp (disch := omega) only [dQ, fE, cQ, stepR_skip, eC, fB, eH, eT, eS, eM, fH, eP, dK, eN, eJ, eY, eE, eB, eK, eD, eI, eX, fC, eF, dR, eU, eZ, eA, gA, gB, gC, gG, gE, gF, gD, gH, gI, dH, Result.ok.injEq, Next.value.injEq, true_and, and_true, dZ, dY, fA, eL, eQ, fG, Qp, dS, dW, dV, dT, dN, dM, dO, dL, dI, cY, if_true, if_false, Qm, Qs, Qn, Qo, Qr, Qq, Ql, Qk, cR, cP, cD, bT, cV, dJ, bX, bW, cS, cM, cK, dD, cN, dB, dC, dX, cZ, cC, bE, bQ, aT, aA, aK, dE, aJ, cF, dF, dA, bN, aH, bB, aY, cL, aD, aX, aM, aV, cU, aW, cJ, bS, aC, aE, aL, dP, aP, aN, bC, aR, cI, aF, bZ, bU, bL, bD, bA, cX, aI, bM, aS, aU, aQ, aG, dG, cO, bO, aO, cW, bV, bY, cG, bP, bR, bK, cH, bF, cB, aZ, bJ, bH, bG, cA]
        exact ⟨f, by omega, a, l', hm, x13, hr3, o2', o3, by omega, by omega⟩
     cases hkn : h.known with
     | false =>
       rw [hkn] at d2
       have := go (by rw [hkn]; simp)
       simp (disch := omega) only [dQ, fE, cQ, stepR_skip, eC, fB, eH, eT, eS, eM, fH, eP, dK, eN, eJ, eY, eE, eB, eK, eD, eI, eX, fC, eF, dR, eU, eZ, eA, gA, gB, gC, gG, gE, gF, gD, gH, gI, dH, Result.ok.injEq, Next.value.injEq, true_and, and_true, dZ, dY, fA, eL, eQ, fG, Qp, dS, dW, dV, dT, dN, dM, dO, dL, dI, cY, if_true, if_false, Qm, Qs, Qn, Qo, Qr, Qq, Ql, Qk, cR, cP, cD, bT, cV, dJ, bX, bW, cS, cM, cK, dD, cN, dB, dC, dX, cZ, cC, bE, bQ, aT, aA, aK, dE, aJ, cF, dF, dA, bN, aH, bB, aY, cL, aD, aX, aM, aV, cU, aW, cJ, bS, aC, aE, aL, dP, aP, aN, bC, aR, cI, aF, bZ, bU, bL, bD, bA, cX, aI, bM, aS, aU, aQ, aG, dG, cO, bO, aO, cW, bV, bY, cG, bP, bR, bK, cH, bF, cB, aZ, bJ, bH, bG, cA, n1, d2]
       exact this
     | true =>
       rw [hkn] at d2
       by_cases hlt : h.size < a.length
       .have g1 : decide ((a.length : Int) > (h.size : Int)) = true := decide_eq_true (by omega)
        have g2 : decide ((h.size : Int) < (a.length : Int)) = true := decide_eq_true (by omega)
        simp only [if_pos (⟨hkn, hlt⟩ : h.known = true /\ h.size < a.length)] at hm
        cases hm
        simp (disch := omega) only [dQ, fE, cQ, stepR_skip, eC, fB, eH, eT, eS, eM, fH, eP, dK, eN, eJ, eY, eE, eB, eK, eD, eI, eX, fC, eF, dR, eU, eZ, eA, gA, gB, gC, gG, gE, gF, gD, gH, gI, dH, Result.ok.injEq, Next.value.injEq, true_and, and_true, dZ, dY, fA, eL, eQ, fG, Qp, dS, dW, dV, dT, dN, dM, dO, dL, dI, cY, if_true, if_false, Qm, Qs, Qn, Qo, Qr, Qq, Ql, Qk, cR, cP, cD, bT, cV, dJ, bX, bW, cS, cM, cK, dD, cN, dB, dC, dX, cZ, cC, bE, bQ, aT, aA, aK, dE, aJ, cF, dF, dA, bN, aH, bB, aY, cL, aD, aX, aM, aV, cU, aW, cJ, bS, aC, aE, aL, dP, aP, aN, bC, aR, cI, aF, bZ, bU, bL, bD, bA, cX, aI, bM, aS, aU, aQ, aG, dG, cO, bO, aO, cW, bV, bY, cG, bP, bR, bK, cH, bF, cB, aZ, bJ, bH, bG, cA, n1, d2, d1, wl, g1, g2]
        rw [hRR]
        exact ⟨by decide, rfl, hx.seq (x13.mono fun y _ h => by omega)⟩
       .have g1 : decide ((a.length : Int) > (h.size : Int)) = false := decide_eq_false (by omega)
        have g2 : decide ((h.size : Int) < (a.length : Int)) = false := decide_eq_false (by omega)
        have := go (by simp [hlt])
        simp (disch := omega) only [dQ, fE, cQ, stepR_skip, eC, fB, eH, eT, eS, eM, fH, eP, dK, eN, eJ, eY, eE, eB, eK, eD, eI, eX, fC, eF, dR, eU, eZ, eA, gA, gB, gC, gG, gE, gF, gD, gH, gI, dH, Result.ok.injEq, Next.value.injEq, true_and, and_true, dZ, dY, fA, eL, eQ, fG, Qp, dS, dW, dV, dT, dN, dM, dO, dL, dI, cY, if_true, if_false, Qm, Qs, Qn, Qo, Qr, Qq, Ql, Qk, cR, cP, cD, bT, cV, dJ, bX, bW, cS, cM, cK, dD, cN, dB, dC, dX, cZ, cC, bE, bQ, aT, aA, aK, dE, aJ, cF, dF, dA, bN, aH, bB, aY, cL, aD, aX, aM, aV, cU, aW, cJ, bS, aC, aE, aL, dP, aP, aN, bC, aR, cI, aF, bZ, bU, bL, bD, bA, cX, aI, bM, aS, aU, aQ, aG, dG, cO, bO, aO, cW, bV, bY, cG, bP, bR, bK, cH, bF, cB, aZ, bJ, bH, bG, cA, n1, d2, d1, wl, g1, g2]
        exact this
def Jh (l : List UInt8) (win room : Nat) : Option (Except Int (List UInt8 × List UInt8)) :=
 match Cm l with
 | .error e => some (.error e)
 | .ok (h, n) => if win < h.window ∨ (h.known = true /\ room < h.size) then some (.error 12) else match AZ h room (l.length + 1) (l.drop n) [] with | none => none | some mm => some (Mk h mm)
theorem MJ {L dict : Nat} {s : List UInt8 × Int} {h : FH} {e : Int} (hh : Hh L s dict h = .error e) : e ≠ 0 := by
 unfold Hh at hh
 split at hh
 .cases hh; assumption
 .split at hh
  .cases hh; decide
  .cases hh
theorem L6 {l : List UInt8} {e : Int} (h : Cm l = .error e) : e ≠ 0 := by
 unfold Cm at h
 split at h
 .cases h; assumption
 .split at h
  .cases h; decide
  .exact MJ h
theorem O9 (s : List UInt8 × Int) (n : Nat) (hn : n <= 8) : H9 s n < 2 ^ 64 := by
 unfold H9
 split
 .have := H3 s n
  have h2 : 256 ^ n <= 256 ^ 8 := Re (by omega) hn
  have h3 : (256 : Nat) ^ 8 = 2 ^ 64 := by decide
  omega
 .decide
theorem OM (s : List UInt8 × Int) (d : Nat) (hd : d < 256) : Mb d (H9 s (EG d)) < 2 ^ 64 := by
 have h4 : d / 64 = 0 ∨ d / 64 = 1 ∨ d / 64 = 2 ∨ d / 64 = 3 := by omega
 have h8 : EG d <= 8 := by
  unfold EG
  rcases h4 with h | h | h | h <;> rw [h] <;> simp
  split <;> omega
 have := O9 s (EG d) h8
 unfold Mb
 split
 .rename_i h2
  rw [h2] at this ⊢
  have h5 : H9 s 2 < 65536 := by
   unfold H9
   rw [if_pos (by omega)]
   exact H3 s 2
  omega
 .exact this
theorem Nm {l : List UInt8} {h : FH} {n : Nat} (hh : Cm l = .ok (h, n)) : h.size < 2 ^ 64 /\ n <= l.length := by
 unfold Cm at hh
 split at hh
 .cases hh
 .split at hh
  .cases hh
  .unfold HS Hh at hh
   split at hh
   .cases hh
   .split at hh
    .cases hh
    .cases hh
     have hd : JW (l, 0) 1 < 256 := H3 (l, 0) 1
     exact ⟨OM _ _ hd, by omega⟩
theorem NA {w : RM} : fK pg nY #[] w (fun r w' => r = .agg #[.int .u32 1, .int .u32 4, .int .u32 8] /\ fW w w' kY) := by
 refine Ee ?_
 unfold DL uG
 refine G7 fun w1 o1 x1 s1 => ?_
 try simp (disch := omega) only [dQ, fE, cQ, stepR_skip, eC, fB, eH, eT, eS, eM, fH, eP, dK, eN, eJ, eY, eE, eB, eK, eD, eI, eX, fC, eF, dR, eU, eZ, eA, gA, gB, gC, gG, gE, gF, gD, gH, gI, dH, Result.ok.injEq, Next.value.injEq, true_and, and_true, dZ, dY, fA, eL, eQ, fG, Qp, dS, dW, dV, dT, dN, dM, dO, dL, dI, cY, if_true, if_false, Qm, Qs, Qn, Qo, Qr, Qq, Ql, Qk, cR, cP, cD, bT, cV, dJ, bX, bW, cS, cM, cK, dD, cN, dB, dC, dX, cZ, cC, bE, bQ, aT, aA, aK, dE, aJ, cF, dF, dA, bN, aH, bB, aY, cL, aD, aX, aM, aV, cU, aW, cJ, bS, aC, aE, aL, dP, aP, aN, bC, aR, cI, aF, bZ, bU, bL, bD, bA, cX, aI, bM, aS, aU, aQ, aG, dG, cO, bO, aO, cW, bV, bY, cG, bP, bR, bK, cH, bF, cB, aZ, bJ, bH, bG, cA]
 refine FF o1 rfl (by simp [one]) (by simp) fun w2 o2 x2 s2 => ?_
 refine FL o2 (by simp [gO]) ?_
 exact ⟨rfl, x1.new x2 (by omega)⟩
theorem MW {base p : Nat} {dm : DM} {w : RM} {mm : Except Int (List UInt8 × List UInt8)} (hd : Ol w base p dm) (h1 : dm.out.length <= dm.most) (h3 : dm.fr <= 2000000) (hmost : dm.most <= 2000000) (hl : dm.l.length <= 1000000)
 (hm : Jh dm.l dm.win (dm.most - dm.out.length) = some mm) :
 fK pg mD #[.pointer (some ⟨p, 0, none⟩)] w (fun r w' => LF base p w dm r w' mm) := by
 refine A1 ?_
 unfold yH nQ nH nI tQ oI
 obtain ⟨RR, hRR⟩ : ∃ RR : RN -> RM -> Prop, RR = fun r w' => LF base p w dm r w' mm := ⟨_, rfl⟩
 rw [<- hRR]
 obtain ⟨pr, vo, lo, hi, O, o, hr, oo, hp, hlo, hO, q1, hhi⟩ := hd
 have hpr : lo <= pr /\ pr < hi := ⟨hr.1, hr.2.1⟩
 have hzp := o.lt
 have hO1 : sG w (fun b => O b /\ b < w.heap.size) 1 vo dm.out.length (dm.out.map lN) := mH oo fun b h h2 => ⟨h, h2⟩
 have xd := fW.dr w kY
 have zd := xd.size
 have c0 := (jJ o).cell (off := 0)
 simp only [mZ, Qk] at c0
 simp (disch := omega) only [dQ, fE, cQ, stepR_skip, eC, fB, eH, eT, eS, eM, fH, eP, dK, eN, eJ, eY, eE, eB, eK, eD, eI, eX, fC, eF, dR, eU, eZ, eA, gA, gB, gC, gG, gE, gF, gD, gH, gI, dH, Result.ok.injEq, Next.value.injEq, true_and, and_true, dZ, dY, fA, eL, eQ, fG, Qp, dS, dW, dV, dT, dN, dM, dO, dL, dI, cY, if_true, if_false, Qm, Qs, Qn, Qo, Qr, Qq, Ql, Qk, cR, cP, cD, bT, cV, dJ, bX, bW, cS, cM, cK, dD, cN, dB, dC, dX, cZ, cC, bE, bQ, aT, aA, aK, dE, aJ, cF, dF, dA, bN, aH, bB, aY, cL, aD, aX, aM, aV, cU, aW, cJ, bS, aC, aE, aL, dP, aP, aN, bC, aR, cI, aF, bZ, bU, bL, bD, bA, cX, aI, bM, aS, aU, aQ, aG, dG, cO, bO, aO, cW, bV, bY, cG, bP, bR, bK, cH, bF, cB, aZ, bJ, bH, bG, cA, c0]
 refine (C6 (hr.ext xd (fun _ _ _ h => h))).mono ?_
 rintro r w1 ⟨rfl, hw1⟩
 rw [hw1]; clear hw1 w1
 have o := jJ o
 have hr := hr.ext xd (fun _ _ _ h => h)
 have hO1 := hO1.ext xd (fun _ _ h => h)
 obtain ⟨wd, hwd⟩ : ∃ x, x = dr w := ⟨_, rfl⟩
 rw [<- hwd] at o hr hO1 xd zd c0 ⊢
 simp (disch := omega) only [dQ, fE, cQ, stepR_skip, eC, fB, eH, eT, eS, eM, fH, eP, dK, eN, eJ, eY, eE, eB, eK, eD, eI, eX, fC, eF, dR, eU, eZ, eA, gA, gB, gC, gG, gE, gF, gD, gH, gI, dH, Result.ok.injEq, Next.value.injEq, true_and, and_true, dZ, dY, fA, eL, eQ, fG, Qp, dS, dW, dV, dT, dN, dM, dO, dL, dI, cY, if_true, if_false, Qm, Qs, Qn, Qo, Qr, Qq, Ql, Qk, cR, cP, cD, bT, cV, dJ, bX, bW, cS, cM, cK, dD, cN, dB, dC, dX, cZ, cC, bE, bQ, aT, aA, aK, dE, aJ, cF, dF, dA, bN, aH, bB, aY, cL, aD, aX, aM, aV, cU, aW, cJ, bS, aC, aE, aL, dP, aP, aN, bC, aR, cI, aF, bZ, bU, bL, bD, bA, cX, aI, bM, aS, aU, aQ, aG, dG, cO, bO, aO, cW, bV, bY, cG, bP, bR, bK, cH, bF, cB, aZ, bJ, bH, bG, cA, c0]
 refine (FX hr (by omega) (by omega)).mono ?_
 rintro rest w1 ⟨hb1, hat, hr1, x1⟩
 have ht : tZ dm.l 0 dm.l.length = (dm.l, [], 0) := by
  unfold tZ
  rw [if_neg (by decide), if_neg (by omega), QL (by omega), RE (by omega)]
 rw [ht] at hb1 hr1
 have hb1 : Bs w1 rest dm.l := hb1
 clear hr1
 have o1 := o.ext x1 (fun e => q1 (e ▸ hpr))
 have oo1 : sG w1 (fun b => O b /\ b < w.heap.size) 1 vo dm.out.length (dm.out.map lN) := hO1.ext x1 fun b h e => (hO b h.1).2.2 (e ▸ hpr)
 have z1 := x1.size
 refine (JO hb1 hl).mono ?_
 rintro r w2 ⟨rfl, x2⟩
 unfold Jh at hm
 have z2 := x2.size
 cases hf : Cm dm.l with
 | error e =>
   have he := L6 hf
   rw [hf] at hm
   cases hm
   have n1 : (e != 0) = true := by simp [he]
   unfold Nu PS
   simp (disch := omega) only [dQ, fE, cQ, stepR_skip, eC, fB, eH, eT, eS, eM, fH, eP, dK, eN, eJ, eY, eE, eB, eK, eD, eI, eX, fC, eF, dR, eU, eZ, eA, gA, gB, gC, gG, gE, gF, gD, gH, gI, dH, Result.ok.injEq, Next.value.injEq, true_and, and_true, dZ, dY, fA, eL, eQ, fG, Qp, dS, dW, dV, dT, dN, dM, dO, dL, dI, cY, if_true, if_false, Qm, Qs, Qn, Qo, Qr, Qq, Ql, Qk, cR, cP, cD, bT, cV, dJ, bX, bW, cS, cM, cK, dD, cN, dB, dC, dX, cZ, cC, bE, bQ, aT, aA, aK, dE, aJ, cF, dF, dA, bN, aH, bB, aY, cL, aD, aX, aM, aV, cU, aW, cJ, bS, aC, aE, aL, dP, aP, aN, bC, aR, cI, aF, bZ, bU, bL, bD, bA, cX, aI, bM, aS, aU, aQ, aG, dG, cO, bO, aO, cW, bV, bY, cG, bP, bR, bK, cH, bF, cB, aZ, bJ, bH, bG, cA]
   refine rI fun w3 o3 x3 s3 => ?_
   refine jL o3 rfl (by simp [one]) (by simp) fun w4 o4 x4 s4 => ?_
   simp (disch := omega) only [dQ, fE, cQ, stepR_skip, eC, fB, eH, eT, eS, eM, fH, eP, dK, eN, eJ, eY, eE, eB, eK, eD, eI, eX, fC, eF, dR, eU, eZ, eA, gA, gB, gC, gG, gE, gF, gD, gH, gI, dH, Result.ok.injEq, Next.value.injEq, true_and, and_true, dZ, dY, fA, eL, eQ, fG, Qp, dS, dW, dV, dT, dN, dM, dO, dL, dI, cY, if_true, if_false, Qm, Qs, Qn, Qo, Qr, Qq, Ql, Qk, cR, cP, cD, bT, cV, dJ, bX, bW, cS, cM, cK, dD, cN, dB, dC, dX, cZ, cC, bE, bQ, aT, aA, aK, dE, aJ, cF, dF, dA, bN, aH, bB, aY, cL, aD, aX, aM, aV, cU, aW, cJ, bS, aC, aE, aL, dP, aP, aN, bC, aR, cI, aF, bZ, bU, bL, bD, bA, cX, aI, bM, aS, aU, aQ, aG, dG, cO, bO, aO, cW, bV, bY, cG, bP, bR, bK, cH, bF, cB, aZ, bJ, bH, bG, cA, n1]
   rw [hRR]
   have x24 : fW w2 w4 kY := x3.new x4 (by omega)
   exact ⟨he, rfl, (((xd.mono fun _ _ h => h.elim).seq (x1.mono fun y _ h => by omega)).seq ((x2.seq x24).mono fun _ _ h => h.elim))⟩
 | ok t =>
   obtain ⟨h, n⟩ := t
   have hok := Nm hf
   rw [hf] at hm
   have n1 : ((0 : Int) != 0) = false := rfl
   unfold Nu PS
   simp (disch := omega) only [dQ, fE, cQ, stepR_skip, eC, fB, eH, eT, eS, eM, fH, eP, dK, eN, eJ, eY, eE, eB, eK, eD, eI, eX, fC, eF, dR, eU, eZ, eA, gA, gB, gC, gG, gE, gF, gD, gH, gI, dH, Result.ok.injEq, Next.value.injEq, true_and, and_true, dZ, dY, fA, eL, eQ, fG, Qp, dS, dW, dV, dT, dN, dM, dO, dL, dI, cY, if_true, if_false, Qm, Qs, Qn, Qo, Qr, Qq, Ql, Qk, cR, cP, cD, bT, cV, dJ, bX, bW, cS, cM, cK, dD, cN, dB, dC, dX, cZ, cC, bE, bQ, aT, aA, aK, dE, aJ, cF, dF, dA, bN, aH, bB, aY, cL, aD, aX, aM, aV, cU, aW, cJ, bS, aC, aE, aL, dP, aP, aN, bC, aR, cI, aF, bZ, bU, bL, bD, bA, cX, aI, bM, aS, aU, aQ, aG, dG, cO, bO, aO, cW, bV, bY, cG, bP, bR, bK, cH, bF, cB, aZ, bJ, bH, bG, cA]
   refine rI fun w3 o3 x3 s3 => ?_
   obtain ⟨ph, hph⟩ : ∃ p, p = w2.heap.size := ⟨_, rfl⟩
   rw [<- hph] at o3 ⊢
   refine jL o3 rfl (by simp [one]) (by simp) fun w4 o4 x4 s4 => ?_
   simp only [gO, QB, QC] at o4
   have oh4 : iL w4 ph (Bj h) := o4
   have x24 : fW w2 w4 kY := x3.new x4 (by omega)
   have x14 : fW w1 w4 kY := x2.seq x24
   have hz3 := o4.lt
   obtain ⟨va, vc, hrest, hvc⟩ := hb1.len
   rw [Qw] at hrest hvc
   subst hrest
   have hb4 := hb1.ext x14 (kQ _)
   have t0 : (n : Int).toNat = n := Qp _
   have hbd : Bs w4 (.slice (iV va vc n 1) (dm.l.length - n) (vc - n)) (dm.l.drop n) := by
    have := hb4.drop' (k := n) (by omega)
    rwa [<- Rx] at this
   simp (disch := omega) only [dQ, fE, cQ, stepR_skip, eC, fB, eH, eT, eS, eM, fH, eP, dK, eN, eJ, eY, eE, eB, eK, eD, eI, eX, fC, eF, dR, eU, eZ, eA, gA, gB, gC, gG, gE, gF, gD, gH, gI, dH, Result.ok.injEq, Next.value.injEq, true_and, and_true, dZ, dY, fA, eL, eQ, fG, Qp, dS, dW, dV, dT, dN, dM, dO, dL, dI, cY, if_true, if_false, Qm, Qs, Qn, Qo, Qr, Qq, Ql, Qk, cR, cP, cD, bT, cV, dJ, bX, bW, cS, cM, cK, dD, cN, dB, dC, dX, cZ, cC, bE, bQ, aT, aA, aK, dE, aJ, cF, dF, dA, bN, aH, bB, aY, cL, aD, aX, aM, aV, cU, aW, cJ, bS, aC, aE, aL, dP, aP, aN, bC, aR, cI, aF, bZ, bU, bL, bD, bA, cX, aI, bM, aS, aU, aQ, aG, dG, cO, bO, aO, cW, bV, bY, cG, bP, bR, bK, cH, bF, cB, aZ, bJ, bH, bG, cA, n1, t0]
   refine (vK hbd (by rw [Qy]; omega)).mono ?_
   rintro r w5 ⟨p5, rfl, hr5, x5⟩
   have z4 := x14.size
   have z5 := x5.size
   have o5 := (o1.ext x14 (fun h => h)).ext x5 (fun h => h)
   refine D1 (off := 0) o5 rfl (by simp [mZ]) fun w6 o6 x6 s6 => ?_
   simp only [mZ, QB] at o6
   have x46 : fW w4 w6 (fun y => y = p) := (x5.mono fun _ _ h => h.elim).seq x6
   have x06 : fW w w6 (fun y => base <= y) := ((((xd.mono fun _ _ h => h.elim).seq (x1.mono fun y _ h => by omega)).seq (x14.mono fun _ _ h => h.elim)).seq (x46.mono fun y _ h => by omega))
   have hphp : ph ≠ p := by omega
   have oh6 := oh4.ext x46 hphp
   have oo6 := (oo1.ext x14 fun _ _ h => h).ext x46 fun b h e => (hO b h.1).2.1 e
   have h5lo : w4.heap.size <= p5 /\ p5 < w5.heap.size := ⟨hr5.1, hr5.2.1⟩
   have hr6 := hr5.ext x6 (fun b h1 h2 h => by omega)
   have ch0 := oh6.cell (off := 0)
   have ch1 := oh6.cell (off := 1)
   have ch2 := oh6.cell (off := 2)
   have eh0 := (jJ oh6).cell (off := 0)
   have eh1 := (jJ oh6).cell (off := 1)
   have eh2 := (jJ oh6).cell (off := 2)
   simp only [Bj, Qk, Ql] at ch0 ch1 ch2 eh0 eh1 eh2
   have co1 := o6.cell (off := 1)
   have co2 := o6.cell (off := 2)
   have co3 := o6.cell (off := 3)
   have eo1 := (jJ o6).cell (off := 1)
   have eo2 := (jJ o6).cell (off := 2)
   have eo3 := (jJ o6).cell (off := 3)
   simp only [Qk, Ql] at co1 co2 co3 eo1 eo2 eo3
   obtain ⟨av, cv, hvo⟩ := oo6.len
   subst hvo
   have e9 : (dm.most : Int) - (dm.out.length : Int) = ((dm.most - dm.out.length : Nat) : Int) := by omega
   have w9 : IntKind.u64.wrap ((dm.most - dm.out.length : Nat) : Int) = ((dm.most - dm.out.length : Nat) : Int) := dY (by omega) (by omega)
   by_cases hbig : dm.win < h.window ∨ (h.known = true /\ dm.most - dm.out.length < h.size)
   .simp only [if_pos hbig] at hm
    cases hm
    have fin : RR (.int .i64 12) (dr w6) := by rw [hRR]; exact ⟨by decide, rfl, x06.seq (fW.dr w6 _)⟩
    by_cases hw : dm.win < h.window
    .have d1 : decide ((h.window : Int) > (dm.win : Int)) = true := decide_eq_true (by omega)
     have d2 : decide ((dm.win : Int) < (h.window : Int)) = true := decide_eq_true (by omega)
     have iu : lX undef true = false := rfl
     simp (disch := omega) only [dQ, fE, cQ, stepR_skip, eC, fB, eH, eT, eS, eM, fH, eP, dK, eN, eJ, eY, eE, eB, eK, eD, eI, eX, fC, eF, dR, eU, eZ, eA, gA, gB, gC, gG, gE, gF, gD, gH, gI, dH, Result.ok.injEq, Next.value.injEq, true_and, and_true, dZ, dY, fA, eL, eQ, fG, Qp, dS, dW, dV, dT, dN, dM, dO, dL, dI, cY, if_true, if_false, Qm, Qs, Qn, Qo, Qr, Qq, Ql, Qk, cR, cP, cD, bT, cV, dJ, bX, bW, cS, cM, cK, dD, cN, dB, dC, dX, cZ, cC, bE, bQ, aT, aA, aK, dE, aJ, cF, dF, dA, bN, aH, bB, aY, cL, aD, aX, aM, aV, cU, aW, cJ, bS, aC, aE, aL, dP, aP, aN, bC, aR, cI, aF, bZ, bU, bL, bD, bA, cX, aI, bM, aS, aU, aQ, aG, dG, cO, bO, aO, cW, bV, bY, cG, bP, bR, bK, cH, bF, cB, aZ, bJ, bH, bG, cA, ch0, ch1, ch2, eh0, eh1, eh2, co1, co2, co3, eo1, eo2, eo3, d1, d2, iu]
     exact fin
    .have hks := hbig.resolve_left hw
     have d1 : decide ((h.window : Int) > (dm.win : Int)) = false := decide_eq_false (by omega)
     have d2 : decide ((dm.win : Int) < (h.window : Int)) = false := decide_eq_false (by omega)
     have d3 : decide ((h.size : Int) > ((dm.most - dm.out.length : Nat) : Int)) = true := decide_eq_true (by omega)
     have d4 : decide (((dm.most - dm.out.length : Nat) : Int) < (h.size : Int)) = true := decide_eq_true (by omega)
     rw [hks.1] at ch2 eh2
     simp (disch := omega) only [dQ, fE, cQ, stepR_skip, eC, fB, eH, eT, eS, eM, fH, eP, dK, eN, eJ, eY, eE, eB, eK, eD, eI, eX, fC, eF, dR, eU, eZ, eA, gA, gB, gC, gG, gE, gF, gD, gH, gI, dH, Result.ok.injEq, Next.value.injEq, true_and, and_true, dZ, dY, fA, eL, eQ, fG, Qp, dS, dW, dV, dT, dN, dM, dO, dL, dI, cY, if_true, if_false, Qm, Qs, Qn, Qo, Qr, Qq, Ql, Qk, cR, cP, cD, bT, cV, dJ, bX, bW, cS, cM, cK, dD, cN, dB, dC, dX, cZ, cC, bE, bQ, aT, aA, aK, dE, aJ, cF, dF, dA, bN, aH, bB, aY, cL, aD, aX, aM, aV, cU, aW, cJ, bS, aC, aE, aL, dP, aP, aN, bC, aR, cI, aF, bZ, bU, bL, bD, bA, cX, aI, bM, aS, aU, aQ, aG, dG, cO, bO, aO, cW, bV, bY, cG, bP, bR, bK, cH, bF, cB, aZ, bJ, bH, bG, cA, ch0, ch1, ch2, eh0, eh1, eh2, co1, co2, co3, eo1, eo2, eo3, d1, d2, d3, d4, e9, w9]
     exact fin
   .simp only [if_neg hbig] at hm
    have hw : ¬ dm.win < h.window := fun h => hbig (.inl h)
    have d1 : decide ((h.window : Int) > (dm.win : Int)) = false := decide_eq_false (by omega)
    have d2 : decide ((dm.win : Int) < (h.window : Int)) = false := decide_eq_false (by omega)
    obtain ⟨mb, hmb⟩ : ∃ mb, AZ h (dm.most - dm.out.length) (dm.l.length + 1) (dm.l.drop n) [] = some mb := by
     cases hd : AZ h (dm.most - dm.out.length) (dm.l.length + 1) (dm.l.drop n) [] with
     | none => rw [hd] at hm; cases hm
     | some mb => exact ⟨mb, rfl⟩
    rw [hmb] at hm
    cases hm
    obtain ⟨K, hK⟩ : ∃ K : RM -> Prop, K = fun w => fK pg nY #[] w fun t64 w => dQ pg (iI 80 [(2, t64)]) w fun t65 w => dQ pg (lZ 80) w fun I4 w => dQ pg (fR 80 I4 t65) w fun _u w => kF RR (.pointer (some ⟨p, 0, none⟩)) (.pointer (some ⟨ph, 0, none⟩)) I4 wV w := ⟨_, rfl⟩
    have main : K (dr w6) := by
     rw [hK]
     refine NA.mono ?_
     rintro r w7 ⟨rfl, x7⟩
     simp (disch := omega) only [dQ, fE, cQ, stepR_skip, eC, fB, eH, eT, eS, eM, fH, eP, dK, eN, eJ, eY, eE, eB, eK, eD, eI, eX, fC, eF, dR, eU, eZ, eA, gA, gB, gC, gG, gE, gF, gD, gH, gI, dH, Result.ok.injEq, Next.value.injEq, true_and, and_true, dZ, dY, fA, eL, eQ, fG, Qp, dS, dW, dV, dT, dN, dM, dO, dL, dI, cY, if_true, if_false, Qm, Qs, Qn, Qo, Qr, Qq, Ql, Qk, cR, cP, cD, bT, cV, dJ, bX, bW, cS, cM, cK, dD, cN, dB, dC, dX, cZ, cC, bE, bQ, aT, aA, aK, dE, aJ, cF, dF, dA, bN, aH, bB, aY, cL, aD, aX, aM, aV, cU, aW, cJ, bS, aC, aE, aL, dP, aP, aN, bC, aR, cI, aF, bZ, bU, bL, bD, bA, cX, aI, bM, aS, aU, aQ, aG, dG, cO, bO, aO, cW, bV, bY, cG, bP, bR, bK, cH, bF, cB, aZ, bJ, bH, bG, cA]
     refine Cg fun w8 o8 x8 s8 => ?_
     obtain ⟨pq, hpq⟩ : ∃ q, q = w7.heap.size := ⟨_, rfl⟩
     rw [<- hpq] at o8 ⊢
     refine jE o8 rfl (by simp [one]) (by simp) fun w9 o9 x9 s9 => ?_
     simp only [gO, QB, QC] at o9
     have x69 : fW w6 w9 kY := (((fW.dr w6 kY).seq x7).seq x8).trans x9 fun y hy h => by
      have := (fW.dr w6 kY).size
      have := x7.size
      omega
     have zz : w6.heap.size <= w7.heap.size := by
      have := (fW.dr w6 kY).size
      have := x7.size
      omega
     have z6 := x6.size
     rw [hRR]
     have hz8 := o8.lt
     refine L8 (aB := w9.heap.size) (m := ⟨dm.l.drop n, dm.win, dm.most, dm.out, dm.fr, dm.sk⟩) ⟨rfl, rfl, rfl, rfl, rfl⟩ (x06.seq (x69.mono fun _ _ h => h.elim)) (o6.ext x69 (fun h => h)) (hr6.ext x69 fun _ _ _ h => h) (oo6.ext x69 fun _ _ h => h) hp (by omega) (fun b hb => ⟨(hO b hb.1).1, (hO b hb.1).2.1, by omega, by omega⟩) ⟨by omega, by omega, by omega, fun h => by omega⟩ (by omega) (by omega) (by omega) (by omega) (oh6.ext x69 (fun h => h)) o9 ?_ h1 (by simp) h3 hmost (by show (dm.l.drop n).length <= _; rw [Qy]; omega) hok.1 hmb
     exact ⟨rfl, .inl ⟨rfl, rfl⟩⟩
    rw [hK] at main
    unfold wV at main
    cases hkn : h.known with
    | false =>
      rw [hkn] at ch2 eh2
      simp (disch := omega) only [dQ, fE, cQ, stepR_skip, eC, fB, eH, eT, eS, eM, fH, eP, dK, eN, eJ, eY, eE, eB, eK, eD, eI, eX, fC, eF, dR, eU, eZ, eA, gA, gB, gC, gG, gE, gF, gD, gH, gI, dH, Result.ok.injEq, Next.value.injEq, true_and, and_true, dZ, dY, fA, eL, eQ, fG, Qp, dS, dW, dV, dT, dN, dM, dO, dL, dI, cY, if_true, if_false, Qm, Qs, Qn, Qo, Qr, Qq, Ql, Qk, cR, cP, cD, bT, cV, dJ, bX, bW, cS, cM, cK, dD, cN, dB, dC, dX, cZ, cC, bE, bQ, aT, aA, aK, dE, aJ, cF, dF, dA, bN, aH, bB, aY, cL, aD, aX, aM, aV, cU, aW, cJ, bS, aC, aE, aL, dP, aP, aN, bC, aR, cI, aF, bZ, bU, bL, bD, bA, cX, aI, bM, aS, aU, aQ, aG, dG, cO, bO, aO, cW, bV, bY, cG, bP, bR, bK, cH, bF, cB, aZ, bJ, bH, bG, cA, ch0, ch1, ch2, eh0, eh1, eh2, co1, co2, co3, eo1, eo2, eo3, d1, d2]
      exact main
    | true =>
      rw [hkn] at ch2 eh2
      have hns : ¬ dm.most - dm.out.length < h.size := fun h' => hbig (.inr ⟨hkn, h'⟩)
      have d3 : decide ((h.size : Int) > ((dm.most - dm.out.length : Nat) : Int)) = false := decide_eq_false (by omega)
      have d4 : decide (((dm.most - dm.out.length : Nat) : Int) < (h.size : Int)) = false := decide_eq_false (by omega)
      simp (disch := omega) only [dQ, fE, cQ, stepR_skip, eC, fB, eH, eT, eS, eM, fH, eP, dK, eN, eJ, eY, eE, eB, eK, eD, eI, eX, fC, eF, dR, eU, eZ, eA, gA, gB, gC, gG, gE, gF, gD, gH, gI, dH, Result.ok.injEq, Next.value.injEq, true_and, and_true, dZ, dY, fA, eL, eQ, fG, Qp, dS, dW, dV, dT, dN, dM, dO, dL, dI, cY, if_true, if_false, Qm, Qs, Qn, Qo, Qr, Qq, Ql, Qk, cR, cP, cD, bT, cV, dJ, bX, bW, cS, cM, cK, dD, cN, dB, dC, dX, cZ, cC, bE, bQ, aT, aA, aK, dE, aJ, cF, dF, dA, bN, aH, bB, aY, cL, aD, aX, aM, aV, cU, aW, cJ, bS, aC, aE, aL, dP, aP, aN, bC, aR, cI, aF, bZ, bU, bL, bD, bA, cX, aI, bM, aS, aU, aQ, aG, dG, cO, bO, aO, cW, bV, bY, cG, bP, bR, bK, cH, bF, cB, aZ, bJ, bH, bG, cA, ch0, ch1, ch2, eh0, eh1, eh2, co1, co2, co3, eo1, eo2, eo3, d1, d2, d3, d4, e9, w9]
      exact main
def JM (l : List UInt8) : Except Int (List UInt8) := if l.length < 4 then .error 10 else if l.length - 4 < kB (l.take 4) then .error 10 else .ok (l.drop (4 + kB (l.take 4)))
def Ph (base p : Nat) (w : RM) (dm : DM) (r : RN) (w' : RM) : Except Int (List UInt8) -> Prop
 | .error e => e ≠ 0 /\ r = .int .i64 e /\ fW w w' (fun y => base <= y)
 | .ok l => r = .int .i64 0 /\ Ol w' base p ⟨l, dm.win, dm.most, dm.out, dm.fr, dm.sk + 1⟩ /\ fW w w' (fun y => base <= y)
theorem Nw {base p : Nat} {dm : DM} {w : RM} (hd : Ol w base p dm) (h3 : dm.sk <= 2000000) (hl : dm.l.length <= 1000000) :
 fK pg mP #[.pointer (some ⟨p, 0, none⟩)] w (fun r w' => Ph base p w dm r w' (JM dm.l)) := by
 refine BQ ?_
 unfold zJ pO
 obtain ⟨pr, vo, lo, hi, O, o, hr, oo, hp, hlo, hO, q1, hhi⟩ := hd
 have hpr : lo <= pr /\ pr < hi := ⟨hr.1, hr.2.1⟩
 have c0 := o.cell (off := 0)
 simp only [mZ, Qk] at c0
 simp (disch := omega) only [dQ, fE, cQ, stepR_skip, eC, fB, eH, eT, eS, eM, fH, eP, dK, eN, eJ, eY, eE, eB, eK, eD, eI, eX, fC, eF, dR, eU, eZ, eA, gA, gB, gC, gG, gE, gF, gD, gH, gI, dH, Result.ok.injEq, Next.value.injEq, true_and, and_true, dZ, dY, fA, eL, eQ, fG, Qp, dS, dW, dV, dT, dN, dM, dO, dL, dI, cY, if_true, if_false, Qm, Qs, Qn, Qo, Qr, Qq, Ql, Qk, cR, cP, cD, bT, cV, dJ, bX, bW, cS, cM, cK, dD, cN, dB, dC, dX, cZ, cC, bE, bQ, aT, aA, aK, dE, aJ, cF, dF, dA, bN, aH, bB, aY, cL, aD, aX, aM, aV, cU, aW, cJ, bS, aC, aE, aL, dP, aP, aN, bC, aR, cI, aF, bZ, bU, bL, bD, bA, cX, aI, bM, aS, aU, aQ, aG, dG, cO, bO, aO, cW, bV, bY, cG, bP, bR, bK, cH, bF, cB, aZ, bJ, bH, bG, cA, c0]
 refine (pP (n := 4) hr (by omega) ⟨by omega, by omega⟩).mono ?_
 rintro r w1 ⟨rfl, hr1, x1⟩
 have o1 := o.ext x1 (fun e => q1 (e ▸ hpr))
 have oo1 := oo.ext x1 fun b h e => (hO b h).2.2 (e ▸ hpr)
 have c1 := o1.cell (off := 0)
 simp only [mZ, Qk] at c1
 simp (disch := omega) only [dQ, fE, cQ, stepR_skip, eC, fB, eH, eT, eS, eM, fH, eP, dK, eN, eJ, eY, eE, eB, eK, eD, eI, eX, fC, eF, dR, eU, eZ, eA, gA, gB, gC, gG, gE, gF, gD, gH, gI, dH, Result.ok.injEq, Next.value.injEq, true_and, and_true, dZ, dY, fA, eL, eQ, fG, Qp, dS, dW, dV, dT, dN, dM, dO, dL, dI, cY, if_true, if_false, Qm, Qs, Qn, Qo, Qr, Qq, Ql, Qk, cR, cP, cD, bT, cV, dJ, bX, bW, cS, cM, cK, dD, cN, dB, dC, dX, cZ, cC, bE, bQ, aT, aA, aK, dE, aJ, cF, dF, dA, bN, aH, bB, aY, cL, aD, aX, aM, aV, cU, aW, cJ, bS, aC, aE, aL, dP, aP, aN, bC, aR, cI, aF, bZ, bU, bL, bD, bA, cX, aI, bM, aS, aU, aQ, aG, dG, cO, bO, aO, cW, bV, bY, cG, bP, bR, bK, cH, bF, cB, aZ, bJ, bH, bG, cA, c1]
 refine (zV hr1).mono ?_
 rintro r w2 ⟨rfl, h2⟩
 rw [h2]; clear h2 w2
 unfold JM
 by_cases h4 : dm.l.length < 4
 .have ht : tZ dm.l 0 4 = ([], dm.l, 10) := by unfold tZ; rw [if_neg (by decide), if_pos h4]
  rw [ht, if_pos h4]
  have n1 : ((10 : Int) != 0) = true := rfl
  simp (disch := omega) only [dQ, fE, cQ, stepR_skip, eC, fB, eH, eT, eS, eM, fH, eP, dK, eN, eJ, eY, eE, eB, eK, eD, eI, eX, fC, eF, dR, eU, eZ, eA, gA, gB, gC, gG, gE, gF, gD, gH, gI, dH, Result.ok.injEq, Next.value.injEq, true_and, and_true, dZ, dY, fA, eL, eQ, fG, Qp, dS, dW, dV, dT, dN, dM, dO, dL, dI, cY, if_true, if_false, Qm, Qs, Qn, Qo, Qr, Qq, Ql, Qk, cR, cP, cD, bT, cV, dJ, bX, bW, cS, cM, cK, dD, cN, dB, dC, dX, cZ, cC, bE, bQ, aT, aA, aK, dE, aJ, cF, dF, dA, bN, aH, bB, aY, cL, aD, aX, aM, aV, cU, aW, cJ, bS, aC, aE, aL, dP, aP, aN, bC, aR, cI, aF, bZ, bU, bL, bD, bA, cX, aI, bM, aS, aU, aQ, aG, dG, cO, bO, aO, cW, bV, bY, cG, bP, bR, bK, cH, bF, cB, aZ, bJ, bH, bG, cA, n1]
  exact ⟨by decide, rfl, x1.mono fun y _ h => by omega⟩
 have ht : tZ dm.l 0 4 = (dm.l.take 4, dm.l.drop 4, 0) := by unfold tZ; rw [if_neg (by decide), if_neg h4]
 rw [ht] at hr1 ⊢
 rw [if_neg h4]
 have hlt : kB (dm.l.take 4) < 2 ^ 32 := by
  have := zH (dm.l.take 4)
  rw [Qz, Rj (by omega)] at this
  exact this
 obtain ⟨n, hn⟩ : ∃ n, n = kB (dm.l.take 4) := ⟨_, rfl⟩
 have en : kB (dm.l.take 4, dm.l.drop 4, (0 : Int)).1 = n := hn.symm
 rw [<- hn] at hlt ⊢
 have hr1 : B2 w1 lo hi pr (dm.l.drop 4) 0 := hr1
 have hl4 : (dm.l.drop 4).length = dm.l.length - 4 := Qy
 have n1 : ((0 : Int) != 0) = false := rfl
 have wl : IntKind.u64.wrap ((dm.l.drop 4).length : Int) = ((dm.l.drop 4).length : Int) := dY (by omega) (by omega)
 have wn : IntKind.i64.wrap (n : Int) = n := dZ (by omega) (by omega)
 simp (disch := omega) only [dQ, fE, cQ, stepR_skip, eC, fB, eH, eT, eS, eM, fH, eP, dK, eN, eJ, eY, eE, eB, eK, eD, eI, eX, fC, eF, dR, eU, eZ, eA, gA, gB, gC, gG, gE, gF, gD, gH, gI, dH, Result.ok.injEq, Next.value.injEq, true_and, and_true, dZ, dY, fA, eL, eQ, fG, Qp, dS, dW, dV, dT, dN, dM, dO, dL, dI, cY, if_true, if_false, Qm, Qs, Qn, Qo, Qr, Qq, Ql, Qk, cR, cP, cD, bT, cV, dJ, bX, bW, cS, cM, cK, dD, cN, dB, dC, dX, cZ, cC, bE, bQ, aT, aA, aK, dE, aJ, cF, dF, dA, bN, aH, bB, aY, cL, aD, aX, aM, aV, cU, aW, cJ, bS, aC, aE, aL, dP, aP, aN, bC, aR, cI, aF, bZ, bU, bL, bD, bA, cX, aI, bM, aS, aU, aQ, aG, dG, cO, bO, aO, cW, bV, bY, cG, bP, bR, bK, cH, bF, cB, aZ, bJ, bH, bG, cA, n1, en, c1]
 refine (C6 hr1).mono ?_
 rintro r w2 ⟨rfl, h2⟩
 rw [h2]; clear h2 w2
 by_cases hs : dm.l.length - 4 < n
 .have d1 : decide ((n : Int) > ((dm.l.drop 4).length : Int)) = true := decide_eq_true (by omega)
  have d2 : decide (((dm.l.drop 4).length : Int) < (n : Int)) = true := decide_eq_true (by omega)
  rw [if_pos hs]
  simp (disch := omega) only [dQ, fE, cQ, stepR_skip, eC, fB, eH, eT, eS, eM, fH, eP, dK, eN, eJ, eY, eE, eB, eK, eD, eI, eX, fC, eF, dR, eU, eZ, eA, gA, gB, gC, gG, gE, gF, gD, gH, gI, dH, Result.ok.injEq, Next.value.injEq, true_and, and_true, dZ, dY, fA, eL, eQ, fG, Qp, dS, dW, dV, dT, dN, dM, dO, dL, dI, cY, if_true, if_false, Qm, Qs, Qn, Qo, Qr, Qq, Ql, Qk, cR, cP, cD, bT, cV, dJ, bX, bW, cS, cM, cK, dD, cN, dB, dC, dX, cZ, cC, bE, bQ, aT, aA, aK, dE, aJ, cF, dF, dA, bN, aH, bB, aY, cL, aD, aX, aM, aV, cU, aW, cJ, bS, aC, aE, aL, dP, aP, aN, bC, aR, cI, aF, bZ, bU, bL, bD, bA, cX, aI, bM, aS, aU, aQ, aG, dG, cO, bO, aO, cW, bV, bY, cG, bP, bR, bK, cH, bF, cB, aZ, bJ, bH, bG, cA, wl, d1, d2]
  exact ⟨by decide, rfl, x1.mono fun y _ h => by omega⟩
 have d1 : decide ((n : Int) > ((dm.l.drop 4).length : Int)) = false := decide_eq_false (by omega)
 have d2 : decide (((dm.l.drop 4).length : Int) < (n : Int)) = false := decide_eq_false (by omega)
 rw [if_neg hs]
 simp (disch := omega) only [dQ, fE, cQ, stepR_skip, eC, fB, eH, eT, eS, eM, fH, eP, dK, eN, eJ, eY, eE, eB, eK, eD, eI, eX, fC, eF, dR, eU, eZ, eA, gA, gB, gC, gG, gE, gF, gD, gH, gI, dH, Result.ok.injEq, Next.value.injEq, true_and, and_true, dZ, dY, fA, eL, eQ, fG, Qp, dS, dW, dV, dT, dN, dM, dO, dL, dI, cY, if_true, if_false, Qm, Qs, Qn, Qo, Qr, Qq, Ql, Qk, cR, cP, cD, bT, cV, dJ, bX, bW, cS, cM, cK, dD, cN, dB, dC, dX, cZ, cC, bE, bQ, aT, aA, aK, dE, aJ, cF, dF, dA, bN, aH, bB, aY, cL, aD, aX, aM, aV, cU, aW, cJ, bS, aC, aE, aL, dP, aP, aN, bC, aR, cI, aF, bZ, bU, bL, bD, bA, cX, aI, bM, aS, aU, aQ, aG, dG, cO, bO, aO, cW, bV, bY, cG, bP, bR, bK, cH, bF, cB, aZ, bJ, bH, bG, cA, wl, d1, d2, c1, wn]
 refine (FX hr1 (by omega) (by omega)).mono ?_
 rintro rest w3 ⟨hb3, hat, hr3, x3⟩
 have ht3 : tZ (dm.l.drop 4) 0 n = ((dm.l.drop 4).take n, dm.l.drop (4 + n), 0) := by unfold tZ; rw [if_neg (by decide), if_neg (by omega), Ra]
 rw [ht3] at hr3
 have hr3 : B2 w3 lo hi pr (dm.l.drop (4 + n)) 0 := hr3
 have o3 := o1.ext x3 (fun e => q1 (e ▸ hpr))
 have oo3 := oo1.ext x3 fun b h e => (hO b h).2.2 (e ▸ hpr)
 have c5 := o3.cell (off := 5)
 simp only [mZ, Qk, Ql] at c5
 have e5 : (dm.sk : Int) + 1 = ((dm.sk + 1 : Nat) : Int) := by omega
 have w5 : IntKind.i64.wrap ((dm.sk + 1 : Nat) : Int) = ((dm.sk + 1 : Nat) : Int) := dZ (by omega) (by omega)
 simp (disch := omega) only [dQ, fE, cQ, stepR_skip, eC, fB, eH, eT, eS, eM, fH, eP, dK, eN, eJ, eY, eE, eB, eK, eD, eI, eX, fC, eF, dR, eU, eZ, eA, gA, gB, gC, gG, gE, gF, gD, gH, gI, dH, Result.ok.injEq, Next.value.injEq, true_and, and_true, dZ, dY, fA, eL, eQ, fG, Qp, dS, dW, dV, dT, dN, dM, dO, dL, dI, cY, if_true, if_false, Qm, Qs, Qn, Qo, Qr, Qq, Ql, Qk, cR, cP, cD, bT, cV, dJ, bX, bW, cS, cM, cK, dD, cN, dB, dC, dX, cZ, cC, bE, bQ, aT, aA, aK, dE, aJ, cF, dF, dA, bN, aH, bB, aY, cL, aD, aX, aM, aV, cU, aW, cJ, bS, aC, aE, aL, dP, aP, aN, bC, aR, cI, aF, bZ, bU, bL, bD, bA, cX, aI, bM, aS, aU, aQ, aG, dG, cO, bO, aO, cW, bV, bY, cG, bP, bR, bK, cH, bF, cB, aZ, bJ, bH, bG, cA, c5, e5, w5]
 refine Je (off := 5) o3 rfl (by simp [mZ]) fun w6 o6 x6 s6 => ?_
 simp only [mZ, QB, QC] at o6
 have z1 := x1.size
 have z3 := x3.size
 have z6 := x6.size
 refine ⟨rfl, ⟨pr, vo, lo, hi, O, o6, hr3.ext x6 (fun b h1 h2 h => q1 (h ▸ ⟨h1, h2⟩)), oo3.ext x6 (fun b h e => (hO b h).2.1 e), hp, hlo, hO, q1, by omega⟩, ((x1.mono fun y _ h => by omega).seq (x3.mono fun y _ h => by omega)).seq (x6.mono fun y _ h => by omega)⟩
def Dg (win most : Nat) : Nat -> List UInt8 -> List UInt8 -> Nat -> Nat -> Option (Except Int (List UInt8 × Nat × Nat))
 | 0, _, _, _, _ => none
 | f + 1, l, out, fr, sk => if l.length = 0 then some (.ok (out, fr, sk)) else if l.length < 4 then some (.error 10)
   else if kB (l.take 4) = 4247762216 then (match Jh (l.drop 4) win (most - out.length) with | none => none | some (.error e) => some (.error e) | some (.ok (a, l')) => Dg win most f l' (out ++ a) (fr + 1) sk)
   else if 407710288 <= kB (l.take 4) /\ kB (l.take 4) < 407710304 then (match JM (l.drop 4) with | .error e => some (.error e) | .ok l' => Dg win most f l' out fr (sk + 1))
   else some (.error 11)
theorem Jl {h : FH} {room : Nat} : ∀ {f : Nat} {l all a l' : List UInt8}, AZ h room f l all = some (.ok (a, l')) -> a.length <= room /\ l'.length <= l.length
 | 0, _, _, _, _, hh => by cases hh
 | f + 1, l, all, a, l', hh => by
   rw [AZ] at hh
   cases hd : He l all h.window room with
   | none => rw [hd] at hh; cases hh
   | some m =>
     rw [hd] at hh
     cases m with
     | error e => cases hh
     | ok t =>
       obtain ⟨a1, l1, b⟩ := t
       have h1 := Lx hd
       simp only at hh
       split at hh
       .cases hh
       .split at hh
        .cases hh; exact h1
        .have := Jl hh
         exact ⟨this.1, by omega⟩
theorem NV {l a l' : List UInt8} {win room : Nat} (hh : Jh l win room = some (.ok (a, l'))) : a.length <= room /\ l'.length <= l.length := by
 unfold Jh at hh
 cases hf : Cm l with
 | error e => rw [hf] at hh; cases hh
 | ok t =>
   obtain ⟨h, n⟩ := t
   rw [hf] at hh
   simp only at hh
   split at hh
   .cases hh
   .cases hb : AZ h room (l.length + 1) (l.drop n) [] with
    | none => rw [hb] at hh; cases hh
    | some mm =>
      rw [hb] at hh
      cases mm with
      | error e => cases hh
      | ok t =>
        obtain ⟨a1, l1⟩ := t
        have h1 := Jl hb
        rw [Qy] at h1
        have hh : zY h l1 a1 = .ok (a, l') := by injection hh
        unfold zY IZ at hh
        repeat' split at hh
        all_goals first | cases hh | skip
        all_goals rename_i hq
        all_goals first | (repeat' split at hq) | skip
        all_goals first | cases hq | skip
        all_goals (try rw [Qy])
        all_goals omega
def Pc (base p : Nat) (w : RM) (win most : Nat) (r : RN) (w' : RM) : Except Int (List UInt8 × Nat × Nat) -> Prop
 | .error e => e ≠ 0 /\ r = .tuple #[.pointer none, .int .i64 e] /\ fW w w' (fun y => base <= y)
 | .ok (out, fr, sk) => r = .tuple #[.pointer (some ⟨p, 0, none⟩), .int .i64 0] /\ (∃ l, Ol w' base p ⟨l, win, most, out, fr, sk⟩) /\ fW w w' (fun y => base <= y)
theorem Oa {RR : RN -> RM -> Prop} {base p win most f : Nat} {l : List UInt8} {w0 w : RM} {mm : Except Int (List UInt8 × Nat × Nat)} (hx : fW w0 w (fun y => base <= y)) (hd : Ol w base p ⟨l, win, most, [], 0, 0⟩) (hf : f <= 2000000) (hl : l.length <= 1000000) (hmost : most <= 2000000) (hm : Dg win most f l [] 0 0 = some mm) (hR : ∀ r w', Pc base p w0 win most r w' mm -> RR r w') :
 tB RR (.pointer (some ⟨p, 0, none⟩)) w := by
 unfold tB Az Ae
 refine iO.rule (fun f (t : Unit) w1 => ∃ l out fr sk, Dg win most f l out fr sk = some mm /\ Ol w1 base p ⟨l, win, most, out, fr, sk⟩ /\ fW w0 w1 (fun y => base <= y) /\ out.length <= most /\ fr + f <= 2000000 /\ sk + f <= 2000000 /\ l.length <= 1000000) f
  ⟨l, [], 0, 0, hm, hd, hx, by simp, by omega, by omega, hl⟩ ?_
 clear hm hd hx hl hf l w
 rintro f t w ⟨l, out, fr, sk, hm, hd, hx, hout, hfr, hsk, hl⟩
 cases f with
 | zero => cases hm
 | succ f =>
   rw [Dg] at hm
   unfold uR Ao
   have hd0 := hd
   obtain ⟨pr, vo, lo, hi, O, o, hr, oo, hp, hlo, hO, q1, hhi⟩ := hd
   have hpr : lo <= pr /\ pr < hi := ⟨hr.1, hr.2.1⟩
   have c0 := o.cell (off := 0)
   simp only [mZ, Qk] at c0
   simp (disch := omega) only [dQ, fE, cQ, stepR_skip, eC, fB, eH, eT, eS, eM, fH, eP, dK, eN, eJ, eY, eE, eB, eK, eD, eI, eX, fC, eF, dR, eU, eZ, eA, gA, gB, gC, gG, gE, gF, gD, gH, gI, dH, Result.ok.injEq, Next.value.injEq, true_and, and_true, dZ, dY, fA, eL, eQ, fG, Qp, dS, dW, dV, dT, dN, dM, dO, dL, dI, cY, if_true, if_false, Qm, Qs, Qn, Qo, Qr, Qq, Ql, Qk, cR, cP, cD, bT, cV, dJ, bX, bW, cS, cM, cK, dD, cN, dB, dC, dX, cZ, cC, bE, bQ, aT, aA, aK, dE, aJ, cF, dF, dA, bN, aH, bB, aY, cL, aD, aX, aM, aV, cU, aW, cJ, bS, aC, aE, aL, dP, aP, aN, bC, aR, cI, aF, bZ, bU, bL, bD, bA, cX, aI, bM, aS, aU, aQ, aG, dG, cO, bO, aO, cW, bV, bY, cG, bP, bR, bK, cH, bF, cB, aZ, bJ, bH, bG, cA, c0]
   refine (C6 hr).mono ?_
   rintro r w1 ⟨rfl, h2⟩
   rw [h2]; clear h2 w1
   by_cases h0 : l.length = 0
   .rw [if_pos h0] at hm
    cases hm
    have d1 : decide ((l.length : Int) > 0) = false := decide_eq_false (by omega)
    have d2 : decide ((0 : Int) < (l.length : Int)) = false := decide_eq_false (by omega)
    simp (disch := omega) only [dQ, fE, cQ, stepR_skip, eC, fB, eH, eT, eS, eM, fH, eP, dK, eN, eJ, eY, eE, eB, eK, eD, eI, eX, fC, eF, dR, eU, eZ, eA, gA, gB, gC, gG, gE, gF, gD, gH, gI, dH, Result.ok.injEq, Next.value.injEq, true_and, and_true, dZ, dY, fA, eL, eQ, fG, Qp, dS, dW, dV, dT, dN, dM, dO, dL, dI, cY, if_true, if_false, Qm, Qs, Qn, Qo, Qr, Qq, Ql, Qk, cR, cP, cD, bT, cV, dJ, bX, bW, cS, cM, cK, dD, cN, dB, dC, dX, cZ, cC, bE, bQ, aT, aA, aK, dE, aJ, cF, dF, dA, bN, aH, bB, aY, cL, aD, aX, aM, aV, cU, aW, cJ, bS, aC, aE, aL, dP, aP, aN, bC, aR, cI, aF, bZ, bU, bL, bD, bA, cX, aI, bM, aS, aU, aQ, aG, dG, cO, bO, aO, cW, bV, bY, cG, bP, bR, bK, cH, bF, cB, aZ, bJ, bH, bG, cA, d1, d2]
    unfold uW
    refine hR _ _ ?_
    exact ⟨rfl, ⟨l, hd0⟩, hx⟩
   rw [if_neg h0] at hm
   have d1 : decide ((l.length : Int) > 0) = true := decide_eq_true (by omega)
   have d2 : decide ((0 : Int) < (l.length : Int)) = true := decide_eq_true (by omega)
   simp (disch := omega) only [dQ, fE, cQ, stepR_skip, eC, fB, eH, eT, eS, eM, fH, eP, dK, eN, eJ, eY, eE, eB, eK, eD, eI, eX, fC, eF, dR, eU, eZ, eA, gA, gB, gC, gG, gE, gF, gD, gH, gI, dH, Result.ok.injEq, Next.value.injEq, true_and, and_true, dZ, dY, fA, eL, eQ, fG, Qp, dS, dW, dV, dT, dN, dM, dO, dL, dI, cY, if_true, if_false, Qm, Qs, Qn, Qo, Qr, Qq, Ql, Qk, cR, cP, cD, bT, cV, dJ, bX, bW, cS, cM, cK, dD, cN, dB, dC, dX, cZ, cC, bE, bQ, aT, aA, aK, dE, aJ, cF, dF, dA, bN, aH, bB, aY, cL, aD, aX, aM, aV, cU, aW, cJ, bS, aC, aE, aL, dP, aP, aN, bC, aR, cI, aF, bZ, bU, bL, bD, bA, cX, aI, bM, aS, aU, aQ, aG, dG, cO, bO, aO, cW, bV, bY, cG, bP, bR, bK, cH, bF, cB, aZ, bJ, bH, bG, cA, d1, d2]
   unfold Ac DN Ay
   simp (disch := omega) only [dQ, fE, cQ, stepR_skip, eC, fB, eH, eT, eS, eM, fH, eP, dK, eN, eJ, eY, eE, eB, eK, eD, eI, eX, fC, eF, dR, eU, eZ, eA, gA, gB, gC, gG, gE, gF, gD, gH, gI, dH, Result.ok.injEq, Next.value.injEq, true_and, and_true, dZ, dY, fA, eL, eQ, fG, Qp, dS, dW, dV, dT, dN, dM, dO, dL, dI, cY, if_true, if_false, Qm, Qs, Qn, Qo, Qr, Qq, Ql, Qk, cR, cP, cD, bT, cV, dJ, bX, bW, cS, cM, cK, dD, cN, dB, dC, dX, cZ, cC, bE, bQ, aT, aA, aK, dE, aJ, cF, dF, dA, bN, aH, bB, aY, cL, aD, aX, aM, aV, cU, aW, cJ, bS, aC, aE, aL, dP, aP, aN, bC, aR, cI, aF, bZ, bU, bL, bD, bA, cX, aI, bM, aS, aU, aQ, aG, dG, cO, bO, aO, cW, bV, bY, cG, bP, bR, bK, cH, bF, cB, aZ, bJ, bH, bG, cA, c0]
   refine (pP (n := 4) hr (by show l.length <= _; omega) ⟨by omega, by omega⟩).mono ?_
   rintro r w1 ⟨rfl, hr1, x1⟩
   have o1 := o.ext x1 (fun e => q1 (e ▸ hpr))
   have oo1 := oo.ext x1 fun b h e => (hO b h).2.2 (e ▸ hpr)
   have z1 := x1.size
   have hx1 : fW w0 w1 (fun y => base <= y) := hx.seq (x1.mono fun y _ h => by omega)
   have c1 := o1.cell (off := 0)
   simp only [mZ, Qk] at c1
   simp (disch := omega) only [dQ, fE, cQ, stepR_skip, eC, fB, eH, eT, eS, eM, fH, eP, dK, eN, eJ, eY, eE, eB, eK, eD, eI, eX, fC, eF, dR, eU, eZ, eA, gA, gB, gC, gG, gE, gF, gD, gH, gI, dH, Result.ok.injEq, Next.value.injEq, true_and, and_true, dZ, dY, fA, eL, eQ, fG, Qp, dS, dW, dV, dT, dN, dM, dO, dL, dI, cY, if_true, if_false, Qm, Qs, Qn, Qo, Qr, Qq, Ql, Qk, cR, cP, cD, bT, cV, dJ, bX, bW, cS, cM, cK, dD, cN, dB, dC, dX, cZ, cC, bE, bQ, aT, aA, aK, dE, aJ, cF, dF, dA, bN, aH, bB, aY, cL, aD, aX, aM, aV, cU, aW, cJ, bS, aC, aE, aL, dP, aP, aN, bC, aR, cI, aF, bZ, bU, bL, bD, bA, cX, aI, bM, aS, aU, aQ, aG, dG, cO, bO, aO, cW, bV, bY, cG, bP, bR, bK, cH, bF, cB, aZ, bJ, bH, bG, cA, c1]
   refine (zV hr1).mono ?_
   rintro r w2 ⟨rfl, h2⟩
   rw [h2]; clear h2 w2
   by_cases h4 : l.length < 4
   .have ht : tZ l 0 4 = ([], l, 10) := by unfold tZ; rw [if_neg (by decide), if_pos h4]
    rw [if_pos h4] at hm
    cases hm
    have hr1 : B2 w1 lo hi pr (tZ l 0 4).2.1 (tZ l 0 4).2.2 := hr1
    have hl' : (DM.mk l win most out fr sk).l = l := rfl
    rw [hl', ht]
    rw [ht] at hr1
    have n1 : ((10 : Int) != 0) = true := rfl
    simp (disch := omega) only [dQ, fE, cQ, stepR_skip, eC, fB, eH, eT, eS, eM, fH, eP, dK, eN, eJ, eY, eE, eB, eK, eD, eI, eX, fC, eF, dR, eU, eZ, eA, gA, gB, gC, gG, gE, gF, gD, gH, gI, dH, Result.ok.injEq, Next.value.injEq, true_and, and_true, dZ, dY, fA, eL, eQ, fG, Qp, dS, dW, dV, dT, dN, dM, dO, dL, dI, cY, if_true, if_false, Qm, Qs, Qn, Qo, Qr, Qq, Ql, Qk, cR, cP, cD, bT, cV, dJ, bX, bW, cS, cM, cK, dD, cN, dB, dC, dX, cZ, cC, bE, bQ, aT, aA, aK, dE, aJ, cF, dF, dA, bN, aH, bB, aY, cL, aD, aX, aM, aV, cU, aW, cJ, bS, aC, aE, aL, dP, aP, aN, bC, aR, cI, aF, bZ, bU, bL, bD, bA, cX, aI, bM, aS, aU, aQ, aG, dG, cO, bO, aO, cW, bV, bY, cG, bP, bR, bK, cH, bF, cB, aZ, bJ, bH, bG, cA, n1, c1]
    refine (zV hr1).mono ?_
    rintro r w2 ⟨rfl, h2⟩
    rw [h2]; clear h2 w2
    refine hR _ _ ?_
    exact ⟨by decide, rfl, hx1⟩
   rw [if_neg h4] at hm
   have ht : tZ l 0 4 = (l.take 4, l.drop 4, 0) := by unfold tZ; rw [if_neg (by decide), if_neg h4]
   have hr1 : B2 w1 lo hi pr (tZ l 0 4).2.1 (tZ l 0 4).2.2 := hr1
   have hl' : (DM.mk l win most out fr sk).l = l := rfl
   rw [hl', ht]
   rw [ht] at hr1
   have hr1 : B2 w1 lo hi pr (l.drop 4) 0 := hr1
   have hd1 : Ol w1 base p ⟨l.drop 4, win, most, out, fr, sk⟩ := ⟨pr, vo, lo, hi, O, o1, hr1, oo1, hp, hlo, hO, q1, by omega⟩
   have hl4 : (l.drop 4).length = l.length - 4 := Qy
   obtain ⟨n, hn⟩ : ∃ n, n = kB (l.take 4) := ⟨_, rfl⟩
   have en : kB (l.take 4, l.drop 4, (0 : Int)).1 = n := hn.symm
   rw [<- hn] at hm
   have n0 : ((0 : Int) != 0) = false := rfl
   by_cases hmg : n = 4247762216
   .have g1 : ((n : Int) == 4247762216) = true := by rw [hmg] <;> rfl
    rw [if_pos hmg] at hm
    obtain ⟨mb, hmb⟩ : ∃ mb, Jh (l.drop 4) win (most - out.length) = some mb := by
     cases hd : Jh (l.drop 4) win (most - out.length) with
     | none => rw [hd] at hm; cases hm
     | some mb => exact ⟨mb, rfl⟩
    rw [hmb] at hm
    simp (disch := omega) only [dQ, fE, cQ, stepR_skip, eC, fB, eH, eT, eS, eM, fH, eP, dK, eN, eJ, eY, eE, eB, eK, eD, eI, eX, fC, eF, dR, eU, eZ, eA, gA, gB, gC, gG, gE, gF, gD, gH, gI, dH, Result.ok.injEq, Next.value.injEq, true_and, and_true, dZ, dY, fA, eL, eQ, fG, Qp, dS, dW, dV, dT, dN, dM, dO, dL, dI, cY, if_true, if_false, Qm, Qs, Qn, Qo, Qr, Qq, Ql, Qk, cR, cP, cD, bT, cV, dJ, bX, bW, cS, cM, cK, dD, cN, dB, dC, dX, cZ, cC, bE, bQ, aT, aA, aK, dE, aJ, cF, dF, dA, bN, aH, bB, aY, cL, aD, aX, aM, aV, cU, aW, cJ, bS, aC, aE, aL, dP, aP, aN, bC, aR, cI, aF, bZ, bU, bL, bD, bA, cX, aI, bM, aS, aU, aQ, aG, dG, cO, bO, aO, cW, bV, bY, cG, bP, bR, bK, cH, bF, cB, aZ, bJ, bH, bG, cA, en, n0, g1]
    refine (MW hd1 hout (show fr <= 2000000 by omega) hmost (by show (l.drop 4).length <= _; omega) hmb).mono ?_
    intro r w2 hq
    unfold oB
    cases mb with
    | error e =>
      obtain ⟨he, rfl, x2⟩ := hq
      cases hm
      have n1 : (e != 0) = true := by simp [he]
      simp (disch := omega) only [dQ, fE, cQ, stepR_skip, eC, fB, eH, eT, eS, eM, fH, eP, dK, eN, eJ, eY, eE, eB, eK, eD, eI, eX, fC, eF, dR, eU, eZ, eA, gA, gB, gC, gG, gE, gF, gD, gH, gI, dH, Result.ok.injEq, Next.value.injEq, true_and, and_true, dZ, dY, fA, eL, eQ, fG, Qp, dS, dW, dV, dT, dN, dM, dO, dL, dI, cY, if_true, if_false, Qm, Qs, Qn, Qo, Qr, Qq, Ql, Qk, cR, cP, cD, bT, cV, dJ, bX, bW, cS, cM, cK, dD, cN, dB, dC, dX, cZ, cC, bE, bQ, aT, aA, aK, dE, aJ, cF, dF, dA, bN, aH, bB, aY, cL, aD, aX, aM, aV, cU, aW, cJ, bS, aC, aE, aL, dP, aP, aN, bC, aR, cI, aF, bZ, bU, bL, bD, bA, cX, aI, bM, aS, aU, aQ, aG, dG, cO, bO, aO, cW, bV, bY, cG, bP, bR, bK, cH, bF, cB, aZ, bJ, bH, bG, cA, n1]
      refine hR _ _ ?_
      exact ⟨he, rfl, hx1.seq x2⟩
    | ok t =>
      obtain ⟨a, l'⟩ := t
      obtain ⟨rfl, hd2, x2⟩ := hq
      have hok := NV hmb
      simp (disch := omega) only [dQ, fE, cQ, stepR_skip, eC, fB, eH, eT, eS, eM, fH, eP, dK, eN, eJ, eY, eE, eB, eK, eD, eI, eX, fC, eF, dR, eU, eZ, eA, gA, gB, gC, gG, gE, gF, gD, gH, gI, dH, Result.ok.injEq, Next.value.injEq, true_and, and_true, dZ, dY, fA, eL, eQ, fG, Qp, dS, dW, dV, dT, dN, dM, dO, dL, dI, cY, if_true, if_false, Qm, Qs, Qn, Qo, Qr, Qq, Ql, Qk, cR, cP, cD, bT, cV, dJ, bX, bW, cS, cM, cK, dD, cN, dB, dC, dX, cZ, cC, bE, bQ, aT, aA, aK, dE, aJ, cF, dF, dA, bN, aH, bB, aY, cL, aD, aX, aM, aV, cU, aW, cJ, bS, aC, aE, aL, dP, aP, aN, bC, aR, cI, aF, bZ, bU, bL, bD, bA, cX, aI, bM, aS, aU, aQ, aG, dG, cO, bO, aO, cW, bV, bY, cG, bP, bR, bK, cH, bF, cB, aZ, bJ, bH, bG, cA, n0]
      exact ⟨f, by omega, l', out ++ a, fr + 1, sk, hm, hd2, hx1.seq x2, by rw [Qt]; omega, by omega, by omega, by omega⟩
   have g1 : ((n : Int) == 4247762216) = false := by simp; omega
   rw [if_neg hmg] at hm
   by_cases hs : 407710288 <= n /\ n < 407710304
   .have g2 : decide ((n : Int) ≥ 407710288) = true := decide_eq_true (by omega)
    have g3 : decide ((407710288 : Int) <= (n : Int)) = true := decide_eq_true (by omega)
    have g4 : decide ((n : Int) < 407710304) = true := decide_eq_true (by omega)
    rw [if_pos hs] at hm
    simp (disch := omega) only [dQ, fE, cQ, stepR_skip, eC, fB, eH, eT, eS, eM, fH, eP, dK, eN, eJ, eY, eE, eB, eK, eD, eI, eX, fC, eF, dR, eU, eZ, eA, gA, gB, gC, gG, gE, gF, gD, gH, gI, dH, Result.ok.injEq, Next.value.injEq, true_and, and_true, dZ, dY, fA, eL, eQ, fG, Qp, dS, dW, dV, dT, dN, dM, dO, dL, dI, cY, if_true, if_false, Qm, Qs, Qn, Qo, Qr, Qq, Ql, Qk, cR, cP, cD, bT, cV, dJ, bX, bW, cS, cM, cK, dD, cN, dB, dC, dX, cZ, cC, bE, bQ, aT, aA, aK, dE, aJ, cF, dF, dA, bN, aH, bB, aY, cL, aD, aX, aM, aV, cU, aW, cJ, bS, aC, aE, aL, dP, aP, aN, bC, aR, cI, aF, bZ, bU, bL, bD, bA, cX, aI, bM, aS, aU, aQ, aG, dG, cO, bO, aO, cW, bV, bY, cG, bP, bR, bK, cH, bF, cB, aZ, bJ, bH, bG, cA, en, n0, g1, g2, g3, g4]
    refine (Nw hd1 (show sk <= 2000000 by omega) (by show (l.drop 4).length <= _; omega)).mono ?_
    intro r w2 hq
    unfold oB
    have hq : Ph base p w1 ⟨l.drop 4, win, most, out, fr, sk⟩ r w2 (JM (l.drop 4)) := hq
    cases hk : JM (l.drop 4) with
    | error e =>
      rw [hk] at hq hm
      obtain ⟨he, rfl, x2⟩ := hq
      cases hm
      have n1 : (e != 0) = true := by simp [he]
      simp (disch := omega) only [dQ, fE, cQ, stepR_skip, eC, fB, eH, eT, eS, eM, fH, eP, dK, eN, eJ, eY, eE, eB, eK, eD, eI, eX, fC, eF, dR, eU, eZ, eA, gA, gB, gC, gG, gE, gF, gD, gH, gI, dH, Result.ok.injEq, Next.value.injEq, true_and, and_true, dZ, dY, fA, eL, eQ, fG, Qp, dS, dW, dV, dT, dN, dM, dO, dL, dI, cY, if_true, if_false, Qm, Qs, Qn, Qo, Qr, Qq, Ql, Qk, cR, cP, cD, bT, cV, dJ, bX, bW, cS, cM, cK, dD, cN, dB, dC, dX, cZ, cC, bE, bQ, aT, aA, aK, dE, aJ, cF, dF, dA, bN, aH, bB, aY, cL, aD, aX, aM, aV, cU, aW, cJ, bS, aC, aE, aL, dP, aP, aN, bC, aR, cI, aF, bZ, bU, bL, bD, bA, cX, aI, bM, aS, aU, aQ, aG, dG, cO, bO, aO, cW, bV, bY, cG, bP, bR, bK, cH, bF, cB, aZ, bJ, bH, bG, cA, n1]
      refine hR _ _ ?_
      exact ⟨he, rfl, hx1.seq x2⟩
    | ok l' =>
      rw [hk] at hq hm
      obtain ⟨rfl, hd2, x2⟩ := hq
      have hle : l'.length <= (l.drop 4).length := by
       unfold JM at hk
       repeat' split at hk
       all_goals first | cases hk | skip
       rw [Qy]
       omega
      simp (disch := omega) only [dQ, fE, cQ, stepR_skip, eC, fB, eH, eT, eS, eM, fH, eP, dK, eN, eJ, eY, eE, eB, eK, eD, eI, eX, fC, eF, dR, eU, eZ, eA, gA, gB, gC, gG, gE, gF, gD, gH, gI, dH, Result.ok.injEq, Next.value.injEq, true_and, and_true, dZ, dY, fA, eL, eQ, fG, Qp, dS, dW, dV, dT, dN, dM, dO, dL, dI, cY, if_true, if_false, Qm, Qs, Qn, Qo, Qr, Qq, Ql, Qk, cR, cP, cD, bT, cV, dJ, bX, bW, cS, cM, cK, dD, cN, dB, dC, dX, cZ, cC, bE, bQ, aT, aA, aK, dE, aJ, cF, dF, dA, bN, aH, bB, aY, cL, aD, aX, aM, aV, cU, aW, cJ, bS, aC, aE, aL, dP, aP, aN, bC, aR, cI, aF, bZ, bU, bL, bD, bA, cX, aI, bM, aS, aU, aQ, aG, dG, cO, bO, aO, cW, bV, bY, cG, bP, bR, bK, cH, bF, cB, aZ, bJ, bH, bG, cA, n0]
      exact ⟨f, by omega, l', out, fr, sk + 1, hm, hd2, hx1.seq x2, hout, by omega, by omega, by omega⟩
   .rw [if_neg hs] at hm
    cases hm
    have n1 : ((11 : Int) != 0) = true := rfl
    unfold oB
    by_cases h1 : 407710288 <= n
    .have g2 : decide ((n : Int) ≥ 407710288) = true := decide_eq_true (by omega)
     have g3 : decide ((407710288 : Int) <= (n : Int)) = true := decide_eq_true (by omega)
     have g4 : decide ((n : Int) < 407710304) = false := decide_eq_false (by omega)
     simp (disch := omega) only [dQ, fE, cQ, stepR_skip, eC, fB, eH, eT, eS, eM, fH, eP, dK, eN, eJ, eY, eE, eB, eK, eD, eI, eX, fC, eF, dR, eU, eZ, eA, gA, gB, gC, gG, gE, gF, gD, gH, gI, dH, Result.ok.injEq, Next.value.injEq, true_and, and_true, dZ, dY, fA, eL, eQ, fG, Qp, dS, dW, dV, dT, dN, dM, dO, dL, dI, cY, if_true, if_false, Qm, Qs, Qn, Qo, Qr, Qq, Ql, Qk, cR, cP, cD, bT, cV, dJ, bX, bW, cS, cM, cK, dD, cN, dB, dC, dX, cZ, cC, bE, bQ, aT, aA, aK, dE, aJ, cF, dF, dA, bN, aH, bB, aY, cL, aD, aX, aM, aV, cU, aW, cJ, bS, aC, aE, aL, dP, aP, aN, bC, aR, cI, aF, bZ, bU, bL, bD, bA, cX, aI, bM, aS, aU, aQ, aG, dG, cO, bO, aO, cW, bV, bY, cG, bP, bR, bK, cH, bF, cB, aZ, bJ, bH, bG, cA, en, n0, g1, g2, g3, g4, n1]
     refine hR _ _ ?_
     exact ⟨by decide, rfl, hx1⟩
    .have g2 : decide ((n : Int) ≥ 407710288) = false := decide_eq_false (by omega)
     have g3 : decide ((407710288 : Int) <= (n : Int)) = false := decide_eq_false (by omega)
     simp (disch := omega) only [dQ, fE, cQ, stepR_skip, eC, fB, eH, eT, eS, eM, fH, eP, dK, eN, eJ, eY, eE, eB, eK, eD, eI, eX, fC, eF, dR, eU, eZ, eA, gA, gB, gC, gG, gE, gF, gD, gH, gI, dH, Result.ok.injEq, Next.value.injEq, true_and, and_true, dZ, dY, fA, eL, eQ, fG, Qp, dS, dW, dV, dT, dN, dM, dO, dL, dI, cY, if_true, if_false, Qm, Qs, Qn, Qo, Qr, Qq, Ql, Qk, cR, cP, cD, bT, cV, dJ, bX, bW, cS, cM, cK, dD, cN, dB, dC, dX, cZ, cC, bE, bQ, aT, aA, aK, dE, aJ, cF, dF, dA, bN, aH, bB, aY, cL, aD, aX, aM, aV, cU, aW, cJ, bS, aC, aE, aL, dP, aP, aN, bC, aR, cI, aF, bZ, bU, bL, bD, bA, cX, aI, bM, aS, aU, aQ, aG, dG, cO, bO, aO, cW, bV, bY, cG, bP, bR, bK, cH, bF, cB, aZ, bJ, bH, bG, cA, en, n0, g1, g2, g3, n1]
     refine hR _ _ ?_
     exact ⟨by decide, rfl, hx1⟩
def PM (l : List UInt8) (log most : Nat) : Option (Except Int (List UInt8 × Nat × Nat)) := Dg (2 ^ log) most (l.length + 1) l [] 0 0
theorem JD {v : RN} {l : List UInt8} {log most : Nat} {w : RM} {mm : Except Int (List UInt8 × Nat × Nat)} (hb : Bs w v l) (hl : l.length <= 1000000) (hlog : 10 <= log /\ log <= 22) (hmost : most <= 2000000) (hm : PM l log most = some mm) :
 fK pg qB #[v, .int .i64 (log : Nat), .int .i64 (most : Nat)] w (fun r w' => ∃ p, Pc w.heap.size p w (2 ^ log) most r w' mm) := by
 refine Cr ?_
 obtain ⟨RR, hRR⟩ : ∃ RR : RN -> RM -> Prop, RR = fun r w' => ∃ p, Pc w.heap.size p w (2 ^ log) most r w' mm := ⟨_, rfl⟩
 rw [<- hRR]
 unfold Et tA sN
 have d1 : decide ((log : Int) < 10) = false := decide_eq_false (by omega)
 have d2 : decide ((log : Int) > 22) = false := decide_eq_false (by omega)
 have d3 : decide ((22 : Int) < (log : Int)) = false := decide_eq_false (by omega)
 have d4 : decide ((most : Int) < 0) = false := decide_eq_false (by omega)
 have hlb : 2 ^ log <= 2 ^ 22 := Re (by omega) hlog.2
 have e1 : (1 : Int) * 2 ^ min log IntKind.u64.bits = ((2 ^ log : Nat) : Int) := by
  rw [Rj (by have : IntKind.u64.bits = 64 := rfl; omega)]
  simp
 have e2 : IntKind.u64.wrap ((2 ^ log : Nat) : Int) = ((2 ^ log : Nat) : Int) := by
  have : ∀ W : Nat, W <= 2 ^ 22 -> IntKind.u64.wrap (W : Int) = (W : Int) := fun W hW => dY (by omega) (by omega)
  exact this _ hlb
 have t0 : (log : Int).toNat = log := Qp _
 have g0 : (0 : Int) <= (log : Int) := by omega
 simp (disch := omega) only [dQ, fE, cQ, stepR_skip, eC, fB, eH, eT, eS, eM, fH, eP, dK, eN, eJ, eY, eE, eB, eK, eD, eI, eX, fC, eF, dR, eU, eZ, eA, gA, gB, gC, gG, gE, gF, gD, gH, gI, dH, Result.ok.injEq, Next.value.injEq, true_and, and_true, dZ, dY, fA, eL, eQ, fG, Qp, dS, dW, dV, dT, dN, dM, dO, dL, dI, cY, if_true, if_false, Qm, Qs, Qn, Qo, Qr, Qq, Ql, Qk, cR, cP, cD, bT, cV, dJ, bX, bW, cS, cM, cK, dD, cN, dB, dC, dX, cZ, cC, bE, bQ, aT, aA, aK, dE, aJ, cF, dF, dA, bN, aH, bB, aY, cL, aD, aX, aM, aV, cU, aW, cJ, bS, aC, aE, aL, dP, aP, aN, bC, aR, cI, aF, bZ, bU, bL, bD, bA, cX, aI, bM, aS, aU, aQ, aG, dG, cO, bO, aO, cW, bV, bY, cG, bP, bR, bK, cH, bF, cB, aZ, bJ, bH, bG, cA, d1, d2, d3, d4]
 have hb1 := hb.ext (fW.dr w kY) (kQ _)
 refine (vK hb1 (by omega)).mono ?_
 rintro r w1 ⟨pr, rfl, hr, x1⟩
 have zd := (fW.dr w kY).size
 have z1 := x1.size
 simp (disch := omega) only [dQ, fE, cQ, stepR_skip, eC, fB, eH, eT, eS, eM, fH, eP, dK, eN, eJ, eY, eE, eB, eK, eD, eI, eX, fC, eF, dR, eU, eZ, eA, gA, gB, gC, gG, gE, gF, gD, gH, gI, dH, Result.ok.injEq, Next.value.injEq, true_and, and_true, dZ, dY, fA, eL, eQ, fG, Qp, dS, dW, dV, dT, dN, dM, dO, dL, dI, cY, if_true, if_false, Qm, Qs, Qn, Qo, Qr, Qq, Ql, Qk, cR, cP, cD, bT, cV, dJ, bX, bW, cS, cM, cK, dD, cN, dB, dC, dX, cZ, cC, bE, bQ, aT, aA, aK, dE, aJ, cF, dF, dA, bN, aH, bB, aY, cL, aD, aX, aM, aV, cU, aW, cJ, bS, aC, aE, aL, dP, aP, aN, bC, aR, cI, aF, bZ, bU, bL, bD, bA, cX, aI, bM, aS, aU, aQ, aG, dG, cO, bO, aO, cW, bV, bY, cG, bP, bR, bK, cH, bF, cB, aZ, bJ, bH, bG, cA, e1, e2, t0, g0]
 refine Dp fun w2 o2 x2 s2 => ?_
 have o2 : iL w2 w1.heap.size (mZ pr wV ⟨l, 2 ^ log, most, [], 0, 0⟩) := o2
 have hz := o2.lt
 have hpr : (dr w).heap.size <= pr /\ pr < w1.heap.size := ⟨hr.1, hr.2.1⟩
 refine Oa (base := w.heap.size) (p := w1.heap.size) (w0 := w) (w := w2) (f := l.length + 1) (l := l) (win := 2 ^ log) (most := most) (mm := mm) ((((fW.dr w kY).seq x1).seq x2).mono fun _ _ h => h.elim) ⟨pr, wV, (dr w).heap.size, w1.heap.size, (fun b => False), o2, hr.ext x2 (fun _ _ _ h => h), ⟨rfl, .inl ⟨rfl, rfl⟩⟩, by omega, by omega, fun b h => h.elim, by omega, by omega⟩ (by omega) hl hmost hm fun r w' h => ?_
 rw [hRR]
 exact ⟨_, h⟩
theorem KJ {v : RN} {log most : Int} {w : RM} (h : log < 10) :
 fK pg qB #[v, .int .i64 log, .int .i64 most] w (fun r w' => r = .tuple #[.pointer none, .int .i64 1] /\ w' = w) := by
 refine Cr ?_
 unfold Et tA sN
 have d1 : decide ((log : Int) < 10) = true := decide_eq_true (by omega)
 simp (disch := omega) only [dQ, fE, cQ, stepR_skip, eC, fB, eH, eT, eS, eM, fH, eP, dK, eN, eJ, eY, eE, eB, eK, eD, eI, eX, fC, eF, dR, eU, eZ, eA, gA, gB, gC, gG, gE, gF, gD, gH, gI, dH, Result.ok.injEq, Next.value.injEq, true_and, and_true, dZ, dY, fA, eL, eQ, fG, Qp, dS, dW, dV, dT, dN, dM, dO, dL, dI, cY, if_true, if_false, Qm, Qs, Qn, Qo, Qr, Qq, Ql, Qk, cR, cP, cD, bT, cV, dJ, bX, bW, cS, cM, cK, dD, cN, dB, dC, dX, cZ, cC, bE, bQ, aT, aA, aK, dE, aJ, cF, dF, dA, bN, aH, bB, aY, cL, aD, aX, aM, aV, cU, aW, cJ, bS, aC, aE, aL, dP, aP, aN, bC, aR, cI, aF, bZ, bU, bL, bD, bA, cX, aI, bM, aS, aU, aQ, aG, dG, cO, bO, aO, cW, bV, bY, cG, bP, bR, bK, cH, bF, cB, aZ, bJ, bH, bG, cA, d1]
def P1 (w : RM) (r : RN) (w' : RM) : Except Int (List UInt8 × Nat × Nat) -> Prop
 | .error e => r = .tuple #[wV, .int .i64 e] /\ fW w w' kY
 | .ok (out, fr, sk) => ∃ v, r = .tuple #[v, .int .i64 0] /\ Bs w' v out /\ fW w w' kY
theorem Ie {v : RN} {l : List UInt8} {log most : Nat} {w : RM} {mm : Except Int (List UInt8 × Nat × Nat)} (hb : Bs w v l) (hl : l.length <= 1000000) (hlog : 10 <= log /\ log <= 22) (hmost : most <= 2000000) (hm : PM l log most = some mm) :
 fK pg jW #[v, .int .i64 (log : Nat), .int .i64 (most : Nat)] w (fun r w' => P1 w r w' mm) := by
 refine yK ?_
 unfold AG qF
 refine (JD hb hl hlog hmost hm).mono ?_
 rintro r w1 ⟨p, hq⟩
 cases mm with
 | error e =>
   obtain ⟨he, rfl, x⟩ := hq
   have n1 : (e != 0) = true := by simp [he]
   simp (disch := omega) only [dQ, fE, cQ, stepR_skip, eC, fB, eH, eT, eS, eM, fH, eP, dK, eN, eJ, eY, eE, eB, eK, eD, eI, eX, fC, eF, dR, eU, eZ, eA, gA, gB, gC, gG, gE, gF, gD, gH, gI, dH, Result.ok.injEq, Next.value.injEq, true_and, and_true, dZ, dY, fA, eL, eQ, fG, Qp, dS, dW, dV, dT, dN, dM, dO, dL, dI, cY, if_true, if_false, Qm, Qs, Qn, Qo, Qr, Qq, Ql, Qk, cR, cP, cD, bT, cV, dJ, bX, bW, cS, cM, cK, dD, cN, dB, dC, dX, cZ, cC, bE, bQ, aT, aA, aK, dE, aJ, cF, dF, dA, bN, aH, bB, aY, cL, aD, aX, aM, aV, cU, aW, cJ, bS, aC, aE, aL, dP, aP, aN, bC, aR, cI, aF, bZ, bU, bL, bD, bA, cX, aI, bM, aS, aU, aQ, aG, dG, cO, bO, aO, cW, bV, bY, cG, bP, bR, bK, cH, bF, cB, aZ, bJ, bH, bG, cA, n1]
   exact ⟨rfl, x.mono fun y hy h => by omega⟩
 | ok t =>
   obtain ⟨out, fr, sk⟩ := t
   obtain ⟨rfl, ⟨l', hd⟩, x⟩ := hq
   obtain ⟨pr, vo, lo, hi, O, o, hr, oo, hp, hlo, hO, q1, hhi⟩ := hd
   have n1 : ((0 : Int) != 0) = false := rfl
   have c3 := o.cell (off := 3)
   simp only [mZ, Qk, Ql] at c3
   simp (disch := omega) only [dQ, fE, cQ, stepR_skip, eC, fB, eH, eT, eS, eM, fH, eP, dK, eN, eJ, eY, eE, eB, eK, eD, eI, eX, fC, eF, dR, eU, eZ, eA, gA, gB, gC, gG, gE, gF, gD, gH, gI, dH, Result.ok.injEq, Next.value.injEq, true_and, and_true, dZ, dY, fA, eL, eQ, fG, Qp, dS, dW, dV, dT, dN, dM, dO, dL, dI, cY, if_true, if_false, Qm, Qs, Qn, Qo, Qr, Qq, Ql, Qk, cR, cP, cD, bT, cV, dJ, bX, bW, cS, cM, cK, dD, cN, dB, dC, dX, cZ, cC, bE, bQ, aT, aA, aK, dE, aJ, cF, dF, dA, bN, aH, bB, aY, cL, aD, aX, aM, aV, cU, aW, cJ, bS, aC, aE, aL, dP, aP, aN, bC, aR, cI, aF, bZ, bU, bL, bD, bA, cX, aI, bM, aS, aU, aQ, aG, dG, cO, bO, aO, cW, bV, bY, cG, bP, bR, bK, cH, bF, cB, aZ, bJ, bH, bG, cA, n1, c3]
   exact ⟨vo, rfl, H8 oo, x.mono fun y hy h => by omega⟩
theorem Lg {v : RN} {log most : Int} {w : RM} (h : log < 10) :
 fK pg jW #[v, .int .i64 log, .int .i64 most] w (fun r w' => r = .tuple #[wV, .int .i64 1] /\ w' = w) := by
 refine yK ?_
 unfold AG qF
 refine (KJ h).mono ?_
 rintro r w1 ⟨rfl, h2⟩
 rw [h2]; clear h2 w1
 have n1 : ((1 : Int) != 0) = true := rfl
 simp (disch := omega) only [dQ, fE, cQ, stepR_skip, eC, fB, eH, eT, eS, eM, fH, eP, dK, eN, eJ, eY, eE, eB, eK, eD, eI, eX, fC, eF, dR, eU, eZ, eA, gA, gB, gC, gG, gE, gF, gD, gH, gI, dH, Result.ok.injEq, Next.value.injEq, true_and, and_true, dZ, dY, fA, eL, eQ, fG, Qp, dS, dW, dV, dT, dN, dM, dO, dL, dI, cY, if_true, if_false, Qm, Qs, Qn, Qo, Qr, Qq, Ql, Qk, cR, cP, cD, bT, cV, dJ, bX, bW, cS, cM, cK, dD, cN, dB, dC, dX, cZ, cC, bE, bQ, aT, aA, aK, dE, aJ, cF, dF, dA, bN, aH, bB, aY, cL, aD, aX, aM, aV, cU, aW, cJ, bS, aC, aE, aL, dP, aP, aN, bC, aR, cI, aF, bZ, bU, bL, bD, bA, cX, aI, bM, aS, aU, aQ, aG, dG, cO, bO, aO, cW, bV, bY, cG, bP, bR, bK, cH, bF, cB, aZ, bJ, bH, bG, cA, n1]
 exact rfl
def MQ : Except Int (List UInt8 × Nat × Nat) -> RN
 | .error e => .tuple #[.int .i64 0, .int .i64 0, .int .i64 e]
 | .ok (_, fr, sk) => .tuple #[.int .i64 (fr : Nat), .int .i64 (sk : Nat), .int .i64 0]
theorem JC {v : RN} {l : List UInt8} {log most : Nat} {w : RM} {mm : Except Int (List UInt8 × Nat × Nat)} (hb : Bs w v l) (hl : l.length <= 1000000) (hlog : 10 <= log /\ log <= 22) (hmost : most <= 2000000) (hm : PM l log most = some mm) :
 fK pg nX #[v, .int .i64 (log : Nat), .int .i64 (most : Nat)] w (fun r w' => r = MQ mm /\ fW w w' kY) := by
 refine Eo ?_
 unfold DK uL
 refine (JD hb hl hlog hmost hm).mono ?_
 rintro r w1 ⟨p, hq⟩
 cases mm with
 | error e =>
   obtain ⟨he, rfl, x⟩ := hq
   have n1 : (e != 0) = true := by simp [he]
   simp (disch := omega) only [dQ, fE, cQ, stepR_skip, eC, fB, eH, eT, eS, eM, fH, eP, dK, eN, eJ, eY, eE, eB, eK, eD, eI, eX, fC, eF, dR, eU, eZ, eA, gA, gB, gC, gG, gE, gF, gD, gH, gI, dH, Result.ok.injEq, Next.value.injEq, true_and, and_true, dZ, dY, fA, eL, eQ, fG, Qp, dS, dW, dV, dT, dN, dM, dO, dL, dI, cY, if_true, if_false, Qm, Qs, Qn, Qo, Qr, Qq, Ql, Qk, cR, cP, cD, bT, cV, dJ, bX, bW, cS, cM, cK, dD, cN, dB, dC, dX, cZ, cC, bE, bQ, aT, aA, aK, dE, aJ, cF, dF, dA, bN, aH, bB, aY, cL, aD, aX, aM, aV, cU, aW, cJ, bS, aC, aE, aL, dP, aP, aN, bC, aR, cI, aF, bZ, bU, bL, bD, bA, cX, aI, bM, aS, aU, aQ, aG, dG, cO, bO, aO, cW, bV, bY, cG, bP, bR, bK, cH, bF, cB, aZ, bJ, bH, bG, cA, n1]
   exact ⟨rfl, x.mono fun y hy h => by omega⟩
 | ok t =>
   obtain ⟨out, fr, sk⟩ := t
   obtain ⟨rfl, ⟨l', hd⟩, x⟩ := hq
   obtain ⟨pr, vo, lo, hi, O, o, hr, oo, hp, hlo, hO, q1, hhi⟩ := hd
   have n1 : ((0 : Int) != 0) = false := rfl
   have c4 := o.cell (off := 4)
   have c5 := o.cell (off := 5)
   have d4 := (jJ o).cell (off := 4)
   have d5 := (jJ o).cell (off := 5)
   simp only [mZ, Qk, Ql] at c4 c5 d4 d5
   simp (disch := omega) only [dQ, fE, cQ, stepR_skip, eC, fB, eH, eT, eS, eM, fH, eP, dK, eN, eJ, eY, eE, eB, eK, eD, eI, eX, fC, eF, dR, eU, eZ, eA, gA, gB, gC, gG, gE, gF, gD, gH, gI, dH, Result.ok.injEq, Next.value.injEq, true_and, and_true, dZ, dY, fA, eL, eQ, fG, Qp, dS, dW, dV, dT, dN, dM, dO, dL, dI, cY, if_true, if_false, Qm, Qs, Qn, Qo, Qr, Qq, Ql, Qk, cR, cP, cD, bT, cV, dJ, bX, bW, cS, cM, cK, dD, cN, dB, dC, dX, cZ, cC, bE, bQ, aT, aA, aK, dE, aJ, cF, dF, dA, bN, aH, bB, aY, cL, aD, aX, aM, aV, cU, aW, cJ, bS, aC, aE, aL, dP, aP, aN, bC, aR, cI, aF, bZ, bU, bL, bD, bA, cX, aI, bM, aS, aU, aQ, aG, dG, cO, bO, aO, cW, bV, bY, cG, bP, bR, bK, cH, bF, cB, aZ, bJ, bH, bG, cA, n1, c4, c5, d4, d5]
   exact ⟨rfl, (x.seq (fW.dr w1 _)).mono fun y hy h => by omega⟩
theorem LD (w : RM) : fK pg uV #[] w (fun r w' => r = .bool true /\ fW w w' kY) := by
 refine FG ?_
 unfold Gr yX
 refine pY (cells := #[.int .u8 40, .int .u8 181, .int .u8 47, .int .u8 253, .int .u8 32, .int .u8 2, .int .u8 17, .int .u8 0, .int .u8 0, .int .u8 7, .int .u8 8]) (by decide) (by decide) (by kernel_rfl) fun w1 o1 x1 s1 => ?_
 refine Fl o1 fun w2 o2 x2 s2 => ?_
 have x02 : fW w w2 kY := x1.new x2 (by omega)
 have b2 := o2.bs (off := 0) (c := 11) (l := [40, 181, 47, 253, 32, 2, 17, 0, 0, 7, 8]) (by decide) (fun i hi => by
  have : ∀ i : Fin 11, ([.int .u8 40, .int .u8 181, .int .u8 47, .int .u8 253, .int .u8 32, .int .u8 2, .int .u8 17, .int .u8 0, .int .u8 0, .int .u8 7, .int .u8 8] : List RN)[0 + i.val]? = some (lN (([40, 181, 47, 253, 32, 2, 17, 0, 0, 7, 8] : List UInt8)[i.val])) := by
   intro i
   match i with
   | ⟨0, _⟩ => rfl
   | ⟨1, _⟩ => rfl
   | ⟨2, _⟩ => rfl
   | ⟨3, _⟩ => rfl
   | ⟨4, _⟩ => rfl
   | ⟨5, _⟩ => rfl
   | ⟨6, _⟩ => rfl
   | ⟨7, _⟩ => rfl
   | ⟨8, _⟩ => rfl
   | ⟨9, _⟩ => rfl
   | ⟨10, _⟩ => rfl
  exact this ⟨i, hi⟩)
 refine (Ie (log := 20) (most := 100) (mm := .ok ([7, 8], 1, 0)) b2 (by decide) (by omega) (by omega) (by kernel_rfl)).mono ?_
 rintro r w3 ⟨v3, rfl, b3, x3⟩
 simp (disch := omega) only [dQ, fE, cQ, stepR_skip, eC, fB, eH, eT, eS, eM, fH, eP, dK, eN, eJ, eY, eE, eB, eK, eD, eI, eX, fC, eF, dR, eU, eZ, eA, gA, gB, gC, gG, gE, gF, gD, gH, gI, dH, Result.ok.injEq, Next.value.injEq, true_and, and_true, dZ, dY, fA, eL, eQ, fG, Qp, dS, dW, dV, dT, dN, dM, dO, dL, dI, cY, if_true, if_false, Qm, Qs, Qn, Qo, Qr, Qq, Ql, Qk, cR, cP, cD, bT, cV, dJ, bX, bW, cS, cM, cK, dD, cN, dB, dC, dX, cZ, cC, bE, bQ, aT, aA, aK, dE, aJ, cF, dF, dA, bN, aH, bB, aY, cL, aD, aX, aM, aV, cU, aW, cJ, bS, aC, aE, aL, dP, aP, aN, bC, aR, cI, aF, bZ, bU, bL, bD, bA, cX, aI, bM, aS, aU, aQ, aG, dG, cO, bO, aO, cW, bV, bY, cG, bP, bR, bK, cH, bF, cB, aZ, bJ, bH, bG, cA]
 refine pY (cells := #[.int .u8 1, .int .u8 2, .int .u8 3]) (by decide) (by decide) (by kernel_rfl) fun w4 o4 x4 s4 => ?_
 have b4 := o4.bs (off := 0) (c := 3) (l := [1, 2, 3]) (by decide) (fun i hi => by
  match i, hi with
  | 0, _ => rfl
  | 1, _ => rfl
  | 2, _ => rfl)
 refine (Ie (log := 20) (most := 100) (mm := .error 10) b4 (by decide) (by omega) (by omega) (by kernel_rfl)).mono ?_
 rintro r w5 ⟨rfl, x5⟩
 unfold wV
 simp (disch := omega) only [dQ, fE, cQ, stepR_skip, eC, fB, eH, eT, eS, eM, fH, eP, dK, eN, eJ, eY, eE, eB, eK, eD, eI, eX, fC, eF, dR, eU, eZ, eA, gA, gB, gC, gG, gE, gF, gD, gH, gI, dH, Result.ok.injEq, Next.value.injEq, true_and, and_true, dZ, dY, fA, eL, eQ, fG, Qp, dS, dW, dV, dT, dN, dM, dO, dL, dI, cY, if_true, if_false, Qm, Qs, Qn, Qo, Qr, Qq, Ql, Qk, cR, cP, cD, bT, cV, dJ, bX, bW, cS, cM, cK, dD, cN, dB, dC, dX, cZ, cC, bE, bQ, aT, aA, aK, dE, aJ, cF, dF, dA, bN, aH, bB, aY, cL, aD, aX, aM, aV, cU, aW, cJ, bS, aC, aE, aL, dP, aP, aN, bC, aR, cI, aF, bZ, bU, bL, bD, bA, cX, aI, bM, aS, aU, aQ, aG, dG, cO, bO, aO, cW, bV, bY, cG, bP, bR, bK, cH, bF, cB, aZ, bJ, bH, bG, cA]
 refine (Lg (by omega)).mono ?_
 rintro r w6 ⟨rfl, h6⟩
 rw [h6]; clear h6 w6
 unfold wV
 simp (disch := omega) only [dQ, fE, cQ, stepR_skip, eC, fB, eH, eT, eS, eM, fH, eP, dK, eN, eJ, eY, eE, eB, eK, eD, eI, eX, fC, eF, dR, eU, eZ, eA, gA, gB, gC, gG, gE, gF, gD, gH, gI, dH, Result.ok.injEq, Next.value.injEq, true_and, and_true, dZ, dY, fA, eL, eQ, fG, Qp, dS, dW, dV, dT, dN, dM, dO, dL, dI, cY, if_true, if_false, Qm, Qs, Qn, Qo, Qr, Qq, Ql, Qk, cR, cP, cD, bT, cV, dJ, bX, bW, cS, cM, cK, dD, cN, dB, dC, dX, cZ, cC, bE, bQ, aT, aA, aK, dE, aJ, cF, dF, dA, bN, aH, bB, aY, cL, aD, aX, aM, aV, cU, aW, cJ, bS, aC, aE, aL, dP, aP, aN, bC, aR, cI, aF, bZ, bU, bL, bD, bA, cX, aI, bM, aS, aU, aQ, aG, dG, cO, bO, aO, cW, bV, bY, cG, bP, bR, bK, cH, bF, cB, aZ, bJ, bH, bG, cA]
 refine pY (cells := #[.int .u8 80, .int .u8 42, .int .u8 77, .int .u8 24, .int .u8 1, .int .u8 0, .int .u8 0, .int .u8 0, .int .u8 9]) (by decide) (by decide) (by kernel_rfl) fun w6 o6 x6 s6 => ?_
 refine Fl o6 fun w7 o7 x7 s7 => ?_
 have b7 := o7.bs (off := 0) (c := 9) (l := [80, 42, 77, 24, 1, 0, 0, 0, 9]) (by decide) (fun i hi => by
  match i, hi with
  | 0, _ => rfl
  | 1, _ => rfl
  | 2, _ => rfl
  | 3, _ => rfl
  | 4, _ => rfl
  | 5, _ => rfl
  | 6, _ => rfl
  | 7, _ => rfl
  | 8, _ => rfl)
 have x57 : fW w5 w7 kY := x6.new x7 (by omega)
 refine (JC (log := 20) (most := 100) (mm := .ok ([], 0, 1)) b7 (by decide) (by omega) (by omega) (by kernel_rfl)).mono ?_
 rintro r w8 ⟨rfl, x8⟩
 have b8 := ((((b3.ext x4 (kQ _)).ext x5 (kQ _)).ext x57 (kQ _)).ext x8 (kQ _))
 have hs := lK b8
 have e1 : ((⟨#[7, 8]⟩ : ByteArray).toList == (⟨#[7, 8]⟩ : ByteArray).toList) = true := beq_self_eq_true _
 have n0 : ((0 : Int) == 0) = true := rfl
 have n1 : (((0 : Nat) : Int) == 0) = true := rfl
 have n2 : (((1 : Nat) : Int) == 1) = true := rfl
 have n3 : ((10 : Int) == 10) = true := rfl
 have n4 : ((1 : Int) == 1) = true := rfl
 unfold MQ
 simp (disch := omega) only [dQ, fE, cQ, stepR_skip, eC, fB, eH, eT, eS, eM, fH, eP, dK, eN, eJ, eY, eE, eB, eK, eD, eI, eX, fC, eF, dR, eU, eZ, eA, gA, gB, gC, gG, gE, gF, gD, gH, gI, dH, Result.ok.injEq, Next.value.injEq, true_and, and_true, dZ, dY, fA, eL, eQ, fG, Qp, dS, dW, dV, dT, dN, dM, dO, dL, dI, cY, if_true, if_false, Qm, Qs, Qn, Qo, Qr, Qq, Ql, Qk, cR, cP, cD, bT, cV, dJ, bX, bW, cS, cM, cK, dD, cN, dB, dC, dX, cZ, cC, bE, bQ, aT, aA, aK, dE, aJ, cF, dF, dA, bN, aH, bB, aY, cL, aD, aX, aM, aV, cU, aW, cJ, bS, aC, aE, aL, dP, aP, aN, bC, aR, cI, aF, bZ, bU, bL, bD, bA, cX, aI, bM, aS, aU, aQ, aG, dG, cO, bO, aO, cW, bV, bY, cG, bP, bR, bK, cH, bF, cB, aZ, bJ, bH, bG, cA, hs, e1, Nq, n0, n1, n2, n3, n4]
 exact ((((((x02.seq x3).seq x4).seq x5).seq x57).seq x8))
def Ns (k : UInt8) (b : List UInt8) : List UInt8 := UInt8.ofNat (80 + k.toNat % 16) :: 42 :: 77 :: 24 :: UInt8.ofNat b.length :: 0 :: 0 :: 0 :: b
theorem Ej (k : UInt8) (b : List UInt8) : (Ns k b).length = 8 + b.length := by simp [Ns]; omega
theorem Ob (k : UInt8) : kB [UInt8.ofNat (80 + k.toNat % 16), 42, 77, 24] = 407710288 + k.toNat % 16 := by
 simp only [kB]
 have : (UInt8.ofNat (80 + k.toNat % 16)).toNat = 80 + k.toNat % 16 := by rw [Q5]; omega
 rw [this]
 have h1 : (42 : UInt8).toNat = 42 := rfl
 have h2 : (77 : UInt8).toNat = 77 := rfl
 have h3 : (24 : UInt8).toNat = 24 := rfl
 rw [h1, h2, h3]
 omega
theorem Om (n : Nat) (h : n <= 255) : kB [UInt8.ofNat n, 0, 0, 0] = n := by
 simp only [kB]
 have : (UInt8.ofNat n).toNat = n := by rw [Q5]; omega
 rw [this]
 have h1 : (0 : UInt8).toNat = 0 := rfl
 rw [h1]
 omega
theorem LS {win most f : Nat} {k : UInt8} {b r out : List UInt8} {fr sk : Nat} (hb : b.length <= 255) : Dg win most (f + 1) (Ns k b ++ r) out fr sk = Dg win most f r out fr (sk + 1) := by
 rw [Dg]
 have h1 : (Ns k b ++ r).length = 8 + b.length + r.length := by rw [Qt, Ej]
 rw [if_neg (by omega), if_neg (by omega)]
 have h2 : (Ns k b ++ r).take 4 = [UInt8.ofNat (80 + k.toNat % 16), 42, 77, 24] := rfl
 rw [h2, Ob, if_neg (by omega), if_pos (by omega)]
 have h3 : (Ns k b ++ r).drop 4 = UInt8.ofNat b.length :: 0 :: 0 :: 0 :: (b ++ r) := rfl
 have h4 : (UInt8.ofNat b.length :: 0 :: 0 :: 0 :: (b ++ r)).take 4 = [UInt8.ofNat b.length, 0, 0, 0] := rfl
 have h5 : JM (UInt8.ofNat b.length :: 0 :: 0 :: 0 :: (b ++ r)) = .ok r := by
  unfold JM
  rw [h4, Om _ hb]
  rw [if_neg (by simp), if_neg (by simp)]
  congr 1
  rw [Nat.add_comm 4]
  simp only [List.drop_succ_cons]
  rw [List.drop_left]
 rw [h3, h5]
def Mu : List (UInt8 × List UInt8) -> List UInt8
 | [] => []
 | (k, b) :: L => Ns k b ++ Mu L
def KC : Nat -> List (UInt8 × List UInt8) -> List Nat
 | _, [] => []
 | n, (k, b) :: L => (n + (8 + b.length)) :: KC (n + (8 + b.length)) L
def Of (w : RM) (v : RN) (ls : List (List UInt8)) : Prop := ∃ vs : List RN, Sl w v vs /\ vs.length = ls.length /\ ∀ i (h : i < ls.length) (h' : i < vs.length), Bs w vs[i] ls[i]
theorem Of.ext {w w' : RM} {v : RN} {ls : List (List UInt8)} (h : Of w v ls) (x : fW w w' kY) : Of w' v ls := by
 obtain ⟨vs, h1, h2, h3⟩ := h
 exact ⟨vs, h1.ext x (kQ _), h2, fun i a b => (h3 i a b).ext x (kQ _)⟩
theorem Of.len {w : RM} {v : RN} {ls : List (List UInt8)} (h : Of w v ls) : ∃ a c, v = .slice a ls.length c := by
 obtain ⟨vs, ⟨a, n, c, rfl, hn, hc, _⟩, h2, h3⟩ := h
 exact ⟨a, c, by rw [<- h2, hn]⟩
theorem Of.at {w : RM} {v : RN} {ls : List (List UInt8)} (h : Of w v ls) {i : Nat} (hi : i < ls.length) : ∃ b o c u, v = .slice (some ⟨b, o, none⟩) ls.length c /\ w.cell? ⟨b, o + i, none⟩ = some u /\ Bs w u (ls[i]'hi) := by
 obtain ⟨vs, ⟨a, n, c, rfl, hn, hc, hh⟩, h2, h3⟩ := h
 obtain ⟨b, o, rfl, h4⟩ := hh (by omega)
 have h5 := h4 i (by omega)
 rw [Qv (by omega)] at h5
 exact ⟨b, o, c, _, by rw [<- h2, hn], h5, h3 i hi (by omega)⟩
theorem OA {w : RM} {v : RN} {l : List UInt8} (h : Bs w v l) {i : Nat} (hi : i < l.length) : ∃ b o c, v = .slice (some ⟨b, o, none⟩) l.length c /\ w.cell? ⟨b, o + i, none⟩ = some (lN (l[i]'hi)) := by
 obtain ⟨a, n, c, rfl, hn, hc, hh⟩ := h
 rw [Qw] at hn
 obtain ⟨b, o, rfl, h4⟩ := hh (by omega)
 have h5 := h4 i (by omega)
 rw [Rg, Qv hi] at h5
 exact ⟨b, o, c, by rw [hn], h5⟩
theorem I2 {w : RM} {b : Nat} {l : List UInt8} (h : iL w b (l.map lN)) : Bs w (.slice (some ⟨b, 0, none⟩) l.length l.length) l :=
 h.bs (off := 0) (c := l.length) (QD _) (fun i hi => by rw [Qs, Rg, Qv hi] <;> rfl)
def iv (n : Nat) : RN := .int .i64 (n : Nat)
def KS (k : UInt8) (n : Nat) : List UInt8 := [UInt8.ofNat (80 + k.toNat % 16), 42, 77, 24, UInt8.ofNat n, 0, 0, 0]
theorem Ko (k : UInt8) {n : Nat} (h : n <= 255) : (#[.int .u8 ((80 + k.toNat % 16 : Nat) : Int), .int .u8 42, .int .u8 77, .int .u8 24, .int .u8 (n : Nat), .int .u8 0, .int .u8 0, .int .u8 0] : Array RN).toList = (KS k n).map lN := by
 have e1 : (UInt8.ofNat (80 + k.toNat % 16)).toNat = 80 + k.toNat % 16 := by rw [Q5]; omega
 have e2 : (UInt8.ofNat n).toNat = n := by rw [Q5]; omega
 simp only [KS, Rl, RJ, lN, e1, e2]
 rfl
def OJ (base : Nat) (w : RM) (va ve : RN) (L : List (UInt8 × List UInt8)) : Prop :=
 ∃ S T : Nat -> Prop, sG w S 1 va (Mu L).length ((Mu L).map lN) /\ sG w T 1 ve (KC 0 L).length ((KC 0 L).map iv) /\ (∀ b, S b -> base <= b /\ ¬ T b) /\ (∀ b, T b -> base <= b)
theorem OJ.ext {base : Nat} {w w' : RM} {va ve : RN} {L : List (UInt8 × List UInt8)} (h : OJ base w va ve L) (x : fW w w' kY) : OJ base w' va ve L := by
 obtain ⟨S, T, h1, h2, h3, h4⟩ := h
 exact ⟨S, T, h1.ext x (fun _ _ h => h), h2.ext x (fun _ _ h => h), h3, h4⟩
theorem Md {n : Nat} (h : n < 256) : (UInt8.ofNat n).toNat = n := by rw [Q5]; omega
def b3 (x : Nat) : List UInt8 := [UInt8.ofNat (x % 256), UInt8.ofNat (x / 256 % 256), UInt8.ofNat (x / 65536 % 256)]
theorem NJ {x : Nat} (h : x < 2 ^ 24) : kB (b3 x) = x := by
 simp only [b3, kB]
 rw [Md (by omega), Md (by omega), Md (by omega)]
 omega
theorem PG {x : Nat} {r : List UInt8} (h : x < 2 ^ 24) : bx (b3 x ++ r) = x := by
 have : (b3 x ++ r).take 3 = b3 x := rfl
 unfold bx
 rw [this, NJ h]
theorem Fm {x n : Nat} {w : RM} (hx : x < 2 ^ 64) (hn : n <= 8) :
 fK pg kO #[.int .u64 (x : Nat), .int .i64 (n : Nat)] w (fun r w' => r = .string ⟨(kI x n).toArray⟩ /\ fW w w' kY) := by
 refine H2 ?_
 unfold II BL B6
 have d1 : decide ((n : Int) > 8) = false := decide_eq_false (by omega)
 have d2 : decide ((8 : Int) < (n : Int)) = false := decide_eq_false (by omega)
 obtain ⟨RR, hRR⟩ : ∃ RR : RN -> RM -> Prop, RR = fun r w' => r = .string ⟨(kI x n).toArray⟩ /\ fW w w' kY := ⟨_, rfl⟩
 rw [<- hRR]
 simp (disch := omega) only [dQ, fE, cQ, stepR_skip, eC, fB, eH, eT, eS, eM, fH, eP, dK, eN, eJ, eY, eE, eB, eK, eD, eI, eX, fC, eF, dR, eU, eZ, eA, gA, gB, gC, gG, gE, gF, gD, gH, gI, dH, Result.ok.injEq, Next.value.injEq, true_and, and_true, dZ, dY, fA, eL, eQ, fG, Qp, dS, dW, dV, dT, dN, dM, dO, dL, dI, cY, if_true, if_false, Qm, Qs, Qn, Qo, Qr, Qq, Ql, Qk, cR, cP, cD, bT, cV, dJ, bX, bW, cS, cM, cK, dD, cN, dB, dC, dX, cZ, cC, bE, bQ, aT, aA, aK, dE, aJ, cF, dF, dA, bN, aH, bB, aY, cL, aD, aX, aM, aV, cU, aW, cJ, bS, aC, aE, aL, dP, aP, aN, bC, aR, cI, aF, bZ, bU, bL, bD, bA, cX, aI, bM, aS, aU, aQ, aG, dG, cO, bO, aO, cW, bV, bY, cG, bP, bR, bK, cH, bF, cB, aZ, bJ, bH, bG, cA, d1, d2]
 unfold BH B9 Bv Bt BG
 refine iO.rule (fun m (t : RN × RN × RN) w1 => ∃ i vo, m = n - i /\ t = (.int .u64 (x / 256 ^ i : Nat), vo, .int .i64 (i : Nat)) /\ i <= n /\ sG w1 (fun y => w.heap.size <= y) 1 vo (kI x i).length ((kI x i).map lN) /\ fW w w1 kY) n
  ⟨0, _, by omega, by rw [Nat.pow_zero, Nat.div_one] <;> rfl, by omega, ⟨rfl, .inl ⟨rfl, rfl⟩⟩, fW.refl _ _⟩ ?_
 rintro m t w1 ⟨i, vo, rfl, rfl, hi, hS, x1⟩
 show sR _ _ (.int .u64 (x / 256 ^ i : Nat)) (.int .i64 (n : Nat)) vo (.int .i64 (i : Nat)) w1
 unfold sR
 by_cases hlt : i < n
 rotate_left
 .have d3 : decide ((i : Int) < (n : Int)) = false := decide_eq_false (by omega)
  have hin : i = n := by omega
  rw [hin] at hS
  have hcv := lK (l := kI x n) (H8 hS)
  simp (disch := omega) only [dQ, fE, cQ, stepR_skip, eC, fB, eH, eT, eS, eM, fH, eP, dK, eN, eJ, eY, eE, eB, eK, eD, eI, eX, fC, eF, dR, eU, eZ, eA, gA, gB, gC, gG, gE, gF, gD, gH, gI, dH, Result.ok.injEq, Next.value.injEq, true_and, and_true, dZ, dY, fA, eL, eQ, fG, Qp, dS, dW, dV, dT, dN, dM, dO, dL, dI, cY, if_true, if_false, Qm, Qs, Qn, Qo, Qr, Qq, Ql, Qk, cR, cP, cD, bT, cV, dJ, bX, bW, cS, cM, cK, dD, cN, dB, dC, dX, cZ, cC, bE, bQ, aT, aA, aK, dE, aJ, cF, dF, dA, bN, aH, bB, aY, cL, aD, aX, aM, aV, cU, aW, cJ, bS, aC, aE, aL, dP, aP, aN, bC, aR, cI, aF, bZ, bU, bL, bD, bA, cX, aI, bM, aS, aU, aQ, aG, dG, cO, bO, aO, cW, bV, bY, cG, bP, bR, bK, cH, bF, cB, aZ, bJ, bH, bG, cA, d3]
  unfold xI
  simp (disch := omega) only [dQ, fE, cQ, stepR_skip, eC, fB, eH, eT, eS, eM, fH, eP, dK, eN, eJ, eY, eE, eB, eK, eD, eI, eX, fC, eF, dR, eU, eZ, eA, gA, gB, gC, gG, gE, gF, gD, gH, gI, dH, Result.ok.injEq, Next.value.injEq, true_and, and_true, dZ, dY, fA, eL, eQ, fG, Qp, dS, dW, dV, dT, dN, dM, dO, dL, dI, cY, if_true, if_false, Qm, Qs, Qn, Qo, Qr, Qq, Ql, Qk, cR, cP, cD, bT, cV, dJ, bX, bW, cS, cM, cK, dD, cN, dB, dC, dX, cZ, cC, bE, bQ, aT, aA, aK, dE, aJ, cF, dF, dA, bN, aH, bB, aY, cL, aD, aX, aM, aV, cU, aW, cJ, bS, aC, aE, aL, dP, aP, aN, bC, aR, cI, aF, bZ, bU, bL, bD, bA, cX, aI, bM, aS, aU, aQ, aG, dG, cO, bO, aO, cW, bV, bY, cG, bP, bR, bK, cH, bF, cB, aZ, bJ, bH, bG, cA, hcv]
  rw [hRR]
  exact ⟨rfl, x1⟩
 have d3 : decide ((i : Int) < (n : Int)) = true := decide_eq_true (by omega)
 have hle : x / 256 ^ i <= x := Nat.div_le_self _ _
 obtain ⟨q, hq⟩ : ∃ q, q = x / 256 ^ i := ⟨_, rfl⟩
 rw [<- hq] at hle ⊢
 have e1 : (q : Int).tmod 256 = ((q % 256 : Nat) : Int) := rfl
 have e2 : (q : Int).tdiv 256 = ((q / 256 : Nat) : Int) := rfl
 have w2 : IntKind.u64.wrap ((q % 256 : Nat) : Int) = ((q % 256 : Nat) : Int) := dY (by omega) (by omega)
 have w3 : IntKind.u64.wrap ((q / 256 : Nat) : Int) = ((q / 256 : Nat) : Int) := dY (by omega) (by omega)
 have w4 : IntKind.u8.wrap ((q % 256 : Nat) : Int) = ((q % 256 : Nat) : Int) := fG (by omega) (by omega)
 have e7 : (i : Int) + 1 = ((i + 1 : Nat) : Int) := by omega
 simp (disch := omega) only [dQ, fE, cQ, stepR_skip, eC, fB, eH, eT, eS, eM, fH, eP, dK, eN, eJ, eY, eE, eB, eK, eD, eI, eX, fC, eF, dR, eU, eZ, eA, gA, gB, gC, gG, gE, gF, gD, gH, gI, dH, Result.ok.injEq, Next.value.injEq, true_and, and_true, dZ, dY, fA, eL, eQ, fG, Qp, dS, dW, dV, dT, dN, dM, dO, dL, dI, cY, if_true, if_false, Qm, Qs, Qn, Qo, Qr, Qq, Ql, Qk, cR, cP, cD, bT, cV, dJ, bX, bW, cS, cM, cK, dD, cN, dB, dC, dX, cZ, cC, bE, bQ, aT, aA, aK, dE, aJ, cF, dF, dA, bN, aH, bB, aY, cL, aD, aX, aM, aV, cU, aW, cJ, bS, aC, aE, aL, dP, aP, aN, bC, aR, cI, aF, bZ, bU, bL, bD, bA, cX, aI, bM, aS, aU, aQ, aG, dG, cO, bO, aO, cW, bV, bY, cG, bP, bR, bK, cH, bF, cB, aZ, bJ, bH, bG, cA, d3, e1, w2, w4]
 refine pY (cells := #[.int .u8 ((q % 256 : Nat) : Int)]) (by decide) (by decide) (by kernel_rfl) fun w2' o2 x2 s2 => ?_
 have ho : iL w2' w1.heap.size ([UInt8.ofNat (q % 256)].map lN) := by
  have e : ([UInt8.ofNat (q % 256)].map lN) = [.int .u8 ((q % 256 : Nat) : Int)] := by
   simp only [Rl, RJ, lN]
   rw [Md (by omega)]
  rw [e]; exact o2
 have z1 := x1.size
 have z2 := x2.size
 have S2 : sG w2' (fun y => (w.heap.size <= y /\ y < w1.heap.size) ∨ w2'.heap.size <= y) 1 vo _ _ := (mH hS fun y hy h => .inl ⟨hy, h⟩).ext x2 fun _ _ h => h
 refine NS S2 (I2 ho) (fun y hy => .inr hy) (by rw [gV]; simp; omega) fun v3 w3' o3 x3 => ?_
 simp (disch := omega) only [dQ, fE, cQ, stepR_skip, eC, fB, eH, eT, eS, eM, fH, eP, dK, eN, eJ, eY, eE, eB, eK, eD, eI, eX, fC, eF, dR, eU, eZ, eA, gA, gB, gC, gG, gE, gF, gD, gH, gI, dH, Result.ok.injEq, Next.value.injEq, true_and, and_true, dZ, dY, fA, eL, eQ, fG, Qp, dS, dW, dV, dT, dN, dM, dO, dL, dI, cY, if_true, if_false, Qm, Qs, Qn, Qo, Qr, Qq, Ql, Qk, cR, cP, cD, bT, cV, dJ, bX, bW, cS, cM, cK, dD, cN, dB, dC, dX, cZ, cC, bE, bQ, aT, aA, aK, dE, aJ, cF, dF, dA, bN, aH, bB, aY, cL, aD, aX, aM, aV, cU, aW, cJ, bS, aC, aE, aL, dP, aP, aN, bC, aR, cI, aF, bZ, bU, bL, bD, bA, cX, aI, bM, aS, aU, aQ, aG, dG, cO, bO, aO, cW, bV, bY, cG, bP, bR, bK, cH, bF, cB, aZ, bJ, bH, bG, cA, e2, w3, e7]
 have hs : kI x (i + 1) = kI x i ++ [UInt8.ofNat (q % 256)] := by rw [IS, <- hq]
 have hp : q / 256 = x / 256 ^ (i + 1) := by rw [hq, Ro, RL]
 refine ⟨n - (i + 1), by omega, i + 1, v3, rfl, by rw [hp], by omega, ?_, (x1.seq x2).trans x3 fun y hy h => by omega⟩
 rw [hs]
 exact mH o3 fun y hy _ => by omega
def vW (n : Nat) (s : Bool) : List UInt8 := if n < 256 then [40, 181, 47, 253] ++ kI (32 + (if s then 4 else 0)) 1 ++ kI n 1 else [40, 181, 47, 253] ++ kI (32 + (if s then 4 else 0) + 64) 1 ++ kI (n - 256) 2
theorem KB {n : Nat} {s : Bool} {w : RM} (hn : n < 65792) :
 fK pg rA #[.int .u64 (n : Nat), .bool s] w (fun r w' => r = .string ⟨(vW n s).toArray⟩ /\ fW w w' kY) := by
 refine Ga ?_
 unfold Gz yP yF
 obtain ⟨RR, hRR⟩ : ∃ RR : RN -> RM -> Prop, RR = fun r w' => r = .string ⟨(vW n s).toArray⟩ /\ fW w w' kY := ⟨_, rfl⟩
 rw [<- hRR]
 have hcat : ∀ (A B : List UInt8) (t : TypeId) (ox oy : Operand) (w : RM), A.length + B.length <= 1000 -> (fD .add t ox oy (.string ⟨A.toArray⟩) (.string ⟨B.toArray⟩)).run pg w = .ok (.value (.string ⟨(A ++ B).toArray⟩)) w := by
  intro A B t ox oy w hl
  have h1 := ML (P := pg) (t := t) (ox := ox) (oy := oy) (w := w) ⟨A.toArray⟩ ⟨B.toArray⟩ (by
   have e1 : (⟨A.toArray⟩ : ByteArray).size = A.length := by simp [ByteArray.size]
   have e2 : (⟨B.toArray⟩ : ByteArray).size = B.length := by simp [ByteArray.size]
   omega)
  rw [h1]
  congr 3
 have main : ∀ d : Nat, d = 32 + (if s then 4 else 0) -> pU RR (.int .u64 (n : Nat)) (.int .u64 (d : Nat)) w := by
  intro d hd
  have hd2 : d <= 36 := by rw [hd]; split <;> omega
  unfold pU
  by_cases h1 : n < 256
  .have d1 : decide ((n : Int) < 256) = true := decide_eq_true (by omega)
   simp (disch := omega) only [dQ, fE, cQ, stepR_skip, eC, fB, eH, eT, eS, eM, fH, eP, dK, eN, eJ, eY, eE, eB, eK, eD, eI, eX, fC, eF, dR, eU, eZ, eA, gA, gB, gC, gG, gE, gF, gD, gH, gI, dH, Result.ok.injEq, Next.value.injEq, true_and, and_true, dZ, dY, fA, eL, eQ, fG, Qp, dS, dW, dV, dT, dN, dM, dO, dL, dI, cY, if_true, if_false, Qm, Qs, Qn, Qo, Qr, Qq, Ql, Qk, cR, cP, cD, bT, cV, dJ, bX, bW, cS, cM, cK, dD, cN, dB, dC, dX, cZ, cC, bE, bQ, aT, aA, aK, dE, aJ, cF, dF, dA, bN, aH, bB, aY, cL, aD, aX, aM, aV, cU, aW, cJ, bS, aC, aE, aL, dP, aP, aN, bC, aR, cI, aF, bZ, bU, bL, bD, bA, cX, aI, bM, aS, aU, aQ, aG, dG, cO, bO, aO, cW, bV, bY, cG, bP, bR, bK, cH, bF, cB, aZ, bJ, bH, bG, cA, d1]
   refine (Fm (n := 1) (by omega) (by omega)).mono ?_
   rintro r w1 ⟨rfl, x1⟩
   have c1 := fun t ox oy w => hcat [40, 181, 47, 253] (kI d 1) t ox oy w (by rw [gV]; simp)
   simp (disch := omega) only [dQ, fE, cQ, stepR_skip, eC, fB, eH, eT, eS, eM, fH, eP, dK, eN, eJ, eY, eE, eB, eK, eD, eI, eX, fC, eF, dR, eU, eZ, eA, gA, gB, gC, gG, gE, gF, gD, gH, gI, dH, Result.ok.injEq, Next.value.injEq, true_and, and_true, dZ, dY, fA, eL, eQ, fG, Qp, dS, dW, dV, dT, dN, dM, dO, dL, dI, cY, if_true, if_false, Qm, Qs, Qn, Qo, Qr, Qq, Ql, Qk, cR, cP, cD, bT, cV, dJ, bX, bW, cS, cM, cK, dD, cN, dB, dC, dX, cZ, cC, bE, bQ, aT, aA, aK, dE, aJ, cF, dF, dA, bN, aH, bB, aY, cL, aD, aX, aM, aV, cU, aW, cJ, bS, aC, aE, aL, dP, aP, aN, bC, aR, cI, aF, bZ, bU, bL, bD, bA, cX, aI, bM, aS, aU, aQ, aG, dG, cO, bO, aO, cW, bV, bY, cG, bP, bR, bK, cH, bF, cB, aZ, bJ, bH, bG, cA, c1]
   refine (Fm (n := 1) (by omega) (by omega)).mono ?_
   rintro r w2 ⟨rfl, x2⟩
   have c2 := fun t ox oy w => hcat ([40, 181, 47, 253] ++ kI d 1) (kI n 1) t ox oy w (by rw [Qt, gV, gV]; simp)
   simp (disch := omega) only [dQ, fE, cQ, stepR_skip, eC, fB, eH, eT, eS, eM, fH, eP, dK, eN, eJ, eY, eE, eB, eK, eD, eI, eX, fC, eF, dR, eU, eZ, eA, gA, gB, gC, gG, gE, gF, gD, gH, gI, dH, Result.ok.injEq, Next.value.injEq, true_and, and_true, dZ, dY, fA, eL, eQ, fG, Qp, dS, dW, dV, dT, dN, dM, dO, dL, dI, cY, if_true, if_false, Qm, Qs, Qn, Qo, Qr, Qq, Ql, Qk, cR, cP, cD, bT, cV, dJ, bX, bW, cS, cM, cK, dD, cN, dB, dC, dX, cZ, cC, bE, bQ, aT, aA, aK, dE, aJ, cF, dF, dA, bN, aH, bB, aY, cL, aD, aX, aM, aV, cU, aW, cJ, bS, aC, aE, aL, dP, aP, aN, bC, aR, cI, aF, bZ, bU, bL, bD, bA, cX, aI, bM, aS, aU, aQ, aG, dG, cO, bO, aO, cW, bV, bY, cG, bP, bR, bK, cH, bF, cB, aZ, bJ, bH, bG, cA, c2]
   rw [hRR]
   refine ⟨?_, x1.seq x2⟩
   unfold vW
   rw [if_pos h1, <- hd]
  .have d1 : decide ((n : Int) < 256) = false := decide_eq_false (by omega)
   have d2 : decide ((n : Int) < 65792) = true := decide_eq_true (by omega)
   have e1 : (d : Int) + 64 = ((d + 64 : Nat) : Int) := by omega
   have e2 : (n : Int) - 256 = ((n - 256 : Nat) : Int) := by omega
   have w1' : IntKind.u64.wrap ((d + 64 : Nat) : Int) = ((d + 64 : Nat) : Int) := dY (by omega) (by omega)
   have w2' : IntKind.u64.wrap ((n - 256 : Nat) : Int) = ((n - 256 : Nat) : Int) := dY (by omega) (by omega)
   simp (disch := omega) only [dQ, fE, cQ, stepR_skip, eC, fB, eH, eT, eS, eM, fH, eP, dK, eN, eJ, eY, eE, eB, eK, eD, eI, eX, fC, eF, dR, eU, eZ, eA, gA, gB, gC, gG, gE, gF, gD, gH, gI, dH, Result.ok.injEq, Next.value.injEq, true_and, and_true, dZ, dY, fA, eL, eQ, fG, Qp, dS, dW, dV, dT, dN, dM, dO, dL, dI, cY, if_true, if_false, Qm, Qs, Qn, Qo, Qr, Qq, Ql, Qk, cR, cP, cD, bT, cV, dJ, bX, bW, cS, cM, cK, dD, cN, dB, dC, dX, cZ, cC, bE, bQ, aT, aA, aK, dE, aJ, cF, dF, dA, bN, aH, bB, aY, cL, aD, aX, aM, aV, cU, aW, cJ, bS, aC, aE, aL, dP, aP, aN, bC, aR, cI, aF, bZ, bU, bL, bD, bA, cX, aI, bM, aS, aU, aQ, aG, dG, cO, bO, aO, cW, bV, bY, cG, bP, bR, bK, cH, bF, cB, aZ, bJ, bH, bG, cA, d1, d2, e1, w1']
   refine (Fm (n := 1) (by omega) (by omega)).mono ?_
   rintro r w1 ⟨rfl, x1⟩
   have c1 := fun t ox oy w => hcat [40, 181, 47, 253] (kI (d + 64) 1) t ox oy w (by rw [gV]; simp)
   simp (disch := omega) only [dQ, fE, cQ, stepR_skip, eC, fB, eH, eT, eS, eM, fH, eP, dK, eN, eJ, eY, eE, eB, eK, eD, eI, eX, fC, eF, dR, eU, eZ, eA, gA, gB, gC, gG, gE, gF, gD, gH, gI, dH, Result.ok.injEq, Next.value.injEq, true_and, and_true, dZ, dY, fA, eL, eQ, fG, Qp, dS, dW, dV, dT, dN, dM, dO, dL, dI, cY, if_true, if_false, Qm, Qs, Qn, Qo, Qr, Qq, Ql, Qk, cR, cP, cD, bT, cV, dJ, bX, bW, cS, cM, cK, dD, cN, dB, dC, dX, cZ, cC, bE, bQ, aT, aA, aK, dE, aJ, cF, dF, dA, bN, aH, bB, aY, cL, aD, aX, aM, aV, cU, aW, cJ, bS, aC, aE, aL, dP, aP, aN, bC, aR, cI, aF, bZ, bU, bL, bD, bA, cX, aI, bM, aS, aU, aQ, aG, dG, cO, bO, aO, cW, bV, bY, cG, bP, bR, bK, cH, bF, cB, aZ, bJ, bH, bG, cA, c1, e2, w2']
   refine (Fm (n := 2) (by omega) (by omega)).mono ?_
   rintro r w2 ⟨rfl, x2⟩
   have c2 := fun t ox oy w => hcat ([40, 181, 47, 253] ++ kI (d + 64) 1) (kI (n - 256) 2) t ox oy w (by rw [Qt, gV, gV]; simp)
   simp (disch := omega) only [dQ, fE, cQ, stepR_skip, eC, fB, eH, eT, eS, eM, fH, eP, dK, eN, eJ, eY, eE, eB, eK, eD, eI, eX, fC, eF, dR, eU, eZ, eA, gA, gB, gC, gG, gE, gF, gD, gH, gI, dH, Result.ok.injEq, Next.value.injEq, true_and, and_true, dZ, dY, fA, eL, eQ, fG, Qp, dS, dW, dV, dT, dN, dM, dO, dL, dI, cY, if_true, if_false, Qm, Qs, Qn, Qo, Qr, Qq, Ql, Qk, cR, cP, cD, bT, cV, dJ, bX, bW, cS, cM, cK, dD, cN, dB, dC, dX, cZ, cC, bE, bQ, aT, aA, aK, dE, aJ, cF, dF, dA, bN, aH, bB, aY, cL, aD, aX, aM, aV, cU, aW, cJ, bS, aC, aE, aL, dP, aP, aN, bC, aR, cI, aF, bZ, bU, bL, bD, bA, cX, aI, bM, aS, aU, aQ, aG, dG, cO, bO, aO, cW, bV, bY, cG, bP, bR, bK, cH, bF, cB, aZ, bJ, bH, bG, cA, c2]
   rw [hRR]
   refine ⟨?_, x1.seq x2⟩
   unfold vW
   rw [if_neg h1, <- hd]
 cases s with
 | false =>
   have := main 32 rfl
   simp (disch := omega) only [dQ, fE, cQ, stepR_skip, eC, fB, eH, eT, eS, eM, fH, eP, dK, eN, eJ, eY, eE, eB, eK, eD, eI, eX, fC, eF, dR, eU, eZ, eA, gA, gB, gC, gG, gE, gF, gD, gH, gI, dH, Result.ok.injEq, Next.value.injEq, true_and, and_true, dZ, dY, fA, eL, eQ, fG, Qp, dS, dW, dV, dT, dN, dM, dO, dL, dI, cY, if_true, if_false, Qm, Qs, Qn, Qo, Qr, Qq, Ql, Qk, cR, cP, cD, bT, cV, dJ, bX, bW, cS, cM, cK, dD, cN, dB, dC, dX, cZ, cC, bE, bQ, aT, aA, aK, dE, aJ, cF, dF, dA, bN, aH, bB, aY, cL, aD, aX, aM, aV, cU, aW, cJ, bS, aC, aE, aL, dP, aP, aN, bC, aR, cI, aF, bZ, bU, bL, bD, bA, cX, aI, bM, aS, aU, aQ, aG, dG, cO, bO, aO, cW, bV, bY, cG, bP, bR, bK, cH, bF, cB, aZ, bJ, bH, bG, cA]
   exact this
 | true =>
   have := main 36 rfl
   simp (disch := omega) only [dQ, fE, cQ, stepR_skip, eC, fB, eH, eT, eS, eM, fH, eP, dK, eN, eJ, eY, eE, eB, eK, eD, eI, eX, fC, eF, dR, eU, eZ, eA, gA, gB, gC, gG, gE, gF, gD, gH, gI, dH, Result.ok.injEq, Next.value.injEq, true_and, and_true, dZ, dY, fA, eL, eQ, fG, Qp, dS, dW, dV, dT, dN, dM, dO, dL, dI, cY, if_true, if_false, Qm, Qs, Qn, Qo, Qr, Qq, Ql, Qk, cR, cP, cD, bT, cV, dJ, bX, bW, cS, cM, cK, dD, cN, dB, dC, dX, cZ, cC, bE, bQ, aT, aA, aK, dE, aJ, cF, dF, dA, bN, aH, bB, aY, cL, aD, aX, aM, aV, cU, aW, cJ, bS, aC, aE, aL, dP, aP, aN, bC, aR, cI, aF, bZ, bU, bL, bD, bA, cX, aI, bM, aS, aU, aQ, aG, dG, cO, bO, aO, cW, bV, bY, cG, bP, bR, bK, cH, bF, cB, aZ, bJ, bH, bG, cA]
   exact this
theorem M5 {w : RM} {a : Option Addr} {n c : Nat} {l : List RN} (h : Sl w (.slice a n c) l) {k : Nat} (hk : k <= n) : Sl w (.slice a k c) (l.take k) := by
 obtain ⟨a', n', c', e, hn, hc, h⟩ := h
 cases e
 refine ⟨_, _, _, rfl, by rw [Qz]; omega, by omega, fun h0 => ?_⟩
 obtain ⟨b, off, rfl, h2⟩ := h (by omega)
 refine ⟨b, off, rfl, fun i hi => ?_⟩
 rw [Rc (by omega)]
 exact h2 i (by omega)
theorem O1 {w : RM} {a : Option Addr} {c : Nat} {l : List UInt8} (h : Bs w (.slice a l.length c) l) {lo n : Nat} (hk : lo + n <= l.length) : Bs w (.slice (iV a c lo 1) (lo + n - lo) (c - lo)) ((l.drop lo).take n) := by
 have h1 := h.drop' (k := lo) (by omega)
 have h2 := M5 h1 (k := n) (by omega)
 rw [<- Rx, <- RG] at h2
 rw [show lo + n - lo = n from by omega]
 exact h2
def pG (size : Nat) : Nat -> List UInt8 -> List UInt8
 | 0, _ => []
 | f + 1, r => if r.length <= size then b3 (8 * r.length + 1) ++ r else b3 (8 * size) ++ r.take size ++ pG size f (r.drop size)
def JX (b : List UInt8) (size : Nat) (s : Bool) : List UInt8 := vW b.length s ++ pG size (b.length + 1) b ++ (if s then kI (XN b) 4 else [])
theorem NQ {R : RN -> RM -> Prop} {base : Nat} {v0 vo : RN} {b out : List UInt8} {s : Bool} {w : RM} (h0 : Bs w v0 b) (hb : b.length <= 2000) (ho : sG w (fun y => base <= y) 1 vo out.length (out.map lN)) (hbase : base <= w.heap.size) (hout : out.length <= 1000000)
 (hk : ∀ w' vr, sG w' (fun y => base <= y) 1 vr (out ++ (if s then kI (XN b) 4 else [])).length ((out ++ (if s then kI (XN b) 4 else [])).map lN) -> fW w w' (fun y => base <= y) -> R vr w') :
 lL R v0 (.bool s) vo w := by
 unfold lL xZ
 cases s with
 | false =>
   simp only [Qm, if_false, Rn] at hk
   simp (disch := omega) only [dQ, fE, cQ, stepR_skip, eC, fB, eH, eT, eS, eM, fH, eP, dK, eN, eJ, eY, eE, eB, eK, eD, eI, eX, fC, eF, dR, eU, eZ, eA, gA, gB, gC, gG, gE, gF, gD, gH, gI, dH, Result.ok.injEq, Next.value.injEq, true_and, and_true, dZ, dY, fA, eL, eQ, fG, Qp, dS, dW, dV, dT, dN, dM, dO, dL, dI, cY, if_true, if_false, Qm, Qs, Qn, Qo, Qr, Qq, Ql, Qk, cR, cP, cD, bT, cV, dJ, bX, bW, cS, cM, cK, dD, cN, dB, dC, dX, cZ, cC, bE, bQ, aT, aA, aK, dE, aJ, cF, dF, dA, bN, aH, bB, aY, cL, aD, aX, aM, aV, cU, aW, cJ, bS, aC, aE, aL, dP, aP, aN, bC, aR, cI, aF, bZ, bU, bL, bD, bA, cX, aI, bM, aS, aU, aQ, aG, dG, cO, bO, aO, cW, bV, bY, cG, bP, bR, bK, cH, bF, cB, aZ, bJ, bH, bG, cA]
   unfold pI
   exact hk w vo ho (fW.refl _ _)
 | true =>
   simp only [if_true] at hk
   have hcv := lK h0
   simp (disch := omega) only [dQ, fE, cQ, stepR_skip, eC, fB, eH, eT, eS, eM, fH, eP, dK, eN, eJ, eY, eE, eB, eK, eD, eI, eX, fC, eF, dR, eU, eZ, eA, gA, gB, gC, gG, gE, gF, gD, gH, gI, dH, Result.ok.injEq, Next.value.injEq, true_and, and_true, dZ, dY, fA, eL, eQ, fG, Qp, dS, dW, dV, dT, dN, dM, dO, dL, dI, cY, if_true, if_false, Qm, Qs, Qn, Qo, Qr, Qq, Ql, Qk, cR, cP, cD, bT, cV, dJ, bX, bW, cS, cM, cK, dD, cN, dB, dC, dX, cZ, cC, bE, bQ, aT, aA, aK, dE, aJ, cF, dF, dA, bN, aH, bB, aY, cL, aD, aX, aM, aV, cU, aW, cJ, bS, aC, aE, aL, dP, aP, aN, bC, aR, cI, aF, bZ, bU, bL, bD, bA, cX, aI, bM, aS, aU, aQ, aG, dG, cO, bO, aO, cW, bV, bY, cG, bP, bR, bK, cH, bF, cB, aZ, bJ, bH, bG, cA, hcv]
   obtain ⟨y, hy⟩ : ∃ y : ByteArray, y = ⟨b.toArray⟩ := ⟨_, rfl⟩
   have hly : Gm y = b := by rw [hy] <;> rfl
   have hys : y.size = b.length := by rw [<- qA, hly]
   rw [<- hy]
   refine (Py y (by omega) w).mono ?_
   rintro r w1 ⟨rfl, x1⟩
   rw [hly, OB]
   obtain ⟨X, hX⟩ : ∃ X, X = XN b := ⟨_, rfl⟩
   have hXl := Ow b
   rw [<- hX] at hXl hk ⊢
   have q1 : (X : Int).fdiv (2 ^ min (Int.toNat 8) IntKind.u64.bits) = ((X / 256 : Nat) : Int) := by
    have : (2 : Int) ^ min (Int.toNat 8) IntKind.u64.bits = 256 := by decide
    rw [this, QT _ (by omega)]; omega
   have q2 : (X : Int).fdiv (2 ^ min (Int.toNat 16) IntKind.u64.bits) = ((X / 65536 : Nat) : Int) := by
    have : (2 : Int) ^ min (Int.toNat 16) IntKind.u64.bits = 65536 := by decide
    rw [this, QT _ (by omega)]; omega
   have q3 : (X : Int).fdiv (2 ^ min (Int.toNat 24) IntKind.u64.bits) = ((X / 16777216 : Nat) : Int) := by
    have : (2 : Int) ^ min (Int.toNat 24) IntKind.u64.bits = 16777216 := by decide
    rw [this, QT _ (by omega)]; omega
   simp (disch := omega) only [dQ, fE, cQ, stepR_skip, eC, fB, eH, eT, eS, eM, fH, eP, dK, eN, eJ, eY, eE, eB, eK, eD, eI, eX, fC, eF, dR, eU, eZ, eA, gA, gB, gC, gG, gE, gF, gD, gH, gI, dH, Result.ok.injEq, Next.value.injEq, true_and, and_true, dZ, dY, fA, eL, eQ, fG, Qp, dS, dW, dV, dT, dN, dM, dO, dL, dI, cY, if_true, if_false, Qm, Qs, Qn, Qo, Qr, Qq, Ql, Qk, cR, cP, cD, bT, cV, dJ, bX, bW, cS, cM, cK, dD, cN, dB, dC, dX, cZ, cC, bE, bQ, aT, aA, aK, dE, aJ, cF, dF, dA, bN, aH, bB, aY, cL, aD, aX, aM, aV, cU, aW, cJ, bS, aC, aE, aL, dP, aP, aN, bC, aR, cI, aF, bZ, bU, bL, bD, bA, cX, aI, bM, aS, aU, aQ, aG, dG, cO, bO, aO, cW, bV, bY, cG, bP, bR, bK, cH, bF, cB, aZ, bJ, bH, bG, cA, q1, q2, q3, Qc]
   refine pY (cells := #[.int .u8 ((X : Int) % 256), .int .u8 (((X / 256 : Nat) : Int) % 256), .int .u8 (((X / 65536 : Nat) : Int) % 256), .int .u8 (((X / 16777216 : Nat) : Int) % 256)]) (by decide) (by decide) (by kernel_rfl) fun w2 o2 x2 s2 => ?_
   have hc : (#[.int .u8 ((X : Int) % 256), .int .u8 (((X / 256 : Nat) : Int) % 256), .int .u8 (((X / 65536 : Nat) : Int) % 256), .int .u8 (((X / 16777216 : Nat) : Int) % 256)] : Array RN).toList = (kI X 4).map lN := by
    simp only [kI, Rl, RJ, lN]
    rw [Md (by omega), Md (by omega), Md (by omega), Md (by omega), Ro, Ro]
    rfl
   rw [hc] at o2
   have hb2 := I2 o2
   rw [gV] at hb2
   have z1 := x1.size
   have z2 := x2.size
   have S2 : sG w2 (fun y => (base <= y /\ y < w1.heap.size) ∨ w2.heap.size <= y) 1 vo _ _ := (mH (ho.ext x1 fun _ _ h => h) fun y hy h => .inl ⟨hy, h⟩).ext x2 fun _ _ h => h
   refine NS S2 hb2 (fun y hy => .inr hy) (by rw [gV]; omega) fun v3 w3 o3 x3 => ?_
   unfold pI
   exact hk w3 v3 (mH o3 fun y hy _ => by omega) ((((x1.seq x2).mono fun _ _ h => h.elim).seq (x3.mono fun y _ h => by omega)))
theorem KN {R : RN -> RM -> Prop} {base : Nat} {v0 vo : RN} {b hd : List UInt8} {size : Nat} {s : Bool} {w : RM} (h0 : Bs w v0 b) (hb : b.length <= 2000) (hs : 1 <= size /\ size <= 256) (ho : sG w (fun y => base <= y) 1 vo hd.length (hd.map lN)) (hbase : base <= w.heap.size) (hhd : hd.length <= 10)
 (hnb : ∀ w', fW w w' (fun y => base <= y) -> Bs w' v0 b)
 (hk : ∀ w' vr, sG w' (fun y => base <= y) 1 vr (hd ++ pG size (b.length + 1) b).length ((hd ++ pG size (b.length + 1) b).map lN) -> fW w w' (fun y => base <= y) -> lL R v0 (.bool s) vr w') :
 nV R v0 (.int .i64 (size : Nat)) (.bool s) vo (.int .i64 0) w := by
 unfold nV vY vS wH wG
 refine iO.rule (fun m (t : RN × RN × RN) w1 => ∃ f at' i vf dn, m = f /\ t = (vf, .int .i64 (at' : Nat), .int .i64 (i : Nat)) /\ i + f = b.length + 1 /\ i <= at' /\ at' <= b.length /\ 0 < f /\ dn ++ pG size f (b.drop at') = hd ++ pG size (b.length + 1) b /\ dn.length <= 10 + 300 * i /\ sG w1 (fun y => base <= y) 1 vf dn.length (dn.map lN) /\ fW w w1 (fun y => base <= y)) (b.length + 1)
  ⟨b.length + 1, 0, 0, vo, hd, rfl, rfl, by omega, by omega, by omega, by omega, rfl, by omega, ho, fW.refl _ _⟩ ?_
 rintro m t w1 ⟨f, at', i, vf, dn, rfl, rfl, hif, hia, hal, hf, hdn, hdl, hS, x1⟩
 obtain ⟨f, rfl⟩ : ∃ g, m = g + 1 := ⟨m - 1, by omega⟩
 show nT _ _ v0 (.int .i64 (size : Nat)) (.bool s) vf (.int .i64 (at' : Nat)) (.int .i64 (i : Nat)) w1
 unfold nT wC
 have g0 := hnb w1 x1
 obtain ⟨a0, c0, e0, hcap⟩ := g0.len
 rw [Qw] at e0 hcap
 have z1 := x1.size
 have d1 : decide ((i : Int) <= (b.length : Int)) = true := decide_eq_true (by omega)
 have main : ∀ n : Nat, n = min size (b.length - at') -> tN (fun iE fV gM fT iT nS w9 => mU (fun _ _ _ fT iT nS w9 => (fun (t : RN × RN × RN) w1 => ∃ m, m < f + 1 /\ ∃ f at' i vf dn, m = f /\ t = (vf, .int .i64 (at' : Nat), .int .i64 (i : Nat)) /\ i + f = b.length + 1 /\ i <= at' /\ at' <= b.length /\ 0 < f /\ dn ++ pG size f (b.drop at') = hd ++ pG size (b.length + 1) b /\ dn.length <= 10 + 300 * i /\ sG w1 (fun y => base <= y) 1 vf dn.length (dn.map lN) /\ fW w w1 (fun y => base <= y)) (fT, iT, nS) w9) iE fV gM fT iT nS w9) (fun iE gM fT w9 => lL R iE gM fT w9) v0 (.int .i64 (size : Nat)) (.bool s) vf (.int .i64 (at' : Nat)) (.int .i64 (i : Nat)) (.int .i64 (n : Nat)) w1 := by
  intro n hn
  have hn1 : at' + n <= b.length := by omega
  have last : ∀ B : Bool, B = (at' + n == b.length) -> pS (fun iE fV gM fT iT nS w9 => mU (fun _ _ _ fT iT nS w9 => (fun (t : RN × RN × RN) w1 => ∃ m, m < f + 1 /\ ∃ f at' i vf dn, m = f /\ t = (vf, .int .i64 (at' : Nat), .int .i64 (i : Nat)) /\ i + f = b.length + 1 /\ i <= at' /\ at' <= b.length /\ 0 < f /\ dn ++ pG size f (b.drop at') = hd ++ pG size (b.length + 1) b /\ dn.length <= 10 + 300 * i /\ sG w1 (fun y => base <= y) 1 vf dn.length (dn.map lN) /\ fW w w1 (fun y => base <= y)) (fT, iT, nS) w9) iE fV gM fT iT nS w9) (fun iE gM fT w9 => lL R iE gM fT w9) v0 (.int .i64 (size : Nat)) (.bool s) vf (.int .i64 (at' : Nat)) (.int .i64 (i : Nat)) (.int .i64 (n : Nat)) (.int .i64 (8 * n + (if B then 1 else 0) : Nat)) w1 := by
   intro B hB
   obtain ⟨x, hx⟩ : ∃ x, x = 8 * n + (if B then 1 else 0) := ⟨_, rfl⟩
   have hxl : x < 2 ^ 16 := by rw [hx]; split <;> omega
   rw [<- hx]
   unfold pS
   have q1 : (x : Int).tdiv 256 = ((x / 256 : Nat) : Int) := rfl
   have q2 : (x : Int).tdiv 65536 = ((x / 65536 : Nat) : Int) := rfl
   have u1 : IntKind.i64.wrap ((x / 256 : Nat) : Int) = ((x / 256 : Nat) : Int) := dZ (by omega) (by omega)
   have u2 : IntKind.i64.wrap ((x / 65536 : Nat) : Int) = ((x / 65536 : Nat) : Int) := dZ (by omega) (by omega)
   have e1 : (at' : Int) + (n : Int) = ((at' + n : Nat) : Int) := by omega
   have u3 : IntKind.i64.wrap ((at' + n : Nat) : Int) = ((at' + n : Nat) : Int) := dZ (by omega) (by omega)
   have t0 : (at' : Int).toNat = at' := Qp _
   have t1 : ((at' + n : Nat) : Int).toNat = at' + n := Qp _
   simp (disch := omega) only [dQ, fE, cQ, stepR_skip, eC, fB, eH, eT, eS, eM, fH, eP, dK, eN, eJ, eY, eE, eB, eK, eD, eI, eX, fC, eF, dR, eU, eZ, eA, gA, gB, gC, gG, gE, gF, gD, gH, gI, dH, Result.ok.injEq, Next.value.injEq, true_and, and_true, dZ, dY, fA, eL, eQ, fG, Qp, dS, dW, dV, dT, dN, dM, dO, dL, dI, cY, if_true, if_false, Qm, Qs, Qn, Qo, Qr, Qq, Ql, Qk, cR, cP, cD, bT, cV, dJ, bX, bW, cS, cM, cK, dD, cN, dB, dC, dX, cZ, cC, bE, bQ, aT, aA, aK, dE, aJ, cF, dF, dA, bN, aH, bB, aY, cL, aD, aX, aM, aV, cU, aW, cJ, bS, aC, aE, aL, dP, aP, aN, bC, aR, cI, aF, bZ, bU, bL, bD, bA, cX, aI, bM, aS, aU, aQ, aG, dG, cO, bO, aO, cW, bV, bY, cG, bP, bR, bK, cH, bF, cB, aZ, bJ, bH, bG, cA, q1, q2, u1, u2, Qc]
   refine pY (cells := #[.int .u8 ((x : Int) % 256), .int .u8 ((x / 256 : Nat) : Int), .int .u8 ((x / 65536 : Nat) : Int)]) (by decide) (by decide) (by kernel_rfl) fun w2 o2 x2 s2 => ?_
   have hc : (#[.int .u8 ((x : Int) % 256), .int .u8 ((x / 256 : Nat) : Int), .int .u8 ((x / 65536 : Nat) : Int)] : Array RN).toList = (b3 x).map lN := by
    simp only [b3, Rl, RJ, lN]
    rw [Md (by omega), Md (by omega), Md (by omega), QV (show x / 256 < 256 by omega), QV (show x / 65536 < 256 by omega)]
    rfl
   rw [hc] at o2
   have hb2 := I2 o2
   have z2 := x2.size
   have S2 : sG w2 (fun y => (base <= y /\ y < w1.heap.size) ∨ w2.heap.size <= y) 1 vf _ _ := (mH hS fun y hy h => .inl ⟨hy, h⟩).ext x2 fun _ _ h => h
   refine NS S2 hb2 (fun y hy => .inr hy) (by rw [show (b3 x).length = 3 from rfl]; omega) fun v3 w3 o3 x3 => ?_
   have z3 := x3.size
   have x03 : fW w w3 (fun y => base <= y) := x1.seq ((x2.mono fun _ _ h => h.elim).seq (x3.mono fun y _ h => by omega))
   have g3 := hnb w3 x03
   rw [e0] at g3
   have hmid := O1 g3 hn1
   rw [e0]
   simp (disch := omega) only [dQ, fE, cQ, stepR_skip, eC, fB, eH, eT, eS, eM, fH, eP, dK, eN, eJ, eY, eE, eB, eK, eD, eI, eX, fC, eF, dR, eU, eZ, eA, gA, gB, gC, gG, gE, gF, gD, gH, gI, dH, Result.ok.injEq, Next.value.injEq, true_and, and_true, dZ, dY, fA, eL, eQ, fG, Qp, dS, dW, dV, dT, dN, dM, dO, dL, dI, cY, if_true, if_false, Qm, Qs, Qn, Qo, Qr, Qq, Ql, Qk, cR, cP, cD, bT, cV, dJ, bX, bW, cS, cM, cK, dD, cN, dB, dC, dX, cZ, cC, bE, bQ, aT, aA, aK, dE, aJ, cF, dF, dA, bN, aH, bB, aY, cL, aD, aX, aM, aV, cU, aW, cJ, bS, aC, aE, aL, dP, aP, aN, bC, aR, cI, aF, bZ, bU, bL, bD, bA, cX, aI, bM, aS, aU, aQ, aG, dG, cO, bO, aO, cW, bV, bY, cG, bP, bR, bK, cH, bF, cB, aZ, bJ, bH, bG, cA, e1, t0, t1]
   have o3' : sG w3 (fun y => base <= y) 1 v3 (dn ++ b3 x).length ((dn ++ b3 x).map lN) := mH o3 fun y hy _ => by omega
   have hml : ((b.drop at').take n).length = n := by rw [Qz, Qy]; omega
   refine NS o3' hmid (fun y hy => by omega) (by rw [Qt, hml, show (b3 x).length = 3 from rfl]; omega) fun v4 w4 o4 x4 => ?_
   have x04 := x03.seq x4
   have hrl : (b.drop at').length = b.length - at' := Qy
   rw [<- e0]
   cases hBB : B with
   | true =>
     rw [hBB] at hB hx
     have hl : at' + n = b.length := by simpa using hB.symm
     have q : (((at' + n : Nat) : Int) == (b.length : Int)) = true := by rw [hl]; simp
     have hfin : dn ++ b3 x ++ (b.drop at').take n = hd ++ pG size (b.length + 1) b := by
      rw [<- hdn, pG, if_pos (by omega), QL (by omega), QF, hrl, hx]
      have e9 : 8 * (b.length - at') + 1 = 8 * n + (if true = true then 1 else 0) := by simp; omega
      rw [e9]
     rw [hfin] at o4
     have := hk w4 v4 o4 x04
     rw [e0] at this ⊢
     simp (disch := omega) only [dQ, fE, cQ, stepR_skip, eC, fB, eH, eT, eS, eM, fH, eP, dK, eN, eJ, eY, eE, eB, eK, eD, eI, eX, fC, eF, dR, eU, eZ, eA, gA, gB, gC, gG, gE, gF, gD, gH, gI, dH, Result.ok.injEq, Next.value.injEq, true_and, and_true, dZ, dY, fA, eL, eQ, fG, Qp, dS, dW, dV, dT, dN, dM, dO, dL, dI, cY, if_true, if_false, Qm, Qs, Qn, Qo, Qr, Qq, Ql, Qk, cR, cP, cD, bT, cV, dJ, bX, bW, cS, cM, cK, dD, cN, dB, dC, dX, cZ, cC, bE, bQ, aT, aA, aK, dE, aJ, cF, dF, dA, bN, aH, bB, aY, cL, aD, aX, aM, aV, cU, aW, cJ, bS, aC, aE, aL, dP, aP, aN, bC, aR, cI, aF, bZ, bU, bL, bD, bA, cX, aI, bM, aS, aU, aQ, aG, dG, cO, bO, aO, cW, bV, bY, cG, bP, bR, bK, cH, bF, cB, aZ, bJ, bH, bG, cA, e1, q]
     exact this
   | false =>
     rw [hBB] at hB hx
     have hl : ¬ at' + n = b.length := by simpa using hB.symm
     have q : (((at' + n : Nat) : Int) == (b.length : Int)) = false := beq_eq_false_iff_ne.2 (by omega)
     have hns : n = size := by omega
     have e7 : (i : Int) + 1 = ((i + 1 : Nat) : Int) := by omega
     have hfin : dn ++ b3 x ++ (b.drop at').take n ++ pG size f (b.drop (at' + n)) = hd ++ pG size (b.length + 1) b := by
      rw [<- hdn, pG, if_neg (by omega), Ra, hx, hns]
      simp
     rw [e0]
     simp (disch := omega) only [dQ, fE, cQ, stepR_skip, eC, fB, eH, eT, eS, eM, fH, eP, dK, eN, eJ, eY, eE, eB, eK, eD, eI, eX, fC, eF, dR, eU, eZ, eA, gA, gB, gC, gG, gE, gF, gD, gH, gI, dH, Result.ok.injEq, Next.value.injEq, true_and, and_true, dZ, dY, fA, eL, eQ, fG, Qp, dS, dW, dV, dT, dN, dM, dO, dL, dI, cY, if_true, if_false, Qm, Qs, Qn, Qo, Qr, Qq, Ql, Qk, cR, cP, cD, bT, cV, dJ, bX, bW, cS, cM, cK, dD, cN, dB, dC, dX, cZ, cC, bE, bQ, aT, aA, aK, dE, aJ, cF, dF, dA, bN, aH, bB, aY, cL, aD, aX, aM, aV, cU, aW, cJ, bS, aC, aE, aL, dP, aP, aN, bC, aR, cI, aF, bZ, bU, bL, bD, bA, cX, aI, bM, aS, aU, aQ, aG, dG, cO, bO, aO, cW, bV, bY, cG, bP, bR, bK, cH, bF, cB, aZ, bJ, bH, bG, cA, e1, q]
     unfold mU
     simp (disch := omega) only [dQ, fE, cQ, stepR_skip, eC, fB, eH, eT, eS, eM, fH, eP, dK, eN, eJ, eY, eE, eB, eK, eD, eI, eX, fC, eF, dR, eU, eZ, eA, gA, gB, gC, gG, gE, gF, gD, gH, gI, dH, Result.ok.injEq, Next.value.injEq, true_and, and_true, dZ, dY, fA, eL, eQ, fG, Qp, dS, dW, dV, dT, dN, dM, dO, dL, dI, cY, if_true, if_false, Qm, Qs, Qn, Qo, Qr, Qq, Ql, Qk, cR, cP, cD, bT, cV, dJ, bX, bW, cS, cM, cK, dD, cN, dB, dC, dX, cZ, cC, bE, bQ, aT, aA, aK, dE, aJ, cF, dF, dA, bN, aH, bB, aY, cL, aD, aX, aM, aV, cU, aW, cJ, bS, aC, aE, aL, dP, aP, aN, bC, aR, cI, aF, bZ, bU, bL, bD, bA, cX, aI, bM, aS, aU, aQ, aG, dG, cO, bO, aO, cW, bV, bY, cG, bP, bR, bK, cH, bF, cB, aZ, bJ, bH, bG, cA, e7]
     refine ⟨f, by omega, f, at' + n, i + 1, v4, _, rfl, rfl, by omega, by omega, hn1, by omega, hfin, ?_, o4, x04⟩
     rw [Qt, Qt, hml, show (b3 x).length = 3 from rfl]
     omega
  unfold tN xX
  have e1 : (8 : Int) * (n : Int) = ((8 * n : Nat) : Int) := by omega
  have e2 : (at' : Int) + (n : Int) = ((at' + n : Nat) : Int) := by omega
  have e3 : ((8 * n : Nat) : Int) + 1 = ((8 * n + 1 : Nat) : Int) := by omega
  by_cases hl : at' + n = b.length
  .have q : (((at' + n : Nat) : Int) == (b.length : Int)) = true := by rw [hl]; simp
   have := last true (by simp [hl])
   rw [e0] at this ⊢
   simp (disch := omega) only [dQ, fE, cQ, stepR_skip, eC, fB, eH, eT, eS, eM, fH, eP, dK, eN, eJ, eY, eE, eB, eK, eD, eI, eX, fC, eF, dR, eU, eZ, eA, gA, gB, gC, gG, gE, gF, gD, gH, gI, dH, Result.ok.injEq, Next.value.injEq, true_and, and_true, dZ, dY, fA, eL, eQ, fG, Qp, dS, dW, dV, dT, dN, dM, dO, dL, dI, cY, if_true, if_false, Qm, Qs, Qn, Qo, Qr, Qq, Ql, Qk, cR, cP, cD, bT, cV, dJ, bX, bW, cS, cM, cK, dD, cN, dB, dC, dX, cZ, cC, bE, bQ, aT, aA, aK, dE, aJ, cF, dF, dA, bN, aH, bB, aY, cL, aD, aX, aM, aV, cU, aW, cJ, bS, aC, aE, aL, dP, aP, aN, bC, aR, cI, aF, bZ, bU, bL, bD, bA, cX, aI, bM, aS, aU, aQ, aG, dG, cO, bO, aO, cW, bV, bY, cG, bP, bR, bK, cH, bF, cB, aZ, bJ, bH, bG, cA, e1, e2, e3, q]
   exact this
  .have q : (((at' + n : Nat) : Int) == (b.length : Int)) = false := beq_eq_false_iff_ne.2 (by omega)
   have := last false (by simp [hl])
   rw [e0] at this ⊢
   simp (disch := omega) only [dQ, fE, cQ, stepR_skip, eC, fB, eH, eT, eS, eM, fH, eP, dK, eN, eJ, eY, eE, eB, eK, eD, eI, eX, fC, eF, dR, eU, eZ, eA, gA, gB, gC, gG, gE, gF, gD, gH, gI, dH, Result.ok.injEq, Next.value.injEq, true_and, and_true, dZ, dY, fA, eL, eQ, fG, Qp, dS, dW, dV, dT, dN, dM, dO, dL, dI, cY, if_true, if_false, Qm, Qs, Qn, Qo, Qr, Qq, Ql, Qk, cR, cP, cD, bT, cV, dJ, bX, bW, cS, cM, cK, dD, cN, dB, dC, dX, cZ, cC, bE, bQ, aT, aA, aK, dE, aJ, cF, dF, dA, bN, aH, bB, aY, cL, aD, aX, aM, aV, cU, aW, cJ, bS, aC, aE, aL, dP, aP, aN, bC, aR, cI, aF, bZ, bU, bL, bD, bA, cX, aI, bM, aS, aU, aQ, aG, dG, cO, bO, aO, cW, bV, bY, cG, bP, bR, bK, cH, bF, cB, aZ, bJ, bH, bG, cA, e1, e2, e3, q]
   exact this
 rw [e0]
 simp (disch := omega) only [dQ, fE, cQ, stepR_skip, eC, fB, eH, eT, eS, eM, fH, eP, dK, eN, eJ, eY, eE, eB, eK, eD, eI, eX, fC, eF, dR, eU, eZ, eA, gA, gB, gC, gG, gE, gF, gD, gH, gI, dH, Result.ok.injEq, Next.value.injEq, true_and, and_true, dZ, dY, fA, eL, eQ, fG, Qp, dS, dW, dV, dT, dN, dM, dO, dL, dI, cY, if_true, if_false, Qm, Qs, Qn, Qo, Qr, Qq, Ql, Qk, cR, cP, cD, bT, cV, dJ, bX, bW, cS, cM, cK, dD, cN, dB, dC, dX, cZ, cC, bE, bQ, aT, aA, aK, dE, aJ, cF, dF, dA, bN, aH, bB, aY, cL, aD, aX, aM, aV, cU, aW, cJ, bS, aC, aE, aL, dP, aP, aN, bC, aR, cI, aF, bZ, bU, bL, bD, bA, cX, aI, bM, aS, aU, aQ, aG, dG, cO, bO, aO, cW, bV, bY, cG, bP, bR, bK, cH, bF, cB, aZ, bJ, bH, bG, cA, d1]
 unfold wE vP Dc yJ
 have e5 : (b.length : Int) - (at' : Int) = ((b.length - at' : Nat) : Int) := by omega
 by_cases hsz : b.length - at' < size
 .have d2 : decide ((size : Int) > ((b.length - at' : Nat) : Int)) = true := decide_eq_true (by omega)
  have d3 : decide (((b.length - at' : Nat) : Int) < (size : Int)) = true := decide_eq_true (by omega)
  have := main (b.length - at') (by omega)
  rw [e0] at this
  simp (disch := omega) only [dQ, fE, cQ, stepR_skip, eC, fB, eH, eT, eS, eM, fH, eP, dK, eN, eJ, eY, eE, eB, eK, eD, eI, eX, fC, eF, dR, eU, eZ, eA, gA, gB, gC, gG, gE, gF, gD, gH, gI, dH, Result.ok.injEq, Next.value.injEq, true_and, and_true, dZ, dY, fA, eL, eQ, fG, Qp, dS, dW, dV, dT, dN, dM, dO, dL, dI, cY, if_true, if_false, Qm, Qs, Qn, Qo, Qr, Qq, Ql, Qk, cR, cP, cD, bT, cV, dJ, bX, bW, cS, cM, cK, dD, cN, dB, dC, dX, cZ, cC, bE, bQ, aT, aA, aK, dE, aJ, cF, dF, dA, bN, aH, bB, aY, cL, aD, aX, aM, aV, cU, aW, cJ, bS, aC, aE, aL, dP, aP, aN, bC, aR, cI, aF, bZ, bU, bL, bD, bA, cX, aI, bM, aS, aU, aQ, aG, dG, cO, bO, aO, cW, bV, bY, cG, bP, bR, bK, cH, bF, cB, aZ, bJ, bH, bG, cA, e5, d2, d3]
  exact this
 .have d2 : decide ((size : Int) > ((b.length - at' : Nat) : Int)) = false := decide_eq_false (by omega)
  have d3 : decide (((b.length - at' : Nat) : Int) < (size : Int)) = false := decide_eq_false (by omega)
  have := main size (by omega)
  rw [e0] at this
  simp (disch := omega) only [dQ, fE, cQ, stepR_skip, eC, fB, eH, eT, eS, eM, fH, eP, dK, eN, eJ, eY, eE, eB, eK, eD, eI, eX, fC, eF, dR, eU, eZ, eA, gA, gB, gC, gG, gE, gF, gD, gH, gI, dH, Result.ok.injEq, Next.value.injEq, true_and, and_true, dZ, dY, fA, eL, eQ, fG, Qp, dS, dW, dV, dT, dN, dM, dO, dL, dI, cY, if_true, if_false, Qm, Qs, Qn, Qo, Qr, Qq, Ql, Qk, cR, cP, cD, bT, cV, dJ, bX, bW, cS, cM, cK, dD, cN, dB, dC, dX, cZ, cC, bE, bQ, aT, aA, aK, dE, aJ, cF, dF, dA, bN, aH, bB, aY, cL, aD, aX, aM, aV, cU, aW, cJ, bS, aC, aE, aL, dP, aP, aN, bC, aR, cI, aF, bZ, bU, bL, bD, bA, cX, aI, bM, aS, aU, aQ, aG, dG, cO, bO, aO, cW, bV, bY, cG, bP, bR, bK, cH, bF, cB, aZ, bJ, bH, bG, cA, e5, d2, d3]
  exact this
theorem Fk (size : Nat) (hs : 1 <= size) : ∀ (f : Nat) (r : List UInt8), (pG size f r).length <= 3 * f + r.length
 | 0, _ => by simp [pG]
 | f + 1, r => by
   rw [pG]
   split
   .rw [Qt, show (b3 (8 * r.length + 1)).length = 3 from rfl]; omega
   .have := Fk size hs f (r.drop size)
    rw [Qy] at this
    rw [Qt, Qt, Qz, show (b3 (8 * size)).length = 3 from rfl]
    omega
theorem Lm (size : Nat) (hs : 1 <= size) : ∀ (f : Nat) (r : List UInt8), r.length < f -> r.length <= (pG size f r).length
 | 0, _, h => absurd h (by omega)
 | f + 1, r, h => by
   rw [pG]
   split
   .rw [Qt]; omega
   .have := Lm size hs f (r.drop size) (by rw [Qy]; omega)
    rw [Qy] at this
    rw [Qt, Qt, Qz]
    omega
theorem H6 (n : Nat) (s : Bool) : (vW n s).length <= 7 := by
 unfold vW
 split
 .rw [Qt, Qt, gV, gV]; simp
 .rw [Qt, Qt, gV, gV]; simp
theorem Og {v0 : RN} {b : List UInt8} {size : Nat} {s : Bool} {w : RM} (h0 : Bs w v0 b) (hb : b.length <= 2000) (hs : 1 <= size /\ size <= 256) :
 fK pg uY #[v0, .int .i64 (size : Nat), .bool s] w (fun r w' => sG w' (fun y => w.heap.size <= y) 1 r (JX b size s).length ((JX b size s).map lN) /\ fW w w' kY) := by
 refine FJ ?_
 obtain ⟨RR, hRR⟩ : ∃ RR : RN -> RM -> Prop, RR = fun r w' => sG w' (fun y => w.heap.size <= y) 1 r (JX b size s).length ((JX b size s).map lN) /\ fW w w' kY := ⟨_, rfl⟩
 rw [<- hRR]
 unfold GF vX vZ
 obtain ⟨a0, c0, e0, hcap⟩ := h0.len
 rw [Qw] at e0
 have wl : IntKind.u64.wrap (b.length : Int) = b.length := dY (by omega) (by omega)
 obtain ⟨K, hK⟩ : ∃ K : RM -> Prop, K = fun w => fK pg rA #[.int .u64 (b.length : Nat), .bool s] w fun t17 w => dQ pg (jC 9 22 t17) w fun t18 w => nV RR v0 (.int .i64 (size : Nat)) (.bool s) t18 (.int .i64 0) w := ⟨_, rfl⟩
 have main : K w := by
  rw [hK]
  refine (KB (by omega)).mono ?_
  rintro r w1 ⟨rfl, x1⟩
  refine Ep fun w2 c hsl x2 s2 ho => ?_
  obtain ⟨r, o2, hc⟩ := ho
  have z1 := x1.size
  have hl : (⟨(vW b.length s).toArray⟩ : ByteArray).size = (vW b.length s).length := by simp [ByteArray.size]
  have hd : (⟨(vW b.length s).toArray⟩ : ByteArray).data.toList = vW b.length s := by simp
  rw [hd] at o2 hsl
  rw [hl] at hc ⊢
  have x02 := x1.seq x2
  have hS : sG w2 (fun y => w.heap.size <= y) 1 (.slice (some ⟨w1.heap.size, 0, none⟩) (vW b.length s).length c) (vW b.length s).length ((vW b.length s).map lN) :=
   ⟨by simp, .inr ⟨w1.heap.size, c, List.replicate r (.int .u8 0), rfl, z1, o2, by simp; omega, by omega⟩⟩
  have hlen := Fk size hs.1 (b.length + 1) b
  have hhd := H6 b.length s
  have z2 := x2.size
  have keep : ∀ w', fW w2 w' (fun y => w.heap.size <= y) -> Bs w' v0 b := fun w' x => h0.ext (x02.trans x fun y hy h => by omega) (kQ _)
  refine KN (base := w.heap.size) (hd := vW b.length s) (keep w2 (fW.refl _ _)) hb hs hS (by omega) (by omega) keep fun w3 v3 o3 x3 => ?_
  have z3 := x3.size
  refine NQ (base := w.heap.size) (keep w3 x3) hb o3 (by omega) (by rw [Qt]; omega) fun w4 v4 o4 x4 => ?_
  rw [hRR]
  exact ⟨o4, x02.trans (x3.seq x4) fun y hy h => by omega⟩
 rw [hK] at main
 rw [e0] at main ⊢
 simp (disch := omega) only [dQ, fE, cQ, stepR_skip, eC, fB, eH, eT, eS, eM, fH, eP, dK, eN, eJ, eY, eE, eB, eK, eD, eI, eX, fC, eF, dR, eU, eZ, eA, gA, gB, gC, gG, gE, gF, gD, gH, gI, dH, Result.ok.injEq, Next.value.injEq, true_and, and_true, dZ, dY, fA, eL, eQ, fG, Qp, dS, dW, dV, dT, dN, dM, dO, dL, dI, cY, if_true, if_false, Qm, Qs, Qn, Qo, Qr, Qq, Ql, Qk, cR, cP, cD, bT, cV, dJ, bX, bW, cS, cM, cK, dD, cN, dB, dC, dX, cZ, cC, bE, bQ, aT, aA, aK, dE, aJ, cF, dF, dA, bN, aH, bB, aY, cL, aD, aX, aM, aV, cU, aW, cJ, bS, aC, aE, aL, dP, aP, aN, bC, aR, cI, aF, bZ, bU, bL, bD, bA, cX, aI, bM, aS, aU, aQ, aG, dG, cO, bO, aO, cW, bV, bY, cG, bP, bR, bK, cH, bF, cB, aZ, bJ, bH, bG, cA, wl]
 exact main
theorem Pv (l r : List UInt8) : tZ (l ++ r) 0 l.length = (l, r, 0) := by
 unfold tZ
 rw [if_neg (by simp), if_neg (by rw [Qt]; omega), List.take_left, List.drop_left]
theorem Ov {l r : List UInt8} {n : Nat} (h : l.length = n) : Ig (l ++ r, 0) n = (r, 0) /\ JW (l ++ r, 0) n = kB l := by
 subst h
 unfold Ig JW
 rw [Pv]
 exact ⟨rfl, rfl⟩
theorem Kf {n win room : Nat} {b : Bool} {m r all : List UInt8} (hm : m.length = n) (hn : n <= win) (hn2 : n <= 131072) (hr : all.length + n <= room) : He (b3 (8 * n + (if b then 1 else 0)) ++ (m ++ r)) all win room = some (.ok (all ++ m, r, b)) := by
 obtain ⟨x, hx⟩ : ∃ x, x = 8 * n + (if b then 1 else 0) := ⟨_, rfl⟩
 have hx2 : x < 2 ^ 24 := by rw [hx]; split <;> omega
 rw [<- hx]
 unfold He
 have hl : (b3 x ++ (m ++ r)).length = 3 + n + r.length := by simp [b3, hm]; omega
 have hb := PG (r := m ++ r) hx2
 have hk : zN (b3 x ++ (m ++ r)) = 0 := by unfold zN; rw [hb, hx]; split <;> omega
 have hs : Bp (b3 x ++ (m ++ r)) = n := by unfold Bp; rw [hb, hx]; split <;> omega
 have hd : Fi (b3 x ++ (m ++ r)) = n := by unfold Fi; rw [hk, hs] <;> rfl
 have hdr : (b3 x ++ (m ++ r)).drop 3 = m ++ r := rfl
 have hmm : J1 (b3 x ++ (m ++ r)) = m := by unfold J1; rw [hk, hs, hdr, if_neg (by omega), <- hm, List.take_left]
 have hq : (bx (b3 x ++ (m ++ r)) % 2 == 1) = b := by
  rw [hb, hx]
  cases b
  .have : (8 * n + (if false = true then 1 else 0)) % 2 = 0 := by simp; omega
   rw [this] <;> rfl
  .have : (8 * n + (if true = true then 1 else 0)) % 2 = 1 := by simp; omega
   rw [this] <;> rfl
 rw [hl, hk, hs, hd, hmm, hq, hm, if_neg (by omega), if_neg (by omega), if_neg (by omega), if_neg (by omega), if_neg (by omega), if_neg (by omega), <- Ra, hdr, <- hm, List.drop_left]
theorem Jz {h : FH} {room size : Nat} (hs : 1 <= size /\ size <= 256) : ∀ (f : Nat) (r T all : List UInt8) (g : Nat), f <= g -> r.length < f -> r.length <= h.window -> r.length <= 2000 -> all.length + r.length <= room -> (h.known = true -> all.length + r.length <= h.size) -> AZ h room g (pG size f r ++ T) all = some (.ok (all ++ r, T))
 | 0, _, _, _, _, _, hf, _, _, _, _ => absurd hf (by omega)
 | f + 1, r, T, all, g, hg, hf, hw, h2, hr, hk => by
   obtain ⟨g, rfl⟩ : ∃ q, g = q + 1 := ⟨g - 1, by omega⟩
   rw [pG, AZ]
   by_cases hl : r.length <= size
   .have e : b3 (8 * r.length + 1) ++ r ++ T = b3 (8 * r.length + (if true then 1 else 0)) ++ (r ++ T) := by rw [QF] <;> rfl
    rw [if_pos hl, e, Kf rfl hw (by omega) hr]
    have : ¬ (h.known = true /\ h.size < (all ++ r).length) := by
     rintro ⟨h1, h2⟩
     have := hk h1
     rw [Qt] at h2
     omega
    simp only [if_neg this]
    rfl
   .have htl : (r.take size).length = size := by rw [Qz]; omega
    have e : b3 (8 * size) ++ r.take size ++ pG size f (r.drop size) ++ T = b3 (8 * size + (if false then 1 else 0)) ++ (r.take size ++ (pG size f (r.drop size) ++ T)) := by rw [QF, QF] <;> rfl
    rw [if_neg hl, e, Kf htl (by omega) (by omega) (by omega)]
    have : ¬ (h.known = true /\ h.size < (all ++ r.take size).length) := by
     rintro ⟨h1, h2⟩
     have := hk h1
     rw [Qt, htl] at h2
     omega
    simp only [if_neg this, Qm, if_false]
    have hdl : (r.drop size).length = r.length - size := Qy
    rw [Jz hs f (r.drop size) T (all ++ r.take size) g (by omega) (by omega) (by omega) (by omega) (by rw [Qt, htl]; omega) (fun h1 => by have := hk h1; rw [Qt, htl]; omega), QF, List.take_append_drop]
def Ji (n : Nat) (s : Bool) : Nat := 32 + (if s then 4 else 0) + (if n < 256 then 0 else 64)
def GY (n : Nat) : List UInt8 := if n < 256 then kI n 1 else kI (n - 256) 2
theorem EM (n : Nat) (s : Bool) : vW n s = [40, 181, 47, 253] ++ (kI (Ji n s) 1 ++ GY n) := by
 unfold vW Ji GY
 split <;> rw [QF] <;> rfl
theorem Pk {n : Nat} (s : Bool) (hn : n < 65792) : Ji n s < 256 /\ Dy (Ji n s) = true /\ KF (Ji n s) = 0 /\ EG (Ji n s) = (if n < 256 then 1 else 2) /\ (Ji n s / 8 % 2 = 0) /\ (Ji n s / 4 % 2 == 1) = s /\ (GY n).length = (if n < 256 then 1 else 2) /\ Mb (Ji n s) (kB (GY n)) = n := by
 unfold Ji GY
 by_cases h : n < 256
 .simp only [if_pos h]
  have e : kB (kI n 1) = n := by rw [Bq]; exact QV (by omega)
  rw [e]
  cases s <;> refine ⟨by decide, by decide, by decide, by decide, by decide, by decide, gV _ _, ?_⟩ <;> · unfold Mb; rw [if_neg (by decide)]
 .simp only [if_neg h]
  have e : kB (kI (n - 256) 2) = n - 256 := by rw [Bq]; exact QV (by omega)
  rw [e]
  cases s <;> refine ⟨by decide, by decide, by decide, by decide, by decide, by decide, gV _ _, ?_⟩ <;> · unfold Mb; rw [if_pos (by decide)]; omega
theorem Nb {n : Nat} {s : Bool} (hn : n < 65792) (r : List UInt8) : Cm (kI (Ji n s) 1 ++ (GY n ++ r)) = .ok (⟨n, n, true, s⟩, 1 + (GY n).length) := by
 obtain ⟨f1, f2, f3, f4, f5, f6, f7, f8⟩ := Pk s hn
 have h1 := Ov (l := kI (Ji n s) 1) (r := GY n ++ r) (n := 1) (gV _ _)
 have h2 := Ov (l := GY n) (r := r) (n := (GY n).length) rfl
 have e1 : kB (kI (Ji n s) 1) = Ji n s := by rw [Bq]; exact QV (by omega)
 unfold Cm
 rw [h1.1, h1.2, e1, if_neg (by simp), if_neg (by omega)]
 unfold HS O4
 rw [f2, f3, f4, <- f7]
 have hp : 0 < (GY n).length := by rw [f7]; split <;> omega
 have o1 : Kl (GY n ++ r, 0) 0 = (GY n ++ r, 0) := rfl
 have o2 : H9 (GY n ++ r, 0) 0 = 0 := rfl
 have o3 : Kl (GY n ++ r, 0) (GY n).length = (r, 0) := by unfold Kl; rw [if_pos hp]; exact h2.1
 have o4 : H9 (GY n ++ r, 0) (GY n).length = kB (GY n) := by unfold H9; rw [if_pos hp]; exact h2.2
 simp only [if_true, o1, o2, o3, o4, f8, f6]
 unfold Hh
 rw [if_neg (by simp), if_neg (by simp), decide_eq_true hp]
 have e9 : (kI (Ji n s) 1 ++ (GY n ++ r)).length - r.length = 1 + (GY n).length := by
  rw [Qt, Qt, gV]
  omega
 rw [e9]
theorem NR {b T : List UInt8} {size win room : Nat} {s : Bool} (hb : b.length <= 2000) (hs : 1 <= size /\ size <= 256) (hw : b.length <= win) : Jh ((vW b.length s).drop 4 ++ (pG size (b.length + 1) b ++ T)) win room = if room < b.length then some (.error 12) else some (zY ⟨b.length, b.length, true, s⟩ T b) := by
 have e0 : (vW b.length s).drop 4 ++ (pG size (b.length + 1) b ++ T) = kI (Ji b.length s) 1 ++ (GY b.length ++ (pG size (b.length + 1) b ++ T)) := by
  rw [EM]
  show (kI (Ji b.length s) 1 ++ GY b.length) ++ _ = _
  rw [QF]
 rw [e0]
 unfold Jh
 rw [Nb (by omega)]
 by_cases hr : room < b.length
 .have : win < b.length ∨ (true = true /\ room < b.length) := .inr ⟨rfl, hr⟩
  rw [if_pos hr]
  show (if win < b.length ∨ (true = true /\ room < b.length) then _ else _) = _
  rw [if_pos this]
 .have : ¬ (win < b.length ∨ (true = true /\ room < b.length)) := by rintro (h | h) <;> omega
  rw [if_neg hr]
  show (if win < b.length ∨ (true = true /\ room < b.length) then _ else _) = _
  rw [if_neg this]
  have hd : (kI (Ji b.length s) 1 ++ (GY b.length ++ (pG size (b.length + 1) b ++ T))).drop (1 + (GY b.length).length) = pG size (b.length + 1) b ++ T := by
   rw [<- QF, List.drop_left' (by rw [Qt, gV])]
  rw [hd, Jz hs (b.length + 1) b T [] _ (by
    simp only [Qt]
    have : b.length <= (pG size (b.length + 1) b).length := Lm size hs.1 (b.length + 1) b (by omega)
    omega) (by omega) (QD _) hb (by simp; omega) (fun _ => by simp)]
  rfl
theorem OR : kB [40, 181, 47, 253] = 4247762216 := by decide
theorem Mt {b T out : List UInt8} {size win most f fr sk : Nat} {s : Bool} (hb : b.length <= 2000) (hs : 1 <= size /\ size <= 256) (hw : b.length <= win) (ho : out.length <= most) :
 Dg win most (f + 1) (vW b.length s ++ (pG size (b.length + 1) b ++ T)) out fr sk = if most < out.length + b.length then some (.error 12) else match zY ⟨b.length, b.length, true, s⟩ T b with | .error e => some (.error e) | .ok (a, l') => Dg win most f l' (out ++ a) (fr + 1) sk := by
 have h4 : (vW b.length s ++ (pG size (b.length + 1) b ++ T)).take 4 = [40, 181, 47, 253] := by rw [EM] <;> rfl
 have hd : (vW b.length s ++ (pG size (b.length + 1) b ++ T)).drop 4 = (vW b.length s).drop 4 ++ (pG size (b.length + 1) b ++ T) := by rw [EM] <;> rfl
 have hl : 4 <= (vW b.length s ++ (pG size (b.length + 1) b ++ T)).length := by rw [EM]; simp
 rw [Dg, if_neg (by omega), if_neg (by omega), h4, OR, if_pos rfl, hd, NR hb hs hw]
 by_cases h : most < out.length + b.length
 .rw [if_pos h, if_pos (by omega)]
 .rw [if_neg h, if_neg (by omega)]
  cases zY ⟨b.length, b.length, true, s⟩ T b <;> rfl
theorem M8 {b T : List UInt8} {s : Bool} : zY ⟨b.length, b.length, true, s⟩ T b = if s then (match IZ T b with | .error e => .error e | .ok l' => .ok (b, l')) else .ok (b, T) := by
 unfold zY
 rw [if_neg (by simp)]
 all_goals (cases s <;> rfl)
theorem NC {b r : List UInt8} : IZ (kI (XN b) 4 ++ r) b = .ok r := by
 unfold IZ
 have hl : (kI (XN b) 4).length = 4 := gV _ _
 have e1 : (kI (XN b) 4 ++ r).take 4 = kI (XN b) 4 := by rw [Rh (by omega), QL (by omega)]
 have e2 : (kI (XN b) 4 ++ r).drop 4 = r := List.drop_left' hl
 have e3 : kB (kI (XN b) 4) = XN b % 2 ^ 32 := Bq 4 (XN b)
 rw [e1, e2, e3, if_neg (by rw [Qt, hl]; omega), if_neg (by simp)]
theorem OW (b r : List UInt8) (size : Nat) (s : Bool) : JX b size s ++ r = vW b.length s ++ (pG size (b.length + 1) b ++ ((if s then kI (XN b) 4 else []) ++ r)) := by
 unfold JX
 simp only [QF]
theorem Od {b r out : List UInt8} {size win most f fr sk : Nat} {s : Bool} (hb : b.length <= 2000) (hs : 1 <= size /\ size <= 256) (hw : b.length <= win) (ho : out.length <= most) : Dg win most (f + 1) (JX b size s ++ r) out fr sk = if most < out.length + b.length then some (.error 12) else Dg win most f r (out ++ b) (fr + 1) sk := by
 rw [OW, Mt hb hs hw ho, M8]
 cases s with
 | false => rfl
 | true =>
   simp only [if_true]
   rw [NC]
def Ho (ls : List (List UInt8)) (sk : List UInt8) (i : Nat) : Option Nat × List UInt8 × Bool := (if i < sk.length /\ (sk.getD i 0).toNat < 40 then some (sk.getD i 0).toNat else none, ls.getD i [], i % 2 == 0)
def vO (ls : List (List UInt8)) (sk : List UInt8) (n : Nat) : List (Option Nat × List UInt8 × Bool) := (List.range n).map (Ho ls sk)
theorem MZ (ls : List (List UInt8)) (sk : List UInt8) (n : Nat) : vO ls sk (n + 1) = vO ls sk n ++ [Ho ls sk n] := by
 unfold vO
 rw [List.range_succ, List.map_append]
 rfl
def Kw (k : UInt8) : Option Nat -> List UInt8
 | none => []
 | some n => Ns k (List.replicate n 0)
def lH (k : UInt8) : List (Option Nat × List UInt8 × Bool) -> List UInt8
 | [] => []
 | (o, b, s) :: L => Kw k o ++ JX b 100 s ++ lH k L
def iZ : List (Option Nat × List UInt8 × Bool) -> List UInt8
 | [] => []
 | (_, b, _) :: L => b ++ iZ L
def mY : List (Option Nat × List UInt8 × Bool) -> Nat
 | [] => 0
 | (o, _, _) :: L => (if o.isSome then 1 else 0) + mY L
theorem HE (k : UInt8) : ∀ (L : List (Option Nat × List UInt8 × Bool)) (o : Option Nat) (b : List UInt8) (s : Bool), lH k (L ++ [(o, b, s)]) = lH k L ++ (Kw k o ++ JX b 100 s)
 | [], o, b, s => by simp [lH]
 | (o', b', s') :: L, o, b, s => by simp only [Q9, lH, HE k L, QF]
theorem GA : ∀ (L : List (Option Nat × List UInt8 × Bool)) (o : Option Nat) (b : List UInt8) (s : Bool), iZ (L ++ [(o, b, s)]) = iZ L ++ b
 | [], o, b, s => by simp [iZ]
 | (o', b', s') :: L, o, b, s => by simp only [Q9, iZ, GA L, QF]
theorem Ht : ∀ (L : List (Option Nat × List UInt8 × Bool)) (o : Option Nat) (b : List UInt8) (s : Bool), mY (L ++ [(o, b, s)]) = mY L + (if o.isSome then 1 else 0)
 | [], o, b, s => by simp [mY]
 | (o', b', s') :: L, o, b, s => by simp only [Q9, mY, Ht L]; omega
theorem Iy {win most : Nat} {k : UInt8} : ∀ (L : List (Option Nat × List UInt8 × Bool)) (f : Nat) (out : List UInt8) (fr sk : Nat), (∀ x ∈ L, x.2.1.length <= 2000 /\ x.2.1.length <= win /\ ∀ n, x.1 = some n -> n < 40) -> 2 * L.length < f -> out.length + (iZ L).length <= most -> Dg win most f (lH k L) out fr sk = some (.ok (out ++ iZ L, fr + L.length, sk + mY L))
 | [], f, out, fr, sk, _, hf, _ => by
   obtain ⟨f, rfl⟩ : ∃ g, f = g + 1 := ⟨f - 1, by omega⟩
   rw [Dg]
   simp [lH, iZ, mY]
 | (o, b, s) :: L, f, out, fr, sk, hL, hf, hm => by
   obtain ⟨h1, h2, h3⟩ := hL (o, b, s) (by simp)
   rw [QK] at hf
   rw [iZ, Qt] at hm
   have hL' := fun x hx => hL x (QE _ hx)
   have step : ∀ g sk', 2 * L.length < g -> Dg win most (g + 1) (JX b 100 s ++ lH k L) out fr sk' = some (.ok (out ++ (b ++ iZ L), fr + (L.length + 1), sk' + mY L)) := by
    intro g sk' hg
    rw [Od (size := 100) (most := most) (out := out) h1 (by omega) h2 (by omega), if_neg (show ¬ most < out.length + b.length by omega), Iy L g (out ++ b) (fr + 1) sk' hL' hg (by rw [Qt]; omega), QF]
    congr 4
    omega
   rw [lH, QF, QK, iZ, mY]
   cases o with
   | none =>
     obtain ⟨f, rfl⟩ : ∃ g, f = g + 1 := ⟨f - 1, by omega⟩
     have := step f sk (by omega)
     simp only [Kw, Rd, Option.isSome_none, Qm, if_false, Qs]
     exact this
   | some n =>
     obtain ⟨f, rfl⟩ : ∃ g, f = g + 1 + 1 := ⟨f - 2, by omega⟩
     have hn := h3 n rfl
     have := step f (sk + 1) (by omega)
     simp only [Kw, Option.isSome_some, if_true]
     rw [LS (by rw [QJ]; omega), this]
     congr 4
     omega
theorem JN (k : UInt8) : ∀ (L : List (Option Nat × List UInt8 × Bool)), 5 * L.length <= (lH k L).length
 | [] => by simp [lH]
 | (o, b, s) :: L => by
   have := JN k L
   have h5 : 5 <= (JX b 100 s).length := by
    unfold JX
    rw [EM]
    simp [gV]
   rw [lH, Qt, Qt, QK]
   omega
theorem Mr {k : UInt8} {L : List (Option Nat × List UInt8 × Bool)} {most : Nat} (hL : ∀ x ∈ L, x.2.1.length <= 2000 /\ ∀ n, x.1 = some n -> n < 40) (hm : (iZ L).length <= most) : PM (lH k L) 20 most = some (.ok (iZ L, L.length, mY L)) := by
 unfold PM
 have h20 : 2000 <= 2 ^ 20 := by decide
 have h5 := JN k L
 have := Iy (win := 2 ^ 20) (most := most) (k := k) L ((lH k L).length + 1) [] 0 0 (fun x hx => ⟨(hL x hx).1, Nat.le_trans (hL x hx).1 h20, (hL x hx).2⟩) (by omega) (by simpa using hm)
 rw [this]
 simp
end Go.Proofs.YthohephggmkeeaaDoor
namespace Go.En
open Go
section
variable {P : Program} {w : RM} {t e : TypeId}
theorem Jj {S : Nat -> Prop} {sz n m : Nat} {i : TypeInfo} {z : RN} {ty t2 : TypeId} {k : IntKind} (hu : P.underlying t = some (.slice e)) (hu2 : P.underlying t2 = some (.int k)) (hi : P.info? e = some i) (hsz : i.size = sz) (hz : i.zero = some z) (hzs : z.cells.size = sz)
 {v : RN} {l : List RN} (h : sG w S sz v n l) (hsz0 : 0 < sz) (hone : ∀ y ∈ z.cells.toList, one y = true) (hb : ∀ b, w.heap.size <= b -> S b)
 (hn : n + m <= 9223372036854775807) (hbytes : (n + m) * i.bytes <= 140737488355328) (hmb : m * i.bytes <= 140737488355328)
 {K : RN -> RM -> Prop} (hk : ∀ v' w', sG w' S sz v' (n + m) (l ++ (Builtin.zeroCells z.cells m).toList) -> fW w w' S -> K v' w') : dQ P (lQ .append #[t, t2] ty [v, .int k m]) w K := by
 generalize hnews : (Builtin.zeroCells z.cells m).toList = news at *
 have hnl : news.length = m * sz := by rw [<- hnews, QZ, lD, hzs]
 have hone' : ∀ y ∈ news, one y = true := by
  intro y hy
  rw [<- hnews] at hy
  simp only [Builtin.zeroCells, Array.toList_map, RB] at hy
  obtain ⟨j, _, rfl⟩ := hy
  refine hone _ ?_
  have : j % z.cells.size < z.cells.size := Nat.mod_lt _ (by omega)
  rw [getElem!_pos z.cells _ this]
  exact Array.getElem_mem_toList this
 have hmw : IntKind.i64.wrap ((m : Nat) : Int) = (m : Int) := dZ (by omega) (by omega)
 have hm0 : ¬ ((m : Int) < 0) := by omega
 have hmx : ¬ ((m : Int) * (i.bytes : Nat) > 2 ^ 48) := by
  have : (m : Int) * (i.bytes : Nat) = ((m * i.bytes : Nat) : Int) := by simp
  rw [this]; omega
 have has : ∀ w, (asInt (.int k m)).run P w = .ok (m : Int) w := fun w => rfl
 have hz' : ∀ w, (zeroValue e).run P w = .ok z w := fun w => by simp [zeroValue, typeInfo, hi, hz]
 have hnw : ∀ w, (if m * sz = 0 then pure #[] else do pure (Builtin.zeroCells (<- zeroValue e).cells m) : Sem (Array RN)).run P w = .ok news.toArray w := fun w => by
  by_cases h0 : m * sz = 0
  .rw [if_pos h0, Sem.run_pure]
   have : news = [] := QY.1 (by omega)
   rw [this]
  .rw [if_neg h0, Sem.run_bind, hz', Result.andThen_ok, Sem.run_pure, <- hnews, Array.toArray_toList]
 have hmax : IntKind.i64.max = 9223372036854775807 := by decide
 have hnot : ¬ (((n + m : Nat) : Int) > IntKind.i64.max) := by rw [hmax]; omega
 have hlen := h.1
 rcases h.2 with ⟨rfl, rfl⟩ | ⟨b, c, rest, rfl, h2, h3, h4, h5⟩
 .have hl0 : l = [] := QY.1 (by omega)
  subst hl0
  by_cases hm : m = 0
  .subst hm
   have hn0 : news = [] := QY.1 (by omega)
   subst hn0
   have : (lQ .append #[t, t2] ty [.slice none 0 0, .int k (0 : Nat)]).run P w = .ok (.value (.slice none 0 0)) w := by
    unfold lQ builtin
    simp only [Builtin.append_, QW, Qk, Ql]
    simp only [underlying, typeInfo, Sem.run_bind, run_program, Result.andThen_ok, hu, hu2, hi, Sem.run_pure, hJ hi, hsz, has, hmw, hm0, hmx, if_true, if_false, Qp, Qr, Qm, QD, Nat.add_zero, hnw]
   unfold dQ
   rw [this]
   exact hk _ _ ⟨by simp, .inl ⟨rfl, by omega⟩⟩ (fW.refl _ _)
  .have hfit := growslice_fits (need := 0 + m) (old := 0) (bytes := i.bytes) (by omega) (by omega)
   have hfit' : ¬ (Builtin.nextslicecap (0 + m) 0 * i.bytes > 2 ^ 48) := by omega
   have hle : ¬ (0 + m <= 0) := by omega
   have hq : (Question.appendCap (0 + m) 0 e).forced = false := rfl
   obtain ⟨r, hr⟩ : ∃ r, (Question.appendCap (0 + m) 0 e).cut (w.tape w.drawn (.appendCap (0 + m) 0 e)) = m + r :=
    ⟨(w.tape w.drawn (.appendCap (0 + m) 0 e)) % (2 ^ 63 - (0 + m)), by simp only [Question.cut]; omega⟩
   have : (lQ .append #[t, t2] ty [.slice none 0 0, .int k m]).run P w = .ok (.value (.slice (some ⟨w.heap.size, 0, none⟩) (0 + m) (m + r))) ((dr w).alloc (.cells (news ++ (Builtin.zeroCells z.cells (m + r - (0 + m))).toList).toArray e)) := by
    unfold lQ builtin
    simp only [Builtin.append_, QW, Qk, Ql]
    simp only [underlying, typeInfo, Sem.run_bind, run_program, Result.andThen_ok, hu, hu2, hi, Sem.run_pure, hJ hi, hsz, has, hmw, hm0, hmx, if_true, if_false, Qp, Qr, Qm, hle, hnot, false_and, hfit', run_choose, hq, hr, run_askRoom]
    change ((Sem.run P _ (dr w)).andThen _).andThen _ = _
    simp only [Sem.run_bind, hnw, run_firstCells_none, Result.andThen_ok, hz', Sem.run_pure, newRow, run_newObj]
    have e1 : (#[] ++ news.toArray ++ Builtin.zeroCells z.cells (m + r - (0 + m)) : Array RN) = (news ++ (Builtin.zeroCells z.cells (m + r - (0 + m))).toList).toArray := by
     apply Array.ext'; simp
    rw [e1]
    rfl
   unfold dQ
   rw [this]
   refine hk _ _ ⟨by simp only [Rd]; rw [hnl, Qs], .inr ⟨w.heap.size, m + r, (Builtin.zeroCells z.cells (m + r - (0 + m))).toList, by rw [Qs], hb _ (QD _), iL.alloc (dr w) _ _, ?_, by omega⟩⟩ ((fW.dr w _).seq (fW.alloc _ _ _))
   simp only [Rd, Qt, QZ, lD, hzs, hnl]
   rw [show m + r - (0 + m) = r from by omega, Q6]
 .by_cases hc : n + m <= c
  .have hroom : news.length <= rest.length := by
    rw [Qt, hlen] at h4
    have : (n + m) * sz <= c * sz := RK _ hc
    rw [Q6] at this; omega
   obtain ⟨w', s1, s2, s3, s4, _⟩ := sX (P := P) (M := S) h2 news w (n * sz) 0 (l ++ rest) h3 (by rw [Qt, hlen]; omega) hone'
   have : (lQ .append #[t, t2] ty [.slice (some ⟨b, 0, none⟩) n c, .int k m]).run P w = .ok (.value (.slice (some ⟨b, 0, none⟩) (n + m) c)) w' := by
    unfold lQ builtin
    simp only [Builtin.append_, QW, Qk, Ql]
    simp only [underlying, typeInfo, Sem.run_bind, run_program, Result.andThen_ok, hu, hu2, hi, Sem.run_pure, hJ hi, hsz, has, hmw, hm0, hmx, if_true, if_false, Qp, Qr, Qm, hc, hnw, uB, Qs, s1]
   unfold dQ
   rw [this]
   rw [Nat.add_zero, <- hlen, DJ _ _ _ hroom] at s2
   refine hk _ _ ⟨by rw [Qt, hlen, hnl, Q6], .inr ⟨b, c, rest.drop news.length, rfl, h2, s2, ?_, hc⟩⟩ s3
   rw [<- h4]; simp; omega
  .have hfit := growslice_fits (need := n + m) (old := c) (bytes := i.bytes) (by omega) hbytes
   have hfit' : ¬ (Builtin.nextslicecap (n + m) c * i.bytes > 2 ^ 48) := by omega
   have hq : (Question.appendCap (n + m) c e).forced = false := rfl
   obtain ⟨r, hr⟩ : ∃ r, (Question.appendCap (n + m) c e).cut (w.tape w.drawn (.appendCap (n + m) c e)) = n + m + r :=
    ⟨(w.tape w.drawn (.appendCap (n + m) c e)) % (2 ^ 63 - (n + m)), by simp only [Question.cut]⟩
   have hold : Cl (dr w) sz (.slice (some ⟨b, 0, none⟩) n c) n l := ⟨_, _, rfl, hlen, fun _ => ⟨b, 0, rfl, fun i hi => by
    show w.cell? _ = _
    rw [h3.cell, Qs, QO hi]⟩⟩
   have : (lQ .append #[t, t2] ty [.slice (some ⟨b, 0, none⟩) n c, .int k m]).run P w = .ok (.value (.slice (some ⟨w.heap.size, 0, none⟩) (n + m) (n + m + r))) ((dr w).alloc (.cells (l ++ news ++ (Builtin.zeroCells z.cells (n + m + r - (n + m))).toList).toArray e)) := by
    have hfo := qX (P := P) hold
    unfold lQ builtin
    simp only [Builtin.append_, QW, Qk, Ql]
    simp only [underlying, typeInfo, Sem.run_bind, run_program, Result.andThen_ok, hu, hu2, hi, Sem.run_pure, hJ hi, hsz, has, hmw, hm0, hmx, if_true, if_false, Qp, Qr, Qm, hc, hnot, false_and, hfit', run_choose, hq, hr, run_askRoom]
    change ((Sem.run P _ (dr w)).andThen _).andThen _ = _
    simp only [Sem.run_bind, hnw, hfo, Result.andThen_ok, hz', Sem.run_pure, newRow, run_newObj]
    have e1 : (l.toArray ++ news.toArray ++ Builtin.zeroCells z.cells (n + m + r - (n + m)) : Array RN) = (l ++ news ++ (Builtin.zeroCells z.cells (n + m + r - (n + m))).toList).toArray := by
     apply Array.ext'; simp
    rw [e1]
    rfl
   unfold dQ
   rw [this]
   refine hk _ _ ⟨by rw [Qt, hlen, hnl, Q6], .inr ⟨w.heap.size, n + m + r, _, rfl, hb _ (QD _), iL.alloc (dr w) _ _, ?_, by omega⟩⟩ ((fW.dr w _).seq (fW.alloc _ _ _))
   simp only [Qt, QZ, lD, hzs, hnl, hlen]
   rw [show n + m + r - (n + m) = r from by omega, Q6, Q6]
end
end Go.En
namespace Go.Proofs.YthohephggmkeeaaDoor
open Go Go.En Go.Pu
set_option maxRecDepth 4000
theorem Qd (k : Nat) : (Builtin.zeroCells (Value.int .u8 0).cells k).toList = List.replicate k (Value.int .u8 0) := by
 refine List.ext_getElem ?_ fun i h1 h2 => ?_
 .rw [QZ, lD, QJ]; simp [Value.cells]
 .rw [List.getElem_replicate]
  simp [Builtin.zeroCells, Value.cells, Nat.mod_one]
theorem Qh {S : Nat -> Prop} {v : RN} {l : List UInt8} {m : Nat} {w : RM} (h : sG w S 1 v l.length (l.map lN)) (hb : ∀ b, w.heap.size <= b -> S b) (hn : l.length + m <= 100000000) {K : RN -> RM -> Prop}
 (hk : ∀ v' w', sG w' S 1 v' (l ++ List.replicate m 0).length ((l ++ List.replicate m 0).map lN) -> fW w w' S -> K v' w') : dQ pg (lQ .append #[22, 3] 22 [v, .int .i64 (m : Nat)]) w K := by
 refine Jj (i := Tryd.t5) Tryd.underlying22 Tryd.underlying3 D7 rfl rfl rfl h (by decide) (by intro y hy; simp [Value.cells] at hy; subst hy; rfl) hb (by omega) (by rw [show Tryd.t5.bytes = 1 from rfl]; omega) (by rw [show Tryd.t5.bytes = 1 from rfl]; omega) fun v3 w3 o3 x3 => ?_
 refine hk v3 w3 ?_ x3
 rw [Qd] at o3
 rw [Qt, QJ, List.map_append, List.map_replicate]
 exact o3
theorem O8 {n : Nat} (h : n < 256) : vM .u8 (n : Int) 15 = ((n % 16 : Nat) : Int) := by
 have : ∀ k : Fin 256, vM .u8 (k.val : Int) 15 = ((k.val % 16 : Nat) : Int) := by decide +kernel
 exact this ⟨n, h⟩
theorem KY {k n : Nat} (hk : k < 256) (h : n <= 255) : (#[.int .u8 ((80 + k % 16 : Nat) : Int), .int .u8 42, .int .u8 77, .int .u8 24, .int .u8 (n : Nat), .int .u8 0, .int .u8 0, .int .u8 0] : Array RN).toList = (KS (UInt8.ofNat k) n).map lN := by
 have := Ko (UInt8.ofNat k) h
 rw [Md hk] at this
 exact this
theorem M1 {RR : RN -> RM -> Prop} {v0 v1 : RN} {ls : List (List UInt8)} {ks : List UInt8} {k : Nat} {w : RM} (h0 : Of w v0 ls) (h1 : Bs w v1 ks) (hls : ls.length <= 10) (hks : ks.length <= 9223372036854775807) (hl : ∀ l ∈ ls, l.length <= 9223372036854775807) (hk256 : k < 256)
 (hR : ∀ w', fW w w' kY -> RR (.bool true) w')
 (hk : ∀ w' va, (∀ l ∈ ls, l.length <= 300) -> Bs w' va (lH (UInt8.ofNat k) (vO ls ks ls.length)) -> fW w w' kY -> kW RR v0 va (.string ⟨(iZ (vO ls ks ls.length)).toArray⟩) (.int .i64 (mY (vO ls ks ls.length) : Nat)) w') :
 kN RR v0 v1 (.int .u8 (k : Nat)) (.slice none 0 0) (.string ⟨#[]⟩) (.int .i64 0) w := by
 unfold kN pX pT pJ pH
 refine iO.rule (fun m (t : RN × RN × RN × RN) w1 => ∃ i va, m = ls.length - i /\ t = (va, .string ⟨(iZ (vO ls ks i)).toArray⟩, .int .i64 (mY (vO ls ks i) : Nat), .int .i64 (i : Nat)) /\ i <= ls.length /\ (∀ j (hj : j < ls.length), j < i -> (ls[j]'hj).length <= 300) /\ (lH (UInt8.ofNat k) (vO ls ks i)).length <= 5000 * i /\ (iZ (vO ls ks i)).length <= 300 * i /\ mY (vO ls ks i) <= i /\ sG w1 (fun y => w.heap.size <= y) 1 va (lH (UInt8.ofNat k) (vO ls ks i)).length ((lH (UInt8.ofNat k) (vO ls ks i)).map lN) /\ fW w w1 kY) ls.length
  ⟨0, _, by omega, rfl, by omega, fun j hj h => by omega, by simp [vO, lH], by simp [vO, iZ], by simp [vO, mY], ⟨rfl, .inl ⟨rfl, rfl⟩⟩, fW.refl _ _⟩ ?_
 rintro m t w1 ⟨i, va, rfl, rfl, hi, hlen, hal, hwl, hcl, hS, x1⟩
 show kX _ _ RR v0 v1 (.int .u8 (k : Nat)) va (.string ⟨(iZ (vO ls ks i)).toArray⟩) (.int .i64 (mY (vO ls ks i) : Nat)) (.int .i64 (i : Nat)) w1
 unfold kX qQ
 have g0 := h0.ext x1
 have g1 := h1.ext x1 (kQ _)
 obtain ⟨a0, c0, e0⟩ := g0.len
 by_cases hlt : i < ls.length
 rotate_left
 .have d1 : decide ((i : Int) < (ls.length : Int)) = false := decide_eq_false (by omega)
  have hi' : i = ls.length := by omega
  subst hi'
  have := hk w1 va (fun l hl => by
   obtain ⟨j, hj, rfl⟩ := List.mem_iff_getElem.1 hl
   exact hlen j hj (by omega)) (H8 hS) x1
  rw [e0] at this ⊢
  simp (disch := omega) only [dQ, fE, cQ, stepR_skip, eC, fB, eH, eT, eS, eM, fH, eP, dK, eN, eJ, eY, eE, eB, eK, eD, eI, eX, fC, eF, dR, eU, eZ, eA, gA, gB, gC, gG, gE, gF, gD, gH, gI, dH, Result.ok.injEq, Next.value.injEq, true_and, and_true, dZ, dY, fA, eL, eQ, fG, Qp, dS, dW, dV, dT, dN, dM, dO, dL, dI, cY, if_true, if_false, Qm, Qs, Qn, Qo, Qr, Qq, Ql, Qk, cR, cP, cD, bT, cV, dJ, bX, bW, cS, cM, cK, dD, cN, dB, dC, dX, cZ, cC, bE, bQ, aT, aA, aK, dE, aJ, cF, dF, dA, bN, aH, bB, aY, cL, aD, aX, aM, aV, cU, aW, cJ, bS, aC, aE, aL, dP, aP, aN, bC, aR, cI, aF, bZ, bU, bL, bD, bA, cX, aI, bM, aS, aU, aQ, aG, dG, cO, bO, aO, cW, bV, bY, cG, bP, bR, bK, cH, bF, cB, aZ, bJ, bH, bG, cA, d1]
  exact this
 have d1 : decide ((i : Int) < (ls.length : Int)) = true := decide_eq_true (by omega)
 obtain ⟨b, o, c, u, e1, hc, hu⟩ := g0.at hlt
 obtain ⟨l, hll⟩ : ∃ l, l = ls[i]'hlt := ⟨_, rfl⟩
 rw [<- hll] at hu
 have hu' := hu
 obtain ⟨a4, c4, e4, _⟩ := hu'.len
 rw [Qw] at e4
 have hl' := hl l (by rw [hll]; exact List.getElem_mem _)
 have t0 : (i : Int).toNat = i := Qp _
 have bb1 : (i : Int) < (ls.length : Int) := by omega
 subst e4
 rw [e1]
 simp (disch := omega) only [dQ, fE, cQ, stepR_skip, eC, fB, eH, eT, eS, eM, fH, eP, dK, eN, eJ, eY, eE, eB, eK, eD, eI, eX, fC, eF, dR, eU, eZ, eA, gA, gB, gC, gG, gE, gF, gD, gH, gI, dH, Result.ok.injEq, Next.value.injEq, true_and, and_true, dZ, dY, fA, eL, eQ, fG, Qp, dS, dW, dV, dT, dN, dM, dO, dL, dI, cY, if_true, if_false, Qm, Qs, Qn, Qo, Qr, Qq, Ql, Qk, cR, cP, cD, bT, cV, dJ, bX, bW, cS, cM, cK, dD, cN, dB, dC, dX, cZ, cC, bE, bQ, aT, aA, aK, dE, aJ, cF, dF, dA, bN, aH, bB, aY, cL, aD, aX, aM, aV, cU, aW, cJ, bS, aC, aE, aL, dP, aP, aN, bC, aR, cI, aF, bZ, bU, bL, bD, bA, cX, aI, bM, aS, aU, aQ, aG, dG, cO, bO, aO, cW, bV, bY, cG, bP, bR, bK, cH, bF, cB, aZ, bJ, bH, bG, cA, d1]
 unfold qP qM wR qL
 by_cases h300 : 300 < l.length
 .have d2 : decide ((l.length : Int) > 300) = true := decide_eq_true (by omega)
  have d3 : decide ((300 : Int) < (l.length : Int)) = true := decide_eq_true (by omega)
  simp (disch := omega) only [dQ, fE, cQ, stepR_skip, eC, fB, eH, eT, eS, eM, fH, eP, dK, eN, eJ, eY, eE, eB, eK, eD, eI, eX, fC, eF, dR, eU, eZ, eA, gA, gB, gC, gG, gE, gF, gD, gH, gI, dH, Result.ok.injEq, Next.value.injEq, true_and, and_true, dZ, dY, fA, eL, eQ, fG, Qp, dS, dW, dV, dT, dN, dM, dO, dL, dI, cY, if_true, if_false, Qm, Qs, Qn, Qo, Qr, Qq, Ql, Qk, cR, cP, cD, bT, cV, dJ, bX, bW, cS, cM, cK, dD, cN, dB, dC, dX, cZ, cC, bE, bQ, aT, aA, aK, dE, aJ, cF, dF, dA, bN, aH, bB, aY, cL, aD, aX, aM, aV, cU, aW, cJ, bS, aC, aE, aL, dP, aP, aN, bC, aR, cI, aF, bZ, bU, bL, bD, bA, cX, aI, bM, aS, aU, aQ, aG, dG, cO, bO, aO, cW, bV, bY, cG, bP, bR, bK, cH, bF, cB, aZ, bJ, bH, bG, cA, d2, d3, hc, t0]
  exact hR w1 x1
 have d2 : decide ((l.length : Int) > 300) = false := decide_eq_false (by omega)
 have d3 : decide ((300 : Int) < (l.length : Int)) = false := decide_eq_false (by omega)
 have hs2 : (((i % 2 : Nat) : Int) == 0) = (i % 2 == 0) := by
  have : i % 2 = 0 ∨ i % 2 = 1 := by omega
  rcases this with h | h <;> rw [h] <;> rfl
 have er : (i : Int).tmod 2 = ((i % 2 : Nat) : Int) := rfl
 have ui : IntKind.i64.wrap ((i % 2 : Nat) : Int) = ((i % 2 : Nat) : Int) := dZ (by omega) (by omega)
 have e7 : (i : Int) + 1 = ((i + 1 : Nat) : Int) := by omega
 obtain ⟨K, hK⟩ : ∃ K, K = UInt8.ofNat k := ⟨_, rfl⟩
 rw [<- hK] at hS hal
 have z1 := x1.size
 obtain ⟨C, hC⟩ : ∃ C : RN -> RN -> RN -> RN -> RM -> Prop, C = fun fO fS iD jN w1 => ∃ m, m < ls.length - i /\ ∃ i va, m = ls.length - i /\ (fO, fS, iD, jN) = (va, .string ⟨(iZ (vO ls ks i)).toArray⟩, .int .i64 (mY (vO ls ks i) : Nat), .int .i64 (i : Nat)) /\ i <= ls.length /\ (∀ j (hj : j < ls.length), j < i -> (ls[j]'hj).length <= 300) /\ (lH K (vO ls ks i)).length <= 5000 * i /\ (iZ (vO ls ks i)).length <= 300 * i /\ mY (vO ls ks i) <= i /\ sG w1 (fun y => w.heap.size <= y) 1 va (lH K (vO ls ks i)).length ((lH K (vO ls ks i)).map lN) /\ fW w w1 kY := ⟨_, rfl⟩
 have main : ∀ (q : Option Nat) (va' : RN) (w2 : RM), q = (Ho ls ks i).1 -> (Kw K q).length <= 60 -> sG w2 (fun y => w.heap.size <= y) 1 va' (lH K (vO ls ks i) ++ Kw K q).length ((lH K (vO ls ks i) ++ Kw K q).map lN) -> fW w w2 kY -> jV (fun qV fP gQ fO fS iD jN w9 => jT (fun _ _ _ fO fS iD jN w9 => C fO fS iD jN w9) qV fP gQ fO fS iD jN w9) v0 v1 (.int .u8 (k : Nat)) va' (.string ⟨(iZ (vO ls ks i)).toArray⟩) (.int .i64 (mY (vO ls ks i) + (if q.isSome then 1 else 0) : Nat)) (.int .i64 (i : Nat)) w2 := by
  intro q va' w2 hq hql ho2 x2
  unfold jV
  obtain ⟨b', o', c', u', e1', hc', hu2⟩ := (h0.ext x2).at hlt
  rw [e1] at e1'
  cases e1'
  rw [<- hll] at hu2
  rw [e1]
  simp (disch := omega) only [dQ, fE, cQ, stepR_skip, eC, fB, eH, eT, eS, eM, fH, eP, dK, eN, eJ, eY, eE, eB, eK, eD, eI, eX, fC, eF, dR, eU, eZ, eA, gA, gB, gC, gG, gE, gF, gD, gH, gI, dH, Result.ok.injEq, Next.value.injEq, true_and, and_true, dZ, dY, fA, eL, eQ, fG, Qp, dS, dW, dV, dT, dN, dM, dO, dL, dI, cY, if_true, if_false, Qm, Qs, Qn, Qo, Qr, Qq, Ql, Qk, cR, cP, cD, bT, cV, dJ, bX, bW, cS, cM, cK, dD, cN, dB, dC, dX, cZ, cC, bE, bQ, aT, aA, aK, dE, aJ, cF, dF, dA, bN, aH, bB, aY, cL, aD, aX, aM, aV, cU, aW, cJ, bS, aC, aE, aL, dP, aP, aN, bC, aR, cI, aF, bZ, bU, bL, bD, bA, cX, aI, bM, aS, aU, aQ, aG, dG, cO, bO, aO, cW, bV, bY, cG, bP, bR, bK, cH, bF, cB, aZ, bJ, bH, bG, cA, hc', t0, er, ui, hs2]
  refine (Og (size := 100) (s := i % 2 == 0) hu2 (by omega) (by omega)).mono ?_
  rintro vp w3 ⟨o3, x3⟩
  have z2 := x2.size
  have z3 := x3.size
  have x03 := x2.seq x3
  have hpl : (JX l 100 (i % 2 == 0)).length <= 2000 := by
   have h1 := Fk 100 (by omega) (l.length + 1) l
   have h2 := H6 l.length (i % 2 == 0)
   unfold JX
   rw [Qt, Qt]
   have h3 : (if (i % 2 == 0) = true then kI (XN l) 4 else []).length <= 4 := by split <;> simp [gV]
   omega
  have S3 : sG w3 (fun y => (w.heap.size <= y /\ y < w2.heap.size) ∨ w3.heap.size <= y) 1 va' _ _ := (mH ho2 fun y hy h => .inl ⟨hy, h⟩).ext x3 fun _ _ h => h
  refine NS S3 (H8 o3) (fun y hy => .inr hy) (by rw [Qt]; omega) fun v4 w4 o4 x4 => ?_
  have z4 := x4.size
  have x04 : fW w w4 kY := x03.trans x4 fun y hy h => by omega
  obtain ⟨b5, o5, c5, u5, e5, hc5, hu5⟩ := (h0.ext x04).at hlt
  rw [e1] at e5
  cases e5
  rw [<- hll] at hu5
  have hcv := lK hu5
  have hit : Ho ls ks i = (q, l, i % 2 == 0) := by
   rw [hq]
   have hg : ls.getD i [] = l := by rw [QG, Qv hlt, <- hll] <;> rfl
   unfold Ho
   rw [hg]
  have hsucc := MZ ls ks i
  rw [hit] at hsucc
  have hw1 : iZ (vO ls ks (i + 1)) = iZ (vO ls ks i) ++ l := by rw [hsucc, GA]
  have ha1 : lH K (vO ls ks (i + 1)) = lH K (vO ls ks i) ++ Kw K q ++ JX l 100 (i % 2 == 0) := by rw [hsucc, HE, QF]
  have hc1 : mY (vO ls ks (i + 1)) = mY (vO ls ks i) + (if q.isSome then 1 else 0) := by rw [hsucc, Ht]
  have hsc : ∀ (t : TypeId) (ox oy : Operand) (w : RM), (fD .add t ox oy (.string ⟨(iZ (vO ls ks i)).toArray⟩) (.string ⟨l.toArray⟩)).run pg w = .ok (.value (.string ⟨(iZ (vO ls ks (i + 1))).toArray⟩)) w := fun t ox oy w => by
   have h1 := ML (P := pg) (t := t) (ox := ox) (oy := oy) (w := w) ⟨(iZ (vO ls ks i)).toArray⟩ ⟨l.toArray⟩ (by
    have e1 : (⟨(iZ (vO ls ks i)).toArray⟩ : ByteArray).size = (iZ (vO ls ks i)).length := by simp [ByteArray.size]
    have e2 : (⟨l.toArray⟩ : ByteArray).size = l.length := by simp [ByteArray.size]
    omega)
   rw [h1, hw1]
   congr 3
  simp (disch := omega) only [dQ, fE, cQ, stepR_skip, eC, fB, eH, eT, eS, eM, fH, eP, dK, eN, eJ, eY, eE, eB, eK, eD, eI, eX, fC, eF, dR, eU, eZ, eA, gA, gB, gC, gG, gE, gF, gD, gH, gI, dH, Result.ok.injEq, Next.value.injEq, true_and, and_true, dZ, dY, fA, eL, eQ, fG, Qp, dS, dW, dV, dT, dN, dM, dO, dL, dI, cY, if_true, if_false, Qm, Qs, Qn, Qo, Qr, Qq, Ql, Qk, cR, cP, cD, bT, cV, dJ, bX, bW, cS, cM, cK, dD, cN, dB, dC, dX, cZ, cC, bE, bQ, aT, aA, aK, dE, aJ, cF, dF, dA, bN, aH, bB, aY, cL, aD, aX, aM, aV, cU, aW, cJ, bS, aC, aE, aL, dP, aP, aN, bC, aR, cI, aF, bZ, bU, bL, bD, bA, cX, aI, bM, aS, aU, aQ, aG, dG, cO, bO, aO, cW, bV, bY, cG, bP, bR, bK, cH, bF, cB, aZ, bJ, bH, bG, cA, hc5, t0, hcv, hsc]
  unfold jT
  simp (disch := omega) only [dQ, fE, cQ, stepR_skip, eC, fB, eH, eT, eS, eM, fH, eP, dK, eN, eJ, eY, eE, eB, eK, eD, eI, eX, fC, eF, dR, eU, eZ, eA, gA, gB, gC, gG, gE, gF, gD, gH, gI, dH, Result.ok.injEq, Next.value.injEq, true_and, and_true, dZ, dY, fA, eL, eQ, fG, Qp, dS, dW, dV, dT, dN, dM, dO, dL, dI, cY, if_true, if_false, Qm, Qs, Qn, Qo, Qr, Qq, Ql, Qk, cR, cP, cD, bT, cV, dJ, bX, bW, cS, cM, cK, dD, cN, dB, dC, dX, cZ, cC, bE, bQ, aT, aA, aK, dE, aJ, cF, dF, dA, bN, aH, bB, aY, cL, aD, aX, aM, aV, cU, aW, cJ, bS, aC, aE, aL, dP, aP, aN, bC, aR, cI, aF, bZ, bU, bL, bD, bA, cX, aI, bM, aS, aU, aQ, aG, dG, cO, bO, aO, cW, bV, bY, cG, bP, bR, bK, cH, bF, cB, aZ, bJ, bH, bG, cA, e7]
  rw [hC]
  refine ⟨ls.length - (i + 1), by omega, i + 1, v4, rfl, by rw [hc1], by omega, ?_, ?_, ?_, ?_, ?_, x04⟩
  .intro j hj hji
   by_cases h : j = i
   .subst h; rw [<- hll]; omega
   .exact hlen j hj (by omega)
  .rw [ha1, Qt, Qt]; omega
  .rw [hw1, Qt]; omega
  .rw [hc1]; split <;> omega
  .rw [ha1]; exact mH o4 fun y hy _ => by omega
 obtain ⟨a1, c1, e3, _⟩ := g1.len
 rw [Qw] at e3
 have plainly : (Ho ls ks i).1 = none -> jV (fun qV fP gQ fO fS iD jN w9 => jT (fun _ _ _ fO fS iD jN w9 => C fO fS iD jN w9) qV fP gQ fO fS iD jN w9) v0 v1 (.int .u8 (k : Nat)) va (.string ⟨(iZ (vO ls ks i)).toArray⟩) (.int .i64 (mY (vO ls ks i) : Nat)) (.int .i64 (i : Nat)) w1 := by
  intro hq
  have := main none va w1 hq.symm (by simp [Kw]) (by simp only [Kw, Rn]; exact hS) x1
  exact this
 have hw256 : ∀ c : UInt8, c.toNat < 256 := fun c => Ru c
 by_cases hik : i < ks.length
 rotate_left
 .have d4 : decide ((i : Int) < (ks.length : Int)) = false := decide_eq_false (by omega)
  have := plainly (by unfold Ho; rw [if_neg (by omega)])
  rw [hC, e3, e1] at this
  rw [e3]
  simp (disch := omega) only [dQ, fE, cQ, stepR_skip, eC, fB, eH, eT, eS, eM, fH, eP, dK, eN, eJ, eY, eE, eB, eK, eD, eI, eX, fC, eF, dR, eU, eZ, eA, gA, gB, gC, gG, gE, gF, gD, gH, gI, dH, Result.ok.injEq, Next.value.injEq, true_and, and_true, dZ, dY, fA, eL, eQ, fG, Qp, dS, dW, dV, dT, dN, dM, dO, dL, dI, cY, if_true, if_false, Qm, Qs, Qn, Qo, Qr, Qq, Ql, Qk, cR, cP, cD, bT, cV, dJ, bX, bW, cS, cM, cK, dD, cN, dB, dC, dX, cZ, cC, bE, bQ, aT, aA, aK, dE, aJ, cF, dF, dA, bN, aH, bB, aY, cL, aD, aX, aM, aV, cU, aW, cJ, bS, aC, aE, aL, dP, aP, aN, bC, aR, cI, aF, bZ, bU, bL, bD, bA, cX, aI, bM, aS, aU, aQ, aG, dG, cO, bO, aO, cW, bV, bY, cG, bP, bR, bK, cH, bF, cB, aZ, bJ, bH, bG, cA, d2, d3, hc, t0, d4, hK, e3, e1]
  subst hK
  exact this
 have d4 : decide ((i : Int) < (ks.length : Int)) = true := decide_eq_true (by omega)
 obtain ⟨b3, o3, c3, e5, hc3⟩ := OA g1 hik
 obtain ⟨ch, hch⟩ : ∃ ch, ch = ks[i]'hik := ⟨_, rfl⟩
 rw [<- hch] at hc3
 unfold lN at hc3
 have hgd : ks.getD i 0 = ch := by rw [QG, Qv hik, <- hch] <;> rfl
 have bb3 : (i : Int) < (ks.length : Int) := by omega
 by_cases h40 : ch.toNat < 40
 rotate_left
 .have d5 : decide ((ch.toNat : Int) < 40) = false := decide_eq_false (by omega)
  have := plainly (by unfold Ho; rw [hgd, if_neg (by omega)])
  rw [hC, e5, e1] at this
  rw [e5]
  simp (disch := omega) only [dQ, fE, cQ, stepR_skip, eC, fB, eH, eT, eS, eM, fH, eP, dK, eN, eJ, eY, eE, eB, eK, eD, eI, eX, fC, eF, dR, eU, eZ, eA, gA, gB, gC, gG, gE, gF, gD, gH, gI, dH, Result.ok.injEq, Next.value.injEq, true_and, and_true, dZ, dY, fA, eL, eQ, fG, Qp, dS, dW, dV, dT, dN, dM, dO, dL, dI, cY, if_true, if_false, Qm, Qs, Qn, Qo, Qr, Qq, Ql, Qk, cR, cP, cD, bT, cV, dJ, bX, bW, cS, cM, cK, dD, cN, dB, dC, dX, cZ, cC, bE, bQ, aT, aA, aK, dE, aJ, cF, dF, dA, bN, aH, bB, aY, cL, aD, aX, aM, aV, cU, aW, cJ, bS, aC, aE, aL, dP, aP, aN, bC, aR, cI, aF, bZ, bU, bL, bD, bA, cX, aI, bM, aS, aU, aQ, aG, dG, cO, bO, aO, cW, bV, bY, cG, bP, bR, bK, cH, bF, cB, aZ, bJ, bH, bG, cA, d2, d3, hc, t0, d4, d5, hc3]
  subst hK
  exact this
 have d5 : decide ((ch.toNat : Int) < 40) = true := decide_eq_true (by omega)
 have hq : (Ho ls ks i).1 = some ch.toNat := by unfold Ho; rw [hgd, if_pos ⟨hik, h40⟩]
 have a15 := O8 hk256
 have e6 : (80 : Int) + ((k % 16 : Nat) : Int) = ((80 + k % 16 : Nat) : Int) := by omega
 have w6 : IntKind.u8.wrap ((80 + k % 16 : Nat) : Int) = ((80 + k % 16 : Nat) : Int) := fG (by omega) (by omega)
 have w7 : IntKind.i64.wrap (ch.toNat : Int) = (ch.toNat : Int) := dZ (by omega) (by omega)
 have ec : (mY (vO ls ks i) : Int) + 1 = ((mY (vO ls ks i) + 1 : Nat) : Int) := by omega
 have wc : IntKind.i64.wrap ((mY (vO ls ks i) + 1 : Nat) : Int) = ((mY (vO ls ks i) + 1 : Nat) : Int) := dZ (by omega) (by omega)
 rw [e5]
 simp (disch := omega) only [dQ, fE, cQ, stepR_skip, eC, fB, eH, eT, eS, eM, fH, eP, dK, eN, eJ, eY, eE, eB, eK, eD, eI, eX, fC, eF, dR, eU, eZ, eA, gA, gB, gC, gG, gE, gF, gD, gH, gI, dH, Result.ok.injEq, Next.value.injEq, true_and, and_true, dZ, dY, fA, eL, eQ, fG, Qp, dS, dW, dV, dT, dN, dM, dO, dL, dI, cY, if_true, if_false, Qm, Qs, Qn, Qo, Qr, Qq, Ql, Qk, cR, cP, cD, bT, cV, dJ, bX, bW, cS, cM, cK, dD, cN, dB, dC, dX, cZ, cC, bE, bQ, aT, aA, aK, dE, aJ, cF, dF, dA, bN, aH, bB, aY, cL, aD, aX, aM, aV, cU, aW, cJ, bS, aC, aE, aL, dP, aP, aN, bC, aR, cI, aF, bZ, bU, bL, bD, bA, cX, aI, bM, aS, aU, aQ, aG, dG, cO, bO, aO, cW, bV, bY, cG, bP, bR, bK, cH, bF, cB, aZ, bJ, bH, bG, cA, d2, d3, hc, t0, d4, d5, hc3, a15, e6, w6]
 refine pY (cells := #[.int .u8 ((80 + k % 16 : Nat) : Int), .int .u8 42, .int .u8 77, .int .u8 24, .int .u8 (ch.toNat : Nat), .int .u8 0, .int .u8 0, .int .u8 0]) (by decide) (by decide) (by kernel_rfl) fun w2 o2 x2 s2 => ?_
 rw [KY hk256 (by omega), <- hK] at o2
 have hh2 := I2 o2
 have z2 := x2.size
 have S2 : sG w2 (fun y => (w.heap.size <= y /\ y < w1.heap.size) ∨ w2.heap.size <= y) 1 va _ _ := (mH hS fun y hy h => .inl ⟨hy, h⟩).ext x2 fun _ _ h => h
 refine NS S2 hh2 (fun y hy => .inr hy) (by rw [show (KS K ch.toNat).length = 8 from rfl]; omega) fun v3 w3 o3' x3 => ?_
 have z3 := x3.size
 have x03 : fW w w3 kY := (x1.seq x2).trans x3 fun y hy h => by omega
 obtain ⟨b6, o6, c6, e8, hc6⟩ := OA (h1.ext x03 (kQ _)) hik
 rw [e5] at e8
 cases e8
 rw [<- hch] at hc6
 unfold lN at hc6
 simp (disch := omega) only [dQ, fE, cQ, stepR_skip, eC, fB, eH, eT, eS, eM, fH, eP, dK, eN, eJ, eY, eE, eB, eK, eD, eI, eX, fC, eF, dR, eU, eZ, eA, gA, gB, gC, gG, gE, gF, gD, gH, gI, dH, Result.ok.injEq, Next.value.injEq, true_and, and_true, dZ, dY, fA, eL, eQ, fG, Qp, dS, dW, dV, dT, dN, dM, dO, dL, dI, cY, if_true, if_false, Qm, Qs, Qn, Qo, Qr, Qq, Ql, Qk, cR, cP, cD, bT, cV, dJ, bX, bW, cS, cM, cK, dD, cN, dB, dC, dX, cZ, cC, bE, bQ, aT, aA, aK, dE, aJ, cF, dF, dA, bN, aH, bB, aY, cL, aD, aX, aM, aV, cU, aW, cJ, bS, aC, aE, aL, dP, aP, aN, bC, aR, cI, aF, bZ, bU, bL, bD, bA, cX, aI, bM, aS, aU, aQ, aG, dG, cO, bO, aO, cW, bV, bY, cG, bP, bR, bK, cH, bF, cB, aZ, bJ, bH, bG, cA, hc6, t0, w7]
 refine Qh o3' (fun y hy => .inr (by omega)) (by rw [Qt, show (KS K ch.toNat).length = 8 from rfl]; omega) fun v4 w4 o4 x4 => ?_
 have x04 : fW w w4 kY := x03.trans x4 fun y hy h => by omega
 have hsk : lH K (vO ls ks i) ++ KS K ch.toNat ++ List.replicate ch.toNat 0 = lH K (vO ls ks i) ++ Kw K (some ch.toNat) := by
  rw [QF]
  have : KS K ch.toNat ++ List.replicate ch.toNat 0 = Ns K (List.replicate ch.toNat 0) := by
   unfold Ns
   rw [QJ]
   rfl
  rw [this]
  rfl
 rw [hsk] at o4
 have := main (some ch.toNat) v4 w4 hq.symm (by simp only [Kw]; rw [Ej, QJ]; omega) (mH o4 fun y hy _ => by omega) x04
 rw [hC, e5, e1] at this
 simp (disch := omega) only [dQ, fE, cQ, stepR_skip, eC, fB, eH, eT, eS, eM, fH, eP, dK, eN, eJ, eY, eE, eB, eK, eD, eI, eX, fC, eF, dR, eU, eZ, eA, gA, gB, gC, gG, gE, gF, gD, gH, gI, dH, Result.ok.injEq, Next.value.injEq, true_and, and_true, dZ, dY, fA, eL, eQ, fG, Qp, dS, dW, dV, dT, dN, dM, dO, dL, dI, cY, if_true, if_false, Qm, Qs, Qn, Qo, Qr, Qq, Ql, Qk, cR, cP, cD, bT, cV, dJ, bX, bW, cS, cM, cK, dD, cN, dB, dC, dX, cZ, cC, bE, bQ, aT, aA, aK, dE, aJ, cF, dF, dA, bN, aH, bB, aY, cL, aD, aX, aM, aV, cU, aW, cJ, bS, aC, aE, aL, dP, aP, aN, bC, aR, cI, aF, bZ, bU, bL, bD, bA, cX, aI, bM, aS, aU, aQ, aG, dG, cO, bO, aO, cW, bV, bY, cG, bP, bR, bK, cH, bF, cB, aZ, bJ, bH, bG, cA, ec, wc]
 subst hK
 exact this
theorem NL {ls : List (List UInt8)} {sk : List UInt8} {n : Nat} {x : Option Nat × List UInt8 × Bool} (h : x ∈ vO ls sk n) : ∃ i, i < n /\ x = Ho ls sk i := by
 unfold vO at h
 obtain ⟨i, hi, rfl⟩ := RB.1 h
 exact ⟨i, QQ.1 hi, rfl⟩
theorem IX {v0 v1 : RN} {ls : List (List UInt8)} {ks : List UInt8} {k : Nat} {w : RM} (h0 : Of w v0 ls) (h1 : Bs w v1 ks) (hls : ls.length <= 9223372036854775807) (hks : ks.length <= 9223372036854775807) (hl : ∀ l ∈ ls, l.length <= 9223372036854775807) (hk : k < 256) :
 fK pg sC #[v0, v1, .int .u8 (k : Nat)] w (fun r w' => r = .bool true /\ fW w w' kY) := by
 refine Ct ?_
 obtain ⟨RR, hRR⟩ : ∃ RR : RN -> RM -> Prop, RR = fun r w' => r = .bool true /\ fW w w' kY := ⟨_, rfl⟩
 rw [<- hRR]
 unfold Bf pR pW
 refine (LD w).mono ?_
 rintro r w1 ⟨rfl, x1⟩
 obtain ⟨a0, c0, e0⟩ := h0.len
 by_cases h10 : 10 < ls.length
 .have d1 : decide ((ls.length : Int) > 10) = true := decide_eq_true (by omega)
  have d2 : decide ((10 : Int) < (ls.length : Int)) = true := decide_eq_true (by omega)
  subst e0
  simp (disch := omega) only [dQ, fE, cQ, stepR_skip, eC, fB, eH, eT, eS, eM, fH, eP, dK, eN, eJ, eY, eE, eB, eK, eD, eI, eX, fC, eF, dR, eU, eZ, eA, gA, gB, gC, gG, gE, gF, gD, gH, gI, dH, Result.ok.injEq, Next.value.injEq, true_and, and_true, dZ, dY, fA, eL, eQ, fG, Qp, dS, dW, dV, dT, dN, dM, dO, dL, dI, cY, if_true, if_false, Qm, Qs, Qn, Qo, Qr, Qq, Ql, Qk, cR, cP, cD, bT, cV, dJ, bX, bW, cS, cM, cK, dD, cN, dB, dC, dX, cZ, cC, bE, bQ, aT, aA, aK, dE, aJ, cF, dF, dA, bN, aH, bB, aY, cL, aD, aX, aM, aV, cU, aW, cJ, bS, aC, aE, aL, dP, aP, aN, bC, aR, cI, aF, bZ, bU, bL, bD, bA, cX, aI, bM, aS, aU, aQ, aG, dG, cO, bO, aO, cW, bV, bY, cG, bP, bR, bK, cH, bF, cB, aZ, bJ, bH, bG, cA, d1, d2]
  rw [hRR]
  exact ⟨rfl, x1⟩
 have d1 : decide ((ls.length : Int) > 10) = false := decide_eq_false (by omega)
 have d2 : decide ((10 : Int) < (ls.length : Int)) = false := decide_eq_false (by omega)
 have main : kN RR v0 v1 (.int .u8 (k : Nat)) (.slice none 0 0) (.string ⟨#[]⟩) (.int .i64 0) w1 := by
  refine M1 (h0.ext x1) (h1.ext x1 (kQ _)) (by omega) hks hl hk (fun w' x => by rw [hRR]; exact ⟨rfl, x1.seq x⟩) fun w2 va hlen hb2 x2 => ?_
  obtain ⟨L, hL⟩ : ∃ L, L = vO ls ks ls.length := ⟨_, rfl⟩
  rw [<- hL] at hb2 ⊢
  have hLl : L.length = ls.length := by rw [hL]; unfold vO; rw [Qw, List.length_range]
  have hLL : ∀ x ∈ L, x.2.1.length <= 300 /\ ∀ n, x.1 = some n -> n < 40 := by
   intro x hx
   rw [hL] at hx
   obtain ⟨i, hi, rfl⟩ := NL hx
   refine ⟨?_, ?_⟩
   .show (ls.getD i []).length <= 300
    rw [QG, Qv hi]
    exact hlen _ (List.getElem_mem _)
   .intro n hn
    unfold Ho at hn
    split at hn
    .rename_i hq
     cases hn
     exact hq.2
    .cases hn
  have hwant : (iZ L).length <= 300 * L.length := by
   clear hb2 hL hLl
   induction L with
   | nil => simp [iZ]
   | cons x L ih =>
     obtain ⟨o, b, s⟩ := x
     have h1 := (hLL (o, b, s) (by simp)).1
     have h2 := ih fun x hx => hLL x (QE _ hx)
     rw [iZ, Qt, QK]
     simp only at h1
     omega
  have hall : (lH (UInt8.ofNat k) L).length <= 5000 * L.length := by
   clear hb2 hL hLl hwant
   induction L with
   | nil => simp [lH]
   | cons x L ih =>
     obtain ⟨o, b, s⟩ := x
     have h1 := (hLL (o, b, s) (by simp)).1
     have h3 := (hLL (o, b, s) (by simp)).2
     have h2 := ih fun x hx => hLL x (QE _ hx)
     have hp1 := Fk 100 (by omega) (b.length + 1) b
     have hp2 := H6 b.length s
     have hp3 : (JX b 100 s).length <= 2000 := by
      unfold JX
      rw [Qt, Qt]
      have h3 : (if s = true then kI (XN b) 4 else []).length <= 4 := by split <;> simp [gV]
      simp only at h1
      omega
     have hp4 : (Kw (UInt8.ofNat k) o).length <= 60 := by
      cases o with
      | none => simp [Kw]
      | some n =>
        have := h3 n rfl
        simp only [Kw]
        rw [Ej, QJ]
        omega
     rw [lH, Qt, Qt, QK]
     omega
  have hdec := Mr (k := UInt8.ofNat k) (L := L) (most := 1048576) (fun x hx => ⟨by have := (hLL x hx).1; omega, (hLL x hx).2⟩) (by omega)
  unfold kW
  refine (Ie (log := 20) (most := 1048576) hb2 (by omega) (by omega) (by omega) hdec).mono ?_
  rintro r w3 ⟨v3, rfl, hb3, x3⟩
  simp (disch := omega) only [dQ, fE, cQ, stepR_skip, eC, fB, eH, eT, eS, eM, fH, eP, dK, eN, eJ, eY, eE, eB, eK, eD, eI, eX, fC, eF, dR, eU, eZ, eA, gA, gB, gC, gG, gE, gF, gD, gH, gI, dH, Result.ok.injEq, Next.value.injEq, true_and, and_true, dZ, dY, fA, eL, eQ, fG, Qp, dS, dW, dV, dT, dN, dM, dO, dL, dI, cY, if_true, if_false, Qm, Qs, Qn, Qo, Qr, Qq, Ql, Qk, cR, cP, cD, bT, cV, dJ, bX, bW, cS, cM, cK, dD, cN, dB, dC, dX, cZ, cC, bE, bQ, aT, aA, aK, dE, aJ, cF, dF, dA, bN, aH, bB, aY, cL, aD, aX, aM, aV, cU, aW, cJ, bS, aC, aE, aL, dP, aP, aN, bC, aR, cI, aF, bZ, bU, bL, bD, bA, cX, aI, bM, aS, aU, aQ, aG, dG, cO, bO, aO, cW, bV, bY, cG, bP, bR, bK, cH, bF, cB, aZ, bJ, bH, bG, cA]
  refine (JC (log := 20) (most := 1048576) (hb2.ext x3 (kQ _)) (by omega) (by omega) (by omega) hdec).mono ?_
  rintro r w4 ⟨rfl, x4⟩
  unfold MQ
  have hcv := lK (hb3.ext x4 (kQ _))
  have bself : ((⟨(iZ L).toArray⟩ : ByteArray).toList == (⟨(iZ L).toArray⟩ : ByteArray).toList) = true := beq_self_eq_true _
  have n0 : ((0 : Int) == 0) = true := rfl
  have n2 : ((L.length : Int) == (ls.length : Int)) = true := by rw [hLl]; simp
  have n3 : ((mY L : Int) == (mY L : Int)) = true := by simp
  rw [e0]
  simp (disch := omega) only [dQ, fE, cQ, stepR_skip, eC, fB, eH, eT, eS, eM, fH, eP, dK, eN, eJ, eY, eE, eB, eK, eD, eI, eX, fC, eF, dR, eU, eZ, eA, gA, gB, gC, gG, gE, gF, gD, gH, gI, dH, Result.ok.injEq, Next.value.injEq, true_and, and_true, dZ, dY, fA, eL, eQ, fG, Qp, dS, dW, dV, dT, dN, dM, dO, dL, dI, cY, if_true, if_false, Qm, Qs, Qn, Qo, Qr, Qq, Ql, Qk, cR, cP, cD, bT, cV, dJ, bX, bW, cS, cM, cK, dD, cN, dB, dC, dX, cZ, cC, bE, bQ, aT, aA, aK, dE, aJ, cF, dF, dA, bN, aH, bB, aY, cL, aD, aX, aM, aV, cU, aW, cJ, bS, aC, aE, aL, dP, aP, aN, bC, aR, cI, aF, bZ, bU, bL, bD, bA, cX, aI, bM, aS, aU, aQ, aG, dG, cO, bO, aO, cW, bV, bY, cG, bP, bR, bK, cH, bF, cB, aZ, bJ, bH, bG, cA, n0, n2, n3, hcv, Nq, bself]
  rw [hRR]
  exact ⟨rfl, (x1.seq x2).seq (x3.seq x4)⟩
 rw [e0] at main ⊢
 simp (disch := omega) only [dQ, fE, cQ, stepR_skip, eC, fB, eH, eT, eS, eM, fH, eP, dK, eN, eJ, eY, eE, eB, eK, eD, eI, eX, fC, eF, dR, eU, eZ, eA, gA, gB, gC, gG, gE, gF, gD, gH, gI, dH, Result.ok.injEq, Next.value.injEq, true_and, and_true, dZ, dY, fA, eL, eQ, fG, Qp, dS, dW, dV, dT, dN, dM, dO, dL, dI, cY, if_true, if_false, Qm, Qs, Qn, Qo, Qr, Qq, Ql, Qk, cR, cP, cD, bT, cV, dJ, bX, bW, cS, cM, cK, dD, cN, dB, dC, dX, cZ, cC, bE, bQ, aT, aA, aK, dE, aJ, cF, dF, dA, bN, aH, bB, aY, cL, aD, aX, aM, aV, cU, aW, cJ, bS, aC, aE, aL, dP, aP, aN, bC, aR, cI, aF, bZ, bU, bL, bD, bA, cX, aI, bM, aS, aU, aQ, aG, dG, cO, bO, aO, cW, bV, bY, cG, bP, bR, bK, cH, bF, cB, aZ, bJ, bH, bG, cA, d1, d2]
 exact main
end Go.Proofs.YthohephggmkeeaaDoor
namespace Go.En
open Go Go.ChangeShapes Go.WideShapes Go.ChangeAt Go.RowKit
theorem Ii {H : Type} {enc : TypeId × RN -> H} {P : Program} (hl : laidOutB P = true) {W W' : RM} (hb : Below W.heap.size W W') : ∀ (ts : List TypeId) (vs : List RN) (ds : List (DataW H)) (ps : List MemPlace),
 (ts.all fun t => P.readableRec t && decide (t < P.types.size)) = true -> DataW.TrodAll enc P W 0 (fun _ => true) true ts vs ds ps -> (∀ x ∈ ps, x.block < W.heap.size) →
 DataW.TrodAll enc P W' 0 (fun b => decide (b < W.heap.size)) true ts vs ds ps := by
 intro ts
 induction ts with
 | nil =>
   intro vs ds ps _ h _
   cases vs <;> cases ds <;> simp [DataW.TrodAll] at h ⊢
   exact h
 | cons t ts ih =>
   intro vs ds ps hr h hlt
   cases vs with
   | nil => simp [DataW.TrodAll] at h
   | cons v vs =>
     cases ds with
     | nil => simp [DataW.TrodAll] at h
     | cons d ds =>
       obtain ⟨p, q, h1, h2, rfl⟩ := h
       rw [List.all_cons, Qu, Qu, decide_eq_true_eq] at hr
       exact ⟨p, q, Below.trod hl hr.1.1 hr.1.2 h1 hb (fun x hx => hlt x (Rb _ hx)), ih _ _ _ hr.2 h2 (fun x hx => hlt x (Rr _ hx)), rfl⟩
theorem MO {H : Type} {enc : TypeId × RN -> H} {P : Program} {f : Func} {s : ChangeSpec} {apart fresh handsOn : Bool} {tb : TypeId} {W W' : RM} {args : Array RN} {ds gs : List (DataW H)} {before : List MemPlace}
 (hl : laidOutB P = true) (hr : (f.params.toList.all fun t => P.readableRec t && decide (t < P.types.size)) = true) (hres : f.resultTypes = #[tb]) (hbool : P.underlying tb = some .bool)
 (hW : DataW.Whole enc P f.params.toList s.vars apart W args.toList ds gs before) (hvars : s.vars = []) (h1 : (s.fn H (ds ++ gs)).results = [.lit (.bool true)]) (h2 : (s.fn H (ds ++ gs)).args = ds) (h3 : (s.fn H (ds ++ gs)).vars = [])
 (hx : fW W W' kY) : s.post enc P f apart fresh handsOn false W args (.bool true) W' := by
 have hb := hx.below
 have hlt : ∀ x ∈ before, x.block < W.heap.size := fun x hx => hW.lt x hx
 have hW' := hW
 obtain ⟨p, q, hA, hV, rfl, _, _⟩ := hW
 rw [hvars] at hV
 obtain ⟨_, rfl⟩ := trodVars_none hV
 rw [Rn] at hW' hlt
 refine ⟨ds, gs, p, [], p, [], hW', ?_, ?_, ?_, hb.frame _, fun h => by cases h⟩
 .rw [h1, hres]
  exact trodAll_cons_mk (shut_bool hbool _) trodAll_mk0
 .rw [h2]; exact Ii hl hb _ _ _ _ hr hA hlt
 .rw [h3, hvars] <;> rfl
theorem Oh {H : Type} {enc : TypeId × RN -> H} {P : Program} {W : RM} {base b0 : Nat} {r : Reach} {sp : Nat -> Bool} {hd : Bool} {t e : TypeId} {k : IntKind} {v : RN} {d : DataW H} {ps : List MemPlace} (ht : P.underlying t = some (.slice e)) (he : P.underlying e = some (.int k)) (hc : P.cellsOf e = 1)
 (hval : Value.okWide P W r b0 t v) (h : DataW.Trod enc P W base sp hd t v d ps) :
 ∃ zs : List Int, Sl W v (zs.map (Value.int k)) /\ zs.length <= 9223372036854775807 /\ ∀ z ∈ zs, (Lit.int k z).wf = true := by
 obtain ⟨a0, len, cap, rfl⟩ := okWide_slice ht hval
 obtain ⟨fuel, hf⟩ := h
 rcases open_ints ht he hc hf with ⟨hcs, -⟩ | ⟨a, len', cap', zs, hcs, _, hl, hm, hz, -, hcell, hwz⟩
 .have : Value.slice a0 len cap = .slice none 0 0 := by simpa [Value.cells] using hcs
  cases this
  exact ⟨[], ⟨none, 0, 0, rfl, rfl, QD _, fun h => absurd h (by simp)⟩, by simp, by simp⟩
 .have : Value.slice a0 len cap = .slice (some a) len' cap' := by simpa [Value.cells] using hcs
  cases this
  unfold maxLen at hm
  have hle : len <= zs.length := by rw [hz]; split <;> omega
  refine ⟨zs.take len, ⟨some a, len, cap, rfl, by rw [Qw, Qz]; omega, hl, fun h0 => ?_⟩, by rw [Qz]; omega, fun z hz => hwz z (List.mem_of_mem_take hz)⟩
  obtain ⟨b, off, spot⟩ := a
  have hs : spot = none := by
   have h0 := hcell 0 (by omega)
   unfold World.cell? at h0
   split at h0
   .cases spot
    .rfl
    .simp [Addr.add] at h0
   .cases h0
  subst hs
  refine ⟨b, off, rfl, fun i hi => ?_⟩
  rw [<- uB, hcell i (by omega), Rg, Rc hi, QG, Qv (by omega)]
  rfl
theorem MU (zs : List Int) (h : ∀ z ∈ zs, (Lit.int .u8 z).wf = true) : ∃ l : List UInt8, zs.map (Value.int .u8) = l.map lN /\ l.length = zs.length := by
 refine ⟨zs.map fun z => UInt8.ofNat z.toNat, ?_, by simp⟩
 rw [List.map_map]
 refine Q3 fun z hz => ?_
 have := h z hz
 have hx : 0 <= z /\ z <= 255 := by simpa [Lit.wf, IntKind.min, IntKind.max, IntKind.signed, IntKind.bits] using this
 show _ = lN (UInt8.ofNat z.toNat)
 unfold lN
 rw [Q5]
 congr 1
 omega
end Go.En
namespace Go.En
open Go Go.ChangeShapes Go.WideShapes Go.ChangeAt Go.RowKit Go.Deep
theorem JE {W : RM} {a : Addr} {n : Nat} {g : Nat -> RN} (h0 : 0 < n) (h : ∀ i, i < n -> W.cell? (a.add i) = some (g i)) : ∃ b off, a = ⟨b, off, none⟩ /\ ∀ i, i < n -> W.cell? ⟨b, off + i, none⟩ = some (g i) := by
 obtain ⟨b, off, spot⟩ := a
 have hs : spot = none := by
  have h0 := h 0 h0
  unfold World.cell? at h0
  split at h0
  .cases spot
   .rfl
   .simp [Addr.add] at h0
  .cases h0
 subst hs
 exact ⟨b, off, rfl, fun i hi => by rw [<- uB, h i hi]⟩
theorem Mo {H : Type} {enc : TypeId × RN -> H} {P : Program} {W : RM} {base b0 : Nat} {r : Reach} {hd : Bool} {t e q : TypeId} {v : RN} {d : DataW H} {ps : List MemPlace} (ht : P.underlying t = some (.slice e)) (he : P.underlying e = some (.slice q)) (hq : P.underlying q = some (.int .u8)) (ce : P.cellsOf e = 1) (cq : P.cellsOf q = 1)
 (hval : Value.okWide P W r b0 t v) (h : DataW.Trod enc P W base (fun _ => true) hd t v d ps) :
 ∃ (vs : List RN) (ls : List (List UInt8)), Sl W v vs /\ vs.length = ls.length /\ (∀ i (h : i < ls.length) (h' : i < vs.length), Bs W vs[i] ls[i]) /\ ls.length <= 9223372036854775807 /\ ∀ l ∈ ls, l.length <= 9223372036854775807 := by
 obtain ⟨a0, len, cap, rfl⟩ := okWide_slice ht hval
 obtain ⟨fuel, hf⟩ := h
 rcases open_int_rows ht he hq ce cq hf with ⟨hcs, -⟩ | ⟨a, len', cap', A, L, C, Z, hcs, _, hl, hm, -, hr⟩
 .have : Value.slice a0 len cap = .slice none 0 0 := by simpa [Value.cells] using hcs
  cases this
  exact ⟨[], [], ⟨none, 0, 0, rfl, rfl, QD _, fun h => absurd h (by simp)⟩, rfl, fun i h => absurd h (by simp), by simp, by simp⟩
 .have : Value.slice a0 len cap = .slice (some a) len' cap' := by simpa [Value.cells] using hcs
  cases this
  unfold maxLen at hm hr
  refine ⟨(List.range len).map fun r => .slice (A r) (L r) (C r), (List.range len).map fun r => ((Z r).take (L r)).map fun z => UInt8.ofNat z.toNat, ?_, by simp, ?_, by simp; omega, ?_⟩
  .refine ⟨some a, len, cap, rfl, by simp, hl, fun h0 => ?_⟩
   obtain ⟨b, off, e, hc⟩ := JE (g := fun r => .slice (A r) (L r) (C r)) h0 (fun i hi => (hr i (by omega)).1)
   exact ⟨b, off, by rw [e], fun i hi => by rw [hc i hi]; simp [hi]⟩
  .intro i h h'
   have hi : i < len := by simpa using h
   obtain ⟨-, h2, h3, h4, h5, h6, h7⟩ := hr i (by omega)
   simp only [List.getElem_map, List.getElem_range]
   refine ⟨A i, L i, C i, rfl, by simp; omega, h2, fun h0 => ?_⟩
   obtain ⟨a', ha⟩ : ∃ a', A i = some a' := by
    cases hA : A i with
    | none => have := h6 hA; omega
    | some a' => exact ⟨a', rfl⟩
   obtain ⟨b, off, e, hc⟩ := JE (g := fun c => .int .u8 ((Z i).getD c 0)) h0 (fun c hc => (h7 a' ha).2 c (by omega))
   refine ⟨b, off, by rw [ha, e], fun c hcl => ?_⟩
   rw [hc c hcl]
   have hz : c < (Z i).length := by omega
   have hw := h5 _ (List.getElem_mem hz)
   have hx : 0 <= (Z i)[c] /\ (Z i)[c] <= 255 := by simpa [Lit.wf, IntKind.min, IntKind.max, IntKind.signed, IntKind.bits] using hw
   rw [QG, Qv hz]
   simp only [List.map_map, Rg, Rc hcl, Qv hz, QR, Rv, Function.comp]
   unfold lN
   rw [Q5]
   congr 2
   omega
  .intro l hl
   obtain ⟨r, hr', rfl⟩ := RB.1 hl
   have hi : r < len := by simpa using hr'
   obtain ⟨-, h2, h3, h4, -⟩ := hr r (by omega)
   simp; omega
end Go.En
