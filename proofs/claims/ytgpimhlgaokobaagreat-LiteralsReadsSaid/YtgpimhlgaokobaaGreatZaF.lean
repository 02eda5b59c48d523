/- Parts of the proof of LiteralsReads: merged and given short names by a program of ours. -/
import Derived.WalkKit
import Derived.ProofKit
import Derived.OpenShut
import Derived.Test.YtgpimhlgaokobaaGreatZaE
set_option linter.unusedVariables false
set_option linter.unusedSimpArgs false
open Bool renaming and_eq_true → aK5, false_eq_true → aKQ, not_true → aLb, not_false → aLi
open Int renaming tdiv_eq_ediv_of_nonneg → aK6, toNat_natCast → aKO
open List renaming getD_eq_getElem?_getD → aK0, length_take → aK2, length_drop → aK7, getElem?_cons_zero → aKM, getElem?_cons_succ → aKN, set_cons_succ → aKR, set_cons_zero → aKS, take_succ_cons → aKT, drop_zero → aKU, length_append → aKV, getElem?_eq_getElem → aKW, take_zero → aKX, length_map → aKZ, map_cons → aL0, mem_append_left → aL2, set_append_left → aL4, getElem?_take_of_lt → aLB, append_nil → aLG, map_append → aLe, getElem?_map → aLl, take_of_length_le → aLn, length_eq_zero_iff → aLq, map_congr_left → aLs, length_set → aM4, replicate_succ' → aMI, mem_append_right → aMS, mem_of_mem_take → aMd, getElem_cons_zero → aMk, map_map → aNh
open Nat renaming le_refl → aK1, zero_add → aKP, pow_le_pow_right → aKY, add_mul → aLD, pow_add → aLM, div_le_self → aLP, add_zero → aLW, two_pow_pos → aLh, mul_le_mul_right → aLk, mul_comm → aLm, pow_succ → aLr, mul_div_cancel_left → aMN, div_div_eq_div_mul → aMl
open Option renaming isNone_some → aK8, isNone_none → aLw
namespace Go.Proofs.YtgpimhlgaokobaaGreat
open Go Go.En Go.Pu
set_option maxRecDepth 4000
def aBY (l : List Nat) (d q i code bits : Nat) : Prop :=
 (bits = 0 /\ code = 0 /\ Eu l q i = 0) ∨ (∃ q0, 1 <= q0 /\ q0 <= q /\ q0 <= d /\ bits = d + 1 - q0 /\ (code + 1) * 2 ^ (q0 - 1) = Eu l q i)
theorem aAB {lv dv outv wv sv : aNk} {c0 b0 now : Nat} {w : aNj} (hc : c0 < 2 ^ 40) (hb : b0 <= 100) (hnow : now <= 100) {kn : aNk -> aNk -> aNk -> aNk -> aNk -> aNk -> aNk -> aNj -> Prop}
 (hK : yG kn lv dv outv (.int .i64 (c0 / 2 ^ (b0 - now) : Nat)) wv sv (.int .i64 now) w) :
 EF kn lv dv outv (.int .i64 c0) (.int .i64 b0) wv sv (.int .i64 now) w := by
 unfold EF Ox OI
 refine cU.rule (fun m (t : aNk × aNk) w' => ∃ j : Nat, m = b0 - j /\ t = (.int .i64 (c0 / 2 ^ j : Nat), .int .i64 (b0 - j : Nat)) /\ j <= b0 - now /\ w' = w) b0 ⟨0, rfl, by simp, by omega, rfl⟩ ?_
 rintro m t w1 ⟨j, rfl, rfl, hj, rfl⟩
 have hcl := aLP c0 (2 ^ j)
 have hs : c0 / 2 ^ (j + 1) = c0 / 2 ^ j / 2 := by rw [aLr, aMl]
 unfold EH
 by_cases hlt : j < b0 - now
 .have d1 : decide ((now : Int) < ((b0 - j : Nat) : Int)) = true := by simp only [decide_eq_true_eq]; omega
  have e1 : ((c0 / 2 ^ j : Nat) : Int).tdiv 2 = ((c0 / 2 ^ (j + 1) : Nat) : Int) := by
   rw [hs]
   generalize c0 / 2 ^ j = z
   rw [aK6 (by omega)]; omega
  have e2 : ((b0 - j : Nat) : Int) - 1 = ((b0 - (j + 1) : Nat) : Int) := by omega
  generalize c0 / 2 ^ j = x at *
  simp (disch := omega) only [aD, jF, aA, stepR_skip, bN, fE, oL, oP, rH, xA, KZ, M7, uS, pA, sK, dU, dC, aU, zL, dH, nE, LY, M9, pM, bH, LO, AD, qR, pP, pR, Yb, Ya, YH, x40, x41, x42, x43, aH, Result.ok.injEq, Next.value.injEq, true_and, and_true, aP, kR, NH, LX, Pq, xB, aKO, pZ, jI, uY, dG, bM, cY, yY, uK, aG, aE, if_true, if_false, aKQ, aKP, aK8, aLw, aLb, aLi, aKN, aKM, aV, aQ, gC, dS, jA, dM, iH, dT, sF, iP, aY, cC, iB, bO, bR, kQ, dF, bW, gQ, bY, bG, eH, cN, bP, cE, iX, fU, bX, jC, jV, gW, gK, dD, cA, jT, lI, fY, oE, cD, mK, eS, iV, fJ, fR, eQ, hZ, gE, mN, iE, eF, fQ, kK, lS, nF, oF, cS, gB, gU, eK, gP, nL, bL, bF, bT, bU, cM, gN, eN, dI, fT, lB, kD, kC, fX, iC, bV, bJ, dR, gD, gF, lZ, iY, iO, iJ, jN, fA, dZ, kJ, fF, eL, fZ, cZ, fG, eX, gZ, iU, iZ, gH, iF, fD, dK, eE, bB, aN, eD, lE, nN, tW, lH, fC, eZ, fB, eJ, mQ, dB, dP, cJ, lR, cO, dN, cV, cL, dA, fK, gM, hJ, iT, fM, iK, gO, gT, kW, eI, dJ, kF, lY, kE, fH, fN, fI, iG, d1, e1, e2]
  exact ⟨b0 - (j + 1), by omega, j + 1, rfl, rfl, by omega⟩
 .have d1 : decide ((now : Int) < ((b0 - j : Nat) : Int)) = false := by simp only [decide_eq_false_iff_not]; omega
  have : j = b0 - now := by omega
  subst this
  simp (disch := omega) only [aD, jF, aA, stepR_skip, bN, fE, oL, oP, rH, xA, KZ, M7, uS, pA, sK, dU, dC, aU, zL, dH, nE, LY, M9, pM, bH, LO, AD, qR, pP, pR, Yb, Ya, YH, x40, x41, x42, x43, aH, Result.ok.injEq, Next.value.injEq, true_and, and_true, aP, kR, NH, LX, Pq, xB, aKO, pZ, jI, uY, dG, bM, cY, yY, uK, aG, aE, if_true, if_false, aKQ, aKP, aK8, aLw, aLb, aLi, aKN, aKM, aV, aQ, gC, dS, jA, dM, iH, dT, sF, iP, aY, cC, iB, bO, bR, kQ, dF, bW, gQ, bY, bG, eH, cN, bP, cE, iX, fU, bX, jC, jV, gW, gK, dD, cA, jT, lI, fY, oE, cD, mK, eS, iV, fJ, fR, eQ, hZ, gE, mN, iE, eF, fQ, kK, lS, nF, oF, cS, gB, gU, eK, gP, nL, bL, bF, bT, bU, cM, gN, eN, dI, fT, lB, kD, kC, fX, iC, bV, bJ, dR, gD, gF, lZ, iY, iO, iJ, jN, fA, dZ, kJ, fF, eL, fZ, cZ, fG, eX, gZ, iU, iZ, gH, iF, fD, dK, eE, bB, aN, eD, lE, nN, tW, lH, fC, eZ, fB, eJ, mQ, dB, dP, cJ, lR, cO, dN, cV, cL, dA, fK, gM, hJ, iT, fM, iK, gO, gT, kW, eI, dJ, kF, lY, kE, fH, fN, fI, iG, d1]
  exact hK
theorem awZ {x : ByteArray} {d : Nat} {w : aNj} (hd : jD (cF (gA x)) = d) (hd0 : d ≠ 0) :
 aS pg Ac #[.string x] w (fun r w' => ∃ b cap rest, r = .tuple #[.slice (some ⟨b, 0, none⟩) x.size cap, .int .i64 0] /\ eM w' b (cc (pH (cF (gA x)) d) ++ rest) /\ aW w w' eU) := by
 refine Su ?_
 have hsz := I6 x
 obtain ⟨l, hnl⟩ : ∃ l, cF (gA x) = l := ⟨_, rfl⟩
 rw [hnl] at hsz hd ⊢
 obtain ⟨hall, hd11, hl2, hl256, hlast, hsum⟩ := yA hd hd0
 have hp2 : 2 ^ d <= 2 ^ 11 := aKY (by omega) hd11
 unfold WR CQ CV
 refine (axQ (by omega)).mono ?_
 rintro r w1 ⟨rfl, rfl⟩
 rw [hnl, hd]
 have n1 : ((d : Int) == 0) = false := beq_eq_false_iff_ne.2 (by omega)
 simp (disch := omega) only [aD, jF, aA, stepR_skip, bN, fE, oL, oP, rH, xA, KZ, M7, uS, pA, sK, dU, dC, aU, zL, dH, nE, LY, M9, pM, bH, LO, AD, qR, pP, pR, Yb, Ya, YH, x40, x41, x42, x43, aH, Result.ok.injEq, Next.value.injEq, true_and, and_true, aP, kR, NH, LX, Pq, xB, aKO, pZ, jI, uY, dG, bM, cY, yY, uK, aG, aE, if_true, if_false, aKQ, aKP, aK8, aLw, aLb, aLi, aKN, aKM, aV, aQ, gC, dS, jA, dM, iH, dT, sF, iP, aY, cC, iB, bO, bR, kQ, dF, bW, gQ, bY, bG, eH, cN, bP, cE, iX, fU, bX, jC, jV, gW, gK, dD, cA, jT, lI, fY, oE, cD, mK, eS, iV, fJ, fR, eQ, hZ, gE, mN, iE, eF, fQ, kK, lS, nF, oF, cS, gB, gU, eK, gP, nL, bL, bF, bT, bU, cM, gN, eN, dI, fT, lB, kD, kC, fX, iC, bV, bJ, dR, gD, gF, lZ, iY, iO, iJ, jN, fA, dZ, kJ, fF, eL, fZ, cZ, fG, eX, gZ, iU, iZ, gH, iF, fD, dK, eE, bB, aN, eD, lE, nN, tW, lH, fC, eZ, fB, eJ, mQ, dB, dP, cJ, lR, cO, dN, cV, cL, dA, fK, gM, hJ, iT, fM, iK, gO, gT, kW, eI, dJ, kF, lY, kE, fH, fN, fI, iG, n1]
 unfold J8 Kn KM KS Kg
 refine cU.rule (fun m (t : aNk × aNk) w' => ∃ (i : Nat) (v : aNk), m = x.size - i /\ t = (v, .int .i64 i) /\ i <= x.size /\ sM w' w1.heap.size 2 v i (cc (List.replicate i (0, 0))) /\ aW w1 w' eU) x.size
  ⟨0, _, rfl, rfl, by omega, sM.nil _ _ _, aW.refl _ _⟩ ?_
 rintro m t w2 ⟨i, v, rfl, rfl, hi, o2, x2⟩
 have z2 := x2.size
 unfold C3
 by_cases hlt : i < x.size
 .have d1 : decide ((i : Int) < (x.size : Int)) = true := by simp; omega
  obtain ⟨av, cv, rfl⟩ := o2.len
  simp (disch := omega) only [aD, jF, aA, stepR_skip, bN, fE, oL, oP, rH, xA, KZ, M7, uS, pA, sK, dU, dC, aU, zL, dH, nE, LY, M9, pM, bH, LO, AD, qR, pP, pR, Yb, Ya, YH, x40, x41, x42, x43, aH, Result.ok.injEq, Next.value.injEq, true_and, and_true, aP, kR, NH, LX, Pq, xB, aKO, pZ, jI, uY, dG, bM, cY, yY, uK, aG, aE, if_true, if_false, aKQ, aKP, aK8, aLw, aLb, aLi, aKN, aKM, aV, aQ, gC, dS, jA, dM, iH, dT, sF, iP, aY, cC, iB, bO, bR, kQ, dF, bW, gQ, bY, bG, eH, cN, bP, cE, iX, fU, bX, jC, jV, gW, gK, dD, cA, jT, lI, fY, oE, cD, mK, eS, iV, fJ, fR, eQ, hZ, gE, mN, iE, eF, fQ, kK, lS, nF, oF, cS, gB, gU, eK, gP, nL, bL, bF, bT, bU, cM, gN, eN, dI, fT, lB, kD, kC, fX, iC, bV, bJ, dR, gD, gF, lZ, iY, iO, iJ, jN, fA, dZ, kJ, fF, eL, fZ, cZ, fG, eX, gZ, iU, iZ, gH, iF, fD, dK, eE, bB, aN, eD, lE, nN, tW, lH, fC, eZ, fB, eJ, mQ, dB, dP, cJ, lR, cO, dN, cV, cL, dA, fK, gM, hJ, iT, fM, iK, gO, gT, kW, eI, dJ, kF, lY, kE, fH, fN, fI, iG, d1]
  refine SN (cells := #[.int .i64 0, .int .i64 0]) (by decide) (by decide) (by kernel_rfl) fun w3 o3 x3 s3 => ?_
  have z3 := x3.size
  refine xJ (m := 1) (news := [.int .i64 0, .int .i64 0]) (o2.ext x3 (fun _ _ h => h)) (o3.cl (off := 0) (l := [.int .i64 0, .int .i64 0]) (n := 1) rfl (fun i hi => by rw [aKP])) (by simp [one]) (by omega) (by omega) fun v4 w4 o4 x4 => ?_
  have e1 : cc (List.replicate i (0, 0)) ++ [Value.int .i64 0, Value.int .i64 0] = cc (List.replicate (i + 1) (0, 0)) := by
   rw [aMI, aAu] <;> rfl
  rw [e1] at o4
  obtain ⟨av4, cv4, rfl⟩ := o4.len
  exact ⟨x.size - (i + 1), by omega, i + 1, _, rfl, rfl, by omega, o4, (x2.seq x3).trans x4 fun b hb h => by omega⟩
 .have d1 : decide ((i : Int) < (x.size : Int)) = false := by simp; omega
  obtain rfl : i = x.size := by omega
  rcases o2.2 with ⟨_, h0⟩ | ⟨pb, cap, rest, rfl, hpb, ob2, hcap, hcap2⟩
  .omega
  simp (disch := omega) only [aD, jF, aA, stepR_skip, bN, fE, oL, oP, rH, xA, KZ, M7, uS, pA, sK, dU, dC, aU, zL, dH, nE, LY, M9, pM, bH, LO, AD, qR, pP, pR, Yb, Ya, YH, x40, x41, x42, x43, aH, Result.ok.injEq, Next.value.injEq, true_and, and_true, aP, kR, NH, LX, Pq, xB, aKO, pZ, jI, uY, dG, bM, cY, yY, uK, aG, aE, if_true, if_false, aKQ, aKP, aK8, aLw, aLb, aLi, aKN, aKM, aV, aQ, gC, dS, jA, dM, iH, dT, sF, iP, aY, cC, iB, bO, bR, kQ, dF, bW, gQ, bY, bG, eH, cN, bP, cE, iX, fU, bX, jC, jV, gW, gK, dD, cA, jT, lI, fY, oE, cD, mK, eS, iV, fJ, fR, eQ, hZ, gE, mN, iE, eF, fQ, kK, lS, nF, oF, cS, gB, gU, eK, gP, nL, bL, bF, bT, bU, cM, gN, eN, dI, fT, lB, kD, kC, fX, iC, bV, bJ, dR, gD, gF, lZ, iY, iO, iJ, jN, fA, dZ, kJ, fF, eL, fZ, cZ, fG, eX, gZ, iU, iZ, gH, iF, fD, dK, eE, bB, aN, eD, lE, nN, tW, lH, fC, eZ, fB, eJ, mQ, dB, dP, cJ, lR, cO, dN, cV, cL, dA, fK, gM, hJ, iT, fM, iK, gO, gT, kW, eI, dJ, kF, lY, kE, fH, fN, fI, iG, d1]
  unfold LF KT
  simp (disch := omega) only [aD, jF, aA, stepR_skip, bN, fE, oL, oP, rH, xA, KZ, M7, uS, pA, sK, dU, dC, aU, zL, dH, nE, LY, M9, pM, bH, LO, AD, qR, pP, pR, Yb, Ya, YH, x40, x41, x42, x43, aH, Result.ok.injEq, Next.value.injEq, true_and, and_true, aP, kR, NH, LX, Pq, xB, aKO, pZ, jI, uY, dG, bM, cY, yY, uK, aG, aE, if_true, if_false, aKQ, aKP, aK8, aLw, aLb, aLi, aKN, aKM, aV, aQ, gC, dS, jA, dM, iH, dT, sF, iP, aY, cC, iB, bO, bR, kQ, dF, bW, gQ, bY, bG, eH, cN, bP, cE, iX, fU, bX, jC, jV, gW, gK, dD, cA, jT, lI, fY, oE, cD, mK, eS, iV, fJ, fR, eQ, hZ, gE, mN, iE, eF, fQ, kK, lS, nF, oF, cS, gB, gU, eK, gP, nL, bL, bF, bT, bU, cM, gN, eN, dI, fT, lB, kD, kC, fX, iC, bV, bJ, dR, gD, gF, lZ, iY, iO, iJ, jN, fA, dZ, kJ, fF, eL, fZ, cZ, fG, eX, gZ, iU, iZ, gH, iF, fD, dK, eE, bB, aN, eD, lE, nN, tW, lH, fC, eZ, fB, eJ, mQ, dB, dP, cJ, lR, cO, dN, cV, cL, dA, fK, gM, hJ, iT, fM, iK, gO, gT, kW, eI, dJ, kF, lY, kE, fH, fN, fI, iG]
  unfold Ke Kc KD Lq Kr
  rw [<- hsz, <- YX l d] at ob2
  refine cU.rule (fun m (t : aNk × aNk × aNk) w' => ∃ q code bits : Nat, m = d + 1 - q /\ t = (.int .i64 code, .int .i64 bits, .int .i64 q) /\ 1 <= q /\ q <= d + 1 /\ code < 2 ^ 20 /\ aBY l d q 0 code bits /\ eM w' pb (cc (tR l d q 0) ++ rest) /\ aW w2 w' (fun y => y = pb)) d
   ⟨1, 0, 0, by omega, rfl, by omega, by omega, by decide, .inl ⟨rfl, rfl, avE l⟩, ob2, aW.refl _ _⟩ ?_
  rintro m t w3 ⟨q, code, bits, rfl, rfl, hq1, hqd, hcode, hlast8, o3, x3⟩
  unfold Dh Lo
  by_cases hq : q <= d
  .have d2 : decide ((q : Int) <= (d : Int)) = true := by simp; omega
   simp (disch := omega) only [aD, jF, aA, stepR_skip, bN, fE, oL, oP, rH, xA, KZ, M7, uS, pA, sK, dU, dC, aU, zL, dH, nE, LY, M9, pM, bH, LO, AD, qR, pP, pR, Yb, Ya, YH, x40, x41, x42, x43, aH, Result.ok.injEq, Next.value.injEq, true_and, and_true, aP, kR, NH, LX, Pq, xB, aKO, pZ, jI, uY, dG, bM, cY, yY, uK, aG, aE, if_true, if_false, aKQ, aKP, aK8, aLw, aLb, aLi, aKN, aKM, aV, aQ, gC, dS, jA, dM, iH, dT, sF, iP, aY, cC, iB, bO, bR, kQ, dF, bW, gQ, bY, bG, eH, cN, bP, cE, iX, fU, bX, jC, jV, gW, gK, dD, cA, jT, lI, fY, oE, cD, mK, eS, iV, fJ, fR, eQ, hZ, gE, mN, iE, eF, fQ, kK, lS, nF, oF, cS, gB, gU, eK, gP, nL, bL, bF, bT, bU, cM, gN, eN, dI, fT, lB, kD, kC, fX, iC, bV, bJ, dR, gD, gF, lZ, iY, iO, iJ, jN, fA, dZ, kJ, fF, eL, fZ, cZ, fG, eX, gZ, iU, iZ, gH, iF, fD, dK, eE, bB, aN, eD, lE, nN, tW, lH, fC, eZ, fB, eJ, mQ, dB, dP, cJ, lR, cO, dN, cV, cL, dA, fK, gM, hJ, iT, fM, iK, gO, gT, kW, eI, dJ, kF, lY, kE, fH, fN, fI, iG, d2]
   unfold KF Kj T9 Jv J5 Lg
   refine cU.rule (fun m (t : aNk × aNk × aNk) w' => ∃ i code bits : Nat, m = x.size - i /\ t = (.int .i64 code, .int .i64 bits, .int .i64 i) /\ i <= x.size /\ code < 2 ^ 20 /\ aBY l d q i code bits /\ eM w' pb (cc (tR l d q i) ++ rest) /\ aW w2 w' (fun y => y = pb)) x.size
    ⟨0, code, bits, rfl, rfl, by omega, hcode, hlast8, o3, x3⟩ ?_
   rintro m t w4 ⟨i, code, bits, rfl, rfl, hi, hcode, hlast8, o4, x4⟩
   unfold CR J7
   by_cases hlt : i < x.size
   .have d3 : decide ((i : Int) < (x.size : Int)) = true := by simp; omega
    have hg := agI hlt
    rw [hnl] at hg
    have hstep := apW (l := l) (w := q) (i := i) (by omega)
    have hskip := akG (l := l) (d := d) (w := q) (i := i) (by omega)
    have hset := arF (l := l) (d := d) (w := q) (i := i) (by omega)
    have hof := aBr (l := l) (w := q) (i := i)
    have hle := aEV (l := l) (d := d) (w := q) (i := i) hsum hall hq1 hq
    have hco : Fm l d i = if l.getD i 0 = 0 then (0, 0) else (d + 1 - l.getD i 0, Ot l i / 2 ^ (l.getD i 0 - 1)) := rfl
    have hdv := aEk (l := l) (s := i) (d := d) (by omega)
    have hy : l.getD i 0 < 256 := by rw [<- hnl]; exact P1 _ _ (tN (by rw [I6]; exact hlt))
    generalize l.getD i 0 = y at *
    unfold KR JP Uv NT
    by_cases hyq : y = q
    .subst hyq
     have n2 : ((y : Int) != (y : Int)) = false := by simp
     have e1 : (d : Int) + 1 - (y : Int) = ((d + 1 - y : Nat) : Int) := by omega
     rw [if_neg (by omega), <- hof rfl] at hco
     rw [if_pos rfl] at hstep
     have hset := hset rfl
     have hdv := hdv (by omega) hsum hq
     rw [<- hof rfl] at hdv
     rw [hco] at hset
     have hpx := aLh (y - 1)
     obtain ⟨cd, hcd⟩ := hdv
     have hdiv : Eu l y i / 2 ^ (y - 1) = cd := by rw [hcd, aMN _ hpx]
     rw [hdiv] at hset
     have hcdl : cd <= Eu l y i := by rw [<- hdiv]; exact aLP _ _
     have hl8' : aBY l d y (i + 1) cd (d + 1 - y) := by
      refine .inr ⟨y, hq1, aK1 _, hq, rfl, ?_⟩
      rw [hstep, hcd, aLD, aLm cd]; omega
     have fin : yG (fun cR mA aT cH cP vN mR w => yD (fun _ _ _ cH cP _ mR w' => ∃ m, m < x.size - i /\ ∃ i' code bits : Nat, m = x.size - i' /\ (cH, cP, mR) = ((.int .i64 code : aNk), (.int .i64 bits : aNk), (.int .i64 i' : aNk)) /\ i' <= x.size /\ code < 2 ^ 20 /\ aBY l d y i' code bits /\ eM w' pb (cc (tR l d y i') ++ rest) /\ aW w2 w' (fun y => y = pb)) cR mA aT cH cP vN mR w)
         (.string x) (.int .i64 d) (.slice (some ⟨pb, 0, none⟩) x.size cap) (.int .i64 cd) (.int .i64 y) (.int .i64 i) (.int .i64 (d + 1 - y : Nat)) w4 := by
      unfold yG
      simp (disch := omega) only [aD, jF, aA, stepR_skip, bN, fE, oL, oP, rH, xA, KZ, M7, uS, pA, sK, dU, dC, aU, zL, dH, nE, LY, M9, pM, bH, LO, AD, qR, pP, pR, Yb, Ya, YH, x40, x41, x42, x43, aH, Result.ok.injEq, Next.value.injEq, true_and, and_true, aP, kR, NH, LX, Pq, xB, aKO, pZ, jI, uY, dG, bM, cY, yY, uK, aG, aE, if_true, if_false, aKQ, aKP, aK8, aLw, aLb, aLi, aKN, aKM, aV, aQ, gC, dS, jA, dM, iH, dT, sF, iP, aY, cC, iB, bO, bR, kQ, dF, bW, gQ, bY, bG, eH, cN, bP, cE, iX, fU, bX, jC, jV, gW, gK, dD, cA, jT, lI, fY, oE, cD, mK, eS, iV, fJ, fR, eQ, hZ, gE, mN, iE, eF, fQ, kK, lS, nF, oF, cS, gB, gU, eK, gP, nL, bL, bF, bT, bU, cM, gN, eN, dI, fT, lB, kD, kC, fX, iC, bV, bJ, dR, gD, gF, lZ, iY, iO, iJ, jN, fA, dZ, kJ, fF, eL, fZ, cZ, fG, eX, gZ, iU, iZ, gH, iF, fD, dK, eE, bB, aN, eD, lE, nN, tW, lH, fC, eZ, fB, eJ, mQ, dB, dP, cJ, lR, cO, dN, cV, cL, dA, fK, gM, hJ, iT, fM, iK, gO, gT, kW, eI, dJ, kF, lY, kE, fH, fN, fI, iG]
      refine UR o4 rfl (by simp [one]) (by rw [aKV, Ei, lP]; omega) fun w5 o5 x5 s5 => ?_
      simp only [bK] at o5
      have hcs := aDT (L := tR l d y i) (i := i) (d + 1 - y, cd) (by rw [lP]; omega)
      simp only at hcs
      rw [aL4 _ _ (by rw [Ei, lP]; omega), aL4 _ _ (by rw [aM4, Ei, lP]; omega), hcs, hset] at o5
      unfold yD
      simp (disch := omega) only [aD, jF, aA, stepR_skip, bN, fE, oL, oP, rH, xA, KZ, M7, uS, pA, sK, dU, dC, aU, zL, dH, nE, LY, M9, pM, bH, LO, AD, qR, pP, pR, Yb, Ya, YH, x40, x41, x42, x43, aH, Result.ok.injEq, Next.value.injEq, true_and, and_true, aP, kR, NH, LX, Pq, xB, aKO, pZ, jI, uY, dG, bM, cY, yY, uK, aG, aE, if_true, if_false, aKQ, aKP, aK8, aLw, aLb, aLi, aKN, aKM, aV, aQ, gC, dS, jA, dM, iH, dT, sF, iP, aY, cC, iB, bO, bR, kQ, dF, bW, gQ, bY, bG, eH, cN, bP, cE, iX, fU, bX, jC, jV, gW, gK, dD, cA, jT, lI, fY, oE, cD, mK, eS, iV, fJ, fR, eQ, hZ, gE, mN, iE, eF, fQ, kK, lS, nF, oF, cS, gB, gU, eK, gP, nL, bL, bF, bT, bU, cM, gN, eN, dI, fT, lB, kD, kC, fX, iC, bV, bJ, dR, gD, gF, lZ, iY, iO, iJ, jN, fA, dZ, kJ, fF, eL, fZ, cZ, fG, eX, gZ, iU, iZ, gH, iF, fD, dK, eE, bB, aN, eD, lE, nN, tW, lH, fC, eZ, fB, eJ, mQ, dB, dP, cJ, lR, cO, dN, cV, cL, dA, fK, gM, hJ, iT, fM, iK, gO, gT, kW, eI, dJ, kF, lY, kE, fH, fN, fI, iG]
      exact ⟨x.size - (i + 1), by omega, i + 1, cd, d + 1 - y, rfl, rfl, by omega, by omega, hl8', o5, x4.trans x5 fun _ _ h => h⟩
     rcases hlast8 with ⟨rfl, rfl, hat0⟩ | ⟨q0, h1, h2, h3, rfl, h5⟩
     .have hcd0 : cd = 0 := by
       rw [hat0] at hdiv
       rw [<- hdiv, Nat.zero_div]
      have d4 : decide ((0 : Int) < ((0 : Nat) : Int)) = false := rfl
      simp (disch := omega) only [aD, jF, aA, stepR_skip, bN, fE, oL, oP, rH, xA, KZ, M7, uS, pA, sK, dU, dC, aU, zL, dH, nE, LY, M9, pM, bH, LO, AD, qR, pP, pR, Yb, Ya, YH, x40, x41, x42, x43, aH, Result.ok.injEq, Next.value.injEq, true_and, and_true, aP, kR, NH, LX, Pq, xB, aKO, pZ, jI, uY, dG, bM, cY, yY, uK, aG, aE, if_true, if_false, aKQ, aKP, aK8, aLw, aLb, aLi, aKN, aKM, aV, aQ, gC, dS, jA, dM, iH, dT, sF, iP, aY, cC, iB, bO, bR, kQ, dF, bW, gQ, bY, bG, eH, cN, bP, cE, iX, fU, bX, jC, jV, gW, gK, dD, cA, jT, lI, fY, oE, cD, mK, eS, iV, fJ, fR, eQ, hZ, gE, mN, iE, eF, fQ, kK, lS, nF, oF, cS, gB, gU, eK, gP, nL, bL, bF, bT, bU, cM, gN, eN, dI, fT, lB, kD, kC, fX, iC, bV, bJ, dR, gD, gF, lZ, iY, iO, iJ, jN, fA, dZ, kJ, fF, eL, fZ, cZ, fG, eX, gZ, iU, iZ, gH, iF, fD, dK, eE, bB, aN, eD, lE, nN, tW, lH, fC, eZ, fB, eJ, mQ, dB, dP, cJ, lR, cO, dN, cV, cL, dA, fK, gM, hJ, iT, fM, iK, gO, gT, kW, eI, dJ, kF, lY, kE, fH, fN, fI, iG, d3, hg, n2, e1, d4]
      refine aAB (c0 := 0) (b0 := 0) (now := d + 1 - y) (by decide) (by omega) (by omega) ?_
      rw [Nat.zero_div]
      subst hcd0
      exact fin
     .have d4 : decide ((0 : Int) < ((d + 1 - q0 : Nat) : Int)) = true := by simp only [decide_eq_true_eq]; omega
      have e2 : (code : Int) + 1 = ((code + 1 : Nat) : Int) := by omega
      have hcd2 : (code + 1) / 2 ^ (d + 1 - q0 - (d + 1 - y)) = cd := by
       rw [<- hdiv, <- h5, show d + 1 - q0 - (d + 1 - y) = y - q0 from by omega, show y - 1 = (y - q0) + (q0 - 1) from by omega, aLM, Nat.mul_div_mul_right _ _ (aLh _)]
      simp (disch := omega) only [aD, jF, aA, stepR_skip, bN, fE, oL, oP, rH, xA, KZ, M7, uS, pA, sK, dU, dC, aU, zL, dH, nE, LY, M9, pM, bH, LO, AD, qR, pP, pR, Yb, Ya, YH, x40, x41, x42, x43, aH, Result.ok.injEq, Next.value.injEq, true_and, and_true, aP, kR, NH, LX, Pq, xB, aKO, pZ, jI, uY, dG, bM, cY, yY, uK, aG, aE, if_true, if_false, aKQ, aKP, aK8, aLw, aLb, aLi, aKN, aKM, aV, aQ, gC, dS, jA, dM, iH, dT, sF, iP, aY, cC, iB, bO, bR, kQ, dF, bW, gQ, bY, bG, eH, cN, bP, cE, iX, fU, bX, jC, jV, gW, gK, dD, cA, jT, lI, fY, oE, cD, mK, eS, iV, fJ, fR, eQ, hZ, gE, mN, iE, eF, fQ, kK, lS, nF, oF, cS, gB, gU, eK, gP, nL, bL, bF, bT, bU, cM, gN, eN, dI, fT, lB, kD, kC, fX, iC, bV, bJ, dR, gD, gF, lZ, iY, iO, iJ, jN, fA, dZ, kJ, fF, eL, fZ, cZ, fG, eX, gZ, iU, iZ, gH, iF, fD, dK, eE, bB, aN, eD, lE, nN, tW, lH, fC, eZ, fB, eJ, mQ, dB, dP, cJ, lR, cO, dN, cV, cL, dA, fK, gM, hJ, iT, fM, iK, gO, gT, kW, eI, dJ, kF, lY, kE, fH, fN, fI, iG, d3, hg, n2, e1, d4, e2]
      refine aAB (c0 := code + 1) (b0 := d + 1 - q0) (now := d + 1 - y) (by omega) (by omega) (by omega) ?_
      rw [hcd2]
      exact fin
    .have n2 : ((y : Int) != (q : Int)) = true := by simp; omega
     rw [if_neg hyq, aLW] at hstep
     have hskip := hskip hyq
     unfold yD
     simp (disch := omega) only [aD, jF, aA, stepR_skip, bN, fE, oL, oP, rH, xA, KZ, M7, uS, pA, sK, dU, dC, aU, zL, dH, nE, LY, M9, pM, bH, LO, AD, qR, pP, pR, Yb, Ya, YH, x40, x41, x42, x43, aH, Result.ok.injEq, Next.value.injEq, true_and, and_true, aP, kR, NH, LX, Pq, xB, aKO, pZ, jI, uY, dG, bM, cY, yY, uK, aG, aE, if_true, if_false, aKQ, aKP, aK8, aLw, aLb, aLi, aKN, aKM, aV, aQ, gC, dS, jA, dM, iH, dT, sF, iP, aY, cC, iB, bO, bR, kQ, dF, bW, gQ, bY, bG, eH, cN, bP, cE, iX, fU, bX, jC, jV, gW, gK, dD, cA, jT, lI, fY, oE, cD, mK, eS, iV, fJ, fR, eQ, hZ, gE, mN, iE, eF, fQ, kK, lS, nF, oF, cS, gB, gU, eK, gP, nL, bL, bF, bT, bU, cM, gN, eN, dI, fT, lB, kD, kC, fX, iC, bV, bJ, dR, gD, gF, lZ, iY, iO, iJ, jN, fA, dZ, kJ, fF, eL, fZ, cZ, fG, eX, gZ, iU, iZ, gH, iF, fD, dK, eE, bB, aN, eD, lE, nN, tW, lH, fC, eZ, fB, eJ, mQ, dB, dP, cJ, lR, cO, dN, cV, cL, dA, fK, gM, hJ, iT, fM, iK, gO, gT, kW, eI, dJ, kF, lY, kE, fH, fN, fI, iG, d3, hg, n2]
     refine ⟨x.size - (i + 1), by omega, i + 1, code, bits, rfl, rfl, by omega, hcode, ?_, by rw [hskip]; exact o4, x4⟩
     rcases hlast8 with ⟨a1, a2, a3⟩ | ⟨q0, a1, a2, a3, a4, a5⟩
     .exact .inl ⟨a1, a2, by rw [hstep]; exact a3⟩
     .exact .inr ⟨q0, a1, a2, a3, a4, by rw [hstep]; exact a5⟩
   .have d3 : decide ((i : Int) < (x.size : Int)) = false := by simp; omega
    obtain rfl : i = x.size := by omega
    have e1 := aoV (l := l) (w := q) hq1
    have e2 := akE (l := l) (d := d) (w := q)
    rw [hsz] at e1 e2
    rw [e2] at o4
    have hl8' : aBY l d (q + 1) 0 code bits := by
     rcases hlast8 with ⟨a1, a2, a3⟩ | ⟨q0, a1, a2, a3, a4, a5⟩
     .exact .inl ⟨a1, a2, by rw [<- e1]; exact a3⟩
     .exact .inr ⟨q0, a1, by omega, a3, a4, by rw [<- e1]; exact a5⟩
    unfold Ga
    simp (disch := omega) only [aD, jF, aA, stepR_skip, bN, fE, oL, oP, rH, xA, KZ, M7, uS, pA, sK, dU, dC, aU, zL, dH, nE, LY, M9, pM, bH, LO, AD, qR, pP, pR, Yb, Ya, YH, x40, x41, x42, x43, aH, Result.ok.injEq, Next.value.injEq, true_and, and_true, aP, kR, NH, LX, Pq, xB, aKO, pZ, jI, uY, dG, bM, cY, yY, uK, aG, aE, if_true, if_false, aKQ, aKP, aK8, aLw, aLb, aLi, aKN, aKM, aV, aQ, gC, dS, jA, dM, iH, dT, sF, iP, aY, cC, iB, bO, bR, kQ, dF, bW, gQ, bY, bG, eH, cN, bP, cE, iX, fU, bX, jC, jV, gW, gK, dD, cA, jT, lI, fY, oE, cD, mK, eS, iV, fJ, fR, eQ, hZ, gE, mN, iE, eF, fQ, kK, lS, nF, oF, cS, gB, gU, eK, gP, nL, bL, bF, bT, bU, cM, gN, eN, dI, fT, lB, kD, kC, fX, iC, bV, bJ, dR, gD, gF, lZ, iY, iO, iJ, jN, fA, dZ, kJ, fF, eL, fZ, cZ, fG, eX, gZ, iU, iZ, gH, iF, fD, dK, eE, bB, aN, eD, lE, nN, tW, lH, fC, eZ, fB, eJ, mQ, dB, dP, cJ, lR, cO, dN, cV, cL, dA, fK, gM, hJ, iT, fM, iK, gO, gT, kW, eI, dJ, kF, lY, kE, fH, fN, fI, iG, d3]
    exact ⟨d + 1 - (q + 1), by omega, q + 1, code, bits, rfl, rfl, by omega, by omega, hcode, hl8', o4, x4⟩
  .have d2 : decide ((q : Int) <= (d : Int)) = false := by simp; omega
   rw [aqX hall (by omega)] at o3
   unfold Fw
   simp (disch := omega) only [aD, jF, aA, stepR_skip, bN, fE, oL, oP, rH, xA, KZ, M7, uS, pA, sK, dU, dC, aU, zL, dH, nE, LY, M9, pM, bH, LO, AD, qR, pP, pR, Yb, Ya, YH, x40, x41, x42, x43, aH, Result.ok.injEq, Next.value.injEq, true_and, and_true, aP, kR, NH, LX, Pq, xB, aKO, pZ, jI, uY, dG, bM, cY, yY, uK, aG, aE, if_true, if_false, aKQ, aKP, aK8, aLw, aLb, aLi, aKN, aKM, aV, aQ, gC, dS, jA, dM, iH, dT, sF, iP, aY, cC, iB, bO, bR, kQ, dF, bW, gQ, bY, bG, eH, cN, bP, cE, iX, fU, bX, jC, jV, gW, gK, dD, cA, jT, lI, fY, oE, cD, mK, eS, iV, fJ, fR, eQ, hZ, gE, mN, iE, eF, fQ, kK, lS, nF, oF, cS, gB, gU, eK, gP, nL, bL, bF, bT, bU, cM, gN, eN, dI, fT, lB, kD, kC, fX, iC, bV, bJ, dR, gD, gF, lZ, iY, iO, iJ, jN, fA, dZ, kJ, fF, eL, fZ, cZ, fG, eX, gZ, iU, iZ, gH, iF, fD, dK, eE, bB, aN, eD, lE, nN, tW, lH, fC, eZ, fB, eJ, mQ, dB, dP, cJ, lR, cO, dN, cV, cL, dA, fK, gM, hJ, iT, fM, iK, gO, gT, kW, eI, dJ, kF, lY, kE, fH, fN, fI, iG, d2]
   exact ⟨pb, cap, rest, rfl, o3, x2.trans x3 fun _ hb h => by omega⟩
theorem ajV {x : ByteArray} {w : aNj} (hl : x.size <= 100000) (hd : jD (cF (gA x)) = 0) :
 aS pg Ac #[.string x] w (fun r w' => r = .tuple #[.slice none 0 0, .int .i64 1] /\ w' = w) := by
 refine Su ?_
 unfold WR CQ CV
 refine (axQ hl).mono ?_
 rintro r w1 ⟨rfl, rfl⟩
 rw [hd]
 have n1 : (((0 : Nat) : Int) == 0) = true := rfl
 simp (disch := omega) only [aD, jF, aA, stepR_skip, bN, fE, oL, oP, rH, xA, KZ, M7, uS, pA, sK, dU, dC, aU, zL, dH, nE, LY, M9, pM, bH, LO, AD, qR, pP, pR, Yb, Ya, YH, x40, x41, x42, x43, aH, Result.ok.injEq, Next.value.injEq, true_and, and_true, aP, kR, NH, LX, Pq, xB, aKO, pZ, jI, uY, dG, bM, cY, yY, uK, aG, aE, if_true, if_false, aKQ, aKP, aK8, aLw, aLb, aLi, aKN, aKM, aV, aQ, gC, dS, jA, dM, iH, dT, sF, iP, aY, cC, iB, bO, bR, kQ, dF, bW, gQ, bY, bG, eH, cN, bP, cE, iX, fU, bX, jC, jV, gW, gK, dD, cA, jT, lI, fY, oE, cD, mK, eS, iV, fJ, fR, eQ, hZ, gE, mN, iE, eF, fQ, kK, lS, nF, oF, cS, gB, gU, eK, gP, nL, bL, bF, bT, bU, cM, gN, eN, dI, fT, lB, kD, kC, fX, iC, bV, bJ, dR, gD, gF, lZ, iY, iO, iJ, jN, fA, dZ, kJ, fF, eL, fZ, cZ, fG, eX, gZ, iU, iZ, gH, iF, fD, dK, eE, bB, aN, eD, lE, nN, tW, lH, fC, eZ, fB, eJ, mQ, dB, dP, cJ, lR, cO, dN, cV, cL, dA, fK, gM, hJ, iT, fM, iK, gO, gT, kW, eI, dJ, kF, lY, kE, fH, fN, fI, iG, n1]
theorem aB5 {xw x : ByteArray} {n : Nat} {w : aNj} (hxw : xw.size <= 100000) (hx : x.size <= 1000000) (hn : n <= 100000) :
 aS pg EP #[.string xw, .string x, .int .i64 n] w (fun r w' => yV (UC (gA xw) (gA x) n) r /\ aW w w' eU) := by
 refine ajY ?_
 obtain ⟨RR, hRR⟩ : ∃ RR : aNk -> aNj -> Prop, RR = fun r w' => yV (UC (gA xw) (gA x) n) r /\ aW w w' eU := ⟨_, rfl⟩
 rw [<- hRR]
 have key : ∀ r w', yV (UC (gA xw) (gA x) n) r -> aW w w' eU -> RR r w' := fun r w' h1 h2 => by rw [hRR]; exact ⟨h1, h2⟩
 unfold aeG Kh
 by_cases hd : jD (cF (gA xw)) = 0
 .refine (ajV hxw hd).mono ?_
  rintro r w1 ⟨rfl, rfl⟩
  have n0 : ((1 : Int) != 0) = true := rfl
  simp (disch := omega) only [aD, pP, pR, aU, aA, bH, dC, n0, aG]
  exact key _ _ (by unfold UC; rw [if_pos hd] <;> rfl) (aW.refl _ _)
 .obtain ⟨hF, hm, hC⟩ := WOk.full hd
  have hlen : xw.size = (wC (gA xw)).length := by rw [uC, aKZ]; exact (gR xw).symm
  refine (awZ rfl hd).mono ?_
  rintro r w1 ⟨b, cap, rest, rfl, ob, x1⟩
  have n0 : ((0 : Int) != 0) = false := rfl
  have d1 : decide ((n : Int) < 0) = false := decide_eq_false (by omega)
  have d2 : decide (131072 < (n : Int)) = false := decide_eq_false (by omega)
  have d3 : decide ((n : Int) > 131072) = false := decide_eq_false (by omega)
  simp (disch := omega) only [aD, pP, pR, aU, d1, aA, dG, bH, aKQ, if_false, bM, dH, d2, aE, dC, n0]
  rw [hlen]
  refine (arB hF hm hC ob hx hn).mono ?_
  rintro r w2 ⟨hr, x2⟩
  have hh : UC (gA xw) (gA x) n = rS (wC (gA xw)) (gA x) n := by unfold UC; rw [if_neg hd]
  rw [hh] at key
  cases hs : rS (wC (gA xw)) (gA x) n with
  | error e =>
    rw [hs] at hr key
    obtain rfl : r = .tuple #[.string ⟨#[]⟩, .int .i64 e] := hr
    simp (disch := omega) only [pP, pR, aA]
    exact key _ _ rfl (x1.seq x2)
  | ok m =>
    rw [hs] at hr key
    obtain rfl : r = .tuple #[.string ⟨(nR m).toArray⟩, .int .i64 0] := hr
    simp (disch := omega) only [pP, pR, aA]
    exact key _ _ rfl (x1.seq x2)
theorem aDI {kn : K9} {RR : aNk -> aNj -> Prop} {n2 k10 a b c iv : aNk} {cb cap p k m : Nat} {C : List (Nat × Nat)} {rest : List aNk} {x out : ByteArray} {w : aNj} (hF : XF C (pE C)) (hm : pE C <= 11) (hC : C.length <= 256) (oc : eM w cb (cc C ++ rest)) (hne : cb ≠ p)
 (o : eM w p [.string x, .int .i64 0]) (hk : k <= (gA x).length) (hx : x.size <= 1000000) (hmn : m <= 100000) (hout : out.size <= 10000000)
 (kerr : ∀ e w', rS C ((gA x).take k) m = .error e -> aW w w' (fun y => y = p) -> RR (.tuple #[.string ⟨#[]⟩, .int .i64 e]) w')
 (kok : ∀ ms x' out' w', rS C ((gA x).take k) m = .ok ms -> eM w' p [.string x', .int .i64 0] -> gA x' = (gA x).drop k -> gA out' = gA out ++ nR ms -> aW w w' (fun y => y = p) -> kn n2 (.slice (some ⟨cb, 0, none⟩) C.length cap) k10 (.pointer (some ⟨p, 0, none⟩)) a b c (.string out') iv w') :
 uG kn RR n2 (.slice (some ⟨cb, 0, none⟩) C.length cap) k10 (.pointer (some ⟨p, 0, none⟩)) a b c (.string out) iv (.int .i64 m) (.int .i64 k) w := by
 unfold uG
 have q := mM (off := 0) o (by simp)
 simp only [aKU, aKT, aKX] at q
 simp (disch := omega) only [aD, q, aA]
 refine (aAD (x := x) (e := 0) (n := k)).mono ?_
 rintro r w1 ⟨x', s, rfl, hx', hs, x1⟩
 have ht : Af (gA x) 0 k = ((gA x).take k, (gA x).drop k, 0) := by unfold Af; rw [if_neg (by simp), if_neg (by omega)]
 rw [ht] at hx' hs ⊢
 simp only at hx' hs ⊢
 have hss : s.size <= 1000000 := by
  have h1 := gR s
  have h2 := gR x
  rw [hs, aK2] at h1
  omega
 simp (disch := omega) only [pP, pR, aA]
 refine sX fun w2 o2 x2 s2 => ?_
 refine lV o2 rfl (by simp [one]) (by simp) fun w3 o3 x3 s3 => ?_
 simp only [bK, aKS, aKR] at o3
 have q3 := mM (off := 0) o3 (by simp)
 simp only [aKU, aKT, aKX] at q3
 have x13 : aW w1 w3 eU := x2.new x3 (by omega)
 have x03 := x1.seq x13
 simp (disch := omega) only [q3, aA]
 refine lV (o.ext x03 (fun h => h)) rfl (by simp [one]) (by simp) fun w4 o4 x4 s4 => ?_
 simp only [bK, aKS, aKR] at o4
 have x04 : aW w w4 (fun y => y = p) := (x03.mono fun _ _ h => h.elim).seq x4
 refine (arB (x := s) hF hm hC (oc.ext x04 hne) hss hmn).mono ?_
 rintro r w5 ⟨hr, x5⟩
 rw [hs] at hr
 have x05 : aW w w5 (fun y => y = p) := x04.seq (x5.mono fun _ _ h => h.elim)
 cases hd : rS C ((gA x).take k) m with
 | error e =>
   rw [hd] at hr
   obtain rfl : r = .tuple #[.string ⟨#[]⟩, .int .i64 e] := hr
   have n1 : (e != 0) = true := by have := Xr hd; simp; omega
   simp (disch := omega) only [pP, pR, aA, dC, n1, aG]
   exact kerr e w5 hd x05
 | ok ms =>
   rw [hd] at hr
   obtain rfl : r = .tuple #[.string ⟨(nR ms).toArray⟩, .int .i64 0] := hr
   have n1 : ((0 : Int) != 0) = false := rfl
   have hml := amJ hd
   have hz : (⟨(nR ms).toArray⟩ : ByteArray).size = m := by rw [<- gR, amR]; simp [nR, hml]
   have hcat : ((out.size + (⟨(nR ms).toArray⟩ : ByteArray).size : Nat) : Int) <= 9223372036854775807 := by rw [hz]; omega
   generalize hy : (⟨(nR ms).toArray⟩ : ByteArray) = y at *
   simp (disch := omega) only [pP, pR, aA, dC, n1, aE, aDD]
   refine kok ms x' _ w5 hd (o4.ext x5 (fun h => h)) hx' ?_ x05
   rw [awQ, <- hy]
   exact congrArg (gA out ++ ·) (amR (nR ms))
abbrev q4 (a b c d q m : Nat) : List (Nat × Nat) := [(a, q), (b, q), (c, q), (d, m)]
theorem aGe (a b : List Nat) : nR (a ++ b) = nR a ++ nR b := aLe
theorem aDn {RR : aNk -> aNj -> Prop} {cb cap p n q na nb nc nd : Nat} {C : List (Nat × Nat)} {rest : List aNk} {x : ByteArray} {w : aNj} (hF : XF C (pE C)) (hm : pE C <= 11) (hC : C.length <= 256) (oc : eM w cb (cc C ++ rest)) (hne : cb ≠ p)
 (o : eM w p [.string x, .int .i64 0]) (hx : (gA x).length = na + nb + nc + nd) (hxl : (gA x).length <= 1000000) (hq : 3 * q <= n) (hn : n <= 100000)
 (hk : ∀ r w', yV (Et C (gA x) (q4 na nb nc nd q (n - 3 * q))) r -> aW w w' (fun y => y = p) -> RR r w') :
 AW RR (.int .i64 n) (.slice (some ⟨cb, 0, none⟩) C.length cap) (.int .i64 q) (.pointer (some ⟨p, 0, none⟩)) (.int .u64 na) (.int .u64 nb) (.int .u64 nc) (.string ⟨#[]⟩) w := by
 unfold AW Ey Fe Gr Gf
 obtain ⟨L4, hL4⟩ : ∃ L, L = q4 na nb nc nd q (n - 3 * q) := ⟨_, rfl⟩
 rw [<- hL4] at hk
 obtain ⟨G, hG⟩ : ∃ G, G = Et C (gA x) L4 := ⟨_, rfl⟩
 rw [<- hG] at hk
 have hlp := o.lt
 refine cU.rule (fun k (t : aNk × aNk) w' => ∃ (i : Nat) (acc : List Nat) (y out : ByteArray), k = 4 - i /\ t = (.string out, .int .i64 i) /\ i <= 4 /\ VQ acc (Et C (gA y) (L4.drop i)) = G /\ eM w' p [.string y, .int .i64 0] /\ gA out = nR acc /\ acc.length <= i * n /\ (gA y).length = ((L4.drop i).map Prod.fst).sum /\ aW w w' (fun y => y = p)) 4
  ⟨0, [], x, ⟨#[]⟩, rfl, rfl, by omega, ?_, o, rfl, by simp, ?_, aW.refl _ _⟩ ?_
 .rw [hG, aKU]; unfold VQ; cases Et C (gA x) L4 <;> rfl
 .rw [hL4, hx]; simp; omega
 rintro k t w1 ⟨i, acc, y, out, rfl, rfl, hi, hGc, o1, hout, hacc, hy, x1⟩
 have oc1 := oc.ext x1 hne
 have hosz : out.size <= 10000000 := by
  have h1 := gR out
  rw [hout, aKZ] at h1
  have : i * n <= 4 * n := aLk _ hi
  omega
 unfold B9 Hx
 by_cases hlt : i < 4
 .have d1 : decide ((i : Int) < 4) = true := by simp; omega
  simp (disch := omega) only [aD, aU, d1, aA, aG]
  unfold HG HV SF Hv
  refine aiK (cells := #[.int .u64 na, .int .u64 nb, .int .u64 nc, .int .u64 0]) (by decide) (by decide) (by kernel_rfl) fun w2 o2 x2 s2 => ?_
  have ysz : y.size <= 1000000 := by
   have h1 := gR y
   rw [hy, hL4] at h1
   rcases (show i = 0 ∨ i = 1 ∨ i = 2 ∨ i = 3 by omega) with rfl | rfl | rfl | rfl <;> (simp at h1; omega)
  have o12 := o1.ext x2 (fun h => h)
  have oc2 := oc1.ext x2 (fun h => h)
  have step : ∀ (kk m : Nat) (R' : List (Nat × Nat)) (kn : K9), L4.drop i = (kk, m) :: R' -> m <= n -> R' = L4.drop (i + 1) →
      (∀ (acc : List Nat) (y out : ByteArray) (w' : aNj), VQ acc (Et C (gA y) (L4.drop (i + 1))) = G -> eM w' p [.string y, .int .i64 0] -> gA out = nR acc -> acc.length <= (i + 1) * n -> (gA y).length = ((L4.drop (i + 1)).map Prod.fst).sum -> aW w w' (fun y => y = p) →
        kn (.int .i64 n) (.slice (some ⟨cb, 0, none⟩) C.length cap) (.int .i64 q) (.pointer (some ⟨p, 0, none⟩)) (.int .u64 na) (.int .u64 nb) (.int .u64 nc) (.string out) (.int .i64 i) w') →
      uG kn RR (.int .i64 n) (.slice (some ⟨cb, 0, none⟩) C.length cap) (.int .i64 q) (.pointer (some ⟨p, 0, none⟩)) (.int .u64 na) (.int .u64 nb) (.int .u64 nc) (.string out) (.int .i64 i) (.int .i64 m) (.int .i64 kk) w2 := by
   intro kk m R' kn hd hmn hR hkn
   rw [hd, aL0, List.sum_cons] at hy
   simp only at hy
   rw [hd, apB] at hGc
   refine aDI hF hm hC oc2 hne o12 (by omega) ysz (by omega) hosz ?_ ?_
   .intro e w' he x'
    rw [he] at hGc
    refine hk _ _ ?_ ((x1.seq (x2.mono fun _ _ h => h.elim)).seq x')
    rw [<- hGc]
    rfl
   .intro ms y' out' w' he o' hy' ho' x'
    rw [he] at hGc
    have hml := amJ he
    refine hkn (acc ++ ms) y' out' w' ?_ o' ?_ ?_ ?_ ((x1.seq (x2.mono fun _ _ h => h.elim)).seq x')
    .rw [hy', <- hR]; exact hGc
    .rw [ho', hout, aGe]
    .rw [aKV, Nat.succ_mul]; omega
    .rw [hy', aK7, <- hR]; omega
  have fin : ∀ (acc : List Nat) (y out : ByteArray) (w' : aNj), VQ acc (Et C (gA y) (L4.drop (i + 1))) = G -> eM w' p [.string y, .int .i64 0] -> gA out = nR acc -> acc.length <= (i + 1) * n -> (gA y).length = ((L4.drop (i + 1)).map Prod.fst).sum -> aW w w' (fun y => y = p) →
      ∃ k', k' < 4 - i /\ ∃ (i' : Nat) (acc : List Nat) (y out' : ByteArray), k' = 4 - i' /\ ((Value.string out, Value.int .i64 ((i : Int) + 1)) : aNk × aNk) = (.string out', .int .i64 i') /\ i' <= 4 /\ VQ acc (Et C (gA y) (L4.drop i')) = G /\ eM w' p [.string y, .int .i64 0] /\ gA out' = nR acc /\ acc.length <= i' * n /\ (gA y).length = ((L4.drop i').map Prod.fst).sum /\ aW w w' (fun y => y = p) :=
   fun acc y out w' h1 h2 h3 h4 h5 h6 => ⟨4 - (i + 1), by omega, i + 1, acc, y, out, rfl, by simp, by omega, h1, h2, h3, h4, h5, h6⟩
  have k := fun j => o2.cell (off := j)
  have kk0 := k 0
  have kk1 := k 1
  have kk2 := k 2
  have kk3 := k 3
  simp only [aKM, aKN] at kk0 kk1 kk2 kk3
  have ky := o12.cell (off := 0)
  simp only [aKM] at ky
  have ysl := gR y
  clear k
  rcases (show i = 0 ∨ i = 1 ∨ i = 2 ∨ i = 3 by omega) with rfl | rfl | rfl | rfl
  .have t0 : (0 : Int).toNat = 0 := rfl
   have ti : (((0 : Nat) : Int)).toNat = 0 := rfl
   have n1 : ((((0 : Nat) : Int)) == 3) = false := rfl
   have wv : IntKind.i64.wrap (na : Int) = (na : Int) := aP (by omega) (by omega)
   simp (disch := omega) only [aD, kQ, ti, aKP, dU, n1, oL, aP, cD, aA, mK, fE, aE, gC, kk0, aH, bX, wv]
   refine step na q _ _ (by rw [hL4] <;> rfl) (by omega) (by rw [hL4] <;> rfl) fun acc y out w' h1 h2 h3 h4 h5 h6 => ?_
   unfold sE
   simp (disch := omega) only [aD, bN, aP, aA]
   exact fin acc y out w' h1 h2 h3 h4 h5 h6
  .have t0 : (0 : Int).toNat = 0 := rfl
   have ti : (((1 : Nat) : Int)).toNat = 1 := rfl
   have n1 : ((((1 : Nat) : Int)) == 3) = false := rfl
   have wv : IntKind.i64.wrap (nb : Int) = (nb : Int) := aP (by omega) (by omega)
   simp (disch := omega) only [aD, kQ, ti, aKP, dU, n1, oL, aP, cD, aA, mK, fE, aE, gC, kk1, aH, bX, wv]
   refine step nb q _ _ (by rw [hL4] <;> rfl) (by omega) (by rw [hL4] <;> rfl) fun acc y out w' h1 h2 h3 h4 h5 h6 => ?_
   unfold sE
   simp (disch := omega) only [aD, bN, aP, aA]
   exact fin acc y out w' h1 h2 h3 h4 h5 h6
  .have t0 : (0 : Int).toNat = 0 := rfl
   have ti : (((2 : Nat) : Int)).toNat = 2 := rfl
   have n1 : ((((2 : Nat) : Int)) == 3) = false := rfl
   have wv : IntKind.i64.wrap (nc : Int) = (nc : Int) := aP (by omega) (by omega)
   simp (disch := omega) only [aD, kQ, ti, aKP, dU, n1, oL, aP, cD, aA, mK, fE, aE, gC, kk2, aH, bX, wv]
   refine step nc q _ _ (by rw [hL4] <;> rfl) (by omega) (by rw [hL4] <;> rfl) fun acc y out w' h1 h2 h3 h4 h5 h6 => ?_
   unfold sE
   simp (disch := omega) only [aD, bN, aP, aA]
   exact fin acc y out w' h1 h2 h3 h4 h5 h6
  .have t0 : (0 : Int).toNat = 0 := rfl
   have ti : (((3 : Nat) : Int)).toNat = 3 := rfl
   have n1 : ((((3 : Nat) : Int)) == 3) = true := rfl
   have e1 : (n : Int) - 3 * (q : Int) = ((n - 3 * q : Nat) : Int) := by omega
   have hnd : y.size = nd := by rw [<- ysl, hy, hL4]; simp
   have w0 : IntKind.i64.wrap 0 = 0 := rfl
   simp (disch := omega) only [aD, kQ, ti, aKP, dU, n1, oL, aP, cD, aA, mK, fE, e1, aG, gC, kk3, aH, bX, w0, ky, dS, hnd]
   refine step nd (n - 3 * q) _ _ (by rw [hL4] <;> rfl) (by omega) (by rw [hL4] <;> rfl) fun acc y out w' h1 h2 h3 h4 h5 h6 => ?_
   unfold sE
   simp (disch := omega) only [aD, bN, aP, aA]
   exact fin acc y out w' h1 h2 h3 h4 h5 h6
 .have d1 : decide ((i : Int) < 4) = false := by simp; omega
  have hi4 : i = 4 := by omega
  subst hi4
  have d1 : decide (((4 : Nat) : Int) < 4) = false := rfl
  simp (disch := omega) only [aD, aU, d1, aA, aE]
  unfold BV
  refine hk _ _ ?_ x1
  rw [<- hGc, hL4]
  show Value.tuple #[.string out, .int .i64 0] = Value.tuple #[.string ⟨(nR (acc ++ [])).toArray⟩, .int .i64 0]
  rw [aLG, <- hout]
  rfl
theorem aAT {xw x : ByteArray} {n : Nat} {w : aNj} (hxw : xw.size <= 100000) (hx : x.size <= 1000000) (hn : n <= 100000) :
 aS pg CT #[.string xw, .string x, .int .i64 n] w (fun r w' => yV (Jh (gA xw) (gA x) n) r /\ aW w w' eU) := by
 refine acF ?_
 obtain ⟨RR, hRR⟩ : ∃ RR : aNk -> aNj -> Prop, RR = fun r w' => yV (Jh (gA xw) (gA x) n) r /\ aW w w' eU := ⟨_, rfl⟩
 rw [<- hRR]
 have key : ∀ r w', yV (Jh (gA xw) (gA x) n) r -> aW w w' eU -> RR r w' := fun r w' h1 h2 => by rw [hRR]; exact ⟨h1, h2⟩
 have hxl := gR x
 unfold YT GQ GH
 by_cases hd : jD (cF (gA xw)) = 0
 .refine (ajV hxw hd).mono ?_
  rintro r w1 ⟨rfl, rfl⟩
  have n0 : ((1 : Int) != 0) = true := rfl
  simp (disch := omega) only [aD, pP, pR, aU, bN, aP, dF, aA, oP, oL, dH, bH, dC, n0, aG]
  exact key _ _ (by unfold Jh; rw [if_pos hd] <;> rfl) (aW.refl _ _)
 obtain ⟨hF, hm, hC⟩ := WOk.full hd
 have hlen : xw.size = (wC (gA xw)).length := by rw [uC, aKZ]; exact (gR xw).symm
 refine (awZ rfl hd).mono ?_
 rintro r w1 ⟨b, cap, rest, rfl, ob, x1⟩
 have n0 : ((0 : Int) != 0) = false := rfl
 have d1 : decide ((n : Int) < 0) = false := decide_eq_false (by omega)
 have d2 : decide (131072 < (n : Int)) = false := decide_eq_false (by omega)
 have d3 : decide ((n : Int) > 131072) = false := decide_eq_false (by omega)
 obtain ⟨q, hq⟩ : ∃ q, q = (n + 3) / 4 := ⟨_, rfl⟩
 have eq : ((n : Int) + 3).tdiv 4 = (q : Int) := by rw [aK6 (by omega), hq]; omega
 rw [hlen]
 have hH : Jh (gA xw) (gA x) n = if n < 3 * q then .error 11 else if (gA x).length < 6 then .error 10 else if ((gA x).drop 6).length < nA (gA x) + nB (gA x) + nC (gA x) then .error 10
     else Et (wC (gA xw)) ((gA x).drop 6) [(nA (gA x), q), (nB (gA x), q), (nC (gA x), q), (((gA x).drop 6).length - (nA (gA x) + nB (gA x) + nC (gA x)), n - 3 * q)] := by
  unfold Jh; rw [if_neg hd, hq]
 rw [hH] at key
 by_cases h3 : n < 3 * q
 .have d4 : decide ((n : Int) < 3 * (q : Int)) = true := decide_eq_true (by omega)
  have d5 : decide (3 * (q : Int) > (n : Int)) = true := decide_eq_true (by omega)
  rw [if_pos h3] at key
  simp (disch := omega) only [aD, pP, pR, aU, d1, bN, aP, dF, aA, oP, eq, oL, dH, d4, aG, dG, bH, aKQ, if_false, bM, d2, aE, dC, n0]
  exact key _ _ rfl x1
 rw [if_neg h3] at key
 have d4 : decide ((n : Int) < 3 * (q : Int)) = false := decide_eq_false (by omega)
 have d5 : decide (3 * (q : Int) > (n : Int)) = false := decide_eq_false (by omega)
 simp (disch := omega) only [aD, pP, pR, aU, d1, bN, aP, dF, aA, oP, eq, oL, dH, d4, aE, dG, bH, aKQ, if_false, bM, d2, dC, n0]
 refine sX fun w2 o2 x2 s2 => ?_
 refine lV o2 rfl (by simp [one]) (by simp) fun w3 o3 x3 s3 => ?_
 simp only [bK, aKS, aKR] at o3
 have x13 : aW w1 w3 eU := x2.new x3 (by omega)
 have lb := ob.lt
 obtain ⟨p, hp⟩ : ∃ p, p = w1.heap.size := ⟨_, rfl⟩
 rw [<- hp] at o3 ⊢
 have num : ∀ {y : ByteArray} {e : Int} {w : aNj}, eM w p [.string y, .int .i64 e] -> (aL 45 (.pointer (some ⟨p, 0, none⟩))).run pg w = .ok (.value (rv y e)) w := by
  intro y e w o
  have q := mM (off := 0) o (by simp)
  simp only [aKU, aKT, aKX] at q
  exact q
 have q3 := num o3
 simp (disch := omega) only [q3, bW, aKP, cD, aA, gQ]
 refine (IB (x := x) (e := 0) (n := 2) (by omega)).mono ?_
 rintro r w4 ⟨y1, rfl, hy1, x4⟩
 simp (disch := omega) only [pP, pR, aA]
 refine lV (o3.ext x4 (fun h => h)) rfl (by simp [one]) (by simp) fun w5 o5 x5 s5 => ?_
 simp only [bK, aKS, aKR] at o5
 have q5 := num o5
 simp (disch := omega) only [q5, aA]
 refine (IB (x := y1) (n := 2) (by omega)).mono ?_
 rintro r w6 ⟨y2, rfl, hy2, x6⟩
 simp (disch := omega) only [pP, pR, aA]
 refine lV (o5.ext x6 (fun h => h)) rfl (by simp [one]) (by simp) fun w7 o7 x7 s7 => ?_
 simp only [bK, aKS, aKR] at o7
 have q7 := num o7
 simp (disch := omega) only [q7, aA]
 refine (IB (x := y2) (n := 2) (by omega)).mono ?_
 rintro r w8 ⟨y3, rfl, hy3, x8⟩
 simp (disch := omega) only [pP, pR, aA]
 refine lV (o7.ext x8 (fun h => h)) rfl (by simp [one]) (by simp) fun w9 o9 x9 s9 => ?_
 simp only [bK, aKS, aKR] at o9
 have x39 : aW w3 w9 (fun y => y = p) := ((((x4.mono fun _ _ h => h.elim).seq x5).seq ((x6.mono fun _ _ h => h.elim).seq x7)).seq ((x8.mono fun _ _ h => h.elim).seq x9))
 have x03 := x1.seq x13
 have z1 := x1.size
 have x09 : aW w w9 eU := x03.trans x39 fun y hy h => by omega
 have ob9 := (ob.ext x13 (fun h => h)).ext x39 (by omega)
 have e1 : Af (gA x) 0 2 = (Af (nx (gA x) 0).1 (nx (gA x) 0).2 2) := rfl
 have v1 : rW (Af (gA x) 0 2).1 = nv (gA x) 0 := rfl
 have f1 : (Af (gA x) 0 2).2.2 = (nx (gA x) 1).2 := rfl
 have g1 : gA y1 = (nx (gA x) 1).1 := hy1
 rw [g1, f1] at hy2
 have v2 : rW (Af (gA y1) (Af (gA x) 0 2).2.2 2).1 = nv (gA x) 1 := by rw [g1] <;> rfl
 have f2 : (Af (gA y1) (Af (gA x) 0 2).2.2 2).2.2 = (nx (gA x) 2).2 := by rw [g1] <;> rfl
 have g2 : gA y2 = (nx (gA x) 2).1 := hy2
 rw [f2, g2] at hy3
 have v3 : rW (Af (gA y2) (Af (gA y1) (Af (gA x) 0 2).2.2 2).2.2 2).1 = nv (gA x) 2 := by rw [f2, g2] <;> rfl
 have f3 : (Af (gA y2) (Af (gA y1) (Af (gA x) 0 2).2.2 2).2.2 2).2.2 = (nx (gA x) 3).2 := by rw [f2, g2] <;> rfl
 have g3 : gA y3 = (nx (gA x) 3).1 := hy3
 rw [f3] at o9
 rw [v1, v2, v3]
 generalize gA x = l at *
 have k0 := o9.cell (off := 0)
 have k1 := o9.cell (off := 1)
 simp only [aKM, aKN] at k0 k1
 by_cases h6 : l.length < 6
 .have hb := aGn h6
  rw [if_pos h6] at key
  rw [hb] at k1
  have n1 : ((10 : Int) != 0) = true := rfl
  simp (disch := omega) only [k1, aH, aA, dC, n1, jI, bH, if_true, aG, cY]
  exact key _ _ rfl x09
 obtain ⟨_, _, h1, h2, h3', h4⟩ := aIM (l := l) (by omega)
 rw [if_neg h6] at key
 have g3 : gA y3 = l.drop 6 := by rw [g3, h1]
 rw [h1] at k1
 rw [h2, h3', h4]
 have n1 : ((0 : Int) != 0) = false := rfl
 have b1 : nA l < 65536 := by rw [<- h2]; exact ayM
 have b2 : nB l < 65536 := by rw [<- h3']; exact ayM
 have b3 : nC l < 65536 := by rw [<- h4]; exact ayM
 have ysz : y3.size = (l.drop 6).length := by rw [<- gR, g3]
 have hl6 : (l.drop 6).length <= 1000000 := by rw [aK7]; omega
 have wy : IntKind.u64.wrap (((l.drop 6).length : Nat) : Int) = (((l.drop 6).length : Nat) : Int) := kR (by omega) (by omega)
 have ea : ((nA l : Int) + (nB l : Int)) = ((nA l + nB l : Nat) : Int) := by omega
 have eb : (((nA l + nB l : Nat) : Int) + (nC l : Int)) = ((nA l + nB l + nC l : Nat) : Int) := by omega
 have wa : IntKind.u64.wrap ((nA l + nB l : Nat) : Int) = ((nA l + nB l : Nat) : Int) := kR (by omega) (by omega)
 have wb : IntKind.u64.wrap ((nA l + nB l + nC l : Nat) : Int) = ((nA l + nB l + nC l : Nat) : Int) := kR (by omega) (by omega)
 by_cases hs : (l.drop 6).length < nA l + nB l + nC l
 .have d6 : decide ((((l.drop 6).length : Nat) : Int) < ((nA l + nB l + nC l : Nat) : Int)) = true := decide_eq_true (by omega)
  rw [if_pos hs] at key
  simp (disch := omega) only [k1, aH, aA, dC, n1, dG, bH, aKQ, if_false, bM, bN, ea, wa, eb, wb, mK, k0, dS, ysz, fU, wy, aU, d6, aG]
  exact key _ _ rfl x09
 .have d6 : decide ((((l.drop 6).length : Nat) : Int) < ((nA l + nB l + nC l : Nat) : Int)) = false := decide_eq_false (by omega)
  rw [if_neg hs] at key
  simp (disch := omega) only [k1, aH, aA, dC, n1, dG, bH, aKQ, if_false, bM, bN, ea, wa, eb, wb, mK, k0, dS, ysz, fU, wy, aU, d6, aE]
  rw [h1] at o9
  refine aDn (nd := (l.drop 6).length - (nA l + nB l + nC l)) (x := y3) hF hm hC ob9 (by omega) o9 (by rw [g3]; omega) (by rw [g3]; omega) (by omega) hn ?_
  intro r w' hr x'
  rw [g3] at hr
  exact key _ _ hr (x09.trans x' fun y hy h => by omega)
def SJ (o : Except Int (List UInt8 × List UInt8 × Nat)) (r : aNk) : Prop := match o with
 | .error e => r = .tuple #[.string ⟨#[]⟩, .string ⟨#[]⟩, .int .i64 0, .int .i64 e]
 | .ok (m, u, n) => r = .tuple #[.string ⟨m.toArray⟩, .string ⟨u.toArray⟩, .int .i64 (n : Nat), .int .i64 0]
theorem aAb {RR : aNk -> aNj -> Prop} {H : LH} {xw y : ByteArray} {q : Nat} {w : aNj} (oq : eM w q (rhC H)) (hxw : xw.size <= 100000) (hy : y.size <= 1000000) (hc : H.count <= 100000) (hf : H.form < 4)
 (hk : ∀ r w', SJ (ahV H (gA xw) (gA y)) r -> aW w w' eU -> RR r w') :
 IE RR (.pointer (some ⟨q, 0, none⟩)) (.int .i64 (H.size + Cm H : Nat)) (.string y) (.string xw) w := by
 unfold IE RE
 have k1 := oq.cell (off := 1)
 have k3 := oq.cell (off := 3)
 simp only [aKM, aKN] at k1 k3
 have hll := gR xw
 by_cases h0 : (gA xw).length = 0
 .have hxe : xw = ⟨#[]⟩ := Xn (by have := aLq.1 h0; rw [this] <;> rfl)
  subst hxe
  simp (disch := omega) only [aD, vQ, aeI, cC, aKP, aQ, aA, gC, aG]
  exact hk _ _ (by unfold ahV; rw [if_pos h0] <;> rfl) (aW.refl _ _)
 have hen := anU (x := xw) (by omega)
 have hP : ahV H (gA xw) (gA y) = match Tm H (gA xw) (gA y) with | .error e => .error e | .ok m => .ok (nR m, gA xw, H.size + Cm H) := by
  unfold ahV; rw [if_neg h0] <;> (cases Tm H (gA xw) (gA y) <;> rfl)
 rw [hP] at hk
 have wc : IntKind.i64.wrap (H.count : Int) = (H.count : Int) := aP (by omega) (by omega)
 have fin : ∀ {r : aNk} {w1 : aNj}, yV (Tm H (gA xw) (gA y)) r -> aW w w1 eU →
     aD pg (bQ r 0) w1 fun t99 w2 => aD pg (bQ r 1) w2 fun t100 w3 => Ab RR t100 (.int .i64 (H.size + Cm H : Nat)) (.string xw) t99 w3 := by
  intro r w1 hr x1
  cases hd : Tm H (gA xw) (gA y) with
  | error e =>
    rw [hd] at hr hk
    obtain rfl : r = .tuple #[.string ⟨#[]⟩, .int .i64 e] := hr
    have n1 : (e != 0) = true := by simp [aCy hd]
    unfold Ab
    simp (disch := omega) only [aD, pP, pR, aA, dC, n1, aG]
    exact hk _ _ rfl x1
  | ok m =>
    rw [hd] at hr hk
    obtain rfl : r = .tuple #[.string ⟨(nR m).toArray⟩, .int .i64 0] := hr
    have n1 : ((0 : Int) != 0) = false := rfl
    unfold Ab
    simp (disch := omega) only [aD, pP, pR, aA, dC, n1, aE]
    exact hk _ _ rfl x1
 by_cases h1 : H.form = 0
 .have n0 : ((H.form : Int) == 0) = true := by rw [h1] <;> rfl
  have hD : Tm H (gA xw) (gA y) = UC (gA xw) (gA y) H.count := by unfold Tm; rw [if_pos h1]
  simp (disch := omega) only [aD, vQ, hen, cC, aKP, aQ, aA, gC, k1, aH, dU, n0, k3, bX, wc, aG, aE]
  refine (aB5 hxw hy hc).mono ?_
  rintro r w1 ⟨hr, x1⟩
  rw [<- hD] at hr
  exact fin hr x1
 .have n0 : ((H.form : Int) == 0) = false := beq_eq_false_iff_ne.2 (by omega)
  have hD : Tm H (gA xw) (gA y) = Jh (gA xw) (gA y) H.count := by unfold Tm; rw [if_neg h1]
  simp (disch := omega) only [aD, vQ, hen, cC, aKP, aQ, aA, gC, k1, aH, dU, n0, k3, bX, wc, aE]
  refine (aAT hxw hy hc).mono ?_
  rintro r w1 ⟨hr, x1⟩
  rw [<- hD] at hr
  exact fin hr x1
theorem aFG {RR : aNk -> aNj -> Prop} {H : LH} {b old : ByteArray} {q : Nat} {w : aNj} (oq : eM w q (rhC H)) (hb : b.size <= 10000) (hold : old.size <= 100000) (hsz : H.size <= (gA b).length) (hc : H.count <= 100000) (hf : H.form < 4) (hkd : H.kind < 4) (hbt : H.bytes < 2 ^ 40)
 (hk : ∀ r w', SJ (azK H (gA b) (gA old)) r -> aW w w' eU -> RR r w') :
 IN RR (.string b) (.string old) (.pointer (some ⟨q, 0, none⟩)) (.int .u64 (Cm H : Nat)) w := by
 unfold IN Rq
 have k0 := oq.cell (off := 0)
 have k2 := oq.cell (off := 2)
 have k3 := oq.cell (off := 3)
 simp only [aKM, aKN] at k0 k2 k3
 have hll := gR b
 have hyb : Cm H < 2 ^ 41 := by unfold Cm; split <;> (try split) <;> omega
 have e1 : (b.size : Int) - (H.size : Int) = ((b.size - H.size : Nat) : Int) := by omega
 have w1 : IntKind.u64.wrap ((b.size - H.size : Nat) : Int) = ((b.size - H.size : Nat) : Int) := kR (by omega) (by omega)
 have hdl : ((gA b).drop H.size).length = b.size - H.size := by rw [aK7, hll]
 by_cases hs : b.size - H.size < Cm H
 .have d1 : decide (((b.size - H.size : Nat) : Int) < (Cm H : Int)) = true := decide_eq_true (by omega)
  simp (disch := omega) only [aD, dS, bR, aKP, bX, aP, aY, aQ, true_and, aA, gC, bO, k2, aH, fE, e1, fU, w1, aU, d1, bN, aG]
  exact hk _ _ (by unfold azK; rw [hdl, if_pos hs] <;> rfl) (aW.refl _ _)
 have d1 : decide (((b.size - H.size : Nat) : Int) < (Cm H : Int)) = false := decide_eq_false (by omega)
 have w2 : IntKind.i64.wrap (Cm H : Int) = (Cm H : Int) := aP (by omega) (by omega)
 have e2 : (H.size : Int) + (Cm H : Int) = ((H.size + Cm H : Nat) : Int) := by omega
 have hH : azK H (gA b) (gA old) = Zs H (((gA b).drop H.size).take (Cm H)) (gA old) := by unfold azK; rw [hdl, if_neg hs]
 rw [hH] at hk
 have ts : (H.size : Int).toNat = H.size := aKO _
 have tu : ((H.size + Cm H : Nat) : Int).toNat = H.size + Cm H := aKO _
 have hext : gA (b.extract H.size (H.size + Cm H)) = ((gA b).drop H.size).take (Cm H) := by
  rw [BC]; congr 1; omega
 obtain ⟨y, hy⟩ : ∃ y, y = b.extract H.size (H.size + Cm H) := ⟨_, rfl⟩
 rw [<- hy] at hext
 have hyl := gR y
 have hyz : y.size = Cm H := by rw [<- hyl, hext, aK2, hdl]; omega
 rw [<- hext] at hk
 rcases (show H.kind = 0 ∨ H.kind = 1 ∨ H.kind = 2 ∨ H.kind = 3 by omega) with h0 | h0 | h0 | h0
 .have n0 : ((H.kind : Int) == 0) = true := by rw [h0] <;> rfl
  simp (disch := omega) only [aD, dS, bR, aKP, bX, w2, aY, aQ, true_and, aA, gC, bO, k2, aH, fE, e1, aP, fU, w1, aU, d1, bN, e2, jC, ts, tu, k0, dU, n0, aG, aE]
  refine hk _ _ ?_ (aW.refl _ _)
  unfold Zs
  rw [if_pos h0, <- hy]
  rfl
 .have n0 : ((H.kind : Int) == 0) = false := by rw [h0] <;> rfl
  have n1 : ((H.kind : Int) == 1) = true := by rw [h0] <;> rfl
  have hy1 : Cm H = 1 := by unfold Cm; rw [if_neg (by omega), if_pos h0]
  obtain ⟨c, hyc⟩ : ∃ c, gA y = [c] := by
   have h9 : (gA y).length = 1 := by omega
   match gA y, h9 with
   | [c], _ => exact ⟨c, rfl⟩
  have g0 : (y[0]'(by omega)).toNat = c.toNat := by
   have := PV y 0 (by omega)
   rw [this]; simp only [hyc, aMk]
  have t0 : (0 : Int).toNat = 0 := rfl
  have wc : IntKind.i64.wrap (H.count : Int) = (H.count : Int) := aP (by omega) (by omega)
  have k0d := (jW oq).cell (off := 0)
  have k3d := (jW oq).cell (off := 3)
  simp only [aKM, aKN] at k0d k3d
  have hy0 : (0 : Int).toNat < y.size := by show 0 < y.size; omega
  have hyx : (0 : Nat) < y.size := by omega
  simp (disch := omega) only [aD, dS, bR, aKP, bX, w2, aY, aQ, true_and, aA, gC, bO, k2, aH, fE, e1, aP, fU, w1, aU, d1, bN, e2, jC, ts, tu, <- hy, k0, jA, t0, g0, dU, n0, n1, k3d, wc, aG, aE]
  refine (aEg (c := c) (by omega)).mono ?_
  rintro r w3 ⟨rfl, x3⟩
  refine hk _ _ ?_ ((aW.dr w eU).seq x3)
  unfold Zs
  rw [if_neg (by omega), if_pos h0, hyc]
  rfl
 .have n0 : ((H.kind : Int) == 0) = false := by rw [h0] <;> rfl
  have n1 : ((H.kind : Int) == 1) = false := by rw [h0] <;> rfl
  have n2 : ((H.kind : Int) == 2) = true := by rw [h0] <;> rfl
  have hB : Zs H (gA y) (gA old) = match auL H (gA y) (gA old) with | .error e => .error e | .ok p => ahV H p.1 p.2 := by
   unfold Zs; rw [if_neg (by omega), if_neg (by omega)] <;> (cases auL H (gA y) (gA old) <;> rfl)
  have hW : auL H (gA y) (gA old) = match wtR (gA y) with | .error e => .error e | .ok p => .ok (p.1, (gA y).drop p.2) := by
   unfold auL; rw [if_pos h0] <;> (cases wtR (gA y) <;> rfl)
  rw [hB, hW] at hk
  simp (disch := omega) only [aD, dS, bR, aKP, bX, w2, aY, aQ, true_and, aA, gC, bO, k2, aH, fE, e1, aP, fU, w1, aU, d1, bN, e2, jC, ts, tu, <- hy, k0, dU, n0, n1, n2, aG, aE]
  refine (aEl (x := y) (by omega)).mono ?_
  rintro r w3 ⟨hr, x3⟩
  cases hq : wtR (gA y) with
  | error e =>
    rw [hq] at hr hk
    obtain rfl : r = .tuple #[.string ⟨#[]⟩, .int .i64 0, .int .i64 e] := hr
    have n3 : (e != 0) = true := by simp [aED hq]
    simp (disch := omega) only [Yb, Ya, YH, aA, dC, n3, aG]
    exact hk _ _ rfl x3
  | ok p =>
    have hp2 := aGY hq
    obtain ⟨m, n⟩ := p
    rw [hq] at hr hk
    obtain rfl : r = .tuple #[.string ⟨m.toArray⟩, .int .i64 (n : Nat), .int .i64 0] := hr
    simp only at hp2 hk
    have n3 : ((0 : Int) != 0) = false := rfl
    have tn : (n : Int).toNat = n := aKO _
    have hms : (⟨m.toArray⟩ : ByteArray).size = m.length := by rw [<- gR] <;> rfl
    have hmx : gA (⟨m.toArray⟩ : ByteArray) = m := amR m
    generalize hmg : (⟨m.toArray⟩ : ByteArray) = mm at *
    have hz : gA (y.extract n y.size) = (gA y).drop n := by
     rw [BC, aLn (by rw [aK7]; omega)]
    have hzs : (y.extract n y.size).size <= 1000000 := by rw [<- gR, hz, aK7]; omega
    simp (disch := omega) only [Yb, Ya, YH, aA, dC, n3, aE, jV, tn]
    refine aAb (oq.ext x3 (fun h => h)) (by omega) hzs hc hf fun r w4 hr4 x4 => ?_
    rw [hz, hmx] at hr4
    exact hk _ _ hr4 (x3.seq x4)
 .have n0 : ((H.kind : Int) == 0) = false := by rw [h0] <;> rfl
  have n1 : ((H.kind : Int) == 1) = false := by rw [h0] <;> rfl
  have n2 : ((H.kind : Int) == 2) = false := by rw [h0] <;> rfl
  have hB : Zs H (gA y) (gA old) = ahV H (gA old) (gA y) := by
   unfold Zs auL; rw [if_neg (by omega), if_neg (by omega), if_neg (by omega)]
  rw [hB] at hk
  simp (disch := omega) only [aD, dS, bR, aKP, bX, w2, aY, aQ, true_and, aA, gC, bO, k2, aH, fE, e1, aP, fU, w1, aU, d1, bN, e2, jC, ts, tu, <- hy, k0, dU, n0, n1, n2, aE]
  exact aAb oq hold (by omega) hc hf hk
theorem aCn {b old : ByteArray} {w : aNj} (hb : b.size <= 10000) (hold : old.size <= 100000) (hc : (mT (gA b)).2 = 0 -> (mT (gA b)).1.count <= 100000) :
 aS pg Ew #[.string b, .string old] w (fun r w' => SJ (TK (gA b) (gA old)) r /\ aW w w' eU) := by
 refine auG ?_
 obtain ⟨RR, hRR⟩ : ∃ RR : aNk -> aNj -> Prop, RR = fun r w' => SJ (TK (gA b) (gA old)) r /\ aW w w' eU := ⟨_, rfl⟩
 rw [<- hRR]
 have key : ∀ r w', SJ (TK (gA b) (gA old)) r -> aW w w' eU -> RR r w' := fun r w' h1 h2 => by rw [hRR]; exact ⟨h1, h2⟩
 unfold avA QR Qj
 refine (aAG (b := b)).mono ?_
 rintro r w1 ⟨rfl, x1⟩
 unfold rhV
 simp (disch := omega) only [aD, pP, pR, aA, dC]
 refine wL fun w2 o2 x2 s2 => ?_
 refine pU o2 rfl (by simp [one]) (by simp) fun w3 o3 x3 s3 => ?_
 simp only [bK, aKS, aKR] at o3
 have x03 : aW w w3 eU := x1.seq (x2.new x3 (by omega))
 by_cases he : (mT (gA b)).2 = 0
 .have n0 : ((mT (gA b)).2 != 0) = false := by rw [he] <;> rfl
  have hR : TK (gA b) (gA old) = azK (mT (gA b)).1 (gA b) (gA old) := by unfold TK; rw [if_pos he]
  rw [hR] at key
  obtain ⟨h1, h2, h3, h4, h5, h6⟩ := avM he
  have hc := hc he
  generalize (mT (gA b)).1 = H at *
  have k0 := o3.cell (off := 0)
  have k3 := o3.cell (off := 3)
  have k4 := o3.cell (off := 4)
  simp only [aKM, aKN] at k0 k3 k4
  have fin := aFG (RR := RR) o3 hb hold h2 hc h4 h3 h6 fun r w' hr x' => key r w' hr (x03.seq x')
  rcases (show H.kind = 0 ∨ H.kind = 1 ∨ 2 <= H.kind by omega) with h0 | h0 | h0
  .have n1 : ((H.kind : Int) == 0) = true := by rw [h0] <;> rfl
   have n2 : ((H.kind : Int) == 1) = false := by rw [h0] <;> rfl
   have hy : Cm H = H.count := by unfold Cm; rw [if_pos h0]
   rw [hy] at fin
   simp (disch := omega) only [n0, bY, aKP, aY, aQ, aA, gC, k4, aH, k0, dU, n1, k3, aG, aE]
   unfold CB CG
   simp (disch := omega) only [aD, aY, aA, gC, k0, aH, dU, n2, aE]
   exact fin
  .have n1 : ((H.kind : Int) == 0) = false := by rw [h0] <;> rfl
   have n2 : ((H.kind : Int) == 1) = true := by rw [h0] <;> rfl
   have hy : Cm H = 1 := by unfold Cm; rw [if_neg (by omega), if_pos h0]
   rw [hy] at fin
   simp (disch := omega) only [n0, bY, aKP, aY, aQ, aA, gC, k4, aH, k0, dU, n1, k3, aE]
   unfold CB CG
   simp (disch := omega) only [aD, aY, aA, gC, k0, aH, dU, n2, aG]
   exact fin
  .have n1 : ((H.kind : Int) == 0) = false := beq_eq_false_iff_ne.2 (by omega)
   have n2 : ((H.kind : Int) == 1) = false := beq_eq_false_iff_ne.2 (by omega)
   have hy : Cm H = H.bytes := by unfold Cm; rw [if_neg (by omega), if_neg (by omega)]
   rw [hy] at fin
   simp (disch := omega) only [n0, bY, aKP, aY, aQ, aA, gC, k4, aH, k0, dU, n1, k3, aE]
   unfold CB CG
   simp (disch := omega) only [aD, aY, aA, gC, k0, aH, dU, n2, aE]
   exact fin
 .have n0 : ((mT (gA b)).2 != 0) = true := by simp [he]
  simp (disch := omega) only [n0, bY, aKP, aY, aQ, aA, gC, aG]
  exact key _ _ (by unfold TK; rw [if_neg he] <;> rfl) x03
theorem aDo (haw : ∀ w : aNj, aS pg Co #[] w (fun r w' => r = .bool true /\ aW w w' eU)) {bv ov : aNk} {l old : List UInt8} {w : aNj} (h : Bs w bv l) (ho : Bs w ov old) :
 aS pg vD #[bv, ov] w (fun r w' => r = .bool true /\ aW w w' eU) := by
 refine Qo ?_
 unfold LQ yO
 refine (haw w).mono ?_
 rintro r w1 ⟨rfl, x1⟩
 have h1 := h.ext x1 (bZ _)
 have ho1 := ho.ext x1 (bZ _)
 have hv := h1
 have hov := ho1
 obtain ⟨a, c, rfl, hc⟩ := h1.len
 obtain ⟨a2, c2, rfl, hc2⟩ := ho1.len
 simp only [aKZ] at hc hc2 hv hov ⊢
 by_cases hl : 400 < l.length
 .have d1 : decide ((l.length : Int) > 400) = true := decide_eq_true (by omega)
  have d2 : decide ((400 : Int) < (l.length : Int)) = true := decide_eq_true (by omega)
  simp (disch := omega) only [aD, pM, aLb, aV, true_and, aA, dH, d1, jI, bH, if_true, aG, cY, aE]
  exact x1
 have d1 : decide ((l.length : Int) > 400) = false := decide_eq_false (by omega)
 have d2 : decide ((400 : Int) < (l.length : Int)) = false := decide_eq_false (by omega)
 by_cases hol : 300 < old.length
 .have d3 : decide ((old.length : Int) > 300) = true := decide_eq_true (by omega)
  have d4 : decide ((300 : Int) < (old.length : Int)) = true := decide_eq_true (by omega)
  simp (disch := omega) only [aD, pM, aLb, aV, true_and, aA, dH, d1, dG, bH, aKQ, if_false, bM, d3, aG, aE]
  exact x1
 have d3 : decide ((old.length : Int) > 300) = false := decide_eq_false (by omega)
 have d4 : decide ((300 : Int) < (old.length : Int)) = false := decide_eq_false (by omega)
 have hcv := dW hv
 simp (disch := omega) only [aD, pM, aLb, aV, true_and, aA, dH, d1, dG, bH, aKQ, if_false, bM, d3, aE, hcv]
 refine (aAG (b := ⟨l.toArray⟩)).mono ?_
 rintro r w2 ⟨rfl, x2⟩
 have hls : gA (⟨l.toArray⟩ : ByteArray) = l := amR l
 rw [hls]
 unfold rhV
 simp (disch := omega) only [pP, pR, aA]
 refine wL fun w3 o3 x3 s3 => ?_
 refine pU o3 rfl (by simp [one]) (by simp) fun w4 o4 x4 s4 => ?_
 simp only [bK, aKS, aKR] at o4
 have k3 := o4.cell (off := 3)
 simp only [aKM, aKN] at k3
 have x24 : aW w2 w4 eU := x3.new x4 (by omega)
 have x14 := x2.seq x24
 have hcvo := dW (w := w4) (hov.ext x14 (bZ _))
 have hcvb := dW (w := w4) (hv.ext x14 (bZ _))
 have done : ∀ (hcnt : (mT l).2 = 0 -> (mT l).1.count <= 100000),
     aS pg vS #[.slice a l.length c, .slice a2 old.length c2] w4 (fun r w' => aiZ w' w4.heap.size (TK l old) r /\ aW w4 w' eU) /\
     ∀ w5 : aNj, aS pg Ew #[.string ⟨l.toArray⟩, .string ⟨old.toArray⟩] w5 (fun r w' => SJ (TK l old) r /\ aW w5 w' eU) := by
  intro hcnt
  refine ⟨aAl (hv.ext x14 (bZ _)) (by omega) (hov.ext x14 (bZ _)) (by omega), fun w5 => ?_⟩
  have hlo : gA (⟨old.toArray⟩ : ByteArray) = old := amR old
  have z1 := gR (⟨l.toArray⟩ : ByteArray)
  have z2 := gR (⟨old.toArray⟩ : ByteArray)
  rw [hls] at z1
  rw [hlo] at z2
  have := aCn (b := ⟨l.toArray⟩) (old := ⟨old.toArray⟩) (w := w5) (by omega) (by omega) (by rw [hls]; exact hcnt)
  rw [hls, hlo] at this
  exact this
 have bself : ∀ x : ByteArray, (x.toList == x.toList) = true := fun x => by simp
 by_cases hb : 3000 < (mT l).1.count
 .have d5 : decide (((mT l).1.count : Int) > 3000) = true := decide_eq_true (by omega)
  have d5' : decide ((3000 : Int) < ((mT l).1.count : Int)) = true := decide_eq_true (by omega)
  by_cases hb2 : (mT l).1.count <= 131072
  .have d6 : decide (((mT l).1.count : Int) <= 131072) = true := decide_eq_true (by omega)
   simp (disch := omega) only [aQ, aKP, aA, gC, k3, aH, dH, d5, pZ, bH, if_true, bM, zL, d6, aG]
   exact x1.seq x14
  have d6 : decide (((mT l).1.count : Int) <= 131072) = false := decide_eq_false (by omega)
  have hcnt : (mT l).2 = 0 -> (mT l).1.count <= 100000 := fun he => by have := (avM he).1; omega
  simp (disch := omega) only [aQ, aKP, aA, gC, k3, aH, dH, d5, pZ, bH, if_true, bM, zL, d6, aE]
  refine (done hcnt).1.mono ?_
  rintro r w5 ⟨hr, x5⟩
  have hcvo5 := dW (w := w5) (hov.ext (x14.seq x5) (bZ _))
  have hcvb5 := dW (w := w5) (hv.ext (x14.seq x5) (bZ _))
  have hcnt2 := (done hcnt).2
  cases hq : TK l old with
  | error e =>
    rw [hq] at hr hcnt2
    obtain rfl : r = .tuple #[.slice none 0 0, .slice none 0 0, .int .i64 0, .int .i64 e] := hr
    simp (disch := omega) only [x40, x41, x42, x43, aA, hcvb5, hcvo5]
    refine (hcnt2 _).mono ?_
    rintro r w6 ⟨hr2, x6⟩
    obtain rfl : r = .tuple #[.string ⟨#[]⟩, .string ⟨#[]⟩, .int .i64 0, .int .i64 e] := hr2
    have hn : Bs w6 (.slice none 0 0) [] := (sM.nil w6 0 1).sl
    have hcn := dW hn
    simp (disch := omega) only [x40, x41, x42, x43, aA, hcn, vQ, bself, pZ, bH, if_true, bM, dU, beq_self_eq_true, true_and]
    exact ((x1.seq x14).seq x5).seq x6
  | ok p =>
    obtain ⟨m, u, n⟩ := p
    rw [hq] at hr hcnt2
    obtain ⟨v1, v2, rfl, hm, hu⟩ := hr
    simp (disch := omega) only [x40, x41, x42, x43, aA, hcvb5, hcvo5]
    refine (hcnt2 _).mono ?_
    rintro r w6 ⟨hr2, x6⟩
    obtain rfl : r = .tuple #[.string ⟨m.toArray⟩, .string ⟨u.toArray⟩, .int .i64 (n : Nat), .int .i64 0] := hr2
    have hcm := dW (w := w6) ((hm.ext x6 (fun _ _ h => h)).sl)
    have hcu := dW (w := w6) ((hu.ext x6 (fun _ _ h => h)).sl)
    simp (disch := omega) only [x40, x41, x42, x43, aA, hcm, vQ, bself, pZ, bH, if_true, bM, hcu, dU, beq_self_eq_true, true_and]
    exact ((x1.seq x14).seq x5).seq x6
 .have d5 : decide (((mT l).1.count : Int) > 3000) = false := decide_eq_false (by omega)
  have d5' : decide ((3000 : Int) < ((mT l).1.count : Int)) = false := decide_eq_false (by omega)
  have hcnt : (mT l).2 = 0 -> (mT l).1.count <= 100000 := fun he => by omega
  simp (disch := omega) only [aQ, aKP, aA, gC, k3, aH, dH, d5, uY, bH, aKQ, if_false, aE, cY]
  refine (done hcnt).1.mono ?_
  rintro r w5 ⟨hr, x5⟩
  have hcvo5 := dW (w := w5) (hov.ext (x14.seq x5) (bZ _))
  have hcvb5 := dW (w := w5) (hv.ext (x14.seq x5) (bZ _))
  have hcnt2 := (done hcnt).2
  cases hq : TK l old with
  | error e =>
    rw [hq] at hr hcnt2
    obtain rfl : r = .tuple #[.slice none 0 0, .slice none 0 0, .int .i64 0, .int .i64 e] := hr
    simp (disch := omega) only [x40, x41, x42, x43, aA, hcvb5, hcvo5]
    refine (hcnt2 _).mono ?_
    rintro r w6 ⟨hr2, x6⟩
    obtain rfl : r = .tuple #[.string ⟨#[]⟩, .string ⟨#[]⟩, .int .i64 0, .int .i64 e] := hr2
    have hn : Bs w6 (.slice none 0 0) [] := (sM.nil w6 0 1).sl
    have hcn := dW hn
    simp (disch := omega) only [x40, x41, x42, x43, aA, hcn, vQ, bself, pZ, bH, if_true, bM, dU, beq_self_eq_true, true_and]
    exact ((x1.seq x14).seq x5).seq x6
  | ok p =>
    obtain ⟨m, u, n⟩ := p
    rw [hq] at hr hcnt2
    obtain ⟨v1, v2, rfl, hm, hu⟩ := hr
    simp (disch := omega) only [x40, x41, x42, x43, aA, hcvb5, hcvo5]
    refine (hcnt2 _).mono ?_
    rintro r w6 ⟨hr2, x6⟩
    obtain rfl : r = .tuple #[.string ⟨m.toArray⟩, .string ⟨u.toArray⟩, .int .i64 (n : Nat), .int .i64 0] := hr2
    have hcm := dW (w := w6) ((hm.ext x6 (fun _ _ h => h)).sl)
    have hcu := dW (w := w6) ((hu.ext x6 (fun _ _ h => h)).sl)
    simp (disch := omega) only [x40, x41, x42, x43, aA, hcm, vQ, bself, pZ, bH, if_true, bM, hcu, dU, beq_self_eq_true, true_and]
    exact ((x1.seq x14).seq x5).seq x6
theorem aDJ {bv ov : aNk} {l old : List UInt8} {w : aNj} (h : Bs w bv l) (ho : Bs w ov old) :
 aS pg vD #[bv, ov] w (fun r w' => r = .bool true /\ aW w w' eU) := aDo aFR h ho
end Go.Proofs.YtgpimhlgaokobaaGreat
namespace Go.En
open Go Go.ChangeShapes Go.WideShapes Go.ChangeAt Go.RowKit
theorem azM {H : Type} {enc : TypeId × aNk -> H} {P : Program} (hl : laidOutB P = true) {W W' : aNj} (hb : Below W.heap.size W W') : ∀ (ts : List TypeId) (vs : List aNk) (ds : List (DataW H)) (ps : List MemPlace),
 (ts.all fun t => P.readableRec t && decide (t < P.types.size)) = true -> DataW.TrodAll enc P W 0 (fun _ => true) true ts vs ds ps -> (∀ x ∈ ps, x.block < W.heap.size) →
 DataW.TrodAll enc P W' 0 (fun b => decide (b < W.heap.size)) true ts vs ds ps := by
 intro ts
 induction ts with
 | nil =>
   intro vs ds ps _ h _
   cases vs <;> cases ds <;> simp [DataW.TrodAll] at h ⊢
   exact h
 | cons t ts ih =>
   intro vs ds ps hr h hlt
   cases vs with
   | nil => simp [DataW.TrodAll] at h
   | cons v vs =>
     cases ds with
     | nil => simp [DataW.TrodAll] at h
     | cons d ds =>
       obtain ⟨p, q, h1, h2, rfl⟩ := h
       rw [List.all_cons, aK5, aK5, decide_eq_true_eq] at hr
       exact ⟨p, q, Below.trod hl hr.1.1 hr.1.2 h1 hb (fun x hx => hlt x (aL2 _ hx)), ih _ _ _ hr.2 h2 (fun x hx => hlt x (aMS _ hx)), rfl⟩
theorem aG0 {H : Type} {enc : TypeId × aNk -> H} {P : Program} {f : Func} {s : ChangeSpec} {apart fresh handsOn : Bool} {tb : TypeId} {W W' : aNj} {args : Array aNk} {ds gs : List (DataW H)} {before : List MemPlace}
 (hl : laidOutB P = true) (hr : (f.params.toList.all fun t => P.readableRec t && decide (t < P.types.size)) = true) (hres : f.resultTypes = #[tb]) (hbool : P.underlying tb = some .bool)
 (hW : DataW.Whole enc P f.params.toList s.vars apart W args.toList ds gs before) (hvars : s.vars = []) (h1 : (s.fn H (ds ++ gs)).results = [.lit (.bool true)]) (h2 : (s.fn H (ds ++ gs)).args = ds) (h3 : (s.fn H (ds ++ gs)).vars = [])
 (hx : aW W W' eU) : s.post enc P f apart fresh handsOn false W args (.bool true) W' := by
 have hb := hx.below
 have hlt : ∀ x ∈ before, x.block < W.heap.size := fun x hx => hW.lt x hx
 have hW' := hW
 obtain ⟨p, q, hA, hV, rfl, _, _⟩ := hW
 rw [hvars] at hV
 obtain ⟨_, rfl⟩ := trodVars_none hV
 rw [aLG] at hW' hlt
 refine ⟨ds, gs, p, [], p, [], hW', ?_, ?_, ?_, hb.frame _, fun h => by cases h⟩
 .rw [h1, hres]
  exact trodAll_cons_mk (shut_bool hbool _) trodAll_mk0
 .rw [h2]; exact azM hl hb _ _ _ _ hr hA hlt
 .rw [h3, hvars] <;> rfl
theorem aET {H : Type} {enc : TypeId × aNk -> H} {P : Program} {W : aNj} {base b0 : Nat} {r : Reach} {sp : Nat -> Bool} {hd : Bool} {t e : TypeId} {k : IntKind} {v : aNk} {d : DataW H} {ps : List MemPlace} (ht : P.underlying t = some (.slice e)) (he : P.underlying e = some (.int k)) (hc : P.cellsOf e = 1)
 (hval : Value.okWide P W r b0 t v) (h : DataW.Trod enc P W base sp hd t v d ps) :
 ∃ zs : List Int, Sl W v (zs.map (Value.int k)) /\ zs.length <= 9223372036854775807 /\ ∀ z ∈ zs, (Lit.int k z).wf = true := by
 obtain ⟨a0, len, cap, rfl⟩ := okWide_slice ht hval
 obtain ⟨fuel, hf⟩ := h
 rcases open_ints ht he hc hf with ⟨hcs, -⟩ | ⟨a, len', cap', zs, hcs, _, hl, hm, hz, -, hcell, hwz⟩
 .have : Value.slice a0 len cap = .slice none 0 0 := by simpa [Value.cells] using hcs
  cases this
  exact ⟨[], ⟨none, 0, 0, rfl, rfl, aK1 _, fun h => absurd h (by simp)⟩, by simp, by simp⟩
 .have : Value.slice a0 len cap = .slice (some a) len' cap' := by simpa [Value.cells] using hcs
  cases this
  unfold maxLen at hm
  have hle : len <= zs.length := by rw [hz]; split <;> omega
  refine ⟨zs.take len, ⟨some a, len, cap, rfl, by rw [aKZ, aK2]; omega, hl, fun h0 => ?_⟩, by rw [aK2]; omega, fun z hz => hwz z (aMd hz)⟩
  obtain ⟨b, off, spot⟩ := a
  have hs : spot = none := by
   have h0 := hcell 0 (by omega)
   unfold World.cell? at h0
   split at h0
   .cases spot
    .rfl
    .simp [Addr.add] at h0
   .cases h0
  subst hs
  refine ⟨b, off, rfl, fun i hi => ?_⟩
  rw [<- OA, hcell i (by omega), aLl, aLB hi, aK0, aKW (by omega)]
  rfl
theorem aC4 (zs : List Int) (h : ∀ z ∈ zs, (Lit.int .u8 z).wf = true) : ∃ l : List UInt8, zs.map (Value.int .u8) = l.map vC /\ l.length = zs.length := by
 refine ⟨zs.map fun z => UInt8.ofNat z.toNat, ?_, by simp⟩
 rw [aNh]
 refine aLs fun z hz => ?_
 have := h z hz
 have hx : 0 <= z /\ z <= 255 := by simpa [Lit.wf, IntKind.min, IntKind.max, IntKind.signed, IntKind.bits] using this
 show _ = vC (UInt8.ofNat z.toNat)
 unfold vC
 rw [UInt8.toNat_ofNat']
 congr 1
 omega
end Go.En
