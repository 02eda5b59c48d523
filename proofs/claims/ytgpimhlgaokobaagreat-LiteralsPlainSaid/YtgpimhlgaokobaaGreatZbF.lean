/- Parts of the proof of LiteralsPlain: merged and given short names by a program of ours. -/
import Derived.WalkKit
import Derived.ProofKit
import Derived.OpenShut
import Derived.Test.YtgpimhlgaokobaaGreatZbE
set_option linter.unusedVariables false
set_option linter.unusedSimpArgs false
open Bool renaming and_eq_true → aLJ, not_true → aLL, not_false → aLX, false_eq_true → aLu
open Int renaming tdiv_eq_ediv_of_nonneg → aLK, toNat_natCast → aLs
open List renaming take_of_length_le → aL0, length_eq_zero_iff → aL4, map_congr_left → aL7, getElem?_eq_getElem → aLA, take_zero → aLB, length_map → aLD, getD_eq_getElem?_getD → aLE, length_take → aLG, length_drop → aLM, map_append → aLS, getElem?_map → aLZ, getElem?_cons_zero → aLq, getElem?_cons_succ → aLr, set_cons_succ → aLv, set_cons_zero → aLw, take_succ_cons → aLx, drop_zero → aLy, length_append → aLz, map_cons → aME, mem_append_left → aMG, set_append_left → aMI, mem_of_mem_take → aMS, getElem_cons_zero → aMZ, append_nil → aMd, getElem?_take_of_lt → aMg, length_replicate → aMk, length_set → aNJ, map_map → aNV, replicate_succ' → aNm, mem_append_right → aNw
open Nat renaming mul_comm → aL1, pow_succ → aL6, pow_le_pow_right → aLC, le_refl → aLF, two_pow_pos → aLW, mul_le_mul_right → aLY, zero_add → aLt, div_div_eq_div_mul → aM0, add_zero → aMA, add_mul → aMi, pow_add → aMr, div_le_self → aMu, mul_div_cancel_left → aNr
open Option renaming isNone_some → aLN, isNone_none → aMa
namespace Go.Proofs.YtgpimhlgaokobaaGreat
open Go Go.En Go.Pu
set_option maxRecDepth 4000
def aDz (l : List Nat) (d q i code bits : Nat) : Prop :=
 (bits = 0 /\ code = 0 /\ EL l q i = 0) ∨ (∃ q0, 1 <= q0 /\ q0 <= q /\ q0 <= d /\ bits = d + 1 - q0 /\ (code + 1) * 2 ^ (q0 - 1) = EL l q i)
theorem aBl {lv dv outv wv sv : aNY} {c0 b0 now : Nat} {w : aNX} (hc : c0 < 2 ^ 40) (hb : b0 <= 100) (hnow : now <= 100) {kn : aNY -> aNY -> aNY -> aNY -> aNY -> aNY -> aNY -> aNX -> Prop}
 (hK : xY kn lv dv outv (.int .i64 (c0 / 2 ^ (b0 - now) : Nat)) wv sv (.int .i64 now) w) :
 FM kn lv dv outv (.int .i64 c0) (.int .i64 b0) wv sv (.int .i64 now) w := by
 unfold FM NL Nv
 refine cR.rule (fun m (t : aNY × aNY) w' => ∃ j : Nat, m = b0 - j /\ t = (.int .i64 (c0 / 2 ^ j : Nat), .int .i64 (b0 - j : Nat)) /\ j <= b0 - now /\ w' = w) b0 ⟨0, rfl, by simp, by omega, rfl⟩ ?_
 rintro m t w1 ⟨j, rfl, rfl, hj, rfl⟩
 have hcl := aMu c0 (2 ^ j)
 have hs : c0 / 2 ^ (j + 1) = c0 / 2 ^ j / 2 := by rw [aL6, aM0]
 unfold GZ
 by_cases hlt : j < b0 - now
 .have d1 : decide ((now : Int) < ((b0 - j : Nat) : Int)) = true := by simp only [decide_eq_true_eq]; omega
  have e1 : ((c0 / 2 ^ j : Nat) : Int).tdiv 2 = ((c0 / 2 ^ (j + 1) : Nat) : Int) := by
   rw [hs]
   generalize c0 / 2 ^ j = z
   rw [aLK (by omega)]; omega
  have e2 : ((b0 - j : Nat) : Int) - 1 = ((b0 - (j + 1) : Nat) : Int) := by omega
  generalize c0 / 2 ^ j = x at *
  simp (disch := omega) only [aD, jH, aA, stepR_skip, bJ, fF, oS, oY, rL, xK, LC, MU, vI, pG, sT, dV, cY, aR, Ah, cX, nJ, LY, Pw, pL, bF, LX, A2, qW, pT, pS, Yc, Yy, Yk, x40, x41, x42, x43, aH, Result.ok.injEq, Next.value.injEq, true_and, and_true, aQ, kV, M1, L3, PO, xL, aLs, rC, iT, uX, cW, bL, cV, zM, vG, aG, aE, if_true, if_false, aLu, aLt, aLN, aMa, aLL, aLX, aLr, aLq, aP, aV, gT, dL, iS, dO, iJ, dT, sP, iR, aY, cC, hZ, bO, bR, kY, dF, bW, gO, bZ, bH, eF, cO, bQ, cD, jD, fT, bX, jB, jZ, gX, gG, dG, cA, jX, lO, fY, oK, cE, mR, eQ, iW, fK, fS, eP, iA, gI, mU, iH, eE, fR, kO, lV, nN, oM, cT, gB, gV, eJ, gP, nT, bN, bG, bT, bU, cM, gL, eL, dJ, fQ, lH, kE, kF, fZ, iG, bV, bK, dS, gC, gF, mE, jG, iP, iK, jR, eY, dZ, kP, fJ, eN, gA, dC, fI, fA, hJ, iZ, jC, gH, iE, fC, dI, eH, bB, aN, dY, lL, nQ, uK, lM, fE, fB, fD, eI, mX, dD, dQ, cJ, lX, cN, dN, cZ, cK, dE, fL, gN, gY, iX, fN, iI, gM, gS, lB, eD, dK, kI, mF, kJ, fH, fO, fG, iC, d1, e1, e2]
  exact ⟨b0 - (j + 1), by omega, j + 1, rfl, rfl, by omega⟩
 .have d1 : decide ((now : Int) < ((b0 - j : Nat) : Int)) = false := by simp only [decide_eq_false_iff_not]; omega
  have : j = b0 - now := by omega
  subst this
  simp (disch := omega) only [aD, jH, aA, stepR_skip, bJ, fF, oS, oY, rL, xK, LC, MU, vI, pG, sT, dV, cY, aR, Ah, cX, nJ, LY, Pw, pL, bF, LX, A2, qW, pT, pS, Yc, Yy, Yk, x40, x41, x42, x43, aH, Result.ok.injEq, Next.value.injEq, true_and, and_true, aQ, kV, M1, L3, PO, xL, aLs, rC, iT, uX, cW, bL, cV, zM, vG, aG, aE, if_true, if_false, aLu, aLt, aLN, aMa, aLL, aLX, aLr, aLq, aP, aV, gT, dL, iS, dO, iJ, dT, sP, iR, aY, cC, hZ, bO, bR, kY, dF, bW, gO, bZ, bH, eF, cO, bQ, cD, jD, fT, bX, jB, jZ, gX, gG, dG, cA, jX, lO, fY, oK, cE, mR, eQ, iW, fK, fS, eP, iA, gI, mU, iH, eE, fR, kO, lV, nN, oM, cT, gB, gV, eJ, gP, nT, bN, bG, bT, bU, cM, gL, eL, dJ, fQ, lH, kE, kF, fZ, iG, bV, bK, dS, gC, gF, mE, jG, iP, iK, jR, eY, dZ, kP, fJ, eN, gA, dC, fI, fA, hJ, iZ, jC, gH, iE, fC, dI, eH, bB, aN, dY, lL, nQ, uK, lM, fE, fB, fD, eI, mX, dD, dQ, cJ, lX, cN, dN, cZ, cK, dE, fL, gN, gY, iX, fN, iI, gM, gS, lB, eD, dK, kI, mF, kJ, fH, fO, fG, iC, d1]
  exact hK
theorem aAf {x : ByteArray} {d : Nat} {w : aNX} (hd : jF (cF (fU x)) = d) (hd0 : d ≠ 0) :
 aS pg Av #[.string x] w (fun r w' => ∃ b cap rest, r = .tuple #[.slice (some ⟨b, 0, none⟩) x.size cap, .int .i64 0] /\ eM w' b (cc (pQ (cF (fU x)) d) ++ rest) /\ aW w w' eS) := by
 refine Sp ?_
 have hsz := Jk x
 obtain ⟨l, hnl⟩ : ∃ l, cF (fU x) = l := ⟨_, rfl⟩
 rw [hnl] at hsz hd ⊢
 obtain ⟨hall, hd11, hl2, hl256, hlast, hsum⟩ := yM hd hd0
 have hp2 : 2 ^ d <= 2 ^ 11 := aLC (by omega) hd11
 unfold Xw Dk C4
 refine (axT (by omega)).mono ?_
 rintro r w1 ⟨rfl, rfl⟩
 rw [hnl, hd]
 have n1 : ((d : Int) == 0) = false := beq_eq_false_iff_ne.2 (by omega)
 simp (disch := omega) only [aD, jH, aA, stepR_skip, bJ, fF, oS, oY, rL, xK, LC, MU, vI, pG, sT, dV, cY, aR, Ah, cX, nJ, LY, Pw, pL, bF, LX, A2, qW, pT, pS, Yc, Yy, Yk, x40, x41, x42, x43, aH, Result.ok.injEq, Next.value.injEq, true_and, and_true, aQ, kV, M1, L3, PO, xL, aLs, rC, iT, uX, cW, bL, cV, zM, vG, aG, aE, if_true, if_false, aLu, aLt, aLN, aMa, aLL, aLX, aLr, aLq, aP, aV, gT, dL, iS, dO, iJ, dT, sP, iR, aY, cC, hZ, bO, bR, kY, dF, bW, gO, bZ, bH, eF, cO, bQ, cD, jD, fT, bX, jB, jZ, gX, gG, dG, cA, jX, lO, fY, oK, cE, mR, eQ, iW, fK, fS, eP, iA, gI, mU, iH, eE, fR, kO, lV, nN, oM, cT, gB, gV, eJ, gP, nT, bN, bG, bT, bU, cM, gL, eL, dJ, fQ, lH, kE, kF, fZ, iG, bV, bK, dS, gC, gF, mE, jG, iP, iK, jR, eY, dZ, kP, fJ, eN, gA, dC, fI, fA, hJ, iZ, jC, gH, iE, fC, dI, eH, bB, aN, dY, lL, nQ, uK, lM, fE, fB, fD, eI, mX, dD, dQ, cJ, lX, cN, dN, cZ, cK, dE, fL, gN, gY, iX, fN, iI, gM, gS, lB, eD, dK, kI, mF, kJ, fH, fO, fG, iC, n1]
 unfold JI JV JU Ku Ll
 refine cR.rule (fun m (t : aNY × aNY) w' => ∃ (i : Nat) (v : aNY), m = x.size - i /\ t = (v, .int .i64 i) /\ i <= x.size /\ tE w' w1.heap.size 2 v i (cc (List.replicate i (0, 0))) /\ aW w1 w' eS) x.size
  ⟨0, _, rfl, rfl, by omega, tE.nil _ _ _, aW.refl _ _⟩ ?_
 rintro m t w2 ⟨i, v, rfl, rfl, hi, o2, x2⟩
 have z2 := x2.size
 unfold DN
 by_cases hlt : i < x.size
 .have d1 : decide ((i : Int) < (x.size : Int)) = true := by simp; omega
  obtain ⟨av, cv, rfl⟩ := o2.len
  simp (disch := omega) only [aD, jH, aA, stepR_skip, bJ, fF, oS, oY, rL, xK, LC, MU, vI, pG, sT, dV, cY, aR, Ah, cX, nJ, LY, Pw, pL, bF, LX, A2, qW, pT, pS, Yc, Yy, Yk, x40, x41, x42, x43, aH, Result.ok.injEq, Next.value.injEq, true_and, and_true, aQ, kV, M1, L3, PO, xL, aLs, rC, iT, uX, cW, bL, cV, zM, vG, aG, aE, if_true, if_false, aLu, aLt, aLN, aMa, aLL, aLX, aLr, aLq, aP, aV, gT, dL, iS, dO, iJ, dT, sP, iR, aY, cC, hZ, bO, bR, kY, dF, bW, gO, bZ, bH, eF, cO, bQ, cD, jD, fT, bX, jB, jZ, gX, gG, dG, cA, jX, lO, fY, oK, cE, mR, eQ, iW, fK, fS, eP, iA, gI, mU, iH, eE, fR, kO, lV, nN, oM, cT, gB, gV, eJ, gP, nT, bN, bG, bT, bU, cM, gL, eL, dJ, fQ, lH, kE, kF, fZ, iG, bV, bK, dS, gC, gF, mE, jG, iP, iK, jR, eY, dZ, kP, fJ, eN, gA, dC, fI, fA, hJ, iZ, jC, gH, iE, fC, dI, eH, bB, aN, dY, lL, nQ, uK, lM, fE, fB, fD, eI, mX, dD, dQ, cJ, lX, cN, dN, cZ, cK, dE, fL, gN, gY, iX, fN, iI, gM, gS, lB, eD, dK, kI, mF, kJ, fH, fO, fG, iC, d1]
  refine SU (cells := #[.int .i64 0, .int .i64 0]) (by decide) (by decide) (by kernel_rfl) fun w3 o3 x3 s3 => ?_
  have z3 := x3.size
  refine xU (m := 1) (news := [.int .i64 0, .int .i64 0]) (o2.ext x3 (fun _ _ h => h)) (o3.cl (off := 0) (l := [.int .i64 0, .int .i64 0]) (n := 1) rfl (fun i hi => by rw [aLt])) (by simp [one]) (by omega) (by omega) fun v4 w4 o4 x4 => ?_
  have e1 : cc (List.replicate i (0, 0)) ++ [Value.int .i64 0, Value.int .i64 0] = cc (List.replicate (i + 1) (0, 0)) := by
   rw [aNm, aA0] <;> rfl
  rw [e1] at o4
  obtain ⟨av4, cv4, rfl⟩ := o4.len
  exact ⟨x.size - (i + 1), by omega, i + 1, _, rfl, rfl, by omega, o4, (x2.seq x3).trans x4 fun b hb h => by omega⟩
 .have d1 : decide ((i : Int) < (x.size : Int)) = false := by simp; omega
  obtain rfl : i = x.size := by omega
  rcases o2.2 with ⟨_, h0⟩ | ⟨pb, cap, rest, rfl, hpb, ob2, hcap, hcap2⟩
  .omega
  simp (disch := omega) only [aD, jH, aA, stepR_skip, bJ, fF, oS, oY, rL, xK, LC, MU, vI, pG, sT, dV, cY, aR, Ah, cX, nJ, LY, Pw, pL, bF, LX, A2, qW, pT, pS, Yc, Yy, Yk, x40, x41, x42, x43, aH, Result.ok.injEq, Next.value.injEq, true_and, and_true, aQ, kV, M1, L3, PO, xL, aLs, rC, iT, uX, cW, bL, cV, zM, vG, aG, aE, if_true, if_false, aLu, aLt, aLN, aMa, aLL, aLX, aLr, aLq, aP, aV, gT, dL, iS, dO, iJ, dT, sP, iR, aY, cC, hZ, bO, bR, kY, dF, bW, gO, bZ, bH, eF, cO, bQ, cD, jD, fT, bX, jB, jZ, gX, gG, dG, cA, jX, lO, fY, oK, cE, mR, eQ, iW, fK, fS, eP, iA, gI, mU, iH, eE, fR, kO, lV, nN, oM, cT, gB, gV, eJ, gP, nT, bN, bG, bT, bU, cM, gL, eL, dJ, fQ, lH, kE, kF, fZ, iG, bV, bK, dS, gC, gF, mE, jG, iP, iK, jR, eY, dZ, kP, fJ, eN, gA, dC, fI, fA, hJ, iZ, jC, gH, iE, fC, dI, eH, bB, aN, dY, lL, nQ, uK, lM, fE, fB, fD, eI, mX, dD, dQ, cJ, lX, cN, dN, cZ, cK, dE, fL, gN, gY, iX, fN, iI, gM, gS, lB, eD, dK, kI, mF, kJ, fH, fO, fG, iC, d1]
  unfold LQ JR
  simp (disch := omega) only [aD, jH, aA, stepR_skip, bJ, fF, oS, oY, rL, xK, LC, MU, vI, pG, sT, dV, cY, aR, Ah, cX, nJ, LY, Pw, pL, bF, LX, A2, qW, pT, pS, Yc, Yy, Yk, x40, x41, x42, x43, aH, Result.ok.injEq, Next.value.injEq, true_and, and_true, aQ, kV, M1, L3, PO, xL, aLs, rC, iT, uX, cW, bL, cV, zM, vG, aG, aE, if_true, if_false, aLu, aLt, aLN, aMa, aLL, aLX, aLr, aLq, aP, aV, gT, dL, iS, dO, iJ, dT, sP, iR, aY, cC, hZ, bO, bR, kY, dF, bW, gO, bZ, bH, eF, cO, bQ, cD, jD, fT, bX, jB, jZ, gX, gG, dG, cA, jX, lO, fY, oK, cE, mR, eQ, iW, fK, fS, eP, iA, gI, mU, iH, eE, fR, kO, lV, nN, oM, cT, gB, gV, eJ, gP, nT, bN, bG, bT, bU, cM, gL, eL, dJ, fQ, lH, kE, kF, fZ, iG, bV, bK, dS, gC, gF, mE, jG, iP, iK, jR, eY, dZ, kP, fJ, eN, gA, dC, fI, fA, hJ, iZ, jC, gH, iE, fC, dI, eH, bB, aN, dY, lL, nQ, uK, lM, fE, fB, fD, eI, mX, dD, dQ, cJ, lX, cN, dN, cZ, cK, dE, fL, gN, gY, iX, fN, iI, gM, gS, lB, eD, dK, kI, mF, kJ, fH, fO, fG, iC]
  unfold Lw Ka JQ Kg Kf
  rw [<- hsz, <- ZM l d] at ob2
  refine cR.rule (fun m (t : aNY × aNY × aNY) w' => ∃ q code bits : Nat, m = d + 1 - q /\ t = (.int .i64 code, .int .i64 bits, .int .i64 q) /\ 1 <= q /\ q <= d + 1 /\ code < 2 ^ 20 /\ aDz l d q 0 code bits /\ eM w' pb (cc (uD l d q 0) ++ rest) /\ aW w2 w' (fun y => y = pb)) d
   ⟨1, 0, 0, by omega, rfl, by omega, by omega, by decide, .inl ⟨rfl, rfl, axJ l⟩, ob2, aW.refl _ _⟩ ?_
  rintro m t w3 ⟨q, code, bits, rfl, rfl, hq1, hqd, hcode, hlast8, o3, x3⟩
  unfold C9 JS
  by_cases hq : q <= d
  .have d2 : decide ((q : Int) <= (d : Int)) = true := by simp; omega
   simp (disch := omega) only [aD, jH, aA, stepR_skip, bJ, fF, oS, oY, rL, xK, LC, MU, vI, pG, sT, dV, cY, aR, Ah, cX, nJ, LY, Pw, pL, bF, LX, A2, qW, pT, pS, Yc, Yy, Yk, x40, x41, x42, x43, aH, Result.ok.injEq, Next.value.injEq, true_and, and_true, aQ, kV, M1, L3, PO, xL, aLs, rC, iT, uX, cW, bL, cV, zM, vG, aG, aE, if_true, if_false, aLu, aLt, aLN, aMa, aLL, aLX, aLr, aLq, aP, aV, gT, dL, iS, dO, iJ, dT, sP, iR, aY, cC, hZ, bO, bR, kY, dF, bW, gO, bZ, bH, eF, cO, bQ, cD, jD, fT, bX, jB, jZ, gX, gG, dG, cA, jX, lO, fY, oK, cE, mR, eQ, iW, fK, fS, eP, iA, gI, mU, iH, eE, fR, kO, lV, nN, oM, cT, gB, gV, eJ, gP, nT, bN, bG, bT, bU, cM, gL, eL, dJ, fQ, lH, kE, kF, fZ, iG, bV, bK, dS, gC, gF, mE, jG, iP, iK, jR, eY, dZ, kP, fJ, eN, gA, dC, fI, fA, hJ, iZ, jC, gH, iE, fC, dI, eH, bB, aN, dY, lL, nQ, uK, lM, fE, fB, fD, eI, mX, dD, dQ, cJ, lX, cN, dN, cZ, cK, dE, fL, gN, gY, iX, fN, iI, gM, gS, lB, eD, dK, kI, mF, kJ, fH, fO, fG, iC, d2]
   unfold J3 KR Uv Kp J5 JN
   refine cR.rule (fun m (t : aNY × aNY × aNY) w' => ∃ i code bits : Nat, m = x.size - i /\ t = (.int .i64 code, .int .i64 bits, .int .i64 i) /\ i <= x.size /\ code < 2 ^ 20 /\ aDz l d q i code bits /\ eM w' pb (cc (uD l d q i) ++ rest) /\ aW w2 w' (fun y => y = pb)) x.size
    ⟨0, code, bits, rfl, rfl, by omega, hcode, hlast8, o3, x3⟩ ?_
   rintro m t w4 ⟨i, code, bits, rfl, rfl, hi, hcode, hlast8, o4, x4⟩
   unfold DK Lg
   by_cases hlt : i < x.size
   .have d3 : decide ((i : Int) < (x.size : Int)) = true := by simp; omega
    have hg := agT hlt
    rw [hnl] at hg
    have hstep := aqP (l := l) (w := q) (i := i) (by omega)
    have hskip := aiU (l := l) (d := d) (w := q) (i := i) (by omega)
    have hset := arV (l := l) (d := d) (w := q) (i := i) (by omega)
    have hof := aBU (l := l) (w := q) (i := i)
    have hle := aFs (l := l) (d := d) (w := q) (i := i) hsum hall hq1 hq
    have hco : Fe l d i = if l.getD i 0 = 0 then (0, 0) else (d + 1 - l.getD i 0, O3 l i / 2 ^ (l.getD i 0 - 1)) := rfl
    have hdv := aEh (l := l) (s := i) (d := d) (by omega)
    have hy : l.getD i 0 < 256 := by rw [<- hnl]; exact Qn _ _ (tX (by rw [Jk]; exact hlt))
    generalize l.getD i 0 = y at *
    unfold Ks Kn UG PH
    by_cases hyq : y = q
    .subst hyq
     have n2 : ((y : Int) != (y : Int)) = false := by simp
     have e1 : (d : Int) + 1 - (y : Int) = ((d + 1 - y : Nat) : Int) := by omega
     rw [if_neg (by omega), <- hof rfl] at hco
     rw [if_pos rfl] at hstep
     have hset := hset rfl
     have hdv := hdv (by omega) hsum hq
     rw [<- hof rfl] at hdv
     rw [hco] at hset
     have hpx := aLW (y - 1)
     obtain ⟨cd, hcd⟩ := hdv
     have hdiv : EL l y i / 2 ^ (y - 1) = cd := by rw [hcd, aNr _ hpx]
     rw [hdiv] at hset
     have hcdl : cd <= EL l y i := by rw [<- hdiv]; exact aMu _ _
     have hl8' : aDz l d y (i + 1) cd (d + 1 - y) := by
      refine .inr ⟨y, hq1, aLF _, hq, rfl, ?_⟩
      rw [hstep, hcd, aMi, aL1 cd]; omega
     have fin : xY (fun cS mG aU cH cP vZ mY w => yB (fun _ _ _ cH cP _ mY w' => ∃ m, m < x.size - i /\ ∃ i' code bits : Nat, m = x.size - i' /\ (cH, cP, mY) = ((.int .i64 code : aNY), (.int .i64 bits : aNY), (.int .i64 i' : aNY)) /\ i' <= x.size /\ code < 2 ^ 20 /\ aDz l d y i' code bits /\ eM w' pb (cc (uD l d y i') ++ rest) /\ aW w2 w' (fun y => y = pb)) cS mG aU cH cP vZ mY w)
         (.string x) (.int .i64 d) (.slice (some ⟨pb, 0, none⟩) x.size cap) (.int .i64 cd) (.int .i64 y) (.int .i64 i) (.int .i64 (d + 1 - y : Nat)) w4 := by
      unfold xY
      simp (disch := omega) only [aD, jH, aA, stepR_skip, bJ, fF, oS, oY, rL, xK, LC, MU, vI, pG, sT, dV, cY, aR, Ah, cX, nJ, LY, Pw, pL, bF, LX, A2, qW, pT, pS, Yc, Yy, Yk, x40, x41, x42, x43, aH, Result.ok.injEq, Next.value.injEq, true_and, and_true, aQ, kV, M1, L3, PO, xL, aLs, rC, iT, uX, cW, bL, cV, zM, vG, aG, aE, if_true, if_false, aLu, aLt, aLN, aMa, aLL, aLX, aLr, aLq, aP, aV, gT, dL, iS, dO, iJ, dT, sP, iR, aY, cC, hZ, bO, bR, kY, dF, bW, gO, bZ, bH, eF, cO, bQ, cD, jD, fT, bX, jB, jZ, gX, gG, dG, cA, jX, lO, fY, oK, cE, mR, eQ, iW, fK, fS, eP, iA, gI, mU, iH, eE, fR, kO, lV, nN, oM, cT, gB, gV, eJ, gP, nT, bN, bG, bT, bU, cM, gL, eL, dJ, fQ, lH, kE, kF, fZ, iG, bV, bK, dS, gC, gF, mE, jG, iP, iK, jR, eY, dZ, kP, fJ, eN, gA, dC, fI, fA, hJ, iZ, jC, gH, iE, fC, dI, eH, bB, aN, dY, lL, nQ, uK, lM, fE, fB, fD, eI, mX, dD, dQ, cJ, lX, cN, dN, cZ, cK, dE, fL, gN, gY, iX, fN, iI, gM, gS, lB, eD, dK, kI, mF, kJ, fH, fO, fG, iC]
      refine Vz o4 rfl (by simp [one]) (by rw [aLz, EE, lW]; omega) fun w5 o5 x5 s5 => ?_
      simp only [bM] at o5
      have hcs := aEG (L := uD l d y i) (i := i) (d + 1 - y, cd) (by rw [lW]; omega)
      simp only at hcs
      rw [aMI _ _ (by rw [EE, lW]; omega), aMI _ _ (by rw [aNJ, EE, lW]; omega), hcs, hset] at o5
      unfold yB
      simp (disch := omega) only [aD, jH, aA, stepR_skip, bJ, fF, oS, oY, rL, xK, LC, MU, vI, pG, sT, dV, cY, aR, Ah, cX, nJ, LY, Pw, pL, bF, LX, A2, qW, pT, pS, Yc, Yy, Yk, x40, x41, x42, x43, aH, Result.ok.injEq, Next.value.injEq, true_and, and_true, aQ, kV, M1, L3, PO, xL, aLs, rC, iT, uX, cW, bL, cV, zM, vG, aG, aE, if_true, if_false, aLu, aLt, aLN, aMa, aLL, aLX, aLr, aLq, aP, aV, gT, dL, iS, dO, iJ, dT, sP, iR, aY, cC, hZ, bO, bR, kY, dF, bW, gO, bZ, bH, eF, cO, bQ, cD, jD, fT, bX, jB, jZ, gX, gG, dG, cA, jX, lO, fY, oK, cE, mR, eQ, iW, fK, fS, eP, iA, gI, mU, iH, eE, fR, kO, lV, nN, oM, cT, gB, gV, eJ, gP, nT, bN, bG, bT, bU, cM, gL, eL, dJ, fQ, lH, kE, kF, fZ, iG, bV, bK, dS, gC, gF, mE, jG, iP, iK, jR, eY, dZ, kP, fJ, eN, gA, dC, fI, fA, hJ, iZ, jC, gH, iE, fC, dI, eH, bB, aN, dY, lL, nQ, uK, lM, fE, fB, fD, eI, mX, dD, dQ, cJ, lX, cN, dN, cZ, cK, dE, fL, gN, gY, iX, fN, iI, gM, gS, lB, eD, dK, kI, mF, kJ, fH, fO, fG, iC]
      exact ⟨x.size - (i + 1), by omega, i + 1, cd, d + 1 - y, rfl, rfl, by omega, by omega, hl8', o5, x4.trans x5 fun _ _ h => h⟩
     rcases hlast8 with ⟨rfl, rfl, hat0⟩ | ⟨q0, h1, h2, h3, rfl, h5⟩
     .have hcd0 : cd = 0 := by
       rw [hat0] at hdiv
       rw [<- hdiv, Nat.zero_div]
      have d4 : decide ((0 : Int) < ((0 : Nat) : Int)) = false := rfl
      simp (disch := omega) only [aD, jH, aA, stepR_skip, bJ, fF, oS, oY, rL, xK, LC, MU, vI, pG, sT, dV, cY, aR, Ah, cX, nJ, LY, Pw, pL, bF, LX, A2, qW, pT, pS, Yc, Yy, Yk, x40, x41, x42, x43, aH, Result.ok.injEq, Next.value.injEq, true_and, and_true, aQ, kV, M1, L3, PO, xL, aLs, rC, iT, uX, cW, bL, cV, zM, vG, aG, aE, if_true, if_false, aLu, aLt, aLN, aMa, aLL, aLX, aLr, aLq, aP, aV, gT, dL, iS, dO, iJ, dT, sP, iR, aY, cC, hZ, bO, bR, kY, dF, bW, gO, bZ, bH, eF, cO, bQ, cD, jD, fT, bX, jB, jZ, gX, gG, dG, cA, jX, lO, fY, oK, cE, mR, eQ, iW, fK, fS, eP, iA, gI, mU, iH, eE, fR, kO, lV, nN, oM, cT, gB, gV, eJ, gP, nT, bN, bG, bT, bU, cM, gL, eL, dJ, fQ, lH, kE, kF, fZ, iG, bV, bK, dS, gC, gF, mE, jG, iP, iK, jR, eY, dZ, kP, fJ, eN, gA, dC, fI, fA, hJ, iZ, jC, gH, iE, fC, dI, eH, bB, aN, dY, lL, nQ, uK, lM, fE, fB, fD, eI, mX, dD, dQ, cJ, lX, cN, dN, cZ, cK, dE, fL, gN, gY, iX, fN, iI, gM, gS, lB, eD, dK, kI, mF, kJ, fH, fO, fG, iC, d3, hg, n2, e1, d4]
      refine aBl (c0 := 0) (b0 := 0) (now := d + 1 - y) (by decide) (by omega) (by omega) ?_
      rw [Nat.zero_div]
      subst hcd0
      exact fin
     .have d4 : decide ((0 : Int) < ((d + 1 - q0 : Nat) : Int)) = true := by simp only [decide_eq_true_eq]; omega
      have e2 : (code : Int) + 1 = ((code + 1 : Nat) : Int) := by omega
      have hcd2 : (code + 1) / 2 ^ (d + 1 - q0 - (d + 1 - y)) = cd := by
       rw [<- hdiv, <- h5, show d + 1 - q0 - (d + 1 - y) = y - q0 from by omega, show y - 1 = (y - q0) + (q0 - 1) from by omega, aMr, Nat.mul_div_mul_right _ _ (aLW _)]
      simp (disch := omega) only [aD, jH, aA, stepR_skip, bJ, fF, oS, oY, rL, xK, LC, MU, vI, pG, sT, dV, cY, aR, Ah, cX, nJ, LY, Pw, pL, bF, LX, A2, qW, pT, pS, Yc, Yy, Yk, x40, x41, x42, x43, aH, Result.ok.injEq, Next.value.injEq, true_and, and_true, aQ, kV, M1, L3, PO, xL, aLs, rC, iT, uX, cW, bL, cV, zM, vG, aG, aE, if_true, if_false, aLu, aLt, aLN, aMa, aLL, aLX, aLr, aLq, aP, aV, gT, dL, iS, dO, iJ, dT, sP, iR, aY, cC, hZ, bO, bR, kY, dF, bW, gO, bZ, bH, eF, cO, bQ, cD, jD, fT, bX, jB, jZ, gX, gG, dG, cA, jX, lO, fY, oK, cE, mR, eQ, iW, fK, fS, eP, iA, gI, mU, iH, eE, fR, kO, lV, nN, oM, cT, gB, gV, eJ, gP, nT, bN, bG, bT, bU, cM, gL, eL, dJ, fQ, lH, kE, kF, fZ, iG, bV, bK, dS, gC, gF, mE, jG, iP, iK, jR, eY, dZ, kP, fJ, eN, gA, dC, fI, fA, hJ, iZ, jC, gH, iE, fC, dI, eH, bB, aN, dY, lL, nQ, uK, lM, fE, fB, fD, eI, mX, dD, dQ, cJ, lX, cN, dN, cZ, cK, dE, fL, gN, gY, iX, fN, iI, gM, gS, lB, eD, dK, kI, mF, kJ, fH, fO, fG, iC, d3, hg, n2, e1, d4, e2]
      refine aBl (c0 := code + 1) (b0 := d + 1 - q0) (now := d + 1 - y) (by omega) (by omega) (by omega) ?_
      rw [hcd2]
      exact fin
    .have n2 : ((y : Int) != (q : Int)) = true := by simp; omega
     rw [if_neg hyq, aMA] at hstep
     have hskip := hskip hyq
     unfold yB
     simp (disch := omega) only [aD, jH, aA, stepR_skip, bJ, fF, oS, oY, rL, xK, LC, MU, vI, pG, sT, dV, cY, aR, Ah, cX, nJ, LY, Pw, pL, bF, LX, A2, qW, pT, pS, Yc, Yy, Yk, x40, x41, x42, x43, aH, Result.ok.injEq, Next.value.injEq, true_and, and_true, aQ, kV, M1, L3, PO, xL, aLs, rC, iT, uX, cW, bL, cV, zM, vG, aG, aE, if_true, if_false, aLu, aLt, aLN, aMa, aLL, aLX, aLr, aLq, aP, aV, gT, dL, iS, dO, iJ, dT, sP, iR, aY, cC, hZ, bO, bR, kY, dF, bW, gO, bZ, bH, eF, cO, bQ, cD, jD, fT, bX, jB, jZ, gX, gG, dG, cA, jX, lO, fY, oK, cE, mR, eQ, iW, fK, fS, eP, iA, gI, mU, iH, eE, fR, kO, lV, nN, oM, cT, gB, gV, eJ, gP, nT, bN, bG, bT, bU, cM, gL, eL, dJ, fQ, lH, kE, kF, fZ, iG, bV, bK, dS, gC, gF, mE, jG, iP, iK, jR, eY, dZ, kP, fJ, eN, gA, dC, fI, fA, hJ, iZ, jC, gH, iE, fC, dI, eH, bB, aN, dY, lL, nQ, uK, lM, fE, fB, fD, eI, mX, dD, dQ, cJ, lX, cN, dN, cZ, cK, dE, fL, gN, gY, iX, fN, iI, gM, gS, lB, eD, dK, kI, mF, kJ, fH, fO, fG, iC, d3, hg, n2]
     refine ⟨x.size - (i + 1), by omega, i + 1, code, bits, rfl, rfl, by omega, hcode, ?_, by rw [hskip]; exact o4, x4⟩
     rcases hlast8 with ⟨a1, a2, a3⟩ | ⟨q0, a1, a2, a3, a4, a5⟩
     .exact .inl ⟨a1, a2, by rw [hstep]; exact a3⟩
     .exact .inr ⟨q0, a1, a2, a3, a4, by rw [hstep]; exact a5⟩
   .have d3 : decide ((i : Int) < (x.size : Int)) = false := by simp; omega
    obtain rfl : i = x.size := by omega
    have e1 := aoR (l := l) (w := q) hq1
    have e2 := aiP (l := l) (d := d) (w := q)
    rw [hsz] at e1 e2
    rw [e2] at o4
    have hl8' : aDz l d (q + 1) 0 code bits := by
     rcases hlast8 with ⟨a1, a2, a3⟩ | ⟨q0, a1, a2, a3, a4, a5⟩
     .exact .inl ⟨a1, a2, by rw [<- e1]; exact a3⟩
     .exact .inr ⟨q0, a1, by omega, a3, a4, by rw [<- e1]; exact a5⟩
    unfold Fq
    simp (disch := omega) only [aD, jH, aA, stepR_skip, bJ, fF, oS, oY, rL, xK, LC, MU, vI, pG, sT, dV, cY, aR, Ah, cX, nJ, LY, Pw, pL, bF, LX, A2, qW, pT, pS, Yc, Yy, Yk, x40, x41, x42, x43, aH, Result.ok.injEq, Next.value.injEq, true_and, and_true, aQ, kV, M1, L3, PO, xL, aLs, rC, iT, uX, cW, bL, cV, zM, vG, aG, aE, if_true, if_false, aLu, aLt, aLN, aMa, aLL, aLX, aLr, aLq, aP, aV, gT, dL, iS, dO, iJ, dT, sP, iR, aY, cC, hZ, bO, bR, kY, dF, bW, gO, bZ, bH, eF, cO, bQ, cD, jD, fT, bX, jB, jZ, gX, gG, dG, cA, jX, lO, fY, oK, cE, mR, eQ, iW, fK, fS, eP, iA, gI, mU, iH, eE, fR, kO, lV, nN, oM, cT, gB, gV, eJ, gP, nT, bN, bG, bT, bU, cM, gL, eL, dJ, fQ, lH, kE, kF, fZ, iG, bV, bK, dS, gC, gF, mE, jG, iP, iK, jR, eY, dZ, kP, fJ, eN, gA, dC, fI, fA, hJ, iZ, jC, gH, iE, fC, dI, eH, bB, aN, dY, lL, nQ, uK, lM, fE, fB, fD, eI, mX, dD, dQ, cJ, lX, cN, dN, cZ, cK, dE, fL, gN, gY, iX, fN, iI, gM, gS, lB, eD, dK, kI, mF, kJ, fH, fO, fG, iC, d3]
    exact ⟨d + 1 - (q + 1), by omega, q + 1, code, bits, rfl, rfl, by omega, by omega, hcode, hl8', o4, x4⟩
  .have d2 : decide ((q : Int) <= (d : Int)) = false := by simp; omega
   rw [asT hall (by omega)] at o3
   unfold FD
   simp (disch := omega) only [aD, jH, aA, stepR_skip, bJ, fF, oS, oY, rL, xK, LC, MU, vI, pG, sT, dV, cY, aR, Ah, cX, nJ, LY, Pw, pL, bF, LX, A2, qW, pT, pS, Yc, Yy, Yk, x40, x41, x42, x43, aH, Result.ok.injEq, Next.value.injEq, true_and, and_true, aQ, kV, M1, L3, PO, xL, aLs, rC, iT, uX, cW, bL, cV, zM, vG, aG, aE, if_true, if_false, aLu, aLt, aLN, aMa, aLL, aLX, aLr, aLq, aP, aV, gT, dL, iS, dO, iJ, dT, sP, iR, aY, cC, hZ, bO, bR, kY, dF, bW, gO, bZ, bH, eF, cO, bQ, cD, jD, fT, bX, jB, jZ, gX, gG, dG, cA, jX, lO, fY, oK, cE, mR, eQ, iW, fK, fS, eP, iA, gI, mU, iH, eE, fR, kO, lV, nN, oM, cT, gB, gV, eJ, gP, nT, bN, bG, bT, bU, cM, gL, eL, dJ, fQ, lH, kE, kF, fZ, iG, bV, bK, dS, gC, gF, mE, jG, iP, iK, jR, eY, dZ, kP, fJ, eN, gA, dC, fI, fA, hJ, iZ, jC, gH, iE, fC, dI, eH, bB, aN, dY, lL, nQ, uK, lM, fE, fB, fD, eI, mX, dD, dQ, cJ, lX, cN, dN, cZ, cK, dE, fL, gN, gY, iX, fN, iI, gM, gS, lB, eD, dK, kI, mF, kJ, fH, fO, fG, iC, d2]
   exact ⟨pb, cap, rest, rfl, o3, x2.trans x3 fun _ hb h => by omega⟩
theorem ajY {x : ByteArray} {w : aNX} (hl : x.size <= 100000) (hd : jF (cF (fU x)) = 0) :
 aS pg Av #[.string x] w (fun r w' => r = .tuple #[.slice none 0 0, .int .i64 1] /\ w' = w) := by
 refine Sp ?_
 unfold Xw Dk C4
 refine (axT hl).mono ?_
 rintro r w1 ⟨rfl, rfl⟩
 rw [hd]
 have n1 : (((0 : Nat) : Int) == 0) = true := rfl
 simp (disch := omega) only [aD, jH, aA, stepR_skip, bJ, fF, oS, oY, rL, xK, LC, MU, vI, pG, sT, dV, cY, aR, Ah, cX, nJ, LY, Pw, pL, bF, LX, A2, qW, pT, pS, Yc, Yy, Yk, x40, x41, x42, x43, aH, Result.ok.injEq, Next.value.injEq, true_and, and_true, aQ, kV, M1, L3, PO, xL, aLs, rC, iT, uX, cW, bL, cV, zM, vG, aG, aE, if_true, if_false, aLu, aLt, aLN, aMa, aLL, aLX, aLr, aLq, aP, aV, gT, dL, iS, dO, iJ, dT, sP, iR, aY, cC, hZ, bO, bR, kY, dF, bW, gO, bZ, bH, eF, cO, bQ, cD, jD, fT, bX, jB, jZ, gX, gG, dG, cA, jX, lO, fY, oK, cE, mR, eQ, iW, fK, fS, eP, iA, gI, mU, iH, eE, fR, kO, lV, nN, oM, cT, gB, gV, eJ, gP, nT, bN, bG, bT, bU, cM, gL, eL, dJ, fQ, lH, kE, kF, fZ, iG, bV, bK, dS, gC, gF, mE, jG, iP, iK, jR, eY, dZ, kP, fJ, eN, gA, dC, fI, fA, hJ, iZ, jC, gH, iE, fC, dI, eH, bB, aN, dY, lL, nQ, uK, lM, fE, fB, fD, eI, mX, dD, dQ, cJ, lX, cN, dN, cZ, cK, dE, fL, gN, gY, iX, fN, iI, gM, gS, lB, eD, dK, kI, mF, kJ, fH, fO, fG, iC, n1]
theorem aDm {xw x : ByteArray} {n : Nat} {w : aNX} (hxw : xw.size <= 100000) (hx : x.size <= 1000000) (hn : n <= 100000) :
 aS pg Fb #[.string xw, .string x, .int .i64 n] w (fun r w' => zB (Vk (fU xw) (fU x) n) r /\ aW w w' eS) := by
 refine alN ?_
 obtain ⟨RR, hRR⟩ : ∃ RR : aNY -> aNX -> Prop, RR = fun r w' => zB (Vk (fU xw) (fU x) n) r /\ aW w w' eS := ⟨_, rfl⟩
 rw [<- hRR]
 have key : ∀ r w', zB (Vk (fU xw) (fU x) n) r -> aW w w' eS -> RR r w' := fun r w' h1 h2 => by rw [hRR]; exact ⟨h1, h2⟩
 unfold alH JZ
 by_cases hd : jF (cF (fU xw)) = 0
 .refine (ajY hxw hd).mono ?_
  rintro r w1 ⟨rfl, rfl⟩
  have n0 : ((1 : Int) != 0) = true := rfl
  simp (disch := omega) only [aD, pT, pS, aR, aA, bF, cY, n0, aG]
  exact key _ _ (by unfold Vk; rw [if_pos hd] <;> rfl) (aW.refl _ _)
 .obtain ⟨hF, hm, hC⟩ := WOk.full hd
  have hlen : xw.size = (wC (fU xw)).length := by rw [uO, aLD]; exact (eU xw).symm
  refine (aAf rfl hd).mono ?_
  rintro r w1 ⟨b, cap, rest, rfl, ob, x1⟩
  have n0 : ((0 : Int) != 0) = false := rfl
  have d1 : decide ((n : Int) < 0) = false := decide_eq_false (by omega)
  have d2 : decide (131072 < (n : Int)) = false := decide_eq_false (by omega)
  have d3 : decide ((n : Int) > 131072) = false := decide_eq_false (by omega)
  simp (disch := omega) only [aD, pT, pS, aR, d1, aA, cW, bF, aLu, if_false, bL, cX, d2, aE, cY, n0]
  rw [hlen]
  refine (asY hF hm hC ob hx hn).mono ?_
  rintro r w2 ⟨hr, x2⟩
  have hh : Vk (fU xw) (fU x) n = rU (wC (fU xw)) (fU x) n := by unfold Vk; rw [if_neg hd]
  rw [hh] at key
  cases hs : rU (wC (fU xw)) (fU x) n with
  | error e =>
    rw [hs] at hr key
    obtain rfl : r = .tuple #[.string ⟨#[]⟩, .int .i64 e] := hr
    simp (disch := omega) only [pT, pS, aA]
    exact key _ _ rfl (x1.seq x2)
  | ok m =>
    rw [hs] at hr key
    obtain rfl : r = .tuple #[.string ⟨(nX m).toArray⟩, .int .i64 0] := hr
    simp (disch := omega) only [pT, pS, aA]
    exact key _ _ rfl (x1.seq x2)
theorem aDY {kn : K9} {RR : aNY -> aNX -> Prop} {n2 k10 a b c iv : aNY} {cb cap p k m : Nat} {C : List (Nat × Nat)} {rest : List aNY} {x out : ByteArray} {w : aNX} (hF : Yv C (pM C)) (hm : pM C <= 11) (hC : C.length <= 256) (oc : eM w cb (cc C ++ rest)) (hne : cb ≠ p)
 (o : eM w p [.string x, .int .i64 0]) (hk : k <= (fU x).length) (hx : x.size <= 1000000) (hmn : m <= 100000) (hout : out.size <= 10000000)
 (kerr : ∀ e w', rU C ((fU x).take k) m = .error e -> aW w w' (fun y => y = p) -> RR (.tuple #[.string ⟨#[]⟩, .int .i64 e]) w')
 (kok : ∀ ms x' out' w', rU C ((fU x).take k) m = .ok ms -> eM w' p [.string x', .int .i64 0] -> fU x' = (fU x).drop k -> fU out' = fU out ++ nX ms -> aW w w' (fun y => y = p) -> kn n2 (.slice (some ⟨cb, 0, none⟩) C.length cap) k10 (.pointer (some ⟨p, 0, none⟩)) a b c (.string out') iv w') :
 uT kn RR n2 (.slice (some ⟨cb, 0, none⟩) C.length cap) k10 (.pointer (some ⟨p, 0, none⟩)) a b c (.string out) iv (.int .i64 m) (.int .i64 k) w := by
 unfold uT
 have q := mT (off := 0) o (by simp)
 simp only [aLy, aLx, aLB] at q
 simp (disch := omega) only [aD, q, aA]
 refine (aBd (x := x) (e := 0) (n := k)).mono ?_
 rintro r w1 ⟨x', s, rfl, hx', hs, x1⟩
 have ht : Aw (fU x) 0 k = ((fU x).take k, (fU x).drop k, 0) := by unfold Aw; rw [if_neg (by simp), if_neg (by omega)]
 rw [ht] at hx' hs ⊢
 simp only at hx' hs ⊢
 have hss : s.size <= 1000000 := by
  have h1 := eU s
  have h2 := eU x
  rw [hs, aLG] at h1
  omega
 simp (disch := omega) only [pT, pS, aA]
 refine tC fun w2 o2 x2 s2 => ?_
 refine lY o2 rfl (by simp [one]) (by simp) fun w3 o3 x3 s3 => ?_
 simp only [bM, aLw, aLv] at o3
 have q3 := mT (off := 0) o3 (by simp)
 simp only [aLy, aLx, aLB] at q3
 have x13 : aW w1 w3 eS := x2.new x3 (by omega)
 have x03 := x1.seq x13
 simp (disch := omega) only [q3, aA]
 refine lY (o.ext x03 (fun h => h)) rfl (by simp [one]) (by simp) fun w4 o4 x4 s4 => ?_
 simp only [bM, aLw, aLv] at o4
 have x04 : aW w w4 (fun y => y = p) := (x03.mono fun _ _ h => h.elim).seq x4
 refine (asY (x := s) hF hm hC (oc.ext x04 hne) hss hmn).mono ?_
 rintro r w5 ⟨hr, x5⟩
 rw [hs] at hr
 have x05 : aW w w5 (fun y => y = p) := x04.seq (x5.mono fun _ _ h => h.elim)
 cases hd : rU C ((fU x).take k) m with
 | error e =>
   rw [hd] at hr
   obtain rfl : r = .tuple #[.string ⟨#[]⟩, .int .i64 e] := hr
   have n1 : (e != 0) = true := by have := XZ hd; simp; omega
   simp (disch := omega) only [pT, pS, aA, cY, n1, aG]
   exact kerr e w5 hd x05
 | ok ms =>
   rw [hd] at hr
   obtain rfl : r = .tuple #[.string ⟨(nX ms).toArray⟩, .int .i64 0] := hr
   have n1 : ((0 : Int) != 0) = false := rfl
   have hml := aqI hd
   have hz : (⟨(nX ms).toArray⟩ : ByteArray).size = m := by rw [<- eU, Nm]; simp [nX, hml]
   have hcat : ((out.size + (⟨(nX ms).toArray⟩ : ByteArray).size : Nat) : Int) <= 9223372036854775807 := by rw [hz]; omega
   generalize hy : (⟨(nX ms).toArray⟩ : ByteArray) = y at *
   simp (disch := omega) only [pT, pS, aA, cY, n1, aE, aEs]
   refine kok ms x' _ w5 hd (o4.ext x5 (fun h => h)) hx' ?_ x05
   rw [ayX, <- hy]
   exact congrArg (fU out ++ ·) (Nm (nX ms))
abbrev q4 (a b c d q m : Nat) : List (Nat × Nat) := [(a, q), (b, q), (c, q), (d, m)]
theorem aHI (a b : List Nat) : nX (a ++ b) = nX a ++ nX b := aLS
theorem aER {RR : aNY -> aNX -> Prop} {cb cap p n q na nb nc nd : Nat} {C : List (Nat × Nat)} {rest : List aNY} {x : ByteArray} {w : aNX} (hF : Yv C (pM C)) (hm : pM C <= 11) (hC : C.length <= 256) (oc : eM w cb (cc C ++ rest)) (hne : cb ≠ p)
 (o : eM w p [.string x, .int .i64 0]) (hx : (fU x).length = na + nb + nc + nd) (hxl : (fU x).length <= 1000000) (hq : 3 * q <= n) (hn : n <= 100000)
 (hk : ∀ r w', zB (EM C (fU x) (q4 na nb nc nd q (n - 3 * q))) r -> aW w w' (fun y => y = p) -> RR r w') :
 AX RR (.int .i64 n) (.slice (some ⟨cb, 0, none⟩) C.length cap) (.int .i64 q) (.pointer (some ⟨p, 0, none⟩)) (.int .u64 na) (.int .u64 nb) (.int .u64 nc) (.string ⟨#[]⟩) w := by
 unfold AX Fl FH Gj GH
 obtain ⟨L4, hL4⟩ : ∃ L, L = q4 na nb nc nd q (n - 3 * q) := ⟨_, rfl⟩
 rw [<- hL4] at hk
 obtain ⟨G, hG⟩ : ∃ G, G = EM C (fU x) L4 := ⟨_, rfl⟩
 rw [<- hG] at hk
 have hlp := o.lt
 refine cR.rule (fun k (t : aNY × aNY) w' => ∃ (i : Nat) (acc : List Nat) (y out : ByteArray), k = 4 - i /\ t = (.string out, .int .i64 i) /\ i <= 4 /\ XL acc (EM C (fU y) (L4.drop i)) = G /\ eM w' p [.string y, .int .i64 0] /\ fU out = nX acc /\ acc.length <= i * n /\ (fU y).length = ((L4.drop i).map Prod.fst).sum /\ aW w w' (fun y => y = p)) 4
  ⟨0, [], x, ⟨#[]⟩, rfl, rfl, by omega, ?_, o, rfl, by simp, ?_, aW.refl _ _⟩ ?_
 .rw [hG, aLy]; unfold XL; cases EM C (fU x) L4 <;> rfl
 .rw [hL4, hx]; simp; omega
 rintro k t w1 ⟨i, acc, y, out, rfl, rfl, hi, hGc, o1, hout, hacc, hy, x1⟩
 have oc1 := oc.ext x1 hne
 have hosz : out.size <= 10000000 := by
  have h1 := eU out
  rw [hout, aLD] at h1
  have : i * n <= 4 * n := aLY _ hi
  omega
 unfold B2 HA
 by_cases hlt : i < 4
 .have d1 : decide ((i : Int) < 4) = true := by simp; omega
  simp (disch := omega) only [aD, aR, d1, aA, aG]
  unfold Ik H4 Sv Ix
  refine akS (cells := #[.int .u64 na, .int .u64 nb, .int .u64 nc, .int .u64 0]) (by decide) (by decide) (by kernel_rfl) fun w2 o2 x2 s2 => ?_
  have ysz : y.size <= 1000000 := by
   have h1 := eU y
   rw [hy, hL4] at h1
   rcases (show i = 0 ∨ i = 1 ∨ i = 2 ∨ i = 3 by omega) with rfl | rfl | rfl | rfl <;> (simp at h1; omega)
  have o12 := o1.ext x2 (fun h => h)
  have oc2 := oc1.ext x2 (fun h => h)
  have step : ∀ (kk m : Nat) (R' : List (Nat × Nat)) (kn : K9), L4.drop i = (kk, m) :: R' -> m <= n -> R' = L4.drop (i + 1) →
      (∀ (acc : List Nat) (y out : ByteArray) (w' : aNX), XL acc (EM C (fU y) (L4.drop (i + 1))) = G -> eM w' p [.string y, .int .i64 0] -> fU out = nX acc -> acc.length <= (i + 1) * n -> (fU y).length = ((L4.drop (i + 1)).map Prod.fst).sum -> aW w w' (fun y => y = p) →
        kn (.int .i64 n) (.slice (some ⟨cb, 0, none⟩) C.length cap) (.int .i64 q) (.pointer (some ⟨p, 0, none⟩)) (.int .u64 na) (.int .u64 nb) (.int .u64 nc) (.string out) (.int .i64 i) w') →
      uT kn RR (.int .i64 n) (.slice (some ⟨cb, 0, none⟩) C.length cap) (.int .i64 q) (.pointer (some ⟨p, 0, none⟩)) (.int .u64 na) (.int .u64 nb) (.int .u64 nc) (.string out) (.int .i64 i) (.int .i64 m) (.int .i64 kk) w2 := by
   intro kk m R' kn hd hmn hR hkn
   rw [hd, aME, List.sum_cons] at hy
   simp only at hy
   rw [hd, aqZ] at hGc
   refine aDY hF hm hC oc2 hne o12 (by omega) ysz (by omega) hosz ?_ ?_
   .intro e w' he x'
    rw [he] at hGc
    refine hk _ _ ?_ ((x1.seq (x2.mono fun _ _ h => h.elim)).seq x')
    rw [<- hGc]
    rfl
   .intro ms y' out' w' he o' hy' ho' x'
    rw [he] at hGc
    have hml := aqI he
    refine hkn (acc ++ ms) y' out' w' ?_ o' ?_ ?_ ?_ ((x1.seq (x2.mono fun _ _ h => h.elim)).seq x')
    .rw [hy', <- hR]; exact hGc
    .rw [ho', hout, aHI]
    .rw [aLz, Nat.succ_mul]; omega
    .rw [hy', aLM, <- hR]; omega
  have fin : ∀ (acc : List Nat) (y out : ByteArray) (w' : aNX), XL acc (EM C (fU y) (L4.drop (i + 1))) = G -> eM w' p [.string y, .int .i64 0] -> fU out = nX acc -> acc.length <= (i + 1) * n -> (fU y).length = ((L4.drop (i + 1)).map Prod.fst).sum -> aW w w' (fun y => y = p) →
      ∃ k', k' < 4 - i /\ ∃ (i' : Nat) (acc : List Nat) (y out' : ByteArray), k' = 4 - i' /\ ((Value.string out, Value.int .i64 ((i : Int) + 1)) : aNY × aNY) = (.string out', .int .i64 i') /\ i' <= 4 /\ XL acc (EM C (fU y) (L4.drop i')) = G /\ eM w' p [.string y, .int .i64 0] /\ fU out' = nX acc /\ acc.length <= i' * n /\ (fU y).length = ((L4.drop i').map Prod.fst).sum /\ aW w w' (fun y => y = p) :=
   fun acc y out w' h1 h2 h3 h4 h5 h6 => ⟨4 - (i + 1), by omega, i + 1, acc, y, out, rfl, by simp, by omega, h1, h2, h3, h4, h5, h6⟩
  have k := fun j => o2.cell (off := j)
  have kk0 := k 0
  have kk1 := k 1
  have kk2 := k 2
  have kk3 := k 3
  simp only [aLq, aLr] at kk0 kk1 kk2 kk3
  have ky := o12.cell (off := 0)
  simp only [aLq] at ky
  have ysl := eU y
  clear k
  rcases (show i = 0 ∨ i = 1 ∨ i = 2 ∨ i = 3 by omega) with rfl | rfl | rfl | rfl
  .have t0 : (0 : Int).toNat = 0 := rfl
   have ti : (((0 : Nat) : Int)).toNat = 0 := rfl
   have n1 : ((((0 : Nat) : Int)) == 3) = false := rfl
   have wv : IntKind.i64.wrap (na : Int) = (na : Int) := aQ (by omega) (by omega)
   simp (disch := omega) only [aD, kY, ti, aLt, dV, n1, oS, aQ, cE, aA, mR, fF, aE, gT, kk0, aH, bX, wv]
   refine step na q _ _ (by rw [hL4] <;> rfl) (by omega) (by rw [hL4] <;> rfl) fun acc y out w' h1 h2 h3 h4 h5 h6 => ?_
   unfold sO
   simp (disch := omega) only [aD, bJ, aQ, aA]
   exact fin acc y out w' h1 h2 h3 h4 h5 h6
  .have t0 : (0 : Int).toNat = 0 := rfl
   have ti : (((1 : Nat) : Int)).toNat = 1 := rfl
   have n1 : ((((1 : Nat) : Int)) == 3) = false := rfl
   have wv : IntKind.i64.wrap (nb : Int) = (nb : Int) := aQ (by omega) (by omega)
   simp (disch := omega) only [aD, kY, ti, aLt, dV, n1, oS, aQ, cE, aA, mR, fF, aE, gT, kk1, aH, bX, wv]
   refine step nb q _ _ (by rw [hL4] <;> rfl) (by omega) (by rw [hL4] <;> rfl) fun acc y out w' h1 h2 h3 h4 h5 h6 => ?_
   unfold sO
   simp (disch := omega) only [aD, bJ, aQ, aA]
   exact fin acc y out w' h1 h2 h3 h4 h5 h6
  .have t0 : (0 : Int).toNat = 0 := rfl
   have ti : (((2 : Nat) : Int)).toNat = 2 := rfl
   have n1 : ((((2 : Nat) : Int)) == 3) = false := rfl
   have wv : IntKind.i64.wrap (nc : Int) = (nc : Int) := aQ (by omega) (by omega)
   simp (disch := omega) only [aD, kY, ti, aLt, dV, n1, oS, aQ, cE, aA, mR, fF, aE, gT, kk2, aH, bX, wv]
   refine step nc q _ _ (by rw [hL4] <;> rfl) (by omega) (by rw [hL4] <;> rfl) fun acc y out w' h1 h2 h3 h4 h5 h6 => ?_
   unfold sO
   simp (disch := omega) only [aD, bJ, aQ, aA]
   exact fin acc y out w' h1 h2 h3 h4 h5 h6
  .have t0 : (0 : Int).toNat = 0 := rfl
   have ti : (((3 : Nat) : Int)).toNat = 3 := rfl
   have n1 : ((((3 : Nat) : Int)) == 3) = true := rfl
   have e1 : (n : Int) - 3 * (q : Int) = ((n - 3 * q : Nat) : Int) := by omega
   have hnd : y.size = nd := by rw [<- ysl, hy, hL4]; simp
   have w0 : IntKind.i64.wrap 0 = 0 := rfl
   simp (disch := omega) only [aD, kY, ti, aLt, dV, n1, oS, aQ, cE, aA, mR, fF, e1, aG, gT, kk3, aH, bX, w0, ky, dL, hnd]
   refine step nd (n - 3 * q) _ _ (by rw [hL4] <;> rfl) (by omega) (by rw [hL4] <;> rfl) fun acc y out w' h1 h2 h3 h4 h5 h6 => ?_
   unfold sO
   simp (disch := omega) only [aD, bJ, aQ, aA]
   exact fin acc y out w' h1 h2 h3 h4 h5 h6
 .have d1 : decide ((i : Int) < 4) = false := by simp; omega
  have hi4 : i = 4 := by omega
  subst hi4
  have d1 : decide (((4 : Nat) : Int) < 4) = false := rfl
  simp (disch := omega) only [aD, aR, d1, aA, aE]
  unfold B5
  refine hk _ _ ?_ x1
  rw [<- hGc, hL4]
  show Value.tuple #[.string out, .int .i64 0] = Value.tuple #[.string ⟨(nX (acc ++ [])).toArray⟩, .int .i64 0]
  rw [aMd, <- hout]
  rfl
theorem aBQ {xw x : ByteArray} {n : Nat} {w : aNX} (hxw : xw.size <= 100000) (hx : x.size <= 1000000) (hn : n <= 100000) :
 aS pg Dm #[.string xw, .string x, .int .i64 n] w (fun r w' => zB (Jw (fU xw) (fU x) n) r /\ aW w w' eS) := by
 refine aeO ?_
 obtain ⟨RR, hRR⟩ : ∃ RR : aNY -> aNX -> Prop, RR = fun r w' => zB (Jw (fU xw) (fU x) n) r /\ aW w w' eS := ⟨_, rfl⟩
 rw [<- hRR]
 have key : ∀ r w', zB (Jw (fU xw) (fU x) n) r -> aW w w' eS -> RR r w' := fun r w' h1 h2 => by rw [hRR]; exact ⟨h1, h2⟩
 have hxl := eU x
 unfold ZN G5 Gu
 by_cases hd : jF (cF (fU xw)) = 0
 .refine (ajY hxw hd).mono ?_
  rintro r w1 ⟨rfl, rfl⟩
  have n0 : ((1 : Int) != 0) = true := rfl
  simp (disch := omega) only [aD, pT, pS, aR, bJ, aQ, dF, aA, oY, oS, cX, bF, cY, n0, aG]
  exact key _ _ (by unfold Jw; rw [if_pos hd] <;> rfl) (aW.refl _ _)
 obtain ⟨hF, hm, hC⟩ := WOk.full hd
 have hlen : xw.size = (wC (fU xw)).length := by rw [uO, aLD]; exact (eU xw).symm
 refine (aAf rfl hd).mono ?_
 rintro r w1 ⟨b, cap, rest, rfl, ob, x1⟩
 have n0 : ((0 : Int) != 0) = false := rfl
 have d1 : decide ((n : Int) < 0) = false := decide_eq_false (by omega)
 have d2 : decide (131072 < (n : Int)) = false := decide_eq_false (by omega)
 have d3 : decide ((n : Int) > 131072) = false := decide_eq_false (by omega)
 obtain ⟨q, hq⟩ : ∃ q, q = (n + 3) / 4 := ⟨_, rfl⟩
 have eq : ((n : Int) + 3).tdiv 4 = (q : Int) := by rw [aLK (by omega), hq]; omega
 rw [hlen]
 have hH : Jw (fU xw) (fU x) n = if n < 3 * q then .error 11 else if (fU x).length < 6 then .error 10 else if ((fU x).drop 6).length < nA (fU x) + nB (fU x) + nC (fU x) then .error 10
     else EM (wC (fU xw)) ((fU x).drop 6) [(nA (fU x), q), (nB (fU x), q), (nC (fU x), q), (((fU x).drop 6).length - (nA (fU x) + nB (fU x) + nC (fU x)), n - 3 * q)] := by
  unfold Jw; rw [if_neg hd, hq]
 rw [hH] at key
 by_cases h3 : n < 3 * q
 .have d4 : decide ((n : Int) < 3 * (q : Int)) = true := decide_eq_true (by omega)
  have d5 : decide (3 * (q : Int) > (n : Int)) = true := decide_eq_true (by omega)
  rw [if_pos h3] at key
  simp (disch := omega) only [aD, pT, pS, aR, d1, bJ, aQ, dF, aA, oY, eq, oS, cX, d4, aG, cW, bF, aLu, if_false, bL, d2, aE, cY, n0]
  exact key _ _ rfl x1
 rw [if_neg h3] at key
 have d4 : decide ((n : Int) < 3 * (q : Int)) = false := decide_eq_false (by omega)
 have d5 : decide (3 * (q : Int) > (n : Int)) = false := decide_eq_false (by omega)
 simp (disch := omega) only [aD, pT, pS, aR, d1, bJ, aQ, dF, aA, oY, eq, oS, cX, d4, aE, cW, bF, aLu, if_false, bL, d2, cY, n0]
 refine tC fun w2 o2 x2 s2 => ?_
 refine lY o2 rfl (by simp [one]) (by simp) fun w3 o3 x3 s3 => ?_
 simp only [bM, aLw, aLv] at o3
 have x13 : aW w1 w3 eS := x2.new x3 (by omega)
 have lb := ob.lt
 obtain ⟨p, hp⟩ : ∃ p, p = w1.heap.size := ⟨_, rfl⟩
 rw [<- hp] at o3 ⊢
 have num : ∀ {y : ByteArray} {e : Int} {w : aNX}, eM w p [.string y, .int .i64 e] -> (aL 45 (.pointer (some ⟨p, 0, none⟩))).run pg w = .ok (.value (rv y e)) w := by
  intro y e w o
  have q := mT (off := 0) o (by simp)
  simp only [aLy, aLx, aLB] at q
  exact q
 have q3 := num o3
 simp (disch := omega) only [q3, bW, aLt, cE, aA, gO]
 refine (IC (x := x) (e := 0) (n := 2) (by omega)).mono ?_
 rintro r w4 ⟨y1, rfl, hy1, x4⟩
 simp (disch := omega) only [pT, pS, aA]
 refine lY (o3.ext x4 (fun h => h)) rfl (by simp [one]) (by simp) fun w5 o5 x5 s5 => ?_
 simp only [bM, aLw, aLv] at o5
 have q5 := num o5
 simp (disch := omega) only [q5, aA]
 refine (IC (x := y1) (n := 2) (by omega)).mono ?_
 rintro r w6 ⟨y2, rfl, hy2, x6⟩
 simp (disch := omega) only [pT, pS, aA]
 refine lY (o5.ext x6 (fun h => h)) rfl (by simp [one]) (by simp) fun w7 o7 x7 s7 => ?_
 simp only [bM, aLw, aLv] at o7
 have q7 := num o7
 simp (disch := omega) only [q7, aA]
 refine (IC (x := y2) (n := 2) (by omega)).mono ?_
 rintro r w8 ⟨y3, rfl, hy3, x8⟩
 simp (disch := omega) only [pT, pS, aA]
 refine lY (o7.ext x8 (fun h => h)) rfl (by simp [one]) (by simp) fun w9 o9 x9 s9 => ?_
 simp only [bM, aLw, aLv] at o9
 have x39 : aW w3 w9 (fun y => y = p) := ((((x4.mono fun _ _ h => h.elim).seq x5).seq ((x6.mono fun _ _ h => h.elim).seq x7)).seq ((x8.mono fun _ _ h => h.elim).seq x9))
 have x03 := x1.seq x13
 have z1 := x1.size
 have x09 : aW w w9 eS := x03.trans x39 fun y hy h => by omega
 have ob9 := (ob.ext x13 (fun h => h)).ext x39 (by omega)
 have e1 : Aw (fU x) 0 2 = (Aw (nx (fU x) 0).1 (nx (fU x) 0).2 2) := rfl
 have v1 : sD (Aw (fU x) 0 2).1 = nv (fU x) 0 := rfl
 have f1 : (Aw (fU x) 0 2).2.2 = (nx (fU x) 1).2 := rfl
 have g1 : fU y1 = (nx (fU x) 1).1 := hy1
 rw [g1, f1] at hy2
 have v2 : sD (Aw (fU y1) (Aw (fU x) 0 2).2.2 2).1 = nv (fU x) 1 := by rw [g1] <;> rfl
 have f2 : (Aw (fU y1) (Aw (fU x) 0 2).2.2 2).2.2 = (nx (fU x) 2).2 := by rw [g1] <;> rfl
 have g2 : fU y2 = (nx (fU x) 2).1 := hy2
 rw [f2, g2] at hy3
 have v3 : sD (Aw (fU y2) (Aw (fU y1) (Aw (fU x) 0 2).2.2 2).2.2 2).1 = nv (fU x) 2 := by rw [f2, g2] <;> rfl
 have f3 : (Aw (fU y2) (Aw (fU y1) (Aw (fU x) 0 2).2.2 2).2.2 2).2.2 = (nx (fU x) 3).2 := by rw [f2, g2] <;> rfl
 have g3 : fU y3 = (nx (fU x) 3).1 := hy3
 rw [f3] at o9
 rw [v1, v2, v3]
 generalize fU x = l at *
 have k0 := o9.cell (off := 0)
 have k1 := o9.cell (off := 1)
 simp only [aLq, aLr] at k0 k1
 by_cases h6 : l.length < 6
 .have hb := aHh h6
  rw [if_pos h6] at key
  rw [hb] at k1
  have n1 : ((10 : Int) != 0) = true := rfl
  simp (disch := omega) only [k1, aH, aA, cY, n1, iT, bF, if_true, aG, cV]
  exact key _ _ rfl x09
 obtain ⟨_, _, h1, h2, h3', h4⟩ := aJn (l := l) (by omega)
 rw [if_neg h6] at key
 have g3 : fU y3 = l.drop 6 := by rw [g3, h1]
 rw [h1] at k1
 rw [h2, h3', h4]
 have n1 : ((0 : Int) != 0) = false := rfl
 have b1 : nA l < 65536 := by rw [<- h2]; exact ayC
 have b2 : nB l < 65536 := by rw [<- h3']; exact ayC
 have b3 : nC l < 65536 := by rw [<- h4]; exact ayC
 have ysz : y3.size = (l.drop 6).length := by rw [<- eU, g3]
 have hl6 : (l.drop 6).length <= 1000000 := by rw [aLM]; omega
 have wy : IntKind.u64.wrap (((l.drop 6).length : Nat) : Int) = (((l.drop 6).length : Nat) : Int) := kV (by omega) (by omega)
 have ea : ((nA l : Int) + (nB l : Int)) = ((nA l + nB l : Nat) : Int) := by omega
 have eb : (((nA l + nB l : Nat) : Int) + (nC l : Int)) = ((nA l + nB l + nC l : Nat) : Int) := by omega
 have wa : IntKind.u64.wrap ((nA l + nB l : Nat) : Int) = ((nA l + nB l : Nat) : Int) := kV (by omega) (by omega)
 have wb : IntKind.u64.wrap ((nA l + nB l + nC l : Nat) : Int) = ((nA l + nB l + nC l : Nat) : Int) := kV (by omega) (by omega)
 by_cases hs : (l.drop 6).length < nA l + nB l + nC l
 .have d6 : decide ((((l.drop 6).length : Nat) : Int) < ((nA l + nB l + nC l : Nat) : Int)) = true := decide_eq_true (by omega)
  rw [if_pos hs] at key
  simp (disch := omega) only [k1, aH, aA, cY, n1, cW, bF, aLu, if_false, bL, bJ, ea, wa, eb, wb, mR, k0, dL, ysz, fT, wy, aR, d6, aG]
  exact key _ _ rfl x09
 .have d6 : decide ((((l.drop 6).length : Nat) : Int) < ((nA l + nB l + nC l : Nat) : Int)) = false := decide_eq_false (by omega)
  rw [if_neg hs] at key
  simp (disch := omega) only [k1, aH, aA, cY, n1, cW, bF, aLu, if_false, bL, bJ, ea, wa, eb, wb, mR, k0, dL, ysz, fT, wy, aR, d6, aE]
  rw [h1] at o9
  refine aER (nd := (l.drop 6).length - (nA l + nB l + nC l)) (x := y3) hF hm hC ob9 (by omega) o9 (by rw [g3]; omega) (by rw [g3]; omega) (by omega) hn ?_
  intro r w' hr x'
  rw [g3] at hr
  exact key _ _ hr (x09.trans x' fun y hy h => by omega)
def WR (o : Except Int (List UInt8 × List UInt8 × Nat)) (r : aNY) : Prop := match o with
 | .error e => r = .tuple #[.string ⟨#[]⟩, .string ⟨#[]⟩, .int .i64 0, .int .i64 e]
 | .ok (m, u, n) => r = .tuple #[.string ⟨m.toArray⟩, .string ⟨u.toArray⟩, .int .i64 (n : Nat), .int .i64 0]
theorem aAO {RR : aNY -> aNX -> Prop} {H : LH} {xw y : ByteArray} {q : Nat} {w : aNX} (oq : eM w q (rhC H)) (hxw : xw.size <= 100000) (hy : y.size <= 1000000) (hc : H.count <= 100000) (hf : H.form < 4)
 (hk : ∀ r w', WR (aiQ H (fU xw) (fU y)) r -> aW w w' eS -> RR r w') :
 IV RR (.pointer (some ⟨q, 0, none⟩)) (.int .i64 (H.size + Cx H : Nat)) (.string y) (.string xw) w := by
 unfold IV RN
 have k1 := oq.cell (off := 1)
 have k3 := oq.cell (off := 3)
 simp only [aLq, aLr] at k1 k3
 have hll := eU xw
 by_cases h0 : (fU xw).length = 0
 .have hxe : xw = ⟨#[]⟩ := X4 (by have := aL4.1 h0; rw [this] <;> rfl)
  subst hxe
  simp (disch := omega) only [aD, AJ, akM, cC, aLt, aV, aA, gT, aG]
  exact hk _ _ (by unfold aiQ; rw [if_pos h0] <;> rfl) (aW.refl _ _)
 have hen := apJ (x := xw) (by omega)
 have hP : aiQ H (fU xw) (fU y) = match TB H (fU xw) (fU y) with | .error e => .error e | .ok m => .ok (nX m, fU xw, H.size + Cx H) := by
  unfold aiQ; rw [if_neg h0] <;> (cases TB H (fU xw) (fU y) <;> rfl)
 rw [hP] at hk
 have wc : IntKind.i64.wrap (H.count : Int) = (H.count : Int) := aQ (by omega) (by omega)
 have fin : ∀ {r : aNY} {w1 : aNX}, zB (TB H (fU xw) (fU y)) r -> aW w w1 eS →
     aD pg (bP r 0) w1 fun t99 w2 => aD pg (bP r 1) w2 fun t100 w3 => As RR t100 (.int .i64 (H.size + Cx H : Nat)) (.string xw) t99 w3 := by
  intro r w1 hr x1
  cases hd : TB H (fU xw) (fU y) with
  | error e =>
    rw [hd] at hr hk
    obtain rfl : r = .tuple #[.string ⟨#[]⟩, .int .i64 e] := hr
    have n1 : (e != 0) = true := by simp [aDB hd]
    unfold As
    simp (disch := omega) only [aD, pT, pS, aA, cY, n1, aG]
    exact hk _ _ rfl x1
  | ok m =>
    rw [hd] at hr hk
    obtain rfl : r = .tuple #[.string ⟨(nX m).toArray⟩, .int .i64 0] := hr
    have n1 : ((0 : Int) != 0) = false := rfl
    unfold As
    simp (disch := omega) only [aD, pT, pS, aA, cY, n1, aE]
    exact hk _ _ rfl x1
 by_cases h1 : H.form = 0
 .have n0 : ((H.form : Int) == 0) = true := by rw [h1] <;> rfl
  have hD : TB H (fU xw) (fU y) = Vk (fU xw) (fU y) H.count := by unfold TB; rw [if_pos h1]
  simp (disch := omega) only [aD, AJ, hen, cC, aLt, aV, aA, gT, k1, aH, dV, n0, k3, bX, wc, aG, aE]
  refine (aDm hxw hy hc).mono ?_
  rintro r w1 ⟨hr, x1⟩
  rw [<- hD] at hr
  exact fin hr x1
 .have n0 : ((H.form : Int) == 0) = false := beq_eq_false_iff_ne.2 (by omega)
  have hD : TB H (fU xw) (fU y) = Jw (fU xw) (fU y) H.count := by unfold TB; rw [if_neg h1]
  simp (disch := omega) only [aD, AJ, hen, cC, aLt, aV, aA, gT, k1, aH, dV, n0, k3, bX, wc, aE]
  refine (aBQ hxw hy hc).mono ?_
  rintro r w1 ⟨hr, x1⟩
  rw [<- hD] at hr
  exact fin hr x1
theorem aFU {RR : aNY -> aNX -> Prop} {H : LH} {b old : ByteArray} {q : Nat} {w : aNX} (oq : eM w q (rhC H)) (hb : b.size <= 10000) (hold : old.size <= 100000) (hsz : H.size <= (fU b).length) (hc : H.count <= 100000) (hf : H.form < 4) (hkd : H.kind < 4) (hbt : H.bytes < 2 ^ 40)
 (hk : ∀ r w', WR (auE H (fU b) (fU old)) r -> aW w w' eS -> RR r w') :
 ID RR (.string b) (.string old) (.pointer (some ⟨q, 0, none⟩)) (.int .u64 (Cx H : Nat)) w := by
 unfold ID Rc
 have k0 := oq.cell (off := 0)
 have k2 := oq.cell (off := 2)
 have k3 := oq.cell (off := 3)
 simp only [aLq, aLr] at k0 k2 k3
 have hll := eU b
 have hyb : Cx H < 2 ^ 41 := by unfold Cx; split <;> (try split) <;> omega
 have e1 : (b.size : Int) - (H.size : Int) = ((b.size - H.size : Nat) : Int) := by omega
 have w1 : IntKind.u64.wrap ((b.size - H.size : Nat) : Int) = ((b.size - H.size : Nat) : Int) := kV (by omega) (by omega)
 have hdl : ((fU b).drop H.size).length = b.size - H.size := by rw [aLM, hll]
 by_cases hs : b.size - H.size < Cx H
 .have d1 : decide (((b.size - H.size : Nat) : Int) < (Cx H : Int)) = true := decide_eq_true (by omega)
  simp (disch := omega) only [aD, dL, bR, aLt, bX, aQ, aY, aV, true_and, aA, gT, bO, k2, aH, fF, e1, fT, w1, aR, d1, bJ, aG]
  exact hk _ _ (by unfold auE; rw [hdl, if_pos hs] <;> rfl) (aW.refl _ _)
 have d1 : decide (((b.size - H.size : Nat) : Int) < (Cx H : Int)) = false := decide_eq_false (by omega)
 have w2 : IntKind.i64.wrap (Cx H : Int) = (Cx H : Int) := aQ (by omega) (by omega)
 have e2 : (H.size : Int) + (Cx H : Int) = ((H.size + Cx H : Nat) : Int) := by omega
 have hH : auE H (fU b) (fU old) = VQ H (((fU b).drop H.size).take (Cx H)) (fU old) := by unfold auE; rw [hdl, if_neg hs]
 rw [hH] at hk
 have ts : (H.size : Int).toNat = H.size := aLs _
 have tu : ((H.size + Cx H : Nat) : Int).toNat = H.size + Cx H := aLs _
 have hext : fU (b.extract H.size (H.size + Cx H)) = ((fU b).drop H.size).take (Cx H) := by
  rw [BO]; congr 1; omega
 obtain ⟨y, hy⟩ : ∃ y, y = b.extract H.size (H.size + Cx H) := ⟨_, rfl⟩
 rw [<- hy] at hext
 have hyl := eU y
 have hyz : y.size = Cx H := by rw [<- hyl, hext, aLG, hdl]; omega
 rw [<- hext] at hk
 rcases (show H.kind = 0 ∨ H.kind = 1 ∨ H.kind = 2 ∨ H.kind = 3 by omega) with h0 | h0 | h0 | h0
 .have n0 : ((H.kind : Int) == 0) = true := by rw [h0] <;> rfl
  simp (disch := omega) only [aD, dL, bR, aLt, bX, w2, aY, aV, true_and, aA, gT, bO, k2, aH, fF, e1, aQ, fT, w1, aR, d1, bJ, e2, jB, ts, tu, k0, dV, n0, aG, aE]
  refine hk _ _ ?_ (aW.refl _ _)
  unfold VQ
  rw [if_pos h0, <- hy]
  rfl
 .have n0 : ((H.kind : Int) == 0) = false := by rw [h0] <;> rfl
  have n1 : ((H.kind : Int) == 1) = true := by rw [h0] <;> rfl
  have hy1 : Cx H = 1 := by unfold Cx; rw [if_neg (by omega), if_pos h0]
  obtain ⟨c, hyc⟩ : ∃ c, fU y = [c] := by
   have h9 : (fU y).length = 1 := by omega
   match fU y, h9 with
   | [c], _ => exact ⟨c, rfl⟩
  have g0 : (y[0]'(by omega)).toNat = c.toNat := by
   have := MD y 0 (by omega)
   rw [this]; simp only [hyc, aMZ]
  have t0 : (0 : Int).toNat = 0 := rfl
  have wc : IntKind.i64.wrap (H.count : Int) = (H.count : Int) := aQ (by omega) (by omega)
  have k0d := (kB oq).cell (off := 0)
  have k3d := (kB oq).cell (off := 3)
  simp only [aLq, aLr] at k0d k3d
  have hy0 : (0 : Int).toNat < y.size := by show 0 < y.size; omega
  have hyx : (0 : Nat) < y.size := by omega
  simp (disch := omega) only [aD, dL, bR, aLt, bX, w2, aY, aV, true_and, aA, gT, bO, k2, aH, fF, e1, aQ, fT, w1, aR, d1, bJ, e2, jB, ts, tu, <- hy, k0, iS, t0, g0, dV, n0, n1, k3d, wc, aG, aE]
  refine (aEt (c := c) (by omega)).mono ?_
  rintro r w3 ⟨rfl, x3⟩
  refine hk _ _ ?_ ((aW.dr w eS).seq x3)
  unfold VQ
  rw [if_neg (by omega), if_pos h0, hyc]
  rfl
 .have n0 : ((H.kind : Int) == 0) = false := by rw [h0] <;> rfl
  have n1 : ((H.kind : Int) == 1) = false := by rw [h0] <;> rfl
  have n2 : ((H.kind : Int) == 2) = true := by rw [h0] <;> rfl
  have hB : VQ H (fU y) (fU old) = match auI H (fU y) (fU old) with | .error e => .error e | .ok p => aiQ H p.1 p.2 := by
   unfold VQ; rw [if_neg (by omega), if_neg (by omega)] <;> (cases auI H (fU y) (fU old) <;> rfl)
  have hW : auI H (fU y) (fU old) = match wtR (fU y) with | .error e => .error e | .ok p => .ok (p.1, (fU y).drop p.2) := by
   unfold auI; rw [if_pos h0] <;> (cases wtR (fU y) <;> rfl)
  rw [hB, hW] at hk
  simp (disch := omega) only [aD, dL, bR, aLt, bX, w2, aY, aV, true_and, aA, gT, bO, k2, aH, fF, e1, aQ, fT, w1, aR, d1, bJ, e2, jB, ts, tu, <- hy, k0, dV, n0, n1, n2, aG, aE]
  refine (aEo (x := y) (by omega)).mono ?_
  rintro r w3 ⟨hr, x3⟩
  cases hq : wtR (fU y) with
  | error e =>
    rw [hq] at hr hk
    obtain rfl : r = .tuple #[.string ⟨#[]⟩, .int .i64 0, .int .i64 e] := hr
    have n3 : (e != 0) = true := by simp [aFA hq]
    simp (disch := omega) only [Yc, Yy, Yk, aA, cY, n3, aG]
    exact hk _ _ rfl x3
  | ok p =>
    have hp2 := aG9 hq
    obtain ⟨m, n⟩ := p
    rw [hq] at hr hk
    obtain rfl : r = .tuple #[.string ⟨m.toArray⟩, .int .i64 (n : Nat), .int .i64 0] := hr
    simp only at hp2 hk
    have n3 : ((0 : Int) != 0) = false := rfl
    have tn : (n : Int).toNat = n := aLs _
    have hms : (⟨m.toArray⟩ : ByteArray).size = m.length := by rw [<- eU] <;> rfl
    have hmx : fU (⟨m.toArray⟩ : ByteArray) = m := Nm m
    generalize hmg : (⟨m.toArray⟩ : ByteArray) = mm at *
    have hz : fU (y.extract n y.size) = (fU y).drop n := by
     rw [BO, aL0 (by rw [aLM]; omega)]
    have hzs : (y.extract n y.size).size <= 1000000 := by rw [<- eU, hz, aLM]; omega
    simp (disch := omega) only [Yc, Yy, Yk, aA, cY, n3, aE, jZ, tn]
    refine aAO (oq.ext x3 (fun h => h)) (by omega) hzs hc hf fun r w4 hr4 x4 => ?_
    rw [hz, hmx] at hr4
    exact hk _ _ hr4 (x3.seq x4)
 .have n0 : ((H.kind : Int) == 0) = false := by rw [h0] <;> rfl
  have n1 : ((H.kind : Int) == 1) = false := by rw [h0] <;> rfl
  have n2 : ((H.kind : Int) == 2) = false := by rw [h0] <;> rfl
  have hB : VQ H (fU y) (fU old) = aiQ H (fU old) (fU y) := by
   unfold VQ auI; rw [if_neg (by omega), if_neg (by omega), if_neg (by omega)]
  rw [hB] at hk
  simp (disch := omega) only [aD, dL, bR, aLt, bX, w2, aY, aV, true_and, aA, gT, bO, k2, aH, fF, e1, aQ, fT, w1, aR, d1, bJ, e2, jB, ts, tu, <- hy, k0, dV, n0, n1, n2, aE]
  exact aAO oq hold (by omega) hc hf hk
theorem WJ {b old : ByteArray} {w : aNX} (hb : b.size <= 10000) (hold : old.size <= 100000) (hc : (pW (fU b)).2 = 0 -> (pW (fU b)).1.count <= 100000) :
 aS pg FE #[.string b, .string old] w (fun r w' => WR (Ty (fU b) (fU old)) r /\ aW w w' eS) := by
 refine avR ?_
 obtain ⟨RR, hRR⟩ : ∃ RR : aNY -> aNX -> Prop, RR = fun r w' => WR (Ty (fU b) (fU old)) r /\ aW w w' eS := ⟨_, rfl⟩
 rw [<- hRR]
 have key : ∀ r w', WR (Ty (fU b) (fU old)) r -> aW w w' eS -> RR r w' := fun r w' h1 h2 => by rw [hRR]; exact ⟨h1, h2⟩
 unfold ayH RK QK
 refine (aGp (b := b)).mono ?_
 rintro r w1 ⟨rfl, x1⟩
 unfold rhV
 simp (disch := omega) only [aD, pT, pS, aA, cY]
 refine Br fun w2 o2 x2 s2 => ?_
 refine sH o2 rfl (by simp [one]) (by simp) fun w3 o3 x3 s3 => ?_
 simp only [bM, aLw, aLv] at o3
 have x03 : aW w w3 eS := x1.seq (x2.new x3 (by omega))
 by_cases he : (pW (fU b)).2 = 0
 .have n0 : ((pW (fU b)).2 != 0) = false := by rw [he] <;> rfl
  have hR : Ty (fU b) (fU old) = auE (pW (fU b)).1 (fU b) (fU old) := by unfold Ty; rw [if_pos he]
  rw [hR] at key
  obtain ⟨h1, h2, h3, h4, h5, h6⟩ := aC8 he
  have hc := hc he
  generalize (pW (fU b)).1 = H at *
  have k0 := o3.cell (off := 0)
  have k3 := o3.cell (off := 3)
  have k4 := o3.cell (off := 4)
  simp only [aLq, aLr] at k0 k3 k4
  have fin := aFU (RR := RR) o3 hb hold h2 hc h4 h3 h6 fun r w' hr x' => key r w' hr (x03.seq x')
  rcases (show H.kind = 0 ∨ H.kind = 1 ∨ 2 <= H.kind by omega) with h0 | h0 | h0
  .have n1 : ((H.kind : Int) == 0) = true := by rw [h0] <;> rfl
   have n2 : ((H.kind : Int) == 1) = false := by rw [h0] <;> rfl
   have hy : Cx H = H.count := by unfold Cx; rw [if_pos h0]
   rw [hy] at fin
   simp (disch := omega) only [n0, bZ, aLt, aY, aV, aA, gT, k4, aH, k0, dV, n1, k3, aG, aE]
   unfold CZ CJ
   simp (disch := omega) only [aD, aY, aA, gT, k0, aH, dV, n2, aE]
   exact fin
  .have n1 : ((H.kind : Int) == 0) = false := by rw [h0] <;> rfl
   have n2 : ((H.kind : Int) == 1) = true := by rw [h0] <;> rfl
   have hy : Cx H = 1 := by unfold Cx; rw [if_neg (by omega), if_pos h0]
   rw [hy] at fin
   simp (disch := omega) only [n0, bZ, aLt, aY, aV, aA, gT, k4, aH, k0, dV, n1, k3, aE]
   unfold CZ CJ
   simp (disch := omega) only [aD, aY, aA, gT, k0, aH, dV, n2, aG]
   exact fin
  .have n1 : ((H.kind : Int) == 0) = false := beq_eq_false_iff_ne.2 (by omega)
   have n2 : ((H.kind : Int) == 1) = false := beq_eq_false_iff_ne.2 (by omega)
   have hy : Cx H = H.bytes := by unfold Cx; rw [if_neg (by omega), if_neg (by omega)]
   rw [hy] at fin
   simp (disch := omega) only [n0, bZ, aLt, aY, aV, aA, gT, k4, aH, k0, dV, n1, k3, aE]
   unfold CZ CJ
   simp (disch := omega) only [aD, aY, aA, gT, k0, aH, dV, n2, aE]
   exact fin
 .have n0 : ((pW (fU b)).2 != 0) = true := by simp [he]
  simp (disch := omega) only [n0, bZ, aLt, aY, aV, aA, gT, aG]
  exact key _ _ (by unfold Ty; rw [if_neg he] <;> rfl) x03
theorem aEw {RR : aNY -> aNX -> Prop} {c : UInt8} {n : Nat} {w : aNX} (hn : n <= 131072) (hk : RR (.bool true) w) :
 uF RR (tJ c) (.string ⟨(List.replicate n c).toArray⟩) w := by
 unfold uF zK zC zO zI
 have hls : fU (⟨(List.replicate n c).toArray⟩ : ByteArray) = List.replicate n c := Nm _
 generalize hm : (⟨(List.replicate n c).toArray⟩ : ByteArray) = m at *
 have hz : m.size = n := by rw [<- eU, hls, aMk]
 refine cR.rule (fun k (t : aNY) w' => ∃ i : Nat, k = n - i /\ t = .int .i64 i /\ i <= n /\ w' = w) n ⟨0, rfl, rfl, by omega, rfl⟩ ?_
 rintro k t w' ⟨i, rfl, rfl, hi, rfl⟩
 unfold uM
 by_cases hlt : i < n
 .have d1 : decide ((i : Int) < (n : Int)) = true := decide_eq_true (by omega)
  have ti : (i : Int).toNat = i := aLs _
  have hi2 : i < m.size := by omega
  have g : (m[i]'hi2).toNat = c.toNat := by
   have := MD m i hi2
   rw [this]; simp [hls]
  have e1 : (i : Int) + 1 = ((i + 1 : Nat) : Int) := by omega
  have n1 : ((c.toNat : Int) != (c.toNat : Int)) = false := by simp
  unfold tJ
  simp (disch := omega) only [aD, dL, hz, iS, ti, g, bJ, e1, aQ, aA, cY, n1, aE, aR, d1, and_true, aG]
  exact ⟨n - (i + 1), by omega, i + 1, rfl, rfl, by omega⟩
 .have d1 : decide ((i : Int) < (n : Int)) = false := decide_eq_false (by omega)
  unfold uI
  simp (disch := omega) only [aD, dL, hz, bJ, aQ, aA, aR, d1, aE]
  exact hk
theorem aAb {bv ov xv yv : aNY} {b old X : List UInt8} {n fe : Int} {c : UInt8} {short : Nat} {w0 w : aNX} (x0 : aW w0 w eS) (hb : Bs w bv b) (ho : Bs w ov old) (hx : Bs w xv X) (hX : X.length = b.length + short) (hbl : b.length <= 5000) (hsh : short <= 3) (hol : old.length <= 300)
 (hy : ((n < 0 ∨ 131072 < n) /\ yv = .slice none 0 0 /\ fe = 1) ∨ ∃ m : Nat, n = m /\ m <= 5000 /\ fe = 0 /\ Bs w yv (jU 1 m ++ [c])) :
 pN (fun r w' => r = .bool true /\ aW w0 w' eS) bv (.int .i64 n) (tJ c) ov xv (.int .i64 0) yv (.int .i64 fe) (.string ⟨b.toArray⟩) (.string ⟨old.toArray⟩) (.int .i64 (X.length : Nat)) (.int .i64 0) (.int .i64 (short : Nat)) w := by
 unfold pN zZ
 have hbv := iD hb
 have hov := iD ho
 obtain ⟨a1, c1, rfl, _⟩ := hb.len
 obtain ⟨a2, c2, rfl, _⟩ := hx.len
 simp only [aLD] at hbv ⊢
 have bself : ∀ x : ByteArray, (x.toList == x.toList) = true := fun x => by simp
 have bself' : ∀ x : ByteArray, (x.toList != x.toList) = false := fun x => by simp
 have iself : ∀ z : Int, (z != z) = false := fun z => by simp
 have e1 : (b.length : Int) + (short : Int) = (X.length : Int) := by omega
 have e2 : IntKind.i64.wrap (X.length : Int) = (X.length : Int) := aQ (by omega) (by omega)
 rcases hy with ⟨hn, rfl, rfl⟩ | ⟨m, rfl, hm, rfl, hy⟩
 .have z0 : ((0 : Int) != 0) = false := rfl
  have z1 : ((1 : Int) == 1) = true := rfl
  have z2 : (((0 : Nat) : Int) == 0) = true := rfl
  by_cases h0 : n < 0
  .have d0 : decide (n < 0) = true := decide_eq_true h0
   simp (disch := omega) only [aD, cY, z0, aR, d0, dV, z1, aA, rC, bF, if_true, bL, aP, z2, true_and, iT, aG, cV, cW, aLu, if_false, hbv, aDU, bself, aLL, hov, iself, bJ, e1, e2, aE]
   exact x0
  .have d0 : decide (n < 0) = false := decide_eq_false h0
   have d1 : decide (n > 131072) = true := decide_eq_true (by omega)
   have d2 : decide (131072 < n) = true := decide_eq_true (by omega)
   simp (disch := omega) only [aD, cY, z0, aR, d0, dV, z1, aA, rC, bF, if_true, bL, aP, z2, true_and, cW, aLu, if_false, cX, d1, aG, hbv, aDU, bself, aLL, hov, iself, bJ, e1, e2, aE]
   exact x0
 .have z0 : ((0 : Int) != 0) = false := rfl
  have d0 : decide ((m : Int) < 0) = false := decide_eq_false (by omega)
  have d1 : decide ((m : Int) > 131072) = false := decide_eq_false (by omega)
  have d2 : decide ((131072 : Int) < (m : Int)) = false := decide_eq_false (by omega)
  have hyv := iD hy
  obtain ⟨a3, c3, rfl, _⟩ := hy.len
  simp only [aLD] at hyv ⊢
  simp (disch := omega) only [aD, cY, z0, aR, d0, dV, aA, bF, cW, aLu, if_false, bL, cX, d1, aE, hbv, aDU, bself, aLL, hov, aP, iself, bJ, e1, e2, hyv]
  have hls : fU (⟨(jU 1 m ++ [c]).toArray⟩ : ByteArray) = jU 1 m ++ [c] := Nm _
  have hlo : fU (⟨old.toArray⟩ : ByteArray) = old := Nm _
  have q1 := eU (⟨(jU 1 m ++ [c]).toArray⟩ : ByteArray)
  have q2 := eU (⟨old.toArray⟩ : ByteArray)
  rw [hls] at q1
  rw [hlo] at q2
  have q3 := Oi 1 m
  have q4 : (jU 1 m ++ [c]).length = (jU 1 m).length + 1 := by simp
  obtain ⟨f, hh⟩ := S2 (k := 1) (n := m) (rest := [c]) (by omega) (by omega)
  refine (WJ (b := ⟨(jU 1 m ++ [c]).toArray⟩) (old := ⟨old.toArray⟩) (by omega) (by omega) (by rw [hls, hh]; intro _; show m <= 100000; omega)).mono ?_
  rintro r w6 ⟨hr2, x6⟩
  have hsr := aH9 (c := c) (n := m) (more := []) (old := old) (by omega)
  rw [aMd] at hsr
  rw [hls, hlo, hsr] at hr2
  obtain rfl : r = .tuple #[.string ⟨(List.replicate m c).toArray⟩, .string ⟨old.toArray⟩, .int .i64 ((jU 1 m).length + 1 : Nat), .int .i64 0] := hr2
  have hz : (⟨(List.replicate m c).toArray⟩ : ByteArray).size = m := by rw [<- eU]; show (List.replicate m c).length = m; simp
  have fin := aEw (RR := fun r w' => r = .bool true /\ aW w0 w' eS) (c := c) (n := m) (w := w6) (by omega) ⟨rfl, x0.seq x6⟩
  generalize (⟨(List.replicate m c).toArray⟩ : ByteArray) = mm at *
  rw [q4]
  simp (disch := omega) only [x40, x41, x42, x43, aA, cY, z0, cW, bF, aLu, if_false, bL, aP, iself, dL, hz, aE]
  exact fin
theorem aDP (haw : ∀ w : aNX, aS pg CM #[] w (fun r w' => r = .bool true /\ aW w w' eS)) {bv ov : aNY} {b old : List UInt8} {n : Int} {c : UInt8} {w : aNX} (h : Bs w bv b) (ho : Bs w ov old) :
 aS pg sI #[bv, .int .i64 n, tJ c, ov] w (fun r w' => r = .bool true /\ aW w w' eS) := by
 refine Rd ?_
 unfold Mc yT yK
 refine (haw w).mono ?_
 rintro r w1 ⟨rfl, x1⟩
 have hv := h.ext x1 (bY _)
 have hov := ho.ext x1 (bY _)
 obtain ⟨a, cc, rfl, hc⟩ := h.len
 obtain ⟨a2, c2, rfl, hc2⟩ := ho.len
 simp only [aLD] at hc hc2 hv hov ⊢
 have bu : gQ undef true = false := rfl
 by_cases hl : 5000 < b.length
 .have d1 : decide ((b.length : Int) > 5000) = true := decide_eq_true (by omega)
  have d2 : decide ((5000 : Int) < (b.length : Int)) = true := decide_eq_true (by omega)
  simp (disch := omega) only [aD, pL, aLL, aP, true_and, aA, cX, d1, iT, bF, if_true, aG, cV, bu, aE]
  exact x1
 have d1 : decide ((b.length : Int) > 5000) = false := decide_eq_false (by omega)
 have d2 : decide ((5000 : Int) < (b.length : Int)) = false := decide_eq_false (by omega)
 by_cases hol : 300 < old.length
 .have d3 : decide ((old.length : Int) > 300) = true := decide_eq_true (by omega)
  have d4 : decide ((300 : Int) < (old.length : Int)) = true := decide_eq_true (by omega)
  simp (disch := omega) only [aD, pL, aLL, aP, true_and, aA, cX, d1, cW, bF, aLu, if_false, bL, d3, iT, if_true, aG, cV, bu, aE]
  exact x1
 have d3 : decide ((old.length : Int) > 300) = false := decide_eq_false (by omega)
 have d4 : decide ((300 : Int) < (old.length : Int)) = false := decide_eq_false (by omega)
 have hsame : ∀ w : aNX, ¬ (5000 < n /\ n <= 131072) -> aS pg tQ #[tJ c, .int .i64 n] w (fun r w' => ∃ yv fe, r = .tuple #[yv, .int .i64 fe] /\ aW w w' eS /\ (((n < 0 ∨ 131072 < n) /\ yv = .slice none 0 0 /\ fe = 1) ∨ ∃ m : Nat, n = m /\ m <= 5000 /\ fe = 0 /\ Bs w' yv (jU 1 m ++ [c]))) := by
  intro w hn
  by_cases hb : n < 0 ∨ 131072 < n
  .refine (aGY hb).mono ?_
   rintro r w' ⟨rfl, x⟩
   exact ⟨_, _, rfl, x, .inl ⟨hb, rfl, rfl⟩⟩
  .obtain ⟨m, rfl⟩ : ∃ m : Nat, n = m := ⟨n.toNat, by omega⟩
   refine (aHz (n := m) (by omega)).mono ?_
   rintro r w' ⟨x, rfl, o, xx⟩
   exact ⟨_, _, rfl, xx, .inr ⟨m, rfl, by omega, rfl, o.sl⟩⟩
 by_cases hn : 5000 < n /\ n <= 131072
 .have d5 : decide (n > 5000) = true := decide_eq_true hn.1
  have d5' : decide ((5000 : Int) < n) = true := decide_eq_true hn.1
  have d6 : decide (n <= 131072) = true := decide_eq_true hn.2
  simp (disch := omega) only [aD, pL, aLL, aP, true_and, aA, cX, d1, cW, bF, aLu, if_false, bL, d3, d5, rC, if_true, Ah, d6, aG, aE]
  exact x1
 by_cases hn5 : 5000 < n
 .have d5 : decide (n > 5000) = true := decide_eq_true hn5
  have d5' : decide ((5000 : Int) < n) = true := decide_eq_true hn5
  have d6 : decide (n <= 131072) = false := decide_eq_false (by omega)
  simp (disch := omega) only [aD, pL, aLL, aP, true_and, aA, cX, d1, cW, bF, aLu, if_false, bL, d3, d5, rC, if_true, Ah, d6, aE]
  refine (aGW hv (by omega)).mono ?_
  rintro r w2 ⟨xv, rfl, ox, x2⟩
  simp (disch := omega) only [pT, pS, aA]
  refine (hsame w2 hn).mono ?_
  rintro r w3 ⟨yv, fe, rfl, x3, hy⟩
  have hx3 := (ox.ext x3 (fun _ _ h => h)).sl
  have hxv := iD hx3
  have hov3 := (hov.ext (x2.seq x3) (bY _))
  have hb3 := (hv.ext (x2.seq x3) (bY _))
  have hovv := iD hov3
  simp (disch := omega) only [pT, pS, aA, hxv, hovv]
  have hls : fU (⟨(jU 0 b.length ++ b).toArray⟩ : ByteArray) = jU 0 b.length ++ b := Nm _
  have hlo : fU (⟨old.toArray⟩ : ByteArray) = old := Nm _
  have q1 := eU (⟨(jU 0 b.length ++ b).toArray⟩ : ByteArray)
  have q2 := eU (⟨old.toArray⟩ : ByteArray)
  rw [hls, aLz] at q1
  rw [hlo] at q2
  have q3 := Oi 0 b.length
  obtain ⟨f, hh⟩ := S2 (k := 0) (n := b.length) (rest := b) (by omega) (by omega)
  refine (WJ (b := ⟨(jU 0 b.length ++ b).toArray⟩) (old := ⟨old.toArray⟩) (by omega) (by omega) (by rw [hls, hh]; intro _; show b.length <= 100000; omega)).mono ?_
  rintro r w4 ⟨hr2, x4⟩
  have hsr := aFf (l := b) (more := []) (old := old) (by omega)
  rw [aMd] at hsr
  rw [hls, hlo, hsr] at hr2
  obtain rfl : r = .tuple #[.string ⟨b.toArray⟩, .string ⟨old.toArray⟩, .int .i64 ((jU 0 b.length).length + b.length : Nat), .int .i64 0] := hr2
  have fin : ∀ short : Nat, (jU 0 b.length).length = short -> pN (fun r w' => r = .bool true /\ aW w w' eS) (.slice a b.length cc) (.int .i64 n) (tJ c) (.slice a2 old.length c2) xv (.int .i64 0) yv (.int .i64 fe) (.string ⟨b.toArray⟩) (.string ⟨old.toArray⟩) (.int .i64 ((jU 0 b.length).length + b.length : Nat)) (.int .i64 0) (.int .i64 (short : Nat)) w4 := by
   intro short hsh
   have := aAb (X := jU 0 b.length ++ b) (short := short) (((x1.seq x2).seq x3).seq x4) (hb3.ext x4 (bY _)) (hov3.ext x4 (bY _)) (hx3.ext x4 (bY _)) (by rw [aLz]; omega) (by omega) (by omega) (by omega) (n := n) (fe := fe) (c := c) (yv := yv) (by
    rcases hy with hy | ⟨m, h1, h2, h3, h4⟩
    .exact .inl hy
    .exact .inr ⟨m, h1, h2, h3, h4.ext x4 (bY _)⟩)
   rw [aLz] at this
   exact this
  rcases (show b.length < 32 ∨ (32 <= b.length /\ b.length < 4096) ∨ 4096 <= b.length by omega) with hq | hq | hq
  .have d7 : decide ((b.length : Int) > 31) = false := decide_eq_false (by omega)
   have d7' : decide ((31 : Int) < (b.length : Int)) = false := decide_eq_false (by omega)
   have d8 : decide ((b.length : Int) > 4095) = false := decide_eq_false (by omega)
   have d8' : decide ((4095 : Int) < (b.length : Int)) = false := decide_eq_false (by omega)
   simp (disch := omega) only [x40, x41, x42, x43, d7, aE, aA]
   unfold mC mB
   simp (disch := omega) only [aD, aP, aA, cX, d8, aE]
   exact fin 1 (by unfold jU; rw [if_pos hq, jK])
  .have d7 : decide ((b.length : Int) > 31) = true := decide_eq_true (by omega)
   have d7' : decide ((31 : Int) < (b.length : Int)) = true := decide_eq_true (by omega)
   have d8 : decide ((b.length : Int) > 4095) = false := decide_eq_false (by omega)
   have d8' : decide ((4095 : Int) < (b.length : Int)) = false := decide_eq_false (by omega)
   simp (disch := omega) only [x40, x41, x42, x43, d7, aG, aA]
   unfold mC mB
   simp (disch := omega) only [aD, aP, aA, cX, d8, aE]
   exact fin 2 (by unfold jU; rw [if_neg (by omega), if_pos hq.2, jK])
  .have d7 : decide ((b.length : Int) > 31) = true := decide_eq_true (by omega)
   have d7' : decide ((31 : Int) < (b.length : Int)) = true := decide_eq_true (by omega)
   have d8 : decide ((b.length : Int) > 4095) = true := decide_eq_true (by omega)
   have d8' : decide ((4095 : Int) < (b.length : Int)) = true := decide_eq_true (by omega)
   simp (disch := omega) only [x40, x41, x42, x43, d7, aG, aA]
   unfold mC mB
   simp (disch := omega) only [aD, aP, aA, cX, d8, aG]
   exact fin 3 (by unfold jU; rw [if_neg (by omega), if_neg (by omega), jK])
 .have d5 : decide (n > 5000) = false := decide_eq_false hn5
  have d5' : decide ((5000 : Int) < n) = false := decide_eq_false hn5
  simp (disch := omega) only [aD, pL, aLL, aP, true_and, aA, cX, d1, cW, bF, aLu, if_false, bL, d3, d5, uX, aE, cV]
  refine (aGW hv (by omega)).mono ?_
  rintro r w2 ⟨xv, rfl, ox, x2⟩
  simp (disch := omega) only [pT, pS, aA]
  refine (hsame w2 hn).mono ?_
  rintro r w3 ⟨yv, fe, rfl, x3, hy⟩
  have hx3 := (ox.ext x3 (fun _ _ h => h)).sl
  have hxv := iD hx3
  have hov3 := (hov.ext (x2.seq x3) (bY _))
  have hb3 := (hv.ext (x2.seq x3) (bY _))
  have hovv := iD hov3
  simp (disch := omega) only [pT, pS, aA, hxv, hovv]
  have hls : fU (⟨(jU 0 b.length ++ b).toArray⟩ : ByteArray) = jU 0 b.length ++ b := Nm _
  have hlo : fU (⟨old.toArray⟩ : ByteArray) = old := Nm _
  have q1 := eU (⟨(jU 0 b.length ++ b).toArray⟩ : ByteArray)
  have q2 := eU (⟨old.toArray⟩ : ByteArray)
  rw [hls, aLz] at q1
  rw [hlo] at q2
  have q3 := Oi 0 b.length
  obtain ⟨f, hh⟩ := S2 (k := 0) (n := b.length) (rest := b) (by omega) (by omega)
  refine (WJ (b := ⟨(jU 0 b.length ++ b).toArray⟩) (old := ⟨old.toArray⟩) (by omega) (by omega) (by rw [hls, hh]; intro _; show b.length <= 100000; omega)).mono ?_
  rintro r w4 ⟨hr2, x4⟩
  have hsr := aFf (l := b) (more := []) (old := old) (by omega)
  rw [aMd] at hsr
  rw [hls, hlo, hsr] at hr2
  obtain rfl : r = .tuple #[.string ⟨b.toArray⟩, .string ⟨old.toArray⟩, .int .i64 ((jU 0 b.length).length + b.length : Nat), .int .i64 0] := hr2
  have fin : ∀ short : Nat, (jU 0 b.length).length = short -> pN (fun r w' => r = .bool true /\ aW w w' eS) (.slice a b.length cc) (.int .i64 n) (tJ c) (.slice a2 old.length c2) xv (.int .i64 0) yv (.int .i64 fe) (.string ⟨b.toArray⟩) (.string ⟨old.toArray⟩) (.int .i64 ((jU 0 b.length).length + b.length : Nat)) (.int .i64 0) (.int .i64 (short : Nat)) w4 := by
   intro short hsh
   have := aAb (X := jU 0 b.length ++ b) (short := short) (((x1.seq x2).seq x3).seq x4) (hb3.ext x4 (bY _)) (hov3.ext x4 (bY _)) (hx3.ext x4 (bY _)) (by rw [aLz]; omega) (by omega) (by omega) (by omega) (n := n) (fe := fe) (c := c) (yv := yv) (by
    rcases hy with hy | ⟨m, h1, h2, h3, h4⟩
    .exact .inl hy
    .exact .inr ⟨m, h1, h2, h3, h4.ext x4 (bY _)⟩)
   rw [aLz] at this
   exact this
  rcases (show b.length < 32 ∨ (32 <= b.length /\ b.length < 4096) ∨ 4096 <= b.length by omega) with hq | hq | hq
  .have d7 : decide ((b.length : Int) > 31) = false := decide_eq_false (by omega)
   have d7' : decide ((31 : Int) < (b.length : Int)) = false := decide_eq_false (by omega)
   have d8 : decide ((b.length : Int) > 4095) = false := decide_eq_false (by omega)
   have d8' : decide ((4095 : Int) < (b.length : Int)) = false := decide_eq_false (by omega)
   simp (disch := omega) only [x40, x41, x42, x43, d7, aE, aA]
   unfold mC mB
   simp (disch := omega) only [aD, aP, aA, cX, d8, aE]
   exact fin 1 (by unfold jU; rw [if_pos hq, jK])
  .have d7 : decide ((b.length : Int) > 31) = true := decide_eq_true (by omega)
   have d7' : decide ((31 : Int) < (b.length : Int)) = true := decide_eq_true (by omega)
   have d8 : decide ((b.length : Int) > 4095) = false := decide_eq_false (by omega)
   have d8' : decide ((4095 : Int) < (b.length : Int)) = false := decide_eq_false (by omega)
   simp (disch := omega) only [x40, x41, x42, x43, d7, aG, aA]
   unfold mC mB
   simp (disch := omega) only [aD, aP, aA, cX, d8, aE]
   exact fin 2 (by unfold jU; rw [if_neg (by omega), if_pos hq.2, jK])
  .have d7 : decide ((b.length : Int) > 31) = true := decide_eq_true (by omega)
   have d7' : decide ((31 : Int) < (b.length : Int)) = true := decide_eq_true (by omega)
   have d8 : decide ((b.length : Int) > 4095) = true := decide_eq_true (by omega)
   have d8' : decide ((4095 : Int) < (b.length : Int)) = true := decide_eq_true (by omega)
   simp (disch := omega) only [x40, x41, x42, x43, d7, aG, aA]
   unfold mC mB
   simp (disch := omega) only [aD, aP, aA, cX, d8, aG]
   exact fin 3 (by unfold jU; rw [if_neg (by omega), if_neg (by omega), jK])
theorem aDV {bv ov : aNY} {b old : List UInt8} {n : Int} {c : UInt8} {w : aNX} (h : Bs w bv b) (ho : Bs w ov old) :
 aS pg sI #[bv, .int .i64 n, tJ c, ov] w (fun r w' => r = .bool true /\ aW w w' eS) := aDP aGu h ho
theorem aEI {bv ov : aNY} {b old : List UInt8} {n : Int} {m : Nat} (hm : m < 256) {w : aNX} (h : Bs w bv b) (ho : Bs w ov old) :
 aS pg sI #[bv, .int .i64 n, .int .u8 m, ov] w (fun r w' => r = .bool true /\ aW w w' eS) := by
 have e : (.int .u8 m : aNY) = tJ (UInt8.ofNat m) := by
  unfold tJ
  rw [show (UInt8.ofNat m).toNat = m from by simp; omega]
 rw [e]
 exact aDV h ho
end Go.Proofs.YtgpimhlgaokobaaGreat
namespace Go.En
open Go Go.ChangeShapes Go.WideShapes Go.ChangeAt Go.RowKit
theorem aAz {H : Type} {enc : TypeId × aNY -> H} {P : Program} (hl : laidOutB P = true) {W W' : aNX} (hb : Below W.heap.size W W') : ∀ (ts : List TypeId) (vs : List aNY) (ds : List (DataW H)) (ps : List MemPlace),
 (ts.all fun t => P.readableRec t && decide (t < P.types.size)) = true -> DataW.TrodAll enc P W 0 (fun _ => true) true ts vs ds ps -> (∀ x ∈ ps, x.block < W.heap.size) →
 DataW.TrodAll enc P W' 0 (fun b => decide (b < W.heap.size)) true ts vs ds ps := by
 intro ts
 induction ts with
 | nil =>
   intro vs ds ps _ h _
   cases vs <;> cases ds <;> simp [DataW.TrodAll] at h ⊢
   exact h
 | cons t ts ih =>
   intro vs ds ps hr h hlt
   cases vs with
   | nil => simp [DataW.TrodAll] at h
   | cons v vs =>
     cases ds with
     | nil => simp [DataW.TrodAll] at h
     | cons d ds =>
       obtain ⟨p, q, h1, h2, rfl⟩ := h
       rw [List.all_cons, aLJ, aLJ, decide_eq_true_eq] at hr
       exact ⟨p, q, Below.trod hl hr.1.1 hr.1.2 h1 hb (fun x hx => hlt x (aMG _ hx)), ih _ _ _ hr.2 h2 (fun x hx => hlt x (aNw _ hx)), rfl⟩
theorem aG7 {H : Type} {enc : TypeId × aNY -> H} {P : Program} {f : Func} {s : ChangeSpec} {apart fresh handsOn : Bool} {tb : TypeId} {W W' : aNX} {args : Array aNY} {ds gs : List (DataW H)} {before : List MemPlace}
 (hl : laidOutB P = true) (hr : (f.params.toList.all fun t => P.readableRec t && decide (t < P.types.size)) = true) (hres : f.resultTypes = #[tb]) (hbool : P.underlying tb = some .bool)
 (hW : DataW.Whole enc P f.params.toList s.vars apart W args.toList ds gs before) (hvars : s.vars = []) (h1 : (s.fn H (ds ++ gs)).results = [.lit (.bool true)]) (h2 : (s.fn H (ds ++ gs)).args = ds) (h3 : (s.fn H (ds ++ gs)).vars = [])
 (hx : aW W W' eS) : s.post enc P f apart fresh handsOn false W args (.bool true) W' := by
 have hb := hx.below
 have hlt : ∀ x ∈ before, x.block < W.heap.size := fun x hx => hW.lt x hx
 have hW' := hW
 obtain ⟨p, q, hA, hV, rfl, _, _⟩ := hW
 rw [hvars] at hV
 obtain ⟨_, rfl⟩ := trodVars_none hV
 rw [aMd] at hW' hlt
 refine ⟨ds, gs, p, [], p, [], hW', ?_, ?_, ?_, hb.frame _, fun h => by cases h⟩
 .rw [h1, hres]
  exact trodAll_cons_mk (shut_bool hbool _) trodAll_mk0
 .rw [h2]; exact aAz hl hb _ _ _ _ hr hA hlt
 .rw [h3, hvars] <;> rfl
theorem aE3 {H : Type} {enc : TypeId × aNY -> H} {P : Program} {W : aNX} {base b0 : Nat} {r : Reach} {sp : Nat -> Bool} {hd : Bool} {t e : TypeId} {k : IntKind} {v : aNY} {d : DataW H} {ps : List MemPlace} (ht : P.underlying t = some (.slice e)) (he : P.underlying e = some (.int k)) (hc : P.cellsOf e = 1)
 (hval : Value.okWide P W r b0 t v) (h : DataW.Trod enc P W base sp hd t v d ps) :
 ∃ zs : List Int, Sl W v (zs.map (Value.int k)) /\ zs.length <= 9223372036854775807 /\ ∀ z ∈ zs, (Lit.int k z).wf = true := by
 obtain ⟨a0, len, cap, rfl⟩ := okWide_slice ht hval
 obtain ⟨fuel, hf⟩ := h
 rcases open_ints ht he hc hf with ⟨hcs, -⟩ | ⟨a, len', cap', zs, hcs, _, hl, hm, hz, -, hcell, hwz⟩
 .have : Value.slice a0 len cap = .slice none 0 0 := by simpa [Value.cells] using hcs
  cases this
  exact ⟨[], ⟨none, 0, 0, rfl, rfl, aLF _, fun h => absurd h (by simp)⟩, by simp, by simp⟩
 .have : Value.slice a0 len cap = .slice (some a) len' cap' := by simpa [Value.cells] using hcs
  cases this
  unfold maxLen at hm
  have hle : len <= zs.length := by rw [hz]; split <;> omega
  refine ⟨zs.take len, ⟨some a, len, cap, rfl, by rw [aLD, aLG]; omega, hl, fun h0 => ?_⟩, by rw [aLG]; omega, fun z hz => hwz z (aMS hz)⟩
  obtain ⟨b, off, spot⟩ := a
  have hs : spot = none := by
   have h0 := hcell 0 (by omega)
   unfold World.cell? at h0
   split at h0
   .cases spot
    .rfl
    .simp [Addr.add] at h0
   .cases h0
  subst hs
  refine ⟨b, off, rfl, fun i hi => ?_⟩
  rw [<- MR, hcell i (by omega), aLZ, aMg hi, aLE, aLA (by omega)]
  rfl
theorem aDj (zs : List Int) (h : ∀ z ∈ zs, (Lit.int .u8 z).wf = true) : ∃ l : List UInt8, zs.map (Value.int .u8) = l.map tJ /\ l.length = zs.length := by
 refine ⟨zs.map fun z => UInt8.ofNat z.toNat, ?_, by simp⟩
 rw [aNV]
 refine aL7 fun z hz => ?_
 have := h z hz
 have hx : 0 <= z /\ z <= 255 := by simpa [Lit.wf, IntKind.min, IntKind.max, IntKind.signed, IntKind.bits] using this
 show _ = tJ (UInt8.ofNat z.toNat)
 unfold tJ
 rw [UInt8.toNat_ofNat']
 congr 1
 omega
end Go.En
