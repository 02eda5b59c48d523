/- Parts of the proof of LiteralsPacked: merged and given short names by a program of ours. -/
import Derived.WalkKit
import Derived.ProofKit
import Derived.OpenShut
import Derived.Test.YtgpimhlgaokobaaGreatZcE
set_option linter.unusedVariables false
set_option linter.unusedSimpArgs false
open Bool renaming not_false → aLE, false_eq_true → aLb, and_eq_true → aLq, not_true → aLu
open Int renaming toNat_natCast → aK9, tdiv_eq_ediv_of_nonneg → aLr
open List renaming getElem?_cons_zero → aK7, getElem?_cons_succ → aK8, getElem?_map → aLD, take_of_length_le → aLH, length_eq_zero_iff → aLI, map_congr_left → aLN, mem_append → aLQ, append_nil → aLX, getElem?_take_of_lt → aLY, set_cons_succ → aLc, set_cons_zero → aLd, take_succ_cons → aLe, drop_zero → aLf, getElem?_eq_getElem → aLg, length_append → aLh, take_zero → aLi, length_map → aLk, getD_eq_getElem?_getD → aLl, length_take → aLn, getElem?_eq_none → aLo, length_drop → aLs, map_append → aLz, replicate_succ' → aM3, getElem_cons_zero → aMF, getElem_map → aMe, map_cons → aMn, mem_append_left → aMp, mem_of_mem_take → aMq, set_append_left → aMr, map_map → aNC, mem_append_right → aNe, length_set → aNp
open Nat renaming add_mul → aL0, pow_add → aL7, two_pow_pos → aLC, mul_le_mul_right → aLG, mul_comm → aLJ, pow_succ → aLM, zero_add → aLa, pow_le_pow_right → aLj, le_refl → aLm, mul_div_cancel_left → aM9, div_div_eq_div_mul → aMG, div_le_self → aMa, add_zero → aMi
open Option renaming isNone_none → aLS, isNone_some → aLt, getD_some → aM6
open UInt8 renaming toNat_lt → aLO
namespace Go.Proofs.YtgpimhlgaokobaaGreat
open Go Go.En Go.Pu
set_option maxRecDepth 4000
def aC7 (l : List Nat) (d q i code bits : Nat) : Prop :=
 (bits = 0 /\ code = 0 /\ EJ l q i = 0) ∨ (∃ q0, 1 <= q0 /\ q0 <= q /\ q0 <= d /\ bits = d + 1 - q0 /\ (code + 1) * 2 ^ (q0 - 1) = EJ l q i)
theorem aAT {lv dv outv wv sv : aNF} {c0 b0 now : Nat} {w : aNE} (hc : c0 < 2 ^ 40) (hb : b0 <= 100) (hnow : now <= 100) {kn : aNF -> aNF -> aNF -> aNF -> aNF -> aNF -> aNF -> aNE -> Prop}
 (hK : yX kn lv dv outv (.int .i64 (c0 / 2 ^ (b0 - now) : Nat)) wv sv (.int .i64 now) w) :
 Ge kn lv dv outv (.int .i64 c0) (.int .i64 b0) wv sv (.int .i64 now) w := by
 unfold Ge MY OR
 refine cS.rule (fun m (t : aNF × aNF) w' => ∃ j : Nat, m = b0 - j /\ t = (.int .i64 (c0 / 2 ^ j : Nat), .int .i64 (b0 - j : Nat)) /\ j <= b0 - now /\ w' = w) b0 ⟨0, rfl, by simp, by omega, rfl⟩ ?_
 rintro m t w1 ⟨j, rfl, rfl, hj, rfl⟩
 have hcl := aMa c0 (2 ^ j)
 have hs : c0 / 2 ^ (j + 1) = c0 / 2 ^ j / 2 := by rw [aLM, aMG]
 unfold FI
 by_cases hlt : j < b0 - now
 .have d1 : decide ((now : Int) < ((b0 - j : Nat) : Int)) = true := by simp only [decide_eq_true_eq]; omega
  have e1 : ((c0 / 2 ^ j : Nat) : Int).tdiv 2 = ((c0 / 2 ^ (j + 1) : Nat) : Int) := by
   rw [hs]
   generalize c0 / 2 ^ j = z
   rw [aLr (by omega)]; omega
  have e2 : ((b0 - j : Nat) : Int) - 1 = ((b0 - (j + 1) : Nat) : Int) := by omega
  generalize c0 / 2 ^ j = x at *
  simp (disch := omega) only [aD, jJ, aA, stepR_skip, bK, fE, oN, oR, rD, wK, LA, Py, uW, pE, sR, dQ, cY, aS, Bi, dE, nF, LV, OY, oP, bE, L3, Bc, qU, pT, pS, YB, Ys, Yu, x40, x41, x42, x43, aH, Result.ok.injEq, Next.value.injEq, true_and, and_true, aP, kS, ND, Ma, Oq, xK, aK9, pB, jM, sL, dI, bJ, cK, zS, uY, aG, aE, if_true, if_false, aLb, aLa, aLt, aLS, aLu, aLE, aK8, aK7, aQ, aV, gV, dU, jD, dA, gS, dF, rQ, iT, aY, cD, iD, bO, bR, kV, dH, bX, gP, cA, bH, eE, cM, bP, cF, jH, fS, bY, jE, jY, gY, gD, dJ, cB, jV, lL, fW, oE, cE, mN, eS, iZ, fJ, fR, eQ, iB, gI, mT, iJ, eJ, fO, kM, lT, nH, oI, cU, gA, gW, eK, gR, nN, bN, bG, bU, bV, cP, gN, eP, dM, fP, lE, kF, kB, fY, iI, bW, bL, dT, gB, gG, mA, jC, iR, iM, jR, eY, dZ, kN, fG, eN, fX, dD, fI, eZ, hJ, iV, jB, gE, iE, fC, dK, eH, bB, aN, eD, lI, nQ, uF, lM, fD, fA, fB, eI, mR, dC, dR, cJ, lU, cN, dO, cW, cO, dB, fK, gL, hZ, iW, fL, iL, gO, gU, lA, eF, dL, kG, mC, kH, fF, fN, fH, iG, d1, e1, e2]
  exact ⟨b0 - (j + 1), by omega, j + 1, rfl, rfl, by omega⟩
 .have d1 : decide ((now : Int) < ((b0 - j : Nat) : Int)) = false := by simp only [decide_eq_false_iff_not]; omega
  have : j = b0 - now := by omega
  subst this
  simp (disch := omega) only [aD, jJ, aA, stepR_skip, bK, fE, oN, oR, rD, wK, LA, Py, uW, pE, sR, dQ, cY, aS, Bi, dE, nF, LV, OY, oP, bE, L3, Bc, qU, pT, pS, YB, Ys, Yu, x40, x41, x42, x43, aH, Result.ok.injEq, Next.value.injEq, true_and, and_true, aP, kS, ND, Ma, Oq, xK, aK9, pB, jM, sL, dI, bJ, cK, zS, uY, aG, aE, if_true, if_false, aLb, aLa, aLt, aLS, aLu, aLE, aK8, aK7, aQ, aV, gV, dU, jD, dA, gS, dF, rQ, iT, aY, cD, iD, bO, bR, kV, dH, bX, gP, cA, bH, eE, cM, bP, cF, jH, fS, bY, jE, jY, gY, gD, dJ, cB, jV, lL, fW, oE, cE, mN, eS, iZ, fJ, fR, eQ, iB, gI, mT, iJ, eJ, fO, kM, lT, nH, oI, cU, gA, gW, eK, gR, nN, bN, bG, bU, bV, cP, gN, eP, dM, fP, lE, kF, kB, fY, iI, bW, bL, dT, gB, gG, mA, jC, iR, iM, jR, eY, dZ, kN, fG, eN, fX, dD, fI, eZ, hJ, iV, jB, gE, iE, fC, dK, eH, bB, aN, eD, lI, nQ, uF, lM, fD, fA, fB, eI, mR, dC, dR, cJ, lU, cN, dO, cW, cO, dB, fK, gL, hZ, iW, fL, iL, gO, gU, lA, eF, dL, kG, mC, kH, fF, fN, fH, iG, d1]
  exact hK
theorem azT {x : ByteArray} {d : Nat} {w : aNE} (hd : gQ (bT (fZ x)) = d) (hd0 : d ≠ 0) :
 aT pg Av #[.string x] w (fun r w' => ∃ b cap rest, r = .tuple #[.slice (some ⟨b, 0, none⟩) x.size cap, .int .i64 0] /\ eM w' b (cc (pL (bT (fZ x)) d) ++ rest) /\ aW w w' eT) := by
 refine SG ?_
 have hsz := Jt x
 obtain ⟨l, hnl⟩ : ∃ l, bT (fZ x) = l := ⟨_, rfl⟩
 rw [hnl] at hsz hd ⊢
 obtain ⟨hall, hd11, hl2, hl256, hlast, hsum⟩ := vZ hd hd0
 have hp2 : 2 ^ d <= 2 ^ 11 := aLj (by omega) hd11
 unfold Wn Dj C3
 refine (aaQ (by omega)).mono ?_
 rintro r w1 ⟨rfl, rfl⟩
 rw [hnl, hd]
 have n1 : ((d : Int) == 0) = false := beq_eq_false_iff_ne.2 (by omega)
 simp (disch := omega) only [aD, jJ, aA, stepR_skip, bK, fE, oN, oR, rD, wK, LA, Py, uW, pE, sR, dQ, cY, aS, Bi, dE, nF, LV, OY, oP, bE, L3, Bc, qU, pT, pS, YB, Ys, Yu, x40, x41, x42, x43, aH, Result.ok.injEq, Next.value.injEq, true_and, and_true, aP, kS, ND, Ma, Oq, xK, aK9, pB, jM, sL, dI, bJ, cK, zS, uY, aG, aE, if_true, if_false, aLb, aLa, aLt, aLS, aLu, aLE, aK8, aK7, aQ, aV, gV, dU, jD, dA, gS, dF, rQ, iT, aY, cD, iD, bO, bR, kV, dH, bX, gP, cA, bH, eE, cM, bP, cF, jH, fS, bY, jE, jY, gY, gD, dJ, cB, jV, lL, fW, oE, cE, mN, eS, iZ, fJ, fR, eQ, iB, gI, mT, iJ, eJ, fO, kM, lT, nH, oI, cU, gA, gW, eK, gR, nN, bN, bG, bU, bV, cP, gN, eP, dM, fP, lE, kF, kB, fY, iI, bW, bL, dT, gB, gG, mA, jC, iR, iM, jR, eY, dZ, kN, fG, eN, fX, dD, fI, eZ, hJ, iV, jB, gE, iE, fC, dK, eH, bB, aN, eD, lI, nQ, uF, lM, fD, fA, fB, eI, mR, dC, dR, cJ, lU, cN, dO, cW, cO, dB, fK, gL, hZ, iW, fL, iL, gO, gU, lA, eF, dL, kG, mC, kH, fF, fN, fH, iG, n1]
 unfold LO Km J6 KE JJ
 refine cS.rule (fun m (t : aNF × aNF) w' => ∃ (i : Nat) (v : aNF), m = x.size - i /\ t = (v, .int .i64 i) /\ i <= x.size /\ sV w' w1.heap.size 2 v i (cc (List.replicate i (0, 0))) /\ aW w1 w' eT) x.size
  ⟨0, _, rfl, rfl, by omega, sV.nil _ _ _, aW.refl _ _⟩ ?_
 rintro m t w2 ⟨i, v, rfl, rfl, hi, o2, x2⟩
 have z2 := x2.size
 unfold C9
 by_cases hlt : i < x.size
 .have d1 : decide ((i : Int) < (x.size : Int)) = true := by simp; omega
  obtain ⟨av, cv, rfl⟩ := o2.len
  simp (disch := omega) only [aD, jJ, aA, stepR_skip, bK, fE, oN, oR, rD, wK, LA, Py, uW, pE, sR, dQ, cY, aS, Bi, dE, nF, LV, OY, oP, bE, L3, Bc, qU, pT, pS, YB, Ys, Yu, x40, x41, x42, x43, aH, Result.ok.injEq, Next.value.injEq, true_and, and_true, aP, kS, ND, Ma, Oq, xK, aK9, pB, jM, sL, dI, bJ, cK, zS, uY, aG, aE, if_true, if_false, aLb, aLa, aLt, aLS, aLu, aLE, aK8, aK7, aQ, aV, gV, dU, jD, dA, gS, dF, rQ, iT, aY, cD, iD, bO, bR, kV, dH, bX, gP, cA, bH, eE, cM, bP, cF, jH, fS, bY, jE, jY, gY, gD, dJ, cB, jV, lL, fW, oE, cE, mN, eS, iZ, fJ, fR, eQ, iB, gI, mT, iJ, eJ, fO, kM, lT, nH, oI, cU, gA, gW, eK, gR, nN, bN, bG, bU, bV, cP, gN, eP, dM, fP, lE, kF, kB, fY, iI, bW, bL, dT, gB, gG, mA, jC, iR, iM, jR, eY, dZ, kN, fG, eN, fX, dD, fI, eZ, hJ, iV, jB, gE, iE, fC, dK, eH, bB, aN, eD, lI, nQ, uF, lM, fD, fA, fB, eI, mR, dC, dR, cJ, lU, cN, dO, cW, cO, dB, fK, gL, hZ, iW, fL, iL, gO, gU, lA, eF, dL, kG, mC, kH, fF, fN, fH, iG, d1]
  refine SS (cells := #[.int .i64 0, .int .i64 0]) (by decide) (by decide) (by kernel_rfl) fun w3 o3 x3 s3 => ?_
  have z3 := x3.size
  refine xW (m := 1) (news := [.int .i64 0, .int .i64 0]) (o2.ext x3 (fun _ _ h => h)) (o3.cl (off := 0) (l := [.int .i64 0, .int .i64 0]) (n := 1) rfl (fun i hi => by rw [aLa])) (by simp [one]) (by omega) (by omega) fun v4 w4 o4 x4 => ?_
  have e1 : cc (List.replicate i (0, 0)) ++ [Value.int .i64 0, Value.int .i64 0] = cc (List.replicate (i + 1) (0, 0)) := by
   rw [aM3, aA9] <;> rfl
  rw [e1] at o4
  obtain ⟨av4, cv4, rfl⟩ := o4.len
  exact ⟨x.size - (i + 1), by omega, i + 1, _, rfl, rfl, by omega, o4, (x2.seq x3).trans x4 fun b hb h => by omega⟩
 .have d1 : decide ((i : Int) < (x.size : Int)) = false := by simp; omega
  obtain rfl : i = x.size := by omega
  rcases o2.2 with ⟨_, h0⟩ | ⟨pb, cap, rest, rfl, hpb, ob2, hcap, hcap2⟩
  .omega
  simp (disch := omega) only [aD, jJ, aA, stepR_skip, bK, fE, oN, oR, rD, wK, LA, Py, uW, pE, sR, dQ, cY, aS, Bi, dE, nF, LV, OY, oP, bE, L3, Bc, qU, pT, pS, YB, Ys, Yu, x40, x41, x42, x43, aH, Result.ok.injEq, Next.value.injEq, true_and, and_true, aP, kS, ND, Ma, Oq, xK, aK9, pB, jM, sL, dI, bJ, cK, zS, uY, aG, aE, if_true, if_false, aLb, aLa, aLt, aLS, aLu, aLE, aK8, aK7, aQ, aV, gV, dU, jD, dA, gS, dF, rQ, iT, aY, cD, iD, bO, bR, kV, dH, bX, gP, cA, bH, eE, cM, bP, cF, jH, fS, bY, jE, jY, gY, gD, dJ, cB, jV, lL, fW, oE, cE, mN, eS, iZ, fJ, fR, eQ, iB, gI, mT, iJ, eJ, fO, kM, lT, nH, oI, cU, gA, gW, eK, gR, nN, bN, bG, bU, bV, cP, gN, eP, dM, fP, lE, kF, kB, fY, iI, bW, bL, dT, gB, gG, mA, jC, iR, iM, jR, eY, dZ, kN, fG, eN, fX, dD, fI, eZ, hJ, iV, jB, gE, iE, fC, dK, eH, bB, aN, eD, lI, nQ, uF, lM, fD, fA, fB, eI, mR, dC, dR, cJ, lU, cN, dO, cW, cO, dB, fK, gL, hZ, iW, fL, iL, gO, gU, lA, eF, dL, kG, mC, kH, fF, fN, fH, iG, d1]
  unfold KC JG
  simp (disch := omega) only [aD, jJ, aA, stepR_skip, bK, fE, oN, oR, rD, wK, LA, Py, uW, pE, sR, dQ, cY, aS, Bi, dE, nF, LV, OY, oP, bE, L3, Bc, qU, pT, pS, YB, Ys, Yu, x40, x41, x42, x43, aH, Result.ok.injEq, Next.value.injEq, true_and, and_true, aP, kS, ND, Ma, Oq, xK, aK9, pB, jM, sL, dI, bJ, cK, zS, uY, aG, aE, if_true, if_false, aLb, aLa, aLt, aLS, aLu, aLE, aK8, aK7, aQ, aV, gV, dU, jD, dA, gS, dF, rQ, iT, aY, cD, iD, bO, bR, kV, dH, bX, gP, cA, bH, eE, cM, bP, cF, jH, fS, bY, jE, jY, gY, gD, dJ, cB, jV, lL, fW, oE, cE, mN, eS, iZ, fJ, fR, eQ, iB, gI, mT, iJ, eJ, fO, kM, lT, nH, oI, cU, gA, gW, eK, gR, nN, bN, bG, bU, bV, cP, gN, eP, dM, fP, lE, kF, kB, fY, iI, bW, bL, dT, gB, gG, mA, jC, iR, iM, jR, eY, dZ, kN, fG, eN, fX, dD, fI, eZ, hJ, iV, jB, gE, iE, fC, dK, eH, bB, aN, eD, lI, nQ, uF, lM, fD, fA, fB, eI, mR, dC, dR, cJ, lU, cN, dO, cW, cO, dB, fK, gL, hZ, iW, fL, iL, gO, gU, lA, eF, dL, kG, mC, kH, fF, fN, fH, iG]
  unfold Lf Kn Kd LM Lx
  rw [<- hsz, <- Zz l d] at ob2
  refine cS.rule (fun m (t : aNF × aNF × aNF) w' => ∃ q code bits : Nat, m = d + 1 - q /\ t = (.int .i64 code, .int .i64 bits, .int .i64 q) /\ 1 <= q /\ q <= d + 1 /\ code < 2 ^ 20 /\ aC7 l d q 0 code bits /\ eM w' pb (cc (uL l d q 0) ++ rest) /\ aW w2 w' (fun y => y = pb)) d
   ⟨1, 0, 0, by omega, rfl, by omega, by omega, by decide, .inl ⟨rfl, rfl, awU l⟩, ob2, aW.refl _ _⟩ ?_
  rintro m t w3 ⟨q, code, bits, rfl, rfl, hq1, hqd, hcode, hlast8, o3, x3⟩
  unfold Dv KQ
  by_cases hq : q <= d
  .have d2 : decide ((q : Int) <= (d : Int)) = true := by simp; omega
   simp (disch := omega) only [aD, jJ, aA, stepR_skip, bK, fE, oN, oR, rD, wK, LA, Py, uW, pE, sR, dQ, cY, aS, Bi, dE, nF, LV, OY, oP, bE, L3, Bc, qU, pT, pS, YB, Ys, Yu, x40, x41, x42, x43, aH, Result.ok.injEq, Next.value.injEq, true_and, and_true, aP, kS, ND, Ma, Oq, xK, aK9, pB, jM, sL, dI, bJ, cK, zS, uY, aG, aE, if_true, if_false, aLb, aLa, aLt, aLS, aLu, aLE, aK8, aK7, aQ, aV, gV, dU, jD, dA, gS, dF, rQ, iT, aY, cD, iD, bO, bR, kV, dH, bX, gP, cA, bH, eE, cM, bP, cF, jH, fS, bY, jE, jY, gY, gD, dJ, cB, jV, lL, fW, oE, cE, mN, eS, iZ, fJ, fR, eQ, iB, gI, mT, iJ, eJ, fO, kM, lT, nH, oI, cU, gA, gW, eK, gR, nN, bN, bG, bU, bV, cP, gN, eP, dM, fP, lE, kF, kB, fY, iI, bW, bL, dT, gB, gG, mA, jC, iR, iM, jR, eY, dZ, kN, fG, eN, fX, dD, fI, eZ, hJ, iV, jB, gE, iE, fC, dK, eH, bB, aN, eD, lI, nQ, uF, lM, fD, fA, fB, eI, mR, dC, dR, cJ, lU, cN, dO, cW, cO, dB, fK, gL, hZ, iW, fL, iL, gO, gU, lA, eF, dL, kG, mC, kH, fF, fN, fH, iG, d2]
   unfold LP LJ UE Lh Kf KK
   refine cS.rule (fun m (t : aNF × aNF × aNF) w' => ∃ i code bits : Nat, m = x.size - i /\ t = (.int .i64 code, .int .i64 bits, .int .i64 i) /\ i <= x.size /\ code < 2 ^ 20 /\ aC7 l d q i code bits /\ eM w' pb (cc (uL l d q i) ++ rest) /\ aW w2 w' (fun y => y = pb)) x.size
    ⟨0, code, bits, rfl, rfl, by omega, hcode, hlast8, o3, x3⟩ ?_
   rintro m t w4 ⟨i, code, bits, rfl, rfl, hi, hcode, hlast8, o4, x4⟩
   unfold DD JS
   by_cases hlt : i < x.size
   .have d3 : decide ((i : Int) < (x.size : Int)) = true := by simp; omega
    have hg := afH hlt
    rw [hnl] at hg
    have hstep := anD (l := l) (w := q) (i := i) (by omega)
    have hskip := ahA (l := l) (d := d) (w := q) (i := i) (by omega)
    have hset := asE (l := l) (d := d) (w := q) (i := i) (by omega)
    have hof := aBH (l := l) (w := q) (i := i)
    have hle := aFi (l := l) (d := d) (w := q) (i := i) hsum hall hq1 hq
    have hco : Eg l d i = if l.getD i 0 = 0 then (0, 0) else (d + 1 - l.getD i 0, NI l i / 2 ^ (l.getD i 0 - 1)) := rfl
    have hdv := aDY (l := l) (s := i) (d := d) (by omega)
    have hy : l.getD i 0 < 256 := by rw [<- hnl]; exact Qb _ _ (tG (by rw [Jt]; exact hlt))
    generalize l.getD i 0 = y at *
    unfold Kc KY UP Pl
    by_cases hyq : y = q
    .subst hyq
     have n2 : ((y : Int) != (y : Int)) = false := by simp
     have e1 : (d : Int) + 1 - (y : Int) = ((d + 1 - y : Nat) : Int) := by omega
     rw [if_neg (by omega), <- hof rfl] at hco
     rw [if_pos rfl] at hstep
     have hset := hset rfl
     have hdv := hdv (by omega) hsum hq
     rw [<- hof rfl] at hdv
     rw [hco] at hset
     have hpx := aLC (y - 1)
     obtain ⟨cd, hcd⟩ := hdv
     have hdiv : EJ l y i / 2 ^ (y - 1) = cd := by rw [hcd, aM9 _ hpx]
     rw [hdiv] at hset
     have hcdl : cd <= EJ l y i := by rw [<- hdiv]; exact aMa _ _
     have hl8' : aC7 l d y (i + 1) cd (d + 1 - y) := by
      refine .inr ⟨y, hq1, aLm _, hq, rfl, ?_⟩
      rw [hstep, hcd, aL0, aLJ cd]; omega
     have fin : yX (fun cT mB aU cH cQ vV mU w => yB (fun _ _ _ cH cQ _ mU w' => ∃ m, m < x.size - i /\ ∃ i' code bits : Nat, m = x.size - i' /\ (cH, cQ, mU) = ((.int .i64 code : aNF), (.int .i64 bits : aNF), (.int .i64 i' : aNF)) /\ i' <= x.size /\ code < 2 ^ 20 /\ aC7 l d y i' code bits /\ eM w' pb (cc (uL l d y i') ++ rest) /\ aW w2 w' (fun y => y = pb)) cT mB aU cH cQ vV mU w)
         (.string x) (.int .i64 d) (.slice (some ⟨pb, 0, none⟩) x.size cap) (.int .i64 cd) (.int .i64 y) (.int .i64 i) (.int .i64 (d + 1 - y : Nat)) w4 := by
      unfold yX
      simp (disch := omega) only [aD, jJ, aA, stepR_skip, bK, fE, oN, oR, rD, wK, LA, Py, uW, pE, sR, dQ, cY, aS, Bi, dE, nF, LV, OY, oP, bE, L3, Bc, qU, pT, pS, YB, Ys, Yu, x40, x41, x42, x43, aH, Result.ok.injEq, Next.value.injEq, true_and, and_true, aP, kS, ND, Ma, Oq, xK, aK9, pB, jM, sL, dI, bJ, cK, zS, uY, aG, aE, if_true, if_false, aLb, aLa, aLt, aLS, aLu, aLE, aK8, aK7, aQ, aV, gV, dU, jD, dA, gS, dF, rQ, iT, aY, cD, iD, bO, bR, kV, dH, bX, gP, cA, bH, eE, cM, bP, cF, jH, fS, bY, jE, jY, gY, gD, dJ, cB, jV, lL, fW, oE, cE, mN, eS, iZ, fJ, fR, eQ, iB, gI, mT, iJ, eJ, fO, kM, lT, nH, oI, cU, gA, gW, eK, gR, nN, bN, bG, bU, bV, cP, gN, eP, dM, fP, lE, kF, kB, fY, iI, bW, bL, dT, gB, gG, mA, jC, iR, iM, jR, eY, dZ, kN, fG, eN, fX, dD, fI, eZ, hJ, iV, jB, gE, iE, fC, dK, eH, bB, aN, eD, lI, nQ, uF, lM, fD, fA, fB, eI, mR, dC, dR, cJ, lU, cN, dO, cW, cO, dB, fK, gL, hZ, iW, fL, iL, gO, gU, lA, eF, dL, kG, mC, kH, fF, fN, fH, iG]
      refine U2 o4 rfl (by simp [one]) (by rw [aLh, Ev, lS]; omega) fun w5 o5 x5 s5 => ?_
      simp only [bM] at o5
      have hcs := aEj (L := uL l d y i) (i := i) (d + 1 - y, cd) (by rw [lS]; omega)
      simp only at hcs
      rw [aMr _ _ (by rw [Ev, lS]; omega), aMr _ _ (by rw [aNp, Ev, lS]; omega), hcs, hset] at o5
      unfold yB
      simp (disch := omega) only [aD, jJ, aA, stepR_skip, bK, fE, oN, oR, rD, wK, LA, Py, uW, pE, sR, dQ, cY, aS, Bi, dE, nF, LV, OY, oP, bE, L3, Bc, qU, pT, pS, YB, Ys, Yu, x40, x41, x42, x43, aH, Result.ok.injEq, Next.value.injEq, true_and, and_true, aP, kS, ND, Ma, Oq, xK, aK9, pB, jM, sL, dI, bJ, cK, zS, uY, aG, aE, if_true, if_false, aLb, aLa, aLt, aLS, aLu, aLE, aK8, aK7, aQ, aV, gV, dU, jD, dA, gS, dF, rQ, iT, aY, cD, iD, bO, bR, kV, dH, bX, gP, cA, bH, eE, cM, bP, cF, jH, fS, bY, jE, jY, gY, gD, dJ, cB, jV, lL, fW, oE, cE, mN, eS, iZ, fJ, fR, eQ, iB, gI, mT, iJ, eJ, fO, kM, lT, nH, oI, cU, gA, gW, eK, gR, nN, bN, bG, bU, bV, cP, gN, eP, dM, fP, lE, kF, kB, fY, iI, bW, bL, dT, gB, gG, mA, jC, iR, iM, jR, eY, dZ, kN, fG, eN, fX, dD, fI, eZ, hJ, iV, jB, gE, iE, fC, dK, eH, bB, aN, eD, lI, nQ, uF, lM, fD, fA, fB, eI, mR, dC, dR, cJ, lU, cN, dO, cW, cO, dB, fK, gL, hZ, iW, fL, iL, gO, gU, lA, eF, dL, kG, mC, kH, fF, fN, fH, iG]
      exact ⟨x.size - (i + 1), by omega, i + 1, cd, d + 1 - y, rfl, rfl, by omega, by omega, hl8', o5, x4.trans x5 fun _ _ h => h⟩
     rcases hlast8 with ⟨rfl, rfl, hat0⟩ | ⟨q0, h1, h2, h3, rfl, h5⟩
     .have hcd0 : cd = 0 := by
       rw [hat0] at hdiv
       rw [<- hdiv, Nat.zero_div]
      have d4 : decide ((0 : Int) < ((0 : Nat) : Int)) = false := rfl
      simp (disch := omega) only [aD, jJ, aA, stepR_skip, bK, fE, oN, oR, rD, wK, LA, Py, uW, pE, sR, dQ, cY, aS, Bi, dE, nF, LV, OY, oP, bE, L3, Bc, qU, pT, pS, YB, Ys, Yu, x40, x41, x42, x43, aH, Result.ok.injEq, Next.value.injEq, true_and, and_true, aP, kS, ND, Ma, Oq, xK, aK9, pB, jM, sL, dI, bJ, cK, zS, uY, aG, aE, if_true, if_false, aLb, aLa, aLt, aLS, aLu, aLE, aK8, aK7, aQ, aV, gV, dU, jD, dA, gS, dF, rQ, iT, aY, cD, iD, bO, bR, kV, dH, bX, gP, cA, bH, eE, cM, bP, cF, jH, fS, bY, jE, jY, gY, gD, dJ, cB, jV, lL, fW, oE, cE, mN, eS, iZ, fJ, fR, eQ, iB, gI, mT, iJ, eJ, fO, kM, lT, nH, oI, cU, gA, gW, eK, gR, nN, bN, bG, bU, bV, cP, gN, eP, dM, fP, lE, kF, kB, fY, iI, bW, bL, dT, gB, gG, mA, jC, iR, iM, jR, eY, dZ, kN, fG, eN, fX, dD, fI, eZ, hJ, iV, jB, gE, iE, fC, dK, eH, bB, aN, eD, lI, nQ, uF, lM, fD, fA, fB, eI, mR, dC, dR, cJ, lU, cN, dO, cW, cO, dB, fK, gL, hZ, iW, fL, iL, gO, gU, lA, eF, dL, kG, mC, kH, fF, fN, fH, iG, d3, hg, n2, e1, d4]
      refine aAT (c0 := 0) (b0 := 0) (now := d + 1 - y) (by decide) (by omega) (by omega) ?_
      rw [Nat.zero_div]
      subst hcd0
      exact fin
     .have d4 : decide ((0 : Int) < ((d + 1 - q0 : Nat) : Int)) = true := by simp only [decide_eq_true_eq]; omega
      have e2 : (code : Int) + 1 = ((code + 1 : Nat) : Int) := by omega
      have hcd2 : (code + 1) / 2 ^ (d + 1 - q0 - (d + 1 - y)) = cd := by
       rw [<- hdiv, <- h5, show d + 1 - q0 - (d + 1 - y) = y - q0 from by omega, show y - 1 = (y - q0) + (q0 - 1) from by omega, aL7, Nat.mul_div_mul_right _ _ (aLC _)]
      simp (disch := omega) only [aD, jJ, aA, stepR_skip, bK, fE, oN, oR, rD, wK, LA, Py, uW, pE, sR, dQ, cY, aS, Bi, dE, nF, LV, OY, oP, bE, L3, Bc, qU, pT, pS, YB, Ys, Yu, x40, x41, x42, x43, aH, Result.ok.injEq, Next.value.injEq, true_and, and_true, aP, kS, ND, Ma, Oq, xK, aK9, pB, jM, sL, dI, bJ, cK, zS, uY, aG, aE, if_true, if_false, aLb, aLa, aLt, aLS, aLu, aLE, aK8, aK7, aQ, aV, gV, dU, jD, dA, gS, dF, rQ, iT, aY, cD, iD, bO, bR, kV, dH, bX, gP, cA, bH, eE, cM, bP, cF, jH, fS, bY, jE, jY, gY, gD, dJ, cB, jV, lL, fW, oE, cE, mN, eS, iZ, fJ, fR, eQ, iB, gI, mT, iJ, eJ, fO, kM, lT, nH, oI, cU, gA, gW, eK, gR, nN, bN, bG, bU, bV, cP, gN, eP, dM, fP, lE, kF, kB, fY, iI, bW, bL, dT, gB, gG, mA, jC, iR, iM, jR, eY, dZ, kN, fG, eN, fX, dD, fI, eZ, hJ, iV, jB, gE, iE, fC, dK, eH, bB, aN, eD, lI, nQ, uF, lM, fD, fA, fB, eI, mR, dC, dR, cJ, lU, cN, dO, cW, cO, dB, fK, gL, hZ, iW, fL, iL, gO, gU, lA, eF, dL, kG, mC, kH, fF, fN, fH, iG, d3, hg, n2, e1, d4, e2]
      refine aAT (c0 := code + 1) (b0 := d + 1 - q0) (now := d + 1 - y) (by omega) (by omega) (by omega) ?_
      rw [hcd2]
      exact fin
    .have n2 : ((y : Int) != (q : Int)) = true := by simp; omega
     rw [if_neg hyq, aMi] at hstep
     have hskip := hskip hyq
     unfold yB
     simp (disch := omega) only [aD, jJ, aA, stepR_skip, bK, fE, oN, oR, rD, wK, LA, Py, uW, pE, sR, dQ, cY, aS, Bi, dE, nF, LV, OY, oP, bE, L3, Bc, qU, pT, pS, YB, Ys, Yu, x40, x41, x42, x43, aH, Result.ok.injEq, Next.value.injEq, true_and, and_true, aP, kS, ND, Ma, Oq, xK, aK9, pB, jM, sL, dI, bJ, cK, zS, uY, aG, aE, if_true, if_false, aLb, aLa, aLt, aLS, aLu, aLE, aK8, aK7, aQ, aV, gV, dU, jD, dA, gS, dF, rQ, iT, aY, cD, iD, bO, bR, kV, dH, bX, gP, cA, bH, eE, cM, bP, cF, jH, fS, bY, jE, jY, gY, gD, dJ, cB, jV, lL, fW, oE, cE, mN, eS, iZ, fJ, fR, eQ, iB, gI, mT, iJ, eJ, fO, kM, lT, nH, oI, cU, gA, gW, eK, gR, nN, bN, bG, bU, bV, cP, gN, eP, dM, fP, lE, kF, kB, fY, iI, bW, bL, dT, gB, gG, mA, jC, iR, iM, jR, eY, dZ, kN, fG, eN, fX, dD, fI, eZ, hJ, iV, jB, gE, iE, fC, dK, eH, bB, aN, eD, lI, nQ, uF, lM, fD, fA, fB, eI, mR, dC, dR, cJ, lU, cN, dO, cW, cO, dB, fK, gL, hZ, iW, fL, iL, gO, gU, lA, eF, dL, kG, mC, kH, fF, fN, fH, iG, d3, hg, n2]
     refine ⟨x.size - (i + 1), by omega, i + 1, code, bits, rfl, rfl, by omega, hcode, ?_, by rw [hskip]; exact o4, x4⟩
     rcases hlast8 with ⟨a1, a2, a3⟩ | ⟨q0, a1, a2, a3, a4, a5⟩
     .exact .inl ⟨a1, a2, by rw [hstep]; exact a3⟩
     .exact .inr ⟨q0, a1, a2, a3, a4, by rw [hstep]; exact a5⟩
   .have d3 : decide ((i : Int) < (x.size : Int)) = false := by simp; omega
    obtain rfl : i = x.size := by omega
    have e1 := aqO (l := l) (w := q) hq1
    have e2 := aiW (l := l) (d := d) (w := q)
    rw [hsz] at e1 e2
    rw [e2] at o4
    have hl8' : aC7 l d (q + 1) 0 code bits := by
     rcases hlast8 with ⟨a1, a2, a3⟩ | ⟨q0, a1, a2, a3, a4, a5⟩
     .exact .inl ⟨a1, a2, by rw [<- e1]; exact a3⟩
     .exact .inr ⟨q0, a1, by omega, a3, a4, by rw [<- e1]; exact a5⟩
    unfold EW
    simp (disch := omega) only [aD, jJ, aA, stepR_skip, bK, fE, oN, oR, rD, wK, LA, Py, uW, pE, sR, dQ, cY, aS, Bi, dE, nF, LV, OY, oP, bE, L3, Bc, qU, pT, pS, YB, Ys, Yu, x40, x41, x42, x43, aH, Result.ok.injEq, Next.value.injEq, true_and, and_true, aP, kS, ND, Ma, Oq, xK, aK9, pB, jM, sL, dI, bJ, cK, zS, uY, aG, aE, if_true, if_false, aLb, aLa, aLt, aLS, aLu, aLE, aK8, aK7, aQ, aV, gV, dU, jD, dA, gS, dF, rQ, iT, aY, cD, iD, bO, bR, kV, dH, bX, gP, cA, bH, eE, cM, bP, cF, jH, fS, bY, jE, jY, gY, gD, dJ, cB, jV, lL, fW, oE, cE, mN, eS, iZ, fJ, fR, eQ, iB, gI, mT, iJ, eJ, fO, kM, lT, nH, oI, cU, gA, gW, eK, gR, nN, bN, bG, bU, bV, cP, gN, eP, dM, fP, lE, kF, kB, fY, iI, bW, bL, dT, gB, gG, mA, jC, iR, iM, jR, eY, dZ, kN, fG, eN, fX, dD, fI, eZ, hJ, iV, jB, gE, iE, fC, dK, eH, bB, aN, eD, lI, nQ, uF, lM, fD, fA, fB, eI, mR, dC, dR, cJ, lU, cN, dO, cW, cO, dB, fK, gL, hZ, iW, fL, iL, gO, gU, lA, eF, dL, kG, mC, kH, fF, fN, fH, iG, d3]
    exact ⟨d + 1 - (q + 1), by omega, q + 1, code, bits, rfl, rfl, by omega, by omega, hcode, hl8', o4, x4⟩
  .have d2 : decide ((q : Int) <= (d : Int)) = false := by simp; omega
   rw [arY hall (by omega)] at o3
   unfold F7
   simp (disch := omega) only [aD, jJ, aA, stepR_skip, bK, fE, oN, oR, rD, wK, LA, Py, uW, pE, sR, dQ, cY, aS, Bi, dE, nF, LV, OY, oP, bE, L3, Bc, qU, pT, pS, YB, Ys, Yu, x40, x41, x42, x43, aH, Result.ok.injEq, Next.value.injEq, true_and, and_true, aP, kS, ND, Ma, Oq, xK, aK9, pB, jM, sL, dI, bJ, cK, zS, uY, aG, aE, if_true, if_false, aLb, aLa, aLt, aLS, aLu, aLE, aK8, aK7, aQ, aV, gV, dU, jD, dA, gS, dF, rQ, iT, aY, cD, iD, bO, bR, kV, dH, bX, gP, cA, bH, eE, cM, bP, cF, jH, fS, bY, jE, jY, gY, gD, dJ, cB, jV, lL, fW, oE, cE, mN, eS, iZ, fJ, fR, eQ, iB, gI, mT, iJ, eJ, fO, kM, lT, nH, oI, cU, gA, gW, eK, gR, nN, bN, bG, bU, bV, cP, gN, eP, dM, fP, lE, kF, kB, fY, iI, bW, bL, dT, gB, gG, mA, jC, iR, iM, jR, eY, dZ, kN, fG, eN, fX, dD, fI, eZ, hJ, iV, jB, gE, iE, fC, dK, eH, bB, aN, eD, lI, nQ, uF, lM, fD, fA, fB, eI, mR, dC, dR, cJ, lU, cN, dO, cW, cO, dB, fK, gL, hZ, iW, fL, iL, gO, gU, lA, eF, dL, kG, mC, kH, fF, fN, fH, iG, d2]
   exact ⟨pb, cap, rest, rfl, o3, x2.trans x3 fun _ hb h => by omega⟩
theorem akU {x : ByteArray} {w : aNE} (hl : x.size <= 100000) (hd : gQ (bT (fZ x)) = 0) :
 aT pg Av #[.string x] w (fun r w' => r = .tuple #[.slice none 0 0, .int .i64 1] /\ w' = w) := by
 refine SG ?_
 unfold Wn Dj C3
 refine (aaQ hl).mono ?_
 rintro r w1 ⟨rfl, rfl⟩
 rw [hd]
 have n1 : (((0 : Nat) : Int) == 0) = true := rfl
 simp (disch := omega) only [aD, jJ, aA, stepR_skip, bK, fE, oN, oR, rD, wK, LA, Py, uW, pE, sR, dQ, cY, aS, Bi, dE, nF, LV, OY, oP, bE, L3, Bc, qU, pT, pS, YB, Ys, Yu, x40, x41, x42, x43, aH, Result.ok.injEq, Next.value.injEq, true_and, and_true, aP, kS, ND, Ma, Oq, xK, aK9, pB, jM, sL, dI, bJ, cK, zS, uY, aG, aE, if_true, if_false, aLb, aLa, aLt, aLS, aLu, aLE, aK8, aK7, aQ, aV, gV, dU, jD, dA, gS, dF, rQ, iT, aY, cD, iD, bO, bR, kV, dH, bX, gP, cA, bH, eE, cM, bP, cF, jH, fS, bY, jE, jY, gY, gD, dJ, cB, jV, lL, fW, oE, cE, mN, eS, iZ, fJ, fR, eQ, iB, gI, mT, iJ, eJ, fO, kM, lT, nH, oI, cU, gA, gW, eK, gR, nN, bN, bG, bU, bV, cP, gN, eP, dM, fP, lE, kF, kB, fY, iI, bW, bL, dT, gB, gG, mA, jC, iR, iM, jR, eY, dZ, kN, fG, eN, fX, dD, fI, eZ, hJ, iV, jB, gE, iE, fC, dK, eH, bB, aN, eD, lI, nQ, uF, lM, fD, fA, fB, eI, mR, dC, dR, cJ, lU, cN, dO, cW, cO, dB, fK, gL, hZ, iW, fL, iL, gO, gU, lA, eF, dL, kG, mC, kH, fF, fN, fH, iG, n1]
theorem aDm {xw x : ByteArray} {n : Nat} {w : aNE} (hxw : xw.size <= 100000) (hx : x.size <= 1000000) (hn : n <= 100000) :
 aT pg Fq #[.string xw, .string x, .int .i64 n] w (fun r w' => zF (U7 (fZ xw) (fZ x) n) r /\ aW w w' eT) := by
 refine akQ ?_
 obtain ⟨RR, hRR⟩ : ∃ RR : aNF -> aNE -> Prop, RR = fun r w' => zF (U7 (fZ xw) (fZ x) n) r /\ aW w w' eT := ⟨_, rfl⟩
 rw [<- hRR]
 have key : ∀ r w', zF (U7 (fZ xw) (fZ x) n) r -> aW w w' eT -> RR r w' := fun r w' h1 h2 => by rw [hRR]; exact ⟨h1, h2⟩
 unfold agL KH
 by_cases hd : gQ (bT (fZ xw)) = 0
 .refine (akU hxw hd).mono ?_
  rintro r w1 ⟨rfl, rfl⟩
  have n0 : ((1 : Int) != 0) = true := rfl
  simp (disch := omega) only [aD, pT, pS, aS, aA, bE, cY, n0, aG]
  exact key _ _ (by unfold U7; rw [if_pos hd] <;> rfl) (aW.refl _ _)
 .obtain ⟨hF, hm, hC⟩ := WOk.full hd
  have hlen : xw.size = (wC (fZ xw)).length := by rw [sS, aLk]; exact (gM xw).symm
  refine (azT rfl hd).mono ?_
  rintro r w1 ⟨b, cap, rest, rfl, ob, x1⟩
  have n0 : ((0 : Int) != 0) = false := rfl
  have d1 : decide ((n : Int) < 0) = false := decide_eq_false (by omega)
  have d2 : decide (131072 < (n : Int)) = false := decide_eq_false (by omega)
  have d3 : decide ((n : Int) > 131072) = false := decide_eq_false (by omega)
  simp (disch := omega) only [aD, pT, pS, aS, d1, aA, dI, bE, aLb, if_false, bJ, dE, d2, aE, cY, n0]
  rw [hlen]
  refine (asP hF hm hC ob hx hn).mono ?_
  rintro r w2 ⟨hr, x2⟩
  have hh : U7 (fZ xw) (fZ x) n = rU (wC (fZ xw)) (fZ x) n := by unfold U7; rw [if_neg hd]
  rw [hh] at key
  cases hs : rU (wC (fZ xw)) (fZ x) n with
  | error e =>
    rw [hs] at hr key
    obtain rfl : r = .tuple #[.string ⟨#[]⟩, .int .i64 e] := hr
    simp (disch := omega) only [pT, pS, aA]
    exact key _ _ rfl (x1.seq x2)
  | ok m =>
    rw [hs] at hr key
    obtain rfl : r = .tuple #[.string ⟨(nV m).toArray⟩, .int .i64 0] := hr
    simp (disch := omega) only [pT, pS, aA]
    exact key _ _ rfl (x1.seq x2)
theorem aEu {kn : K9} {RR : aNF -> aNE -> Prop} {n2 k10 a b c iv : aNF} {cb cap p k m : Nat} {C : List (Nat × Nat)} {rest : List aNF} {x out : ByteArray} {w : aNE} (hF : YD C (pI C)) (hm : pI C <= 11) (hC : C.length <= 256) (oc : eM w cb (cc C ++ rest)) (hne : cb ≠ p)
 (o : eM w p [.string x, .int .i64 0]) (hk : k <= (fZ x).length) (hx : x.size <= 1000000) (hmn : m <= 100000) (hout : out.size <= 10000000)
 (kerr : ∀ e w', rU C ((fZ x).take k) m = .error e -> aW w w' (fun y => y = p) -> RR (.tuple #[.string ⟨#[]⟩, .int .i64 e]) w')
 (kok : ∀ ms x' out' w', rU C ((fZ x).take k) m = .ok ms -> eM w' p [.string x', .int .i64 0] -> fZ x' = (fZ x).drop k -> fZ out' = fZ out ++ nV ms -> aW w w' (fun y => y = p) -> kn n2 (.slice (some ⟨cb, 0, none⟩) C.length cap) k10 (.pointer (some ⟨p, 0, none⟩)) a b c (.string out') iv w') :
 uQ kn RR n2 (.slice (some ⟨cb, 0, none⟩) C.length cap) k10 (.pointer (some ⟨p, 0, none⟩)) a b c (.string out) iv (.int .i64 m) (.int .i64 k) w := by
 unfold uQ
 have q := mP (off := 0) o (by simp)
 simp only [aLf, aLe, aLi] at q
 simp (disch := omega) only [aD, q, aA]
 refine (aA7 (x := x) (e := 0) (n := k)).mono ?_
 rintro r w1 ⟨x', s, rfl, hx', hs, x1⟩
 have ht : Aw (fZ x) 0 k = ((fZ x).take k, (fZ x).drop k, 0) := by unfold Aw; rw [if_neg (by simp), if_neg (by omega)]
 rw [ht] at hx' hs ⊢
 simp only at hx' hs ⊢
 have hss : s.size <= 1000000 := by
  have h1 := gM s
  have h2 := gM x
  rw [hs, aLn] at h1
  omega
 simp (disch := omega) only [pT, pS, aA]
 refine tH fun w2 o2 x2 s2 => ?_
 refine lV o2 rfl (by simp [one]) (by simp) fun w3 o3 x3 s3 => ?_
 simp only [bM, aLd, aLc] at o3
 have q3 := mP (off := 0) o3 (by simp)
 simp only [aLf, aLe, aLi] at q3
 have x13 : aW w1 w3 eT := x2.new x3 (by omega)
 have x03 := x1.seq x13
 simp (disch := omega) only [q3, aA]
 refine lV (o.ext x03 (fun h => h)) rfl (by simp [one]) (by simp) fun w4 o4 x4 s4 => ?_
 simp only [bM, aLd, aLc] at o4
 have x04 : aW w w4 (fun y => y = p) := (x03.mono fun _ _ h => h.elim).seq x4
 refine (asP (x := s) hF hm hC (oc.ext x04 hne) hss hmn).mono ?_
 rintro r w5 ⟨hr, x5⟩
 rw [hs] at hr
 have x05 : aW w w5 (fun y => y = p) := x04.seq (x5.mono fun _ _ h => h.elim)
 cases hd : rU C ((fZ x).take k) m with
 | error e =>
   rw [hd] at hr
   obtain rfl : r = .tuple #[.string ⟨#[]⟩, .int .i64 e] := hr
   have n1 : (e != 0) = true := by have := XR hd; simp; omega
   simp (disch := omega) only [pT, pS, aA, cY, n1, aG]
   exact kerr e w5 hd x05
 | ok ms =>
   rw [hd] at hr
   obtain rfl : r = .tuple #[.string ⟨(nV ms).toArray⟩, .int .i64 0] := hr
   have n1 : ((0 : Int) != 0) = false := rfl
   have hml := amV hd
   have hz : (⟨(nV ms).toArray⟩ : ByteArray).size = m := by rw [<- gM, acU]; simp [nV, hml]
   have hcat : ((out.size + (⟨(nV ms).toArray⟩ : ByteArray).size : Nat) : Int) <= 9223372036854775807 := by rw [hz]; omega
   generalize hy : (⟨(nV ms).toArray⟩ : ByteArray) = y at *
   simp (disch := omega) only [pT, pS, aA, cY, n1, aE, aDM]
   refine kok ms x' _ w5 hd (o4.ext x5 (fun h => h)) hx' ?_ x05
   rw [axA, <- hy]
   exact congrArg (fZ out ++ ·) (acU (nV ms))
abbrev q4 (a b c d q m : Nat) : List (Nat × Nat) := [(a, q), (b, q), (c, q), (d, m)]
theorem aHd (a b : List Nat) : nV (a ++ b) = nV a ++ nV b := aLz
theorem aDN {RR : aNF -> aNE -> Prop} {cb cap p n q na nb nc nd : Nat} {C : List (Nat × Nat)} {rest : List aNF} {x : ByteArray} {w : aNE} (hF : YD C (pI C)) (hm : pI C <= 11) (hC : C.length <= 256) (oc : eM w cb (cc C ++ rest)) (hne : cb ≠ p)
 (o : eM w p [.string x, .int .i64 0]) (hx : (fZ x).length = na + nb + nc + nd) (hxl : (fZ x).length <= 1000000) (hq : 3 * q <= n) (hn : n <= 100000)
 (hk : ∀ r w', zF (EI C (fZ x) (q4 na nb nc nd q (n - 3 * q))) r -> aW w w' (fun y => y = p) -> RR r w') :
 AX RR (.int .i64 n) (.slice (some ⟨cb, 0, none⟩) C.length cap) (.int .i64 q) (.pointer (some ⟨p, 0, none⟩)) (.int .u64 na) (.int .u64 nb) (.int .u64 nc) (.string ⟨#[]⟩) w := by
 unfold AX Fa GS GY Fu
 obtain ⟨L4, hL4⟩ : ∃ L, L = q4 na nb nc nd q (n - 3 * q) := ⟨_, rfl⟩
 rw [<- hL4] at hk
 obtain ⟨G, hG⟩ : ∃ G, G = EI C (fZ x) L4 := ⟨_, rfl⟩
 rw [<- hG] at hk
 have hlp := o.lt
 refine cS.rule (fun k (t : aNF × aNF) w' => ∃ (i : Nat) (acc : List Nat) (y out : ByteArray), k = 4 - i /\ t = (.string out, .int .i64 i) /\ i <= 4 /\ XJ acc (EI C (fZ y) (L4.drop i)) = G /\ eM w' p [.string y, .int .i64 0] /\ fZ out = nV acc /\ acc.length <= i * n /\ (fZ y).length = ((L4.drop i).map Prod.fst).sum /\ aW w w' (fun y => y = p)) 4
  ⟨0, [], x, ⟨#[]⟩, rfl, rfl, by omega, ?_, o, rfl, by simp, ?_, aW.refl _ _⟩ ?_
 .rw [hG, aLf]; unfold XJ; cases EI C (fZ x) L4 <;> rfl
 .rw [hL4, hx]; simp; omega
 rintro k t w1 ⟨i, acc, y, out, rfl, rfl, hi, hGc, o1, hout, hacc, hy, x1⟩
 have oc1 := oc.ext x1 hne
 have hosz : out.size <= 10000000 := by
  have h1 := gM out
  rw [hout, aLk] at h1
  have : i * n <= 4 * n := aLG _ hi
  omega
 unfold Co H4
 by_cases hlt : i < 4
 .have d1 : decide ((i : Int) < 4) = true := by simp; omega
  simp (disch := omega) only [aD, aS, d1, aA, aG]
  unfold HI HE SM HH
  refine agK (cells := #[.int .u64 na, .int .u64 nb, .int .u64 nc, .int .u64 0]) (by decide) (by decide) (by kernel_rfl) fun w2 o2 x2 s2 => ?_
  have ysz : y.size <= 1000000 := by
   have h1 := gM y
   rw [hy, hL4] at h1
   rcases (show i = 0 ∨ i = 1 ∨ i = 2 ∨ i = 3 by omega) with rfl | rfl | rfl | rfl <;> (simp at h1; omega)
  have o12 := o1.ext x2 (fun h => h)
  have oc2 := oc1.ext x2 (fun h => h)
  have step : ∀ (kk m : Nat) (R' : List (Nat × Nat)) (kn : K9), L4.drop i = (kk, m) :: R' -> m <= n -> R' = L4.drop (i + 1) →
      (∀ (acc : List Nat) (y out : ByteArray) (w' : aNE), XJ acc (EI C (fZ y) (L4.drop (i + 1))) = G -> eM w' p [.string y, .int .i64 0] -> fZ out = nV acc -> acc.length <= (i + 1) * n -> (fZ y).length = ((L4.drop (i + 1)).map Prod.fst).sum -> aW w w' (fun y => y = p) →
        kn (.int .i64 n) (.slice (some ⟨cb, 0, none⟩) C.length cap) (.int .i64 q) (.pointer (some ⟨p, 0, none⟩)) (.int .u64 na) (.int .u64 nb) (.int .u64 nc) (.string out) (.int .i64 i) w') →
      uQ kn RR (.int .i64 n) (.slice (some ⟨cb, 0, none⟩) C.length cap) (.int .i64 q) (.pointer (some ⟨p, 0, none⟩)) (.int .u64 na) (.int .u64 nb) (.int .u64 nc) (.string out) (.int .i64 i) (.int .i64 m) (.int .i64 kk) w2 := by
   intro kk m R' kn hd hmn hR hkn
   rw [hd, aMn, List.sum_cons] at hy
   simp only at hy
   rw [hd, anG] at hGc
   refine aEu hF hm hC oc2 hne o12 (by omega) ysz (by omega) hosz ?_ ?_
   .intro e w' he x'
    rw [he] at hGc
    refine hk _ _ ?_ ((x1.seq (x2.mono fun _ _ h => h.elim)).seq x')
    rw [<- hGc]
    rfl
   .intro ms y' out' w' he o' hy' ho' x'
    rw [he] at hGc
    have hml := amV he
    refine hkn (acc ++ ms) y' out' w' ?_ o' ?_ ?_ ?_ ((x1.seq (x2.mono fun _ _ h => h.elim)).seq x')
    .rw [hy', <- hR]; exact hGc
    .rw [ho', hout, aHd]
    .rw [aLh, Nat.succ_mul]; omega
    .rw [hy', aLs, <- hR]; omega
  have fin : ∀ (acc : List Nat) (y out : ByteArray) (w' : aNE), XJ acc (EI C (fZ y) (L4.drop (i + 1))) = G -> eM w' p [.string y, .int .i64 0] -> fZ out = nV acc -> acc.length <= (i + 1) * n -> (fZ y).length = ((L4.drop (i + 1)).map Prod.fst).sum -> aW w w' (fun y => y = p) →
      ∃ k', k' < 4 - i /\ ∃ (i' : Nat) (acc : List Nat) (y out' : ByteArray), k' = 4 - i' /\ ((Value.string out, Value.int .i64 ((i : Int) + 1)) : aNF × aNF) = (.string out', .int .i64 i') /\ i' <= 4 /\ XJ acc (EI C (fZ y) (L4.drop i')) = G /\ eM w' p [.string y, .int .i64 0] /\ fZ out' = nV acc /\ acc.length <= i' * n /\ (fZ y).length = ((L4.drop i').map Prod.fst).sum /\ aW w w' (fun y => y = p) :=
   fun acc y out w' h1 h2 h3 h4 h5 h6 => ⟨4 - (i + 1), by omega, i + 1, acc, y, out, rfl, by simp, by omega, h1, h2, h3, h4, h5, h6⟩
  have k := fun j => o2.cell (off := j)
  have kk0 := k 0
  have kk1 := k 1
  have kk2 := k 2
  have kk3 := k 3
  simp only [aK7, aK8] at kk0 kk1 kk2 kk3
  have ky := o12.cell (off := 0)
  simp only [aK7] at ky
  have ysl := gM y
  clear k
  rcases (show i = 0 ∨ i = 1 ∨ i = 2 ∨ i = 3 by omega) with rfl | rfl | rfl | rfl
  .have t0 : (0 : Int).toNat = 0 := rfl
   have ti : (((0 : Nat) : Int)).toNat = 0 := rfl
   have n1 : ((((0 : Nat) : Int)) == 3) = false := rfl
   have wv : IntKind.i64.wrap (na : Int) = (na : Int) := aP (by omega) (by omega)
   simp (disch := omega) only [aD, kV, ti, aLa, dQ, n1, oN, aP, cE, aA, mN, fE, aE, gV, kk0, aH, bY, wv]
   refine step na q _ _ (by rw [hL4] <;> rfl) (by omega) (by rw [hL4] <;> rfl) fun acc y out w' h1 h2 h3 h4 h5 h6 => ?_
   unfold sO
   simp (disch := omega) only [aD, bK, aP, aA]
   exact fin acc y out w' h1 h2 h3 h4 h5 h6
  .have t0 : (0 : Int).toNat = 0 := rfl
   have ti : (((1 : Nat) : Int)).toNat = 1 := rfl
   have n1 : ((((1 : Nat) : Int)) == 3) = false := rfl
   have wv : IntKind.i64.wrap (nb : Int) = (nb : Int) := aP (by omega) (by omega)
   simp (disch := omega) only [aD, kV, ti, aLa, dQ, n1, oN, aP, cE, aA, mN, fE, aE, gV, kk1, aH, bY, wv]
   refine step nb q _ _ (by rw [hL4] <;> rfl) (by omega) (by rw [hL4] <;> rfl) fun acc y out w' h1 h2 h3 h4 h5 h6 => ?_
   unfold sO
   simp (disch := omega) only [aD, bK, aP, aA]
   exact fin acc y out w' h1 h2 h3 h4 h5 h6
  .have t0 : (0 : Int).toNat = 0 := rfl
   have ti : (((2 : Nat) : Int)).toNat = 2 := rfl
   have n1 : ((((2 : Nat) : Int)) == 3) = false := rfl
   have wv : IntKind.i64.wrap (nc : Int) = (nc : Int) := aP (by omega) (by omega)
   simp (disch := omega) only [aD, kV, ti, aLa, dQ, n1, oN, aP, cE, aA, mN, fE, aE, gV, kk2, aH, bY, wv]
   refine step nc q _ _ (by rw [hL4] <;> rfl) (by omega) (by rw [hL4] <;> rfl) fun acc y out w' h1 h2 h3 h4 h5 h6 => ?_
   unfold sO
   simp (disch := omega) only [aD, bK, aP, aA]
   exact fin acc y out w' h1 h2 h3 h4 h5 h6
  .have t0 : (0 : Int).toNat = 0 := rfl
   have ti : (((3 : Nat) : Int)).toNat = 3 := rfl
   have n1 : ((((3 : Nat) : Int)) == 3) = true := rfl
   have e1 : (n : Int) - 3 * (q : Int) = ((n - 3 * q : Nat) : Int) := by omega
   have hnd : y.size = nd := by rw [<- ysl, hy, hL4]; simp
   have w0 : IntKind.i64.wrap 0 = 0 := rfl
   simp (disch := omega) only [aD, kV, ti, aLa, dQ, n1, oN, aP, cE, aA, mN, fE, e1, aG, gV, kk3, aH, bY, w0, ky, dU, hnd]
   refine step nd (n - 3 * q) _ _ (by rw [hL4] <;> rfl) (by omega) (by rw [hL4] <;> rfl) fun acc y out w' h1 h2 h3 h4 h5 h6 => ?_
   unfold sO
   simp (disch := omega) only [aD, bK, aP, aA]
   exact fin acc y out w' h1 h2 h3 h4 h5 h6
 .have d1 : decide ((i : Int) < 4) = false := by simp; omega
  have hi4 : i = 4 := by omega
  subst hi4
  have d1 : decide (((4 : Nat) : Int) < 4) = false := rfl
  simp (disch := omega) only [aD, aS, d1, aA, aE]
  unfold B1
  refine hk _ _ ?_ x1
  rw [<- hGc, hL4]
  show Value.tuple #[.string out, .int .i64 0] = Value.tuple #[.string ⟨(nV (acc ++ [])).toArray⟩, .int .i64 0]
  rw [aLX, <- hout]
  rfl
theorem aBf {xw x : ByteArray} {n : Nat} {w : aNE} (hxw : xw.size <= 100000) (hx : x.size <= 1000000) (hn : n <= 100000) :
 aT pg DI #[.string xw, .string x, .int .i64 n] w (fun r w' => zF (JA (fZ xw) (fZ x) n) r /\ aW w w' eT) := by
 refine abH ?_
 obtain ⟨RR, hRR⟩ : ∃ RR : aNF -> aNE -> Prop, RR = fun r w' => zF (JA (fZ xw) (fZ x) n) r /\ aW w w' eT := ⟨_, rfl⟩
 rw [<- hRR]
 have key : ∀ r w', zF (JA (fZ xw) (fZ x) n) r -> aW w w' eT -> RR r w' := fun r w' h1 h2 => by rw [hRR]; exact ⟨h1, h2⟩
 have hxl := gM x
 unfold ZD Gt Gv
 by_cases hd : gQ (bT (fZ xw)) = 0
 .refine (akU hxw hd).mono ?_
  rintro r w1 ⟨rfl, rfl⟩
  have n0 : ((1 : Int) != 0) = true := rfl
  simp (disch := omega) only [aD, pT, pS, aS, bK, aP, dH, aA, oR, oN, dE, bE, cY, n0, aG]
  exact key _ _ (by unfold JA; rw [if_pos hd] <;> rfl) (aW.refl _ _)
 obtain ⟨hF, hm, hC⟩ := WOk.full hd
 have hlen : xw.size = (wC (fZ xw)).length := by rw [sS, aLk]; exact (gM xw).symm
 refine (azT rfl hd).mono ?_
 rintro r w1 ⟨b, cap, rest, rfl, ob, x1⟩
 have n0 : ((0 : Int) != 0) = false := rfl
 have d1 : decide ((n : Int) < 0) = false := decide_eq_false (by omega)
 have d2 : decide (131072 < (n : Int)) = false := decide_eq_false (by omega)
 have d3 : decide ((n : Int) > 131072) = false := decide_eq_false (by omega)
 obtain ⟨q, hq⟩ : ∃ q, q = (n + 3) / 4 := ⟨_, rfl⟩
 have eq : ((n : Int) + 3).tdiv 4 = (q : Int) := by rw [aLr (by omega), hq]; omega
 rw [hlen]
 have hH : JA (fZ xw) (fZ x) n = if n < 3 * q then .error 11 else if (fZ x).length < 6 then .error 10 else if ((fZ x).drop 6).length < nA (fZ x) + nB (fZ x) + nC (fZ x) then .error 10
     else EI (wC (fZ xw)) ((fZ x).drop 6) [(nA (fZ x), q), (nB (fZ x), q), (nC (fZ x), q), (((fZ x).drop 6).length - (nA (fZ x) + nB (fZ x) + nC (fZ x)), n - 3 * q)] := by
  unfold JA; rw [if_neg hd, hq]
 rw [hH] at key
 by_cases h3 : n < 3 * q
 .have d4 : decide ((n : Int) < 3 * (q : Int)) = true := decide_eq_true (by omega)
  have d5 : decide (3 * (q : Int) > (n : Int)) = true := decide_eq_true (by omega)
  rw [if_pos h3] at key
  simp (disch := omega) only [aD, pT, pS, aS, d1, bK, aP, dH, aA, oR, eq, oN, dE, d4, aG, dI, bE, aLb, if_false, bJ, d2, aE, cY, n0]
  exact key _ _ rfl x1
 rw [if_neg h3] at key
 have d4 : decide ((n : Int) < 3 * (q : Int)) = false := decide_eq_false (by omega)
 have d5 : decide (3 * (q : Int) > (n : Int)) = false := decide_eq_false (by omega)
 simp (disch := omega) only [aD, pT, pS, aS, d1, bK, aP, dH, aA, oR, eq, oN, dE, d4, aE, dI, bE, aLb, if_false, bJ, d2, cY, n0]
 refine tH fun w2 o2 x2 s2 => ?_
 refine lV o2 rfl (by simp [one]) (by simp) fun w3 o3 x3 s3 => ?_
 simp only [bM, aLd, aLc] at o3
 have x13 : aW w1 w3 eT := x2.new x3 (by omega)
 have lb := ob.lt
 obtain ⟨p, hp⟩ : ∃ p, p = w1.heap.size := ⟨_, rfl⟩
 rw [<- hp] at o3 ⊢
 have num : ∀ {y : ByteArray} {e : Int} {w : aNE}, eM w p [.string y, .int .i64 e] -> (aL 45 (.pointer (some ⟨p, 0, none⟩))).run pg w = .ok (.value (rv y e)) w := by
  intro y e w o
  have q := mP (off := 0) o (by simp)
  simp only [aLf, aLe, aLi] at q
  exact q
 have q3 := num o3
 simp (disch := omega) only [q3, bX, aLa, cE, aA, gP]
 refine (IG (x := x) (e := 0) (n := 2) (by omega)).mono ?_
 rintro r w4 ⟨y1, rfl, hy1, x4⟩
 simp (disch := omega) only [pT, pS, aA]
 refine lV (o3.ext x4 (fun h => h)) rfl (by simp [one]) (by simp) fun w5 o5 x5 s5 => ?_
 simp only [bM, aLd, aLc] at o5
 have q5 := num o5
 simp (disch := omega) only [q5, aA]
 refine (IG (x := y1) (n := 2) (by omega)).mono ?_
 rintro r w6 ⟨y2, rfl, hy2, x6⟩
 simp (disch := omega) only [pT, pS, aA]
 refine lV (o5.ext x6 (fun h => h)) rfl (by simp [one]) (by simp) fun w7 o7 x7 s7 => ?_
 simp only [bM, aLd, aLc] at o7
 have q7 := num o7
 simp (disch := omega) only [q7, aA]
 refine (IG (x := y2) (n := 2) (by omega)).mono ?_
 rintro r w8 ⟨y3, rfl, hy3, x8⟩
 simp (disch := omega) only [pT, pS, aA]
 refine lV (o7.ext x8 (fun h => h)) rfl (by simp [one]) (by simp) fun w9 o9 x9 s9 => ?_
 simp only [bM, aLd, aLc] at o9
 have x39 : aW w3 w9 (fun y => y = p) := ((((x4.mono fun _ _ h => h.elim).seq x5).seq ((x6.mono fun _ _ h => h.elim).seq x7)).seq ((x8.mono fun _ _ h => h.elim).seq x9))
 have x03 := x1.seq x13
 have z1 := x1.size
 have x09 : aW w w9 eT := x03.trans x39 fun y hy h => by omega
 have ob9 := (ob.ext x13 (fun h => h)).ext x39 (by omega)
 have e1 : Aw (fZ x) 0 2 = (Aw (nx (fZ x) 0).1 (nx (fZ x) 0).2 2) := rfl
 have v1 : sE (Aw (fZ x) 0 2).1 = nv (fZ x) 0 := rfl
 have f1 : (Aw (fZ x) 0 2).2.2 = (nx (fZ x) 1).2 := rfl
 have g1 : fZ y1 = (nx (fZ x) 1).1 := hy1
 rw [g1, f1] at hy2
 have v2 : sE (Aw (fZ y1) (Aw (fZ x) 0 2).2.2 2).1 = nv (fZ x) 1 := by rw [g1] <;> rfl
 have f2 : (Aw (fZ y1) (Aw (fZ x) 0 2).2.2 2).2.2 = (nx (fZ x) 2).2 := by rw [g1] <;> rfl
 have g2 : fZ y2 = (nx (fZ x) 2).1 := hy2
 rw [f2, g2] at hy3
 have v3 : sE (Aw (fZ y2) (Aw (fZ y1) (Aw (fZ x) 0 2).2.2 2).2.2 2).1 = nv (fZ x) 2 := by rw [f2, g2] <;> rfl
 have f3 : (Aw (fZ y2) (Aw (fZ y1) (Aw (fZ x) 0 2).2.2 2).2.2 2).2.2 = (nx (fZ x) 3).2 := by rw [f2, g2] <;> rfl
 have g3 : fZ y3 = (nx (fZ x) 3).1 := hy3
 rw [f3] at o9
 rw [v1, v2, v3]
 generalize fZ x = l at *
 have k0 := o9.cell (off := 0)
 have k1 := o9.cell (off := 1)
 simp only [aK7, aK8] at k0 k1
 by_cases h6 : l.length < 6
 .have hb := aHI h6
  rw [if_pos h6] at key
  rw [hb] at k1
  have n1 : ((10 : Int) != 0) = true := rfl
  simp (disch := omega) only [k1, aH, aA, cY, n1, jM, bE, if_true, aG, cK]
  exact key _ _ rfl x09
 obtain ⟨_, _, h1, h2, h3', h4⟩ := aI8 (l := l) (by omega)
 rw [if_neg h6] at key
 have g3 : fZ y3 = l.drop 6 := by rw [g3, h1]
 rw [h1] at k1
 rw [h2, h3', h4]
 have n1 : ((0 : Int) != 0) = false := rfl
 have b1 : nA l < 65536 := by rw [<- h2]; exact awX
 have b2 : nB l < 65536 := by rw [<- h3']; exact awX
 have b3 : nC l < 65536 := by rw [<- h4]; exact awX
 have ysz : y3.size = (l.drop 6).length := by rw [<- gM, g3]
 have hl6 : (l.drop 6).length <= 1000000 := by rw [aLs]; omega
 have wy : IntKind.u64.wrap (((l.drop 6).length : Nat) : Int) = (((l.drop 6).length : Nat) : Int) := kS (by omega) (by omega)
 have ea : ((nA l : Int) + (nB l : Int)) = ((nA l + nB l : Nat) : Int) := by omega
 have eb : (((nA l + nB l : Nat) : Int) + (nC l : Int)) = ((nA l + nB l + nC l : Nat) : Int) := by omega
 have wa : IntKind.u64.wrap ((nA l + nB l : Nat) : Int) = ((nA l + nB l : Nat) : Int) := kS (by omega) (by omega)
 have wb : IntKind.u64.wrap ((nA l + nB l + nC l : Nat) : Int) = ((nA l + nB l + nC l : Nat) : Int) := kS (by omega) (by omega)
 by_cases hs : (l.drop 6).length < nA l + nB l + nC l
 .have d6 : decide ((((l.drop 6).length : Nat) : Int) < ((nA l + nB l + nC l : Nat) : Int)) = true := decide_eq_true (by omega)
  rw [if_pos hs] at key
  simp (disch := omega) only [k1, aH, aA, cY, n1, dI, bE, aLb, if_false, bJ, bK, ea, wa, eb, wb, mN, k0, dU, ysz, fS, wy, aS, d6, aG]
  exact key _ _ rfl x09
 .have d6 : decide ((((l.drop 6).length : Nat) : Int) < ((nA l + nB l + nC l : Nat) : Int)) = false := decide_eq_false (by omega)
  rw [if_neg hs] at key
  simp (disch := omega) only [k1, aH, aA, cY, n1, dI, bE, aLb, if_false, bJ, bK, ea, wa, eb, wb, mN, k0, dU, ysz, fS, wy, aS, d6, aE]
  rw [h1] at o9
  refine aDN (nd := (l.drop 6).length - (nA l + nB l + nC l)) (x := y3) hF hm hC ob9 (by omega) o9 (by rw [g3]; omega) (by rw [g3]; omega) (by omega) hn ?_
  intro r w' hr x'
  rw [g3] at hr
  exact key _ _ hr (x09.trans x' fun y hy h => by omega)
def Xm (o : Except Int (List UInt8 × List UInt8 × Nat)) (r : aNF) : Prop := match o with
 | .error e => r = .tuple #[.string ⟨#[]⟩, .string ⟨#[]⟩, .int .i64 0, .int .i64 e]
 | .ok (m, u, n) => r = .tuple #[.string ⟨m.toArray⟩, .string ⟨u.toArray⟩, .int .i64 (n : Nat), .int .i64 0]
theorem aAy {RR : aNF -> aNE -> Prop} {H : LH} {xw y : ByteArray} {q : Nat} {w : aNE} (oq : eM w q (rhC H)) (hxw : xw.size <= 100000) (hy : y.size <= 1000000) (hc : H.count <= 100000) (hf : H.form < 4)
 (hk : ∀ r w', Xm (akA H (fZ xw) (fZ y)) r -> aW w w' eT -> RR r w') :
 IB RR (.pointer (some ⟨q, 0, none⟩)) (.int .i64 (H.size + CE H : Nat)) (.string y) (.string xw) w := by
 unfold IB Rq
 have k1 := oq.cell (off := 1)
 have k3 := oq.cell (off := 3)
 simp only [aK7, aK8] at k1 k3
 have hll := gM xw
 by_cases h0 : (fZ xw).length = 0
 .have hxe : xw = ⟨#[]⟩ := XW (by have := aLI.1 h0; rw [this] <;> rfl)
  subst hxe
  simp (disch := omega) only [aD, zX, ahH, cD, aLa, aV, aA, gV, aG]
  exact hk _ _ (by unfold akA; rw [if_pos h0] <;> rfl) (aW.refl _ _)
 have hen := aoO (x := xw) (by omega)
 have hP : akA H (fZ xw) (fZ y) = match TU H (fZ xw) (fZ y) with | .error e => .error e | .ok m => .ok (nV m, fZ xw, H.size + CE H) := by
  unfold akA; rw [if_neg h0] <;> (cases TU H (fZ xw) (fZ y) <;> rfl)
 rw [hP] at hk
 have wc : IntKind.i64.wrap (H.count : Int) = (H.count : Int) := aP (by omega) (by omega)
 have fin : ∀ {r : aNF} {w1 : aNE}, zF (TU H (fZ xw) (fZ y)) r -> aW w w1 eT →
     aD pg (bQ r 0) w1 fun t99 w2 => aD pg (bQ r 1) w2 fun t100 w3 => As RR t100 (.int .i64 (H.size + CE H : Nat)) (.string xw) t99 w3 := by
  intro r w1 hr x1
  cases hd : TU H (fZ xw) (fZ y) with
  | error e =>
    rw [hd] at hr hk
    obtain rfl : r = .tuple #[.string ⟨#[]⟩, .int .i64 e] := hr
    have n1 : (e != 0) = true := by simp [aCU hd]
    unfold As
    simp (disch := omega) only [aD, pT, pS, aA, cY, n1, aG]
    exact hk _ _ rfl x1
  | ok m =>
    rw [hd] at hr hk
    obtain rfl : r = .tuple #[.string ⟨(nV m).toArray⟩, .int .i64 0] := hr
    have n1 : ((0 : Int) != 0) = false := rfl
    unfold As
    simp (disch := omega) only [aD, pT, pS, aA, cY, n1, aE]
    exact hk _ _ rfl x1
 by_cases h1 : H.form = 0
 .have n0 : ((H.form : Int) == 0) = true := by rw [h1] <;> rfl
  have hD : TU H (fZ xw) (fZ y) = U7 (fZ xw) (fZ y) H.count := by unfold TU; rw [if_pos h1]
  simp (disch := omega) only [aD, zX, hen, cD, aLa, aV, aA, gV, k1, aH, dQ, n0, k3, bY, wc, aG, aE]
  refine (aDm hxw hy hc).mono ?_
  rintro r w1 ⟨hr, x1⟩
  rw [<- hD] at hr
  exact fin hr x1
 .have n0 : ((H.form : Int) == 0) = false := beq_eq_false_iff_ne.2 (by omega)
  have hD : TU H (fZ xw) (fZ y) = JA (fZ xw) (fZ y) H.count := by unfold TU; rw [if_neg h1]
  simp (disch := omega) only [aD, zX, hen, cD, aLa, aV, aA, gV, k1, aH, dQ, n0, k3, bY, wc, aE]
  refine (aBf hxw hy hc).mono ?_
  rintro r w1 ⟨hr, x1⟩
  rw [<- hD] at hr
  exact fin hr x1
theorem aGg {RR : aNF -> aNE -> Prop} {H : LH} {b old : ByteArray} {q : Nat} {w : aNE} (oq : eM w q (rhC H)) (hb : b.size <= 10000) (hold : old.size <= 100000) (hsz : H.size <= (fZ b).length) (hc : H.count <= 100000) (hf : H.form < 4) (hkd : H.kind < 4) (hbt : H.bytes < 2 ^ 40)
 (hk : ∀ r w', Xm (aAm H (fZ b) (fZ old)) r -> aW w w' eT -> RR r w') :
 IA RR (.string b) (.string old) (.pointer (some ⟨q, 0, none⟩)) (.int .u64 (CE H : Nat)) w := by
 unfold IA R4
 have k0 := oq.cell (off := 0)
 have k2 := oq.cell (off := 2)
 have k3 := oq.cell (off := 3)
 simp only [aK7, aK8] at k0 k2 k3
 have hll := gM b
 have hyb : CE H < 2 ^ 41 := by unfold CE; split <;> (try split) <;> omega
 have e1 : (b.size : Int) - (H.size : Int) = ((b.size - H.size : Nat) : Int) := by omega
 have w1 : IntKind.u64.wrap ((b.size - H.size : Nat) : Int) = ((b.size - H.size : Nat) : Int) := kS (by omega) (by omega)
 have hdl : ((fZ b).drop H.size).length = b.size - H.size := by rw [aLs, hll]
 by_cases hs : b.size - H.size < CE H
 .have d1 : decide (((b.size - H.size : Nat) : Int) < (CE H : Int)) = true := decide_eq_true (by omega)
  simp (disch := omega) only [aD, dU, bR, aLa, bY, aP, aY, aV, true_and, aA, gV, bO, k2, aH, fE, e1, fS, w1, aS, d1, bK, aG]
  exact hk _ _ (by unfold aAm; rw [hdl, if_pos hs] <;> rfl) (aW.refl _ _)
 have d1 : decide (((b.size - H.size : Nat) : Int) < (CE H : Int)) = false := decide_eq_false (by omega)
 have w2 : IntKind.i64.wrap (CE H : Int) = (CE H : Int) := aP (by omega) (by omega)
 have e2 : (H.size : Int) + (CE H : Int) = ((H.size + CE H : Nat) : Int) := by omega
 have hH : aAm H (fZ b) (fZ old) = adY H (((fZ b).drop H.size).take (CE H)) (fZ old) := by unfold aAm; rw [hdl, if_neg hs]
 rw [hH] at hk
 have ts : (H.size : Int).toNat = H.size := aK9 _
 have tu : ((H.size + CE H : Nat) : Int).toNat = H.size + CE H := aK9 _
 have hext : fZ (b.extract H.size (H.size + CE H)) = ((fZ b).drop H.size).take (CE H) := by
  rw [Bz]; congr 1; omega
 obtain ⟨y, hy⟩ : ∃ y, y = b.extract H.size (H.size + CE H) := ⟨_, rfl⟩
 rw [<- hy] at hext
 have hyl := gM y
 have hyz : y.size = CE H := by rw [<- hyl, hext, aLn, hdl]; omega
 rw [<- hext] at hk
 rcases (show H.kind = 0 ∨ H.kind = 1 ∨ H.kind = 2 ∨ H.kind = 3 by omega) with h0 | h0 | h0 | h0
 .have n0 : ((H.kind : Int) == 0) = true := by rw [h0] <;> rfl
  simp (disch := omega) only [aD, dU, bR, aLa, bY, w2, aY, aV, true_and, aA, gV, bO, k2, aH, fE, e1, aP, fS, w1, aS, d1, bK, e2, jE, ts, tu, k0, dQ, n0, aG, aE]
  refine hk _ _ ?_ (aW.refl _ _)
  unfold adY
  rw [if_pos h0, <- hy]
  rfl
 .have n0 : ((H.kind : Int) == 0) = false := by rw [h0] <;> rfl
  have n1 : ((H.kind : Int) == 1) = true := by rw [h0] <;> rfl
  have hy1 : CE H = 1 := by unfold CE; rw [if_neg (by omega), if_pos h0]
  obtain ⟨c, hyc⟩ : ∃ c, fZ y = [c] := by
   have h9 : (fZ y).length = 1 := by omega
   match fZ y, h9 with
   | [c], _ => exact ⟨c, rfl⟩
  have g0 : (y[0]'(by omega)).toNat = c.toNat := by
   have := QE y 0 (by omega)
   rw [this]; simp only [hyc, aMF]
  have t0 : (0 : Int).toNat = 0 := rfl
  have wc : IntKind.i64.wrap (H.count : Int) = (H.count : Int) := aP (by omega) (by omega)
  have k0d := (kA oq).cell (off := 0)
  have k3d := (kA oq).cell (off := 3)
  simp only [aK7, aK8] at k0d k3d
  have hy0 : (0 : Int).toNat < y.size := by show 0 < y.size; omega
  have hyx : (0 : Nat) < y.size := by omega
  simp (disch := omega) only [aD, dU, bR, aLa, bY, w2, aY, aV, true_and, aA, gV, bO, k2, aH, fE, e1, aP, fS, w1, aS, d1, bK, e2, jE, ts, tu, <- hy, k0, jD, t0, g0, dQ, n0, n1, k3d, wc, aG, aE]
  refine (aD2 (c := c) (by omega)).mono ?_
  rintro r w3 ⟨rfl, x3⟩
  refine hk _ _ ?_ ((aW.dr w eT).seq x3)
  unfold adY
  rw [if_neg (by omega), if_pos h0, hyc]
  rfl
 .have n0 : ((H.kind : Int) == 0) = false := by rw [h0] <;> rfl
  have n1 : ((H.kind : Int) == 1) = false := by rw [h0] <;> rfl
  have n2 : ((H.kind : Int) == 2) = true := by rw [h0] <;> rfl
  have hB : adY H (fZ y) (fZ old) = match auZ H (fZ y) (fZ old) with | .error e => .error e | .ok p => akA H p.1 p.2 := by
   unfold adY; rw [if_neg (by omega), if_neg (by omega)] <;> (cases auZ H (fZ y) (fZ old) <;> rfl)
  have hW : auZ H (fZ y) (fZ old) = match wtR (fZ y) with | .error e => .error e | .ok p => .ok (p.1, (fZ y).drop p.2) := by
   unfold auZ; rw [if_pos h0] <;> (cases wtR (fZ y) <;> rfl)
  rw [hB, hW] at hk
  simp (disch := omega) only [aD, dU, bR, aLa, bY, w2, aY, aV, true_and, aA, gV, bO, k2, aH, fE, e1, aP, fS, w1, aS, d1, bK, e2, jE, ts, tu, <- hy, k0, dQ, n0, n1, n2, aG, aE]
  refine (aDS (x := y) (by omega)).mono ?_
  rintro r w3 ⟨hr, x3⟩
  cases hq : wtR (fZ y) with
  | error e =>
    rw [hq] at hr hk
    obtain rfl : r = .tuple #[.string ⟨#[]⟩, .int .i64 0, .int .i64 e] := hr
    have n3 : (e != 0) = true := by simp [aFf hq]
    simp (disch := omega) only [YB, Ys, Yu, aA, cY, n3, aG]
    exact hk _ _ rfl x3
  | ok p =>
    have hp2 := aG7 hq
    obtain ⟨m, n⟩ := p
    rw [hq] at hr hk
    obtain rfl : r = .tuple #[.string ⟨m.toArray⟩, .int .i64 (n : Nat), .int .i64 0] := hr
    simp only at hp2 hk
    have n3 : ((0 : Int) != 0) = false := rfl
    have tn : (n : Int).toNat = n := aK9 _
    have hms : (⟨m.toArray⟩ : ByteArray).size = m.length := by rw [<- gM] <;> rfl
    have hmx : fZ (⟨m.toArray⟩ : ByteArray) = m := acU m
    generalize hmg : (⟨m.toArray⟩ : ByteArray) = mm at *
    have hz : fZ (y.extract n y.size) = (fZ y).drop n := by
     rw [Bz, aLH (by rw [aLs]; omega)]
    have hzs : (y.extract n y.size).size <= 1000000 := by rw [<- gM, hz, aLs]; omega
    simp (disch := omega) only [YB, Ys, Yu, aA, cY, n3, aE, jY, tn]
    refine aAy (oq.ext x3 (fun h => h)) (by omega) hzs hc hf fun r w4 hr4 x4 => ?_
    rw [hz, hmx] at hr4
    exact hk _ _ hr4 (x3.seq x4)
 .have n0 : ((H.kind : Int) == 0) = false := by rw [h0] <;> rfl
  have n1 : ((H.kind : Int) == 1) = false := by rw [h0] <;> rfl
  have n2 : ((H.kind : Int) == 2) = false := by rw [h0] <;> rfl
  have hB : adY H (fZ y) (fZ old) = akA H (fZ old) (fZ y) := by
   unfold adY auZ; rw [if_neg (by omega), if_neg (by omega), if_neg (by omega)]
  rw [hB] at hk
  simp (disch := omega) only [aD, dU, bR, aLa, bY, w2, aY, aV, true_and, aA, gV, bO, k2, aH, fE, e1, aP, fS, w1, aS, d1, bK, e2, jE, ts, tu, <- hy, k0, dQ, n0, n1, n2, aE]
  exact aAy oq hold (by omega) hc hf hk
theorem aDb {b old : ByteArray} {w : aNE} (hb : b.size <= 10000) (hold : old.size <= 100000) (hc : (qI (fZ b)).2 = 0 -> (qI (fZ b)).1.count <= 100000) :
 aT pg Mw #[.string b, .string old] w (fun r w' => Xm (Yy (fZ b) (fZ old)) r /\ aW w w' eT) := by
 refine auO ?_
 obtain ⟨RR, hRR⟩ : ∃ RR : aNF -> aNE -> Prop, RR = fun r w' => Xm (Yy (fZ b) (fZ old)) r /\ aW w w' eT := ⟨_, rfl⟩
 rw [<- hRR]
 have key : ∀ r w', Xm (Yy (fZ b) (fZ old)) r -> aW w w' eT -> RR r w' := fun r w' h1 h2 => by rw [hRR]; exact ⟨h1, h2⟩
 unfold azI Rz QM
 refine (aFE (b := b)).mono ?_
 rintro r w1 ⟨rfl, x1⟩
 unfold rhV
 simp (disch := omega) only [aD, pT, pS, aA, cY]
 refine Bt fun w2 o2 x2 s2 => ?_
 refine sH o2 rfl (by simp [one]) (by simp) fun w3 o3 x3 s3 => ?_
 simp only [bM, aLd, aLc] at o3
 have x03 : aW w w3 eT := x1.seq (x2.new x3 (by omega))
 by_cases he : (qI (fZ b)).2 = 0
 .have n0 : ((qI (fZ b)).2 != 0) = false := by rw [he] <;> rfl
  have hR : Yy (fZ b) (fZ old) = aAm (qI (fZ b)).1 (fZ b) (fZ old) := by unfold Yy; rw [if_pos he]
  rw [hR] at key
  obtain ⟨h1, h2, h3, h4, h5, h6⟩ := aCF he
  have hc := hc he
  generalize (qI (fZ b)).1 = H at *
  have k0 := o3.cell (off := 0)
  have k3 := o3.cell (off := 3)
  have k4 := o3.cell (off := 4)
  simp only [aK7, aK8] at k0 k3 k4
  have fin := aGg (RR := RR) o3 hb hold h2 hc h4 h3 h6 fun r w' hr x' => key r w' hr (x03.seq x')
  rcases (show H.kind = 0 ∨ H.kind = 1 ∨ 2 <= H.kind by omega) with h0 | h0 | h0
  .have n1 : ((H.kind : Int) == 0) = true := by rw [h0] <;> rfl
   have n2 : ((H.kind : Int) == 1) = false := by rw [h0] <;> rfl
   have hy : CE H = H.count := by unfold CE; rw [if_pos h0]
   rw [hy] at fin
   simp (disch := omega) only [n0, cA, aLa, aY, aV, aA, gV, k4, aH, k0, dQ, n1, k3, aG, aE]
   unfold CP CQ
   simp (disch := omega) only [aD, aY, aA, gV, k0, aH, dQ, n2, aE]
   exact fin
  .have n1 : ((H.kind : Int) == 0) = false := by rw [h0] <;> rfl
   have n2 : ((H.kind : Int) == 1) = true := by rw [h0] <;> rfl
   have hy : CE H = 1 := by unfold CE; rw [if_neg (by omega), if_pos h0]
   rw [hy] at fin
   simp (disch := omega) only [n0, cA, aLa, aY, aV, aA, gV, k4, aH, k0, dQ, n1, k3, aE]
   unfold CP CQ
   simp (disch := omega) only [aD, aY, aA, gV, k0, aH, dQ, n2, aG]
   exact fin
  .have n1 : ((H.kind : Int) == 0) = false := beq_eq_false_iff_ne.2 (by omega)
   have n2 : ((H.kind : Int) == 1) = false := beq_eq_false_iff_ne.2 (by omega)
   have hy : CE H = H.bytes := by unfold CE; rw [if_neg (by omega), if_neg (by omega)]
   rw [hy] at fin
   simp (disch := omega) only [n0, cA, aLa, aY, aV, aA, gV, k4, aH, k0, dQ, n1, k3, aE]
   unfold CP CQ
   simp (disch := omega) only [aD, aY, aA, gV, k0, aH, dQ, n2, aE]
   exact fin
 .have n0 : ((qI (fZ b)).2 != 0) = true := by simp [he]
  simp (disch := omega) only [n0, cA, aLa, aY, aV, aA, gV, aG]
  exact key _ _ (by unfold Yy; rw [if_neg he] <;> rfl) x03
theorem aHx {wl : List UInt8} (h : gQ (bT wl) ≠ 0) (s : Nat) : 0 < bitsOf (wC wl) s ↔ s < wl.length /\ 0 < (bT wl).getD s 0 := by
 have hok := vZ rfl h
 unfold bitsOf wC
 rw [aLl]
 by_cases hs : s < wl.length
 .rw [Uj (by rw [iQ]; exact hs)]
  unfold Eg
  simp only [aM6]
  have hle := hok.1 ((bT wl).getD s 0)
  by_cases h0 : (bT wl).getD s 0 = 0
  .rw [if_pos h0, h0]; simp
  .rw [if_neg h0]
   have := hle (tG (by rw [iQ]; exact hs))
   simp only
   omega
 .rw [aLo (by rw [sS, iQ]; omega)]
  simp [hs]
theorem aCD {bv wv : aNF} {b wl : List UInt8} {fresh : Bool} {w : aNE} (h : Bs w bv b) (hw : Bs w wv wl) :
 aT pg zL #[bv, wv, .bool fresh] w (fun r w' => r = .bool true /\ aW w w' eT) := by
 refine P1 ?_
 unfold Jy xI xE
 refine (aGk w).mono ?_
 rintro r w1 ⟨rfl, x1⟩
 have hb1 := h.ext x1 (bZ _)
 have hw1 := hw.ext x1 (bZ _)
 have hv := hb1
 have hwv := hw1
 obtain ⟨a, c, rfl, hc⟩ := hb1.len
 obtain ⟨a2, c2, rfl, hc2⟩ := hw1.len
 simp only [aLk] at hc hc2 hv hwv ⊢
 by_cases hl : 2000 < b.length
 .have d1 : decide ((b.length : Int) > 2000) = true := decide_eq_true (by omega)
  have d2 : decide ((2000 : Int) < (b.length : Int)) = true := decide_eq_true (by omega)
  simp (disch := omega) only [aD, oP, aLu, aQ, true_and, aA, dE, bE, d1, jM, if_true, aG, cK, aE]
  exact x1
 have d1 : decide ((b.length : Int) > 2000) = false := decide_eq_false (by omega)
 have d2 : decide ((2000 : Int) < (b.length : Int)) = false := decide_eq_false (by omega)
 by_cases hol : 300 < wl.length
 .have d3 : decide ((wl.length : Int) > 300) = true := decide_eq_true (by omega)
  have d4 : decide ((300 : Int) < (wl.length : Int)) = true := decide_eq_true (by omega)
  simp (disch := omega) only [aD, oP, aLu, aQ, true_and, aA, dE, bE, d1, dI, aLb, if_false, bJ, d3, aG, aE]
  exact x1
 have d3 : decide ((wl.length : Int) > 300) = false := decide_eq_false (by omega)
 have d4 : decide ((300 : Int) < (wl.length : Int)) = false := decide_eq_false (by omega)
 simp (disch := omega) only [aD, oP, aLu, aQ, true_and, aA, dE, bE, d1, dI, aLb, if_false, bJ, d3, aE]
 refine (aCm (fresh := fresh) hv (by omega) hwv (by omega)).mono ?_
 rintro r w2 ⟨hp, x2⟩
 have x02 := x1.seq x2
 have hv2 := hv.ext x2 (bZ _)
 have hwv2 := hwv.ext x2 (bZ _)
 have hcw := iH hwv2
 have hls : fZ (⟨wl.toArray⟩ : ByteArray) = wl := acU wl
 obtain ⟨P, hP⟩ : ∃ P : Nat -> Prop, P = fun s => s < wl.length /\ 0 < (bT wl).getD s 0 := ⟨_, rfl⟩
 obtain ⟨m0, hm0⟩ : ∃ m0 : Bool, (m0 = true ↔ b ≠ [] /\ gQ (bT wl) ≠ 0) := ⟨decide (b ≠ [] /\ gQ (bT wl) ≠ 0), by simp⟩
 obtain ⟨xv, e, rfl, hxe⟩ : ∃ xv e, r = .tuple #[xv, .int .i64 e] /\ ((xv = .slice none 0 0 /\ e ≠ 0 /\ ((b = [] /\ e = 1) ∨ (b ≠ [] /\ fresh = true /\ gQ (bT wl) ≠ 0 /\ 129 < wl.length /\ e = 12) ∨ (b ≠ [] /\ (gQ (bT wl) = 0 ∨ ∃ s ∈ bT b, bitsOf (wC wl) s = 0) /\ e = 1))) ∨
  (e = 0 /\ b ≠ [] /\ gQ (bT wl) ≠ 0 /\ (∀ s ∈ bT b, 0 < bitsOf (wC wl) s) /\ (fresh = true -> wl.length <= 129) /\ ∃ bytes, sV w2 w1.heap.size 1 xv bytes.length (bytes.map sU) /\ bytes.length <= 11 * b.length / 8 + 100 /\
    (∃ c t, bytes = c :: t /\ c.toNat % 4 = if fresh then 2 else 3) /\ (∀ more, (qI (bytes ++ more)).1.count = b.length) /\ ∀ more old, (fresh = true ∨ old = wl) -> Yy (bytes ++ more) old = .ok (b, wl, bytes.length))) := by
  rcases hp with ⟨e, rfl, he⟩ | ⟨h1, h2, h3, h4, v, bytes, rfl, h5, h6, h7, h8, h9⟩
  .refine ⟨_, e, rfl, .inl ⟨rfl, ?_, he⟩⟩
   rcases he with he | he | he
   .omega
   .omega
   .omega
  .exact ⟨v, 0, rfl, .inr ⟨rfl, h1, h2, h3, h4, bytes, h5, h6, h7, h8, h9⟩⟩
 have tail : ∀ (m : Bool) (w3 : aNE), (m = true ↔ m0 = true /\ ∀ s ∈ bT b, P s) -> aW w2 w3 eT →
     tK (fun r w' => r = .bool true /\ aW w w' eT) (.slice a b.length c) (.slice a2 wl.length c2) (.bool fresh) xv (.int .i64 e) (.bool m) w3 := by
  intro m w3 hm x3
  have x03 := x02.seq x3
  unfold tK yQ
  have hPb : gQ (bT wl) ≠ 0 -> ∀ s, P s ↔ 0 < bitsOf (wC wl) s := fun hd s => by rw [hP]; exact (aHx hd s).symm
  have z0 : (((0 : Nat) : Int) == 0) = true := rfl
  cases m with
  | false =>
    rcases hxe with ⟨rfl, he0, hes⟩ | ⟨_, h1, h2, h3, _⟩
    .have n1 : (e != 0) = true := by simp [he0]
     simp (disch := omega) only [aD, oP, aLE, cY, n1, aA, pB, bE, if_true, bJ, aQ, dQ, z0, true_and, aG]
     exact x03
    .have := hm.2 ⟨hm0.2 ⟨h1, h2⟩, fun s hs => (hPb h2 s).2 (h3 s hs)⟩
     cases this
  | true =>
    obtain ⟨hq, hall⟩ := hm.1 rfl
    obtain ⟨hb0, hd0⟩ := hm0.1 hq
    have hall2 : ∀ s ∈ bT b, 0 < bitsOf (wC wl) s := fun s hs => (hPb hd0 s).1 (hall s hs)
    rcases hxe with ⟨rfl, he0, hes⟩ | ⟨rfl, h1, h2, h3, h4, bytes, o2, h5, h6, hct, h7⟩
    .have he : fresh = true /\ 129 < wl.length /\ e = 12 := by
      rcases hes with he | he | he
      .exact absurd he.1 hb0
      .exact ⟨he.2.1, he.2.2.2.1, he.2.2.2.2⟩
      .rcases he.2.1 with h | ⟨s, hs1, hs2⟩
       .exact absurd h hd0
       .have := hall2 s hs1; omega
     obtain ⟨rfl, hwl, rfl⟩ := he
     have d5 : decide ((wl.length : Int) > 129) = true := decide_eq_true (by omega)
     have d5' : decide ((129 : Int) < (wl.length : Int)) = true := decide_eq_true (by omega)
     have n1 : ((12 : Int) == 12) = true := rfl
     simp (disch := omega) only [aD, oP, aLu, cY, aA, bE, pB, if_true, dQ, n1, bJ, aQ, z0, true_and, aG, dE, d5, aE]
     exact x03
    .have n0 : ((0 : Int) != 0) = false := rfl
     have hcw3 := iH (hwv2.ext x3 (bZ _))
     have o3 := o2.ext x3 (fun _ _ h => h)
     have hs3 := o3.sl
     have hcx3 := iH hs3
     have hv3 := hv2.ext x3 (bZ _)
     have hw3 := hwv2.ext x3 (bZ _)
     obtain ⟨ax, cx, rfl⟩ := o3.len
     have fin : ∀ (old : List UInt8), (fresh = true ∨ old = wl) -> old.length <= 300 -> qL (fun r w' => r = .bool true /\ aW w w' eT) (.slice a b.length c) (.slice a2 wl.length c2) (.bool fresh) (.slice ax bytes.length cx) (.string ⟨old.toArray⟩) w3 := by
      intro old hold hol3
      unfold qL
      have hread := h7 [] old hold
      rw [aLX] at hread
      have hcnt := hct []
      rw [aLX] at hcnt
      have hlx : fZ (⟨bytes.toArray⟩ : ByteArray) = bytes := acU bytes
      have hlo : fZ (⟨old.toArray⟩ : ByteArray) = old := acU old
      have q1 := gM (⟨bytes.toArray⟩ : ByteArray)
      have q2 := gM (⟨old.toArray⟩ : ByteArray)
      rw [hlx] at q1
      rw [hlo] at q2
      simp (disch := omega) only [aD, hcx3, aA]
      refine (aDb (b := ⟨bytes.toArray⟩) (old := ⟨old.toArray⟩) (by omega) (by omega) (by rw [hlx, hcnt]; intro _; omega)).mono ?_
      rintro r w4 ⟨hr, x4⟩
      rw [hlx, hlo, hread] at hr
      obtain rfl : r = .tuple #[.string ⟨b.toArray⟩, .string ⟨wl.toArray⟩, .int .i64 (bytes.length : Nat), .int .i64 0] := hr
      simp (disch := omega) only [x40, x41, x42, x43, aA, dQ, bE]
      refine abQ fun w5 c5 hs5 x5 s5 _ => ?_
      have hold5 : Bs w5 (.slice (some ⟨w4.heap.size, 0, none⟩) (⟨old.toArray⟩ : ByteArray).size c5) old := by
       have e : (⟨old.toArray⟩ : ByteArray).data.toList = old := by simp
       rw [e] at hs5
       exact hs5
      have x35 := x4.seq x5
      refine (aAS (hs3.ext x35 (bZ _)) (by omega) hold5 (by omega)).mono ?_
      rintro r w6 ⟨hr, x6⟩
      rw [hread] at hr
      obtain ⟨v1, v2, rfl, hm1, hu1⟩ := hr
      have x36 := x35.seq x6
      have hcb6 := iH (hv3.ext x36 (bZ _))
      have hcw6 := iH (hw3.ext x36 (bZ _))
      have hcm := iH hm1.sl
      have hcu := iH hu1.sl
      have hs6 := hs3.ext x36 (bZ _)
      obtain ⟨ch, t, hbt, hch⟩ := h6
      have hl0 : 0 < bytes.length := by rw [hbt]; simp
      obtain ⟨bb, off, cb, hbe, hcb, hcell⟩ := hs6.openV (by simpa using hl0)
      simp only [aLk, Value.slice.injEq] at hbe
      obtain ⟨rfl, _, rfl⟩ := hbe
      have g1 := hcell 0 (by rw [aLk]; exact hl0)
      have hb0 : bytes[0]'hl0 = ch := by simp [hbt]
      simp only [aMe, sU, hb0] at g1
      have ea := aBD (aLO ch)
      have t0 : (0 : Int).toNat = 0 := rfl
      have z0' : ((0 : Int) == 0) = true := rfl
      have bself : ∀ x : ByteArray, (x.toList == x.toList) = true := fun x => by simp
      have iself : ∀ z : Int, (z == z) = true := fun z => by simp
      have ef : ((((ch.toNat % 4 : Nat) : Int) == 2) == fresh) = true := by
       rw [hch]
       cases fresh <;> rfl
      simp (maxSteps := 4000000) (disch := omega) only [x40, x41, x42, x43, z0', pB, if_true, bJ, aA, hcb6, zX, bself, bE, hcw6, aQ, dQ, iself, hcm, hcu, dA, t0, gS, g1, aH, wK, ea, rQ, ef, true_and]
      exact (x03.seq x36)
     cases fresh with
     | true =>
       have hwl := h4 rfl
       have d5 : decide ((wl.length : Int) > 129) = false := decide_eq_false (by omega)
       have d5' : decide ((129 : Int) < (wl.length : Int)) = false := decide_eq_false (by omega)
       simp (disch := omega) only [aD, oP, aLu, cY, n0, aA, sL, bE, aLb, if_false, cK, pB, if_true, dQ, aG, aE, bJ, aQ, dE, d5, hcw3]
       exact fin [] (.inl rfl) (by simp)
     | false =>
       simp (disch := omega) only [aD, oP, aLu, cY, n0, aA, sL, bE, aLb, if_false, cK, dQ, aE, hcw3]
       exact fin wl (.inr rfl) (by omega)
 have loop : ∀ (w3 : aNE), aW w2 w3 eT -> tP (fun r w' => r = .bool true /\ aW w w' eT) (.slice a b.length c) (.slice a2 wl.length c2) (.bool fresh) xv (.int .i64 e) (.bool m0) w3 := by
  intro w3 x3
  unfold tP yV xX yU yP
  have hv3 := hv2.ext x3 (bZ _)
  have hw3 := hwv2.ext x3 (bZ _)
  refine cS.rule (fun k (t : aNF × aNF) w' => ∃ (i : Nat) (m : Bool), k = b.length - i /\ t = (.bool m, .int .i64 i) /\ i <= b.length /\ (m = true ↔ m0 = true /\ ∀ s ∈ (bT b).take i, P s) /\ w' = w3) b.length
   ⟨0, m0, rfl, rfl, by omega, by simp, rfl⟩ ?_
  rintro k t w4 ⟨i, m, rfl, rfl, hi, hm, rfl⟩
  unfold tS
  by_cases hgo : i < b.length /\ m = true
  .obtain ⟨hlt, rfl⟩ := hgo
   have d5 : decide ((i : Int) < (b.length : Int)) = true := decide_eq_true (by omega)
   obtain ⟨bb, off, cb, hbe, hcb, hcell⟩ := hv3.openV (by simp; omega)
   simp only [aLk, Value.slice.injEq] at hbe
   obtain ⟨rfl, _, rfl⟩ := hbe
   have g1 := hcell i (by rw [aLk]; exact hlt)
   simp only [aMe, sU] at g1
   have hget : (bT b)[i]? = some (b[i]'hlt).toNat := by unfold bT; rw [aLD, aLg hlt] <;> rfl
   have htk : (bT b).take (i + 1) = (bT b).take i ++ [(b[i]'hlt).toNat] := by rw [List.take_add_one, hget] <;> rfl
   have hs256 : (b[i]'hlt).toNat < 256 := aLO _
   have hm1 := hm.1 rfl
   generalize (b[i]'hlt).toNat = s at *
   have e1 : (i : Int) + 1 = ((i + 1 : Nat) : Int) := by omega
   have fin : ∀ m' : Bool, (m' = true ↔ P s) -> ∃ k, k < b.length - i /\ ∃ (i' : Nat) (m : Bool), k = b.length - i' /\ ((.bool m', .int .i64 ((i + 1 : Nat) : Int)) : aNF × aNF) = (.bool m, .int .i64 i') /\ i' <= b.length /\ (m = true ↔ m0 = true /\ ∀ s ∈ (bT b).take i', P s) := by
    intro m' hm'
    refine ⟨b.length - (i + 1), by omega, i + 1, m', rfl, rfl, by omega, ?_⟩
    rw [htk, hm']
    constructor
    .intro hPs
     refine ⟨hm1.1, fun x hx => ?_⟩
     rcases aLQ.1 hx with hx | hx
     .exact hm1.2 x hx
     .obtain rfl : x = s := by simpa using hx
      exact hPs
    .intro h; exact h.2 s (by simp)
   by_cases hsw : s < wl.length
   .have d6 : decide ((s : Int) < (wl.length : Int)) = true := decide_eq_true (by omega)
    obtain ⟨bw, offw, cw, hwe, hcwc, hwcell⟩ := hw3.openV (by simp; omega)
    simp only [aLk, Value.slice.injEq] at hwe
    obtain ⟨rfl, _, rfl⟩ := hwe
    have g2 := hwcell s (by rw [aLk]; exact hsw)
    simp only [aMe, sU] at g2
    have hgw : (bT wl).getD s 0 = (wl[s]'hsw).toNat := by unfold bT; rw [aLl, aLD, aLg hsw] <;> rfl
    have hPd : P s ↔ 0 < (wl[s]'hsw).toNat := by rw [hP]; simp only; rw [hgw]; exact ⟨fun h => h.2, fun h => ⟨hsw, h⟩⟩
    by_cases h0 : 0 < (wl[s]'hsw).toNat
    .have d7 : decide (((wl[s]'hsw).toNat : Int) > 0) = true := decide_eq_true (by omega)
     have d7' : decide ((0 : Int) < ((wl[s]'hsw).toNat : Int)) = true := decide_eq_true (by omega)
     simp (disch := omega) only [aD, aQ, dA, aK9, bK, e1, aP, aA, gS, aS, d5, pB, bE, if_true, bJ, g1, aH, dF, d6, g2, dE, d7, and_true, aG]
     exact fin true ⟨fun _ => hPd.2 h0, fun _ => rfl⟩
    .have d7 : decide (((wl[s]'hsw).toNat : Int) > 0) = false := decide_eq_false (by omega)
     have d7' : decide ((0 : Int) < ((wl[s]'hsw).toNat : Int)) = false := decide_eq_false (by omega)
     simp (disch := omega) only [aD, aQ, dA, aK9, bK, e1, aP, aA, gS, aS, d5, pB, bE, if_true, bJ, g1, aH, dF, d6, g2, dE, d7, and_true, aG]
     exact fin false ⟨fun h => (by cases h), fun h => absurd (hPd.1 h) h0⟩
   .have d6 : decide ((s : Int) < (wl.length : Int)) = false := decide_eq_false (by omega)
    simp (disch := omega) only [aD, aQ, dA, aK9, bK, e1, aP, aA, gS, aS, d5, pB, bE, if_true, bJ, g1, aH, dF, d6, sL, aLb, if_false, cK, and_true, aG]
    exact fin false ⟨fun h => (by cases h), fun h => by rw [hP] at h; exact absurd h.1 hsw⟩
  .by_cases hlt : i < b.length
   .have d5 : decide ((i : Int) < (b.length : Int)) = true := decide_eq_true (by omega)
    have hmf : m = false := by
     cases m
     .rfl
     .exact absurd ⟨hlt, rfl⟩ hgo
    subst hmf
    simp (disch := omega) only [aD, aQ, bK, aP, aA, aS, d5, pB, bE, if_true, bJ, aE]
    refine tail false w4 ⟨fun h => (by cases h), fun h => ?_⟩ x3
    exact hm.2 ⟨h.1, fun s hs => h.2 s (aMq hs)⟩
   .have d5 : decide ((i : Int) < (b.length : Int)) = false := decide_eq_false (by omega)
    have : i = b.length := by omega
    subst this
    rw [aLH (by rw [iQ]; omega)] at hm
    simp (disch := omega) only [aD, aQ, bK, aP, aA, aS, d5, sL, bE, aLb, if_false, aE, cK]
    exact tail m w4 hm x3
 by_cases h0 : 0 < b.length
 .have d5 : decide ((b.length : Int) > 0) = true := decide_eq_true (by omega)
  have d5' : decide ((0 : Int) < (b.length : Int)) = true := decide_eq_true (by omega)
  simp (disch := omega) only [pT, pS, d5, pB, if_true, bJ, aA, hcw]
  refine (aaQ (x := ⟨wl.toArray⟩) (by rw [<- gM, hls]; omega)).mono ?_
  rintro r w3 ⟨rfl, rfl⟩
  rw [hls]
  by_cases hd : 0 < gQ (bT wl)
  .have d6 : decide ((gQ (bT wl) : Int) > 0) = true := decide_eq_true (by omega)
   have d6' : decide ((0 : Int) < (gQ (bT wl) : Int)) = true := decide_eq_true (by omega)
   simp (disch := omega) only [dE, d6, aA]
   have : m0 = true := hm0.2 ⟨fun e => (by rw [e] at h0; simp at h0), by omega⟩
   rw [this] at loop
   exact loop _ (aW.refl _ _)
  .have d6 : decide ((gQ (bT wl) : Int) > 0) = false := decide_eq_false (by omega)
   have d6' : decide ((0 : Int) < (gQ (bT wl) : Int)) = false := decide_eq_false (by omega)
   simp (disch := omega) only [dE, d6, aA]
   have : m0 = false := by
    cases hq : m0
    .rfl
    .exact absurd (hm0.1 hq).2 (by omega)
   rw [this] at loop
   exact loop _ (aW.refl _ _)
 .have d5 : decide ((b.length : Int) > 0) = false := decide_eq_false (by omega)
  have d5' : decide ((0 : Int) < (b.length : Int)) = false := decide_eq_false (by omega)
  simp (disch := omega) only [pT, pS, d5, sL, aLb, if_false, cK, aA]
  have : m0 = false := by
   cases hq : m0
   .rfl
   .exact absurd (by have := (hm0.1 hq).1; exact this) (by simp; exact aLI.1 (by omega))
  rw [this] at loop
  exact loop w2 (aW.refl _ _)
end Go.Proofs.YtgpimhlgaokobaaGreat
namespace Go.En
open Go Go.ChangeShapes Go.WideShapes Go.ChangeAt Go.RowKit
theorem aAn {H : Type} {enc : TypeId × aNF -> H} {P : Program} (hl : laidOutB P = true) {W W' : aNE} (hb : Below W.heap.size W W') : ∀ (ts : List TypeId) (vs : List aNF) (ds : List (DataW H)) (ps : List MemPlace),
 (ts.all fun t => P.readableRec t && decide (t < P.types.size)) = true -> DataW.TrodAll enc P W 0 (fun _ => true) true ts vs ds ps -> (∀ x ∈ ps, x.block < W.heap.size) →
 DataW.TrodAll enc P W' 0 (fun b => decide (b < W.heap.size)) true ts vs ds ps := by
 intro ts
 induction ts with
 | nil =>
   intro vs ds ps _ h _
   cases vs <;> cases ds <;> simp [DataW.TrodAll] at h ⊢
   exact h
 | cons t ts ih =>
   intro vs ds ps hr h hlt
   cases vs with
   | nil => simp [DataW.TrodAll] at h
   | cons v vs =>
     cases ds with
     | nil => simp [DataW.TrodAll] at h
     | cons d ds =>
       obtain ⟨p, q, h1, h2, rfl⟩ := h
       rw [List.all_cons, aLq, aLq, decide_eq_true_eq] at hr
       exact ⟨p, q, Below.trod hl hr.1.1 hr.1.2 h1 hb (fun x hx => hlt x (aMp _ hx)), ih _ _ _ hr.2 h2 (fun x hx => hlt x (aNe _ hx)), rfl⟩
theorem aHX {H : Type} {enc : TypeId × aNF -> H} {P : Program} {f : Func} {s : ChangeSpec} {apart fresh handsOn : Bool} {tb : TypeId} {W W' : aNE} {args : Array aNF} {ds gs : List (DataW H)} {before : List MemPlace}
 (hl : laidOutB P = true) (hr : (f.params.toList.all fun t => P.readableRec t && decide (t < P.types.size)) = true) (hres : f.resultTypes = #[tb]) (hbool : P.underlying tb = some .bool)
 (hW : DataW.Whole enc P f.params.toList s.vars apart W args.toList ds gs before) (hvars : s.vars = []) (h1 : (s.fn H (ds ++ gs)).results = [.lit (.bool true)]) (h2 : (s.fn H (ds ++ gs)).args = ds) (h3 : (s.fn H (ds ++ gs)).vars = [])
 (hx : aW W W' eT) : s.post enc P f apart fresh handsOn false W args (.bool true) W' := by
 have hb := hx.below
 have hlt : ∀ x ∈ before, x.block < W.heap.size := fun x hx => hW.lt x hx
 have hW' := hW
 obtain ⟨p, q, hA, hV, rfl, _, _⟩ := hW
 rw [hvars] at hV
 obtain ⟨_, rfl⟩ := trodVars_none hV
 rw [aLX] at hW' hlt
 refine ⟨ds, gs, p, [], p, [], hW', ?_, ?_, ?_, hb.frame _, fun h => by cases h⟩
 .rw [h1, hres]
  exact trodAll_cons_mk (shut_bool hbool _) trodAll_mk0
 .rw [h2]; exact aAn hl hb _ _ _ _ hr hA hlt
 .rw [h3, hvars] <;> rfl
theorem aFl {H : Type} {enc : TypeId × aNF -> H} {P : Program} {W : aNE} {base b0 : Nat} {r : Reach} {sp : Nat -> Bool} {hd : Bool} {t e : TypeId} {k : IntKind} {v : aNF} {d : DataW H} {ps : List MemPlace} (ht : P.underlying t = some (.slice e)) (he : P.underlying e = some (.int k)) (hc : P.cellsOf e = 1)
 (hval : Value.okWide P W r b0 t v) (h : DataW.Trod enc P W base sp hd t v d ps) :
 ∃ zs : List Int, Sl W v (zs.map (Value.int k)) /\ zs.length <= 9223372036854775807 /\ ∀ z ∈ zs, (Lit.int k z).wf = true := by
 obtain ⟨a0, len, cap, rfl⟩ := okWide_slice ht hval
 obtain ⟨fuel, hf⟩ := h
 rcases open_ints ht he hc hf with ⟨hcs, -⟩ | ⟨a, len', cap', zs, hcs, _, hl, hm, hz, -, hcell, hwz⟩
 .have : Value.slice a0 len cap = .slice none 0 0 := by simpa [Value.cells] using hcs
  cases this
  exact ⟨[], ⟨none, 0, 0, rfl, rfl, aLm _, fun h => absurd h (by simp)⟩, by simp, by simp⟩
 .have : Value.slice a0 len cap = .slice (some a) len' cap' := by simpa [Value.cells] using hcs
  cases this
  unfold maxLen at hm
  have hle : len <= zs.length := by rw [hz]; split <;> omega
  refine ⟨zs.take len, ⟨some a, len, cap, rfl, by rw [aLk, aLn]; omega, hl, fun h0 => ?_⟩, by rw [aLn]; omega, fun z hz => hwz z (aMq hz)⟩
  obtain ⟨b, off, spot⟩ := a
  have hs : spot = none := by
   have h0 := hcell 0 (by omega)
   unfold World.cell? at h0
   split at h0
   .cases spot
    .rfl
    .simp [Addr.add] at h0
   .cases h0
  subst hs
  refine ⟨b, off, rfl, fun i hi => ?_⟩
  rw [<- NH, hcell i (by omega), aLD, aLY hi, aLl, aLg (by omega)]
  rfl
theorem aCj (zs : List Int) (h : ∀ z ∈ zs, (Lit.int .u8 z).wf = true) : ∃ l : List UInt8, zs.map (Value.int .u8) = l.map sU /\ l.length = zs.length := by
 refine ⟨zs.map fun z => UInt8.ofNat z.toNat, ?_, by simp⟩
 rw [aNC]
 refine aLN fun z hz => ?_
 have := h z hz
 have hx : 0 <= z /\ z <= 255 := by simpa [Lit.wf, IntKind.min, IntKind.max, IntKind.signed, IntKind.bits] using this
 show _ = sU (UInt8.ofNat z.toNat)
 unfold sU
 rw [UInt8.toNat_ofNat']
 congr 1
 omega
end Go.En
