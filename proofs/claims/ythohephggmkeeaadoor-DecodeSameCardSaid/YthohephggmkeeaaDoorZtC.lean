/- Parts of the proof of DecodeSame: merged and given short names by a program of ours. -/
import Derived.WalkKit
import Derived.ProofKit
import Derived.OpenShut
import Derived.Test.YthohephggmkeeaaDoorZtB
set_option linter.unusedVariables false
set_option linter.unusedSimpArgs false
open Bool renaming false_eq_true → LQ, not_false → LV, not_true → LW, and_eq_true → LY
open Int renaming toNat_natCast → LU, fdiv_eq_ediv_of_nonneg → Mr
open List renaming set_cons_zero → L2, getElem?_eq_getElem → L3, length_append → L4, length_take → L6, length_drop → L7, length_replicate → L8, getElem?_cons_zero → LO, getElem?_cons_succ → LP, length_map → LZ, mem_map → M6, mem_of_mem_take → M7, length_zip → M9, mem_append_left → MB, nil_append → MH, getElem?_map → MK, mem_append_right → MP, append_nil → MW, getElem?_take_of_lt → MY, mem_cons_of_mem → Mb, length_cons → Mc, take_of_length_le → Mf, append_assoc → Mi, set_append_right → Mo, getD_eq_getElem?_getD → Mu, map_congr_left → Mv, cons_append → Mz
open Nat renaming zero_add → LX, sub_self → M8, mod_eq_of_lt → MA, pow_le_pow_right → MC, min_eq_left → MI, le_refl → Md
open Option renaming isNone_some → LR, isNone_none → LS
namespace Go.Proofs.YthohephggmkeeaaDoor
open Go Go.En Go.Pu
set_option maxRecDepth 4000
def Kw (base p : Nat) (w : Na) (win most : Nat) (r : Nb) (w' : Na) : Except Int (List UInt8 × Nat × Nat) -> Prop
 | .error e => e ≠ 0 /\ r = .tuple #[.pointer none, .int .i64 e] /\ gB w w' (fun y => base <= y)
 | .ok (out, fr, sk) => r = .tuple #[.pointer (some ⟨p, 0, none⟩), .int .i64 0] /\ (∃ l, Jm w' base p ⟨l, win, most, out, fr, sk⟩) /\ gB w w' (fun y => base <= y)
theorem Jw {RR : Nb -> Na -> Prop} {base p win most f : Nat} {l : List UInt8} {w0 w : Na} {mm : Except Int (List UInt8 × Nat × Nat)} (hx : gB w0 w (fun y => base <= y)) (hd : Jm w base p ⟨l, win, most, [], 0, 0⟩) (hf : f <= 2000000) (hl : l.length <= 1000000) (hmost : most <= 2000000) (hm : Ga win most f l [] 0 0 = some mm) (hR : ∀ r w', Kw base p w0 win most r w' mm -> RR r w') :
 rN RR (.pointer (some ⟨p, 0, none⟩)) w := by
 unfold rN wZ xD
 refine iR.rule (fun f (t : Unit) w1 => ∃ l out fr sk, Ga win most f l out fr sk = some mm /\ Jm w1 base p ⟨l, win, most, out, fr, sk⟩ /\ gB w0 w1 (fun y => base <= y) /\ out.length <= most /\ fr + f <= 2000000 /\ sk + f <= 2000000 /\ l.length <= 1000000) f
  ⟨l, [], 0, 0, hm, hd, hx, by simp, by omega, by omega, hl⟩ ?_
 clear hm hd hx hl hf l w
 rintro f t w ⟨l, out, fr, sk, hm, hd, hx, hout, hfr, hsk, hl⟩
 cases f with
 | zero => cases hm
 | succ f =>
   rw [Ga] at hm
   unfold tD xA
   have hd0 := hd
   obtain ⟨pr, vo, lo, hi, O, o, hr, oo, hp, hlo, hO, q1, hhi⟩ := hd
   have hpr : lo <= pr /\ pr < hi := ⟨hr.1, hr.2.1⟩
   have c0 := o.cell (off := 0)
   simp only [lW, LO] at c0
   simp (disch := omega) only [dQ, fJ, cQ, stepR_skip, eE, eT, eK, fC, fB, eX, fL, fA, dK, eL, eN, eY, eB, eI, eM, eF, eJ, fD, eZ, eC, dS, eS, eQ, eA, gP, gQ, gT, gU, gV, gR, gW, gS, gO, dH, Result.ok.injEq, Next.value.injEq, true_and, and_true, dZ, dY, eP, eU, eH, fM, LU, dR, dV, dW, dU, dN, dM, dO, dL, dI, cY, if_true, if_false, LQ, LX, LR, LS, LW, LV, LP, LO, cS, cM, cC, bW, cV, dJ, bV, bU, cR, cK, cO, dC, cN, dG, cZ, dT, dE, cH, bH, bO, aR, aC, aJ, dD, aL, cG, dF, dB, bN, aH, bD, aY, cP, aG, aX, aM, aV, cU, aW, cJ, bS, aD, aA, aK, dP, aO, aP, bC, aQ, cD, aE, bZ, bT, bF, bB, aZ, cX, aI, bJ, aT, aS, aU, aF, dA, cL, bP, aN, cW, bX, bY, cB, bQ, bR, bG, cA, bE, cF, bA, bM, bL, bK, cI, c0]
   refine (Bh hr).mono ?_
   rintro r w1 ⟨rfl, h2⟩
   rw [h2]; clear h2 w1
   by_cases h0 : l.length = 0
   .rw [if_pos h0] at hm
    cases hm
    have d1 : decide ((l.length : Int) > 0) = false := decide_eq_false (by omega)
    have d2 : decide ((0 : Int) < (l.length : Int)) = false := decide_eq_false (by omega)
    simp (disch := omega) only [dQ, fJ, cQ, stepR_skip, eE, eT, eK, fC, fB, eX, fL, fA, dK, eL, eN, eY, eB, eI, eM, eF, eJ, fD, eZ, eC, dS, eS, eQ, eA, gP, gQ, gT, gU, gV, gR, gW, gS, gO, dH, Result.ok.injEq, Next.value.injEq, true_and, and_true, dZ, dY, eP, eU, eH, fM, LU, dR, dV, dW, dU, dN, dM, dO, dL, dI, cY, if_true, if_false, LQ, LX, LR, LS, LW, LV, LP, LO, cS, cM, cC, bW, cV, dJ, bV, bU, cR, cK, cO, dC, cN, dG, cZ, dT, dE, cH, bH, bO, aR, aC, aJ, dD, aL, cG, dF, dB, bN, aH, bD, aY, cP, aG, aX, aM, aV, cU, aW, cJ, bS, aD, aA, aK, dP, aO, aP, bC, aQ, cD, aE, bZ, bT, bF, bB, aZ, cX, aI, bJ, aT, aS, aU, aF, dA, cL, bP, aN, cW, bX, bY, cB, bQ, bR, bG, cA, bE, cF, bA, bM, bL, bK, cI, d1, d2]
    unfold tF
    refine hR _ _ ?_
    exact ⟨rfl, ⟨l, hd0⟩, hx⟩
   rw [if_neg h0] at hm
   have d1 : decide ((l.length : Int) > 0) = true := decide_eq_true (by omega)
   have d2 : decide ((0 : Int) < (l.length : Int)) = true := decide_eq_true (by omega)
   simp (disch := omega) only [dQ, fJ, cQ, stepR_skip, eE, eT, eK, fC, fB, eX, fL, fA, dK, eL, eN, eY, eB, eI, eM, eF, eJ, fD, eZ, eC, dS, eS, eQ, eA, gP, gQ, gT, gU, gV, gR, gW, gS, gO, dH, Result.ok.injEq, Next.value.injEq, true_and, and_true, dZ, dY, eP, eU, eH, fM, LU, dR, dV, dW, dU, dN, dM, dO, dL, dI, cY, if_true, if_false, LQ, LX, LR, LS, LW, LV, LP, LO, cS, cM, cC, bW, cV, dJ, bV, bU, cR, cK, cO, dC, cN, dG, cZ, dT, dE, cH, bH, bO, aR, aC, aJ, dD, aL, cG, dF, dB, bN, aH, bD, aY, cP, aG, aX, aM, aV, cU, aW, cJ, bS, aD, aA, aK, dP, aO, aP, bC, aQ, cD, aE, bZ, bT, bF, bB, aZ, cX, aI, bJ, aT, aS, aU, aF, dA, cL, bP, aN, cW, bX, bY, cB, bQ, bR, bG, cA, bE, cF, bA, bM, bL, bK, cI, d1, d2]
   unfold wS BO xY
   simp (disch := omega) only [dQ, fJ, cQ, stepR_skip, eE, eT, eK, fC, fB, eX, fL, fA, dK, eL, eN, eY, eB, eI, eM, eF, eJ, fD, eZ, eC, dS, eS, eQ, eA, gP, gQ, gT, gU, gV, gR, gW, gS, gO, dH, Result.ok.injEq, Next.value.injEq, true_and, and_true, dZ, dY, eP, eU, eH, fM, LU, dR, dV, dW, dU, dN, dM, dO, dL, dI, cY, if_true, if_false, LQ, LX, LR, LS, LW, LV, LP, LO, cS, cM, cC, bW, cV, dJ, bV, bU, cR, cK, cO, dC, cN, dG, cZ, dT, dE, cH, bH, bO, aR, aC, aJ, dD, aL, cG, dF, dB, bN, aH, bD, aY, cP, aG, aX, aM, aV, cU, aW, cJ, bS, aD, aA, aK, dP, aO, aP, bC, aQ, cD, aE, bZ, bT, bF, bB, aZ, cX, aI, bJ, aT, aS, aU, aF, dA, cL, bP, aN, cW, bX, bY, cB, bQ, bR, bG, cA, bE, cF, bA, bM, bL, bK, cI, c0]
   refine (oL (n := 4) hr (by show l.length <= _; omega) ⟨by omega, by omega⟩).mono ?_
   rintro r w1 ⟨rfl, hr1, x1⟩
   have o1 := o.ext x1 (fun e => q1 (e ▸ hpr))
   have oo1 := oo.ext x1 fun b h e => (hO b h).2.2 (e ▸ hpr)
   have z1 := x1.size
   have hx1 : gB w0 w1 (fun y => base <= y) := hx.seq (x1.mono fun y _ h => by omega)
   have c1 := o1.cell (off := 0)
   simp only [lW, LO] at c1
   simp (disch := omega) only [dQ, fJ, cQ, stepR_skip, eE, eT, eK, fC, fB, eX, fL, fA, dK, eL, eN, eY, eB, eI, eM, eF, eJ, fD, eZ, eC, dS, eS, eQ, eA, gP, gQ, gT, gU, gV, gR, gW, gS, gO, dH, Result.ok.injEq, Next.value.injEq, true_and, and_true, dZ, dY, eP, eU, eH, fM, LU, dR, dV, dW, dU, dN, dM, dO, dL, dI, cY, if_true, if_false, LQ, LX, LR, LS, LW, LV, LP, LO, cS, cM, cC, bW, cV, dJ, bV, bU, cR, cK, cO, dC, cN, dG, cZ, dT, dE, cH, bH, bO, aR, aC, aJ, dD, aL, cG, dF, dB, bN, aH, bD, aY, cP, aG, aX, aM, aV, cU, aW, cJ, bS, aD, aA, aK, dP, aO, aP, bC, aQ, cD, aE, bZ, bT, bF, bB, aZ, cX, aI, bJ, aT, aS, aU, aF, dA, cL, bP, aN, cW, bX, bY, cB, bQ, bR, bG, cA, bE, cF, bA, bM, bL, bK, cI, c1]
   refine (wK hr1).mono ?_
   rintro r w2 ⟨rfl, h2⟩
   rw [h2]; clear h2 w2
   by_cases h4 : l.length < 4
   .have ht : sE l 0 4 = ([], l, 10) := by unfold sE; rw [if_neg (by decide), if_pos h4]
    rw [if_pos h4] at hm
    cases hm
    have hr1 : As w1 lo hi pr (sE l 0 4).2.1 (sE l 0 4).2.2 := hr1
    have hl' : (DM.mk l win most out fr sk).l = l := rfl
    rw [hl', ht]
    rw [ht] at hr1
    have n1 : ((10 : Int) != 0) = true := rfl
    simp (disch := omega) only [dQ, fJ, cQ, stepR_skip, eE, eT, eK, fC, fB, eX, fL, fA, dK, eL, eN, eY, eB, eI, eM, eF, eJ, fD, eZ, eC, dS, eS, eQ, eA, gP, gQ, gT, gU, gV, gR, gW, gS, gO, dH, Result.ok.injEq, Next.value.injEq, true_and, and_true, dZ, dY, eP, eU, eH, fM, LU, dR, dV, dW, dU, dN, dM, dO, dL, dI, cY, if_true, if_false, LQ, LX, LR, LS, LW, LV, LP, LO, cS, cM, cC, bW, cV, dJ, bV, bU, cR, cK, cO, dC, cN, dG, cZ, dT, dE, cH, bH, bO, aR, aC, aJ, dD, aL, cG, dF, dB, bN, aH, bD, aY, cP, aG, aX, aM, aV, cU, aW, cJ, bS, aD, aA, aK, dP, aO, aP, bC, aQ, cD, aE, bZ, bT, bF, bB, aZ, cX, aI, bJ, aT, aS, aU, aF, dA, cL, bP, aN, cW, bX, bY, cB, bQ, bR, bG, cA, bE, cF, bA, bM, bL, bK, cI, n1, c1]
    refine (wK hr1).mono ?_
    rintro r w2 ⟨rfl, h2⟩
    rw [h2]; clear h2 w2
    refine hR _ _ ?_
    exact ⟨by decide, rfl, hx1⟩
   rw [if_neg h4] at hm
   have ht : sE l 0 4 = (l.take 4, l.drop 4, 0) := by unfold sE; rw [if_neg (by decide), if_neg h4]
   have hr1 : As w1 lo hi pr (sE l 0 4).2.1 (sE l 0 4).2.2 := hr1
   have hl' : (DM.mk l win most out fr sk).l = l := rfl
   rw [hl', ht]
   rw [ht] at hr1
   have hr1 : As w1 lo hi pr (l.drop 4) 0 := hr1
   have hd1 : Jm w1 base p ⟨l.drop 4, win, most, out, fr, sk⟩ := ⟨pr, vo, lo, hi, O, o1, hr1, oo1, hp, hlo, hO, q1, by omega⟩
   have hl4 : (l.drop 4).length = l.length - 4 := L7
   obtain ⟨n, hn⟩ : ∃ n, n = lK (l.take 4) := ⟨_, rfl⟩
   have en : lK (l.take 4, l.drop 4, (0 : Int)).1 = n := hn.symm
   rw [<- hn] at hm
   have n0 : ((0 : Int) != 0) = false := rfl
   by_cases hmg : n = 4247762216
   .have g1 : ((n : Int) == 4247762216) = true := by rw [hmg] <;> rfl
    rw [if_pos hmg] at hm
    obtain ⟨mb, hmb⟩ : ∃ mb, F1 (l.drop 4) win (most - out.length) = some mb := by
     cases hd : F1 (l.drop 4) win (most - out.length) with
     | none => rw [hd] at hm; cases hm
     | some mb => exact ⟨mb, rfl⟩
    rw [hmb] at hm
    simp (disch := omega) only [dQ, fJ, cQ, stepR_skip, eE, eT, eK, fC, fB, eX, fL, fA, dK, eL, eN, eY, eB, eI, eM, eF, eJ, fD, eZ, eC, dS, eS, eQ, eA, gP, gQ, gT, gU, gV, gR, gW, gS, gO, dH, Result.ok.injEq, Next.value.injEq, true_and, and_true, dZ, dY, eP, eU, eH, fM, LU, dR, dV, dW, dU, dN, dM, dO, dL, dI, cY, if_true, if_false, LQ, LX, LR, LS, LW, LV, LP, LO, cS, cM, cC, bW, cV, dJ, bV, bU, cR, cK, cO, dC, cN, dG, cZ, dT, dE, cH, bH, bO, aR, aC, aJ, dD, aL, cG, dF, dB, bN, aH, bD, aY, cP, aG, aX, aM, aV, cU, aW, cJ, bS, aD, aA, aK, dP, aO, aP, bC, aQ, cD, aE, bZ, bT, bF, bB, aZ, cX, aI, bJ, aT, aS, aU, aF, dA, cL, bP, aN, cW, bX, bY, cB, bQ, bR, bG, cA, bE, cF, bA, bM, bL, bK, cI, en, n0, g1]
    refine (Io hd1 hout (show fr <= 2000000 by omega) hmost (by show (l.drop 4).length <= _; omega) hmb).mono ?_
    intro r w2 hq
    unfold mU
    cases mb with
    | error e =>
      obtain ⟨he, rfl, x2⟩ := hq
      cases hm
      have n1 : (e != 0) = true := by simp [he]
      simp (disch := omega) only [dQ, fJ, cQ, stepR_skip, eE, eT, eK, fC, fB, eX, fL, fA, dK, eL, eN, eY, eB, eI, eM, eF, eJ, fD, eZ, eC, dS, eS, eQ, eA, gP, gQ, gT, gU, gV, gR, gW, gS, gO, dH, Result.ok.injEq, Next.value.injEq, true_and, and_true, dZ, dY, eP, eU, eH, fM, LU, dR, dV, dW, dU, dN, dM, dO, dL, dI, cY, if_true, if_false, LQ, LX, LR, LS, LW, LV, LP, LO, cS, cM, cC, bW, cV, dJ, bV, bU, cR, cK, cO, dC, cN, dG, cZ, dT, dE, cH, bH, bO, aR, aC, aJ, dD, aL, cG, dF, dB, bN, aH, bD, aY, cP, aG, aX, aM, aV, cU, aW, cJ, bS, aD, aA, aK, dP, aO, aP, bC, aQ, cD, aE, bZ, bT, bF, bB, aZ, cX, aI, bJ, aT, aS, aU, aF, dA, cL, bP, aN, cW, bX, bY, cB, bQ, bR, bG, cA, bE, cF, bA, bM, bL, bK, cI, n1]
      refine hR _ _ ?_
      exact ⟨he, rfl, hx1.seq x2⟩
    | ok t =>
      obtain ⟨a, l'⟩ := t
      obtain ⟨rfl, hd2, x2⟩ := hq
      have hok := JK hmb
      simp (disch := omega) only [dQ, fJ, cQ, stepR_skip, eE, eT, eK, fC, fB, eX, fL, fA, dK, eL, eN, eY, eB, eI, eM, eF, eJ, fD, eZ, eC, dS, eS, eQ, eA, gP, gQ, gT, gU, gV, gR, gW, gS, gO, dH, Result.ok.injEq, Next.value.injEq, true_and, and_true, dZ, dY, eP, eU, eH, fM, LU, dR, dV, dW, dU, dN, dM, dO, dL, dI, cY, if_true, if_false, LQ, LX, LR, LS, LW, LV, LP, LO, cS, cM, cC, bW, cV, dJ, bV, bU, cR, cK, cO, dC, cN, dG, cZ, dT, dE, cH, bH, bO, aR, aC, aJ, dD, aL, cG, dF, dB, bN, aH, bD, aY, cP, aG, aX, aM, aV, cU, aW, cJ, bS, aD, aA, aK, dP, aO, aP, bC, aQ, cD, aE, bZ, bT, bF, bB, aZ, cX, aI, bJ, aT, aS, aU, aF, dA, cL, bP, aN, cW, bX, bY, cB, bQ, bR, bG, cA, bE, cF, bA, bM, bL, bK, cI, n0]
      exact ⟨f, by omega, l', out ++ a, fr + 1, sk, hm, hd2, hx1.seq x2, by rw [L4]; omega, by omega, by omega, by omega⟩
   have g1 : ((n : Int) == 4247762216) = false := by simp; omega
   rw [if_neg hmg] at hm
   by_cases hs : 407710288 <= n /\ n < 407710304
   .have g2 : decide ((n : Int) ≥ 407710288) = true := decide_eq_true (by omega)
    have g3 : decide ((407710288 : Int) <= (n : Int)) = true := decide_eq_true (by omega)
    have g4 : decide ((n : Int) < 407710304) = true := decide_eq_true (by omega)
    rw [if_pos hs] at hm
    simp (disch := omega) only [dQ, fJ, cQ, stepR_skip, eE, eT, eK, fC, fB, eX, fL, fA, dK, eL, eN, eY, eB, eI, eM, eF, eJ, fD, eZ, eC, dS, eS, eQ, eA, gP, gQ, gT, gU, gV, gR, gW, gS, gO, dH, Result.ok.injEq, Next.value.injEq, true_and, and_true, dZ, dY, eP, eU, eH, fM, LU, dR, dV, dW, dU, dN, dM, dO, dL, dI, cY, if_true, if_false, LQ, LX, LR, LS, LW, LV, LP, LO, cS, cM, cC, bW, cV, dJ, bV, bU, cR, cK, cO, dC, cN, dG, cZ, dT, dE, cH, bH, bO, aR, aC, aJ, dD, aL, cG, dF, dB, bN, aH, bD, aY, cP, aG, aX, aM, aV, cU, aW, cJ, bS, aD, aA, aK, dP, aO, aP, bC, aQ, cD, aE, bZ, bT, bF, bB, aZ, cX, aI, bJ, aT, aS, aU, aF, dA, cL, bP, aN, cW, bX, bY, cB, bQ, bR, bG, cA, bE, cF, bA, bM, bL, bK, cI, en, n0, g1, g2, g3, g4]
    refine (Jt hd1 (show sk <= 2000000 by omega) (by show (l.drop 4).length <= _; omega)).mono ?_
    intro r w2 hq
    unfold mU
    have hq : KO base p w1 ⟨l.drop 4, win, most, out, fr, sk⟩ r w2 (HG (l.drop 4)) := hq
    cases hk : HG (l.drop 4) with
    | error e =>
      rw [hk] at hq hm
      obtain ⟨he, rfl, x2⟩ := hq
      cases hm
      have n1 : (e != 0) = true := by simp [he]
      simp (disch := omega) only [dQ, fJ, cQ, stepR_skip, eE, eT, eK, fC, fB, eX, fL, fA, dK, eL, eN, eY, eB, eI, eM, eF, eJ, fD, eZ, eC, dS, eS, eQ, eA, gP, gQ, gT, gU, gV, gR, gW, gS, gO, dH, Result.ok.injEq, Next.value.injEq, true_and, and_true, dZ, dY, eP, eU, eH, fM, LU, dR, dV, dW, dU, dN, dM, dO, dL, dI, cY, if_true, if_false, LQ, LX, LR, LS, LW, LV, LP, LO, cS, cM, cC, bW, cV, dJ, bV, bU, cR, cK, cO, dC, cN, dG, cZ, dT, dE, cH, bH, bO, aR, aC, aJ, dD, aL, cG, dF, dB, bN, aH, bD, aY, cP, aG, aX, aM, aV, cU, aW, cJ, bS, aD, aA, aK, dP, aO, aP, bC, aQ, cD, aE, bZ, bT, bF, bB, aZ, cX, aI, bJ, aT, aS, aU, aF, dA, cL, bP, aN, cW, bX, bY, cB, bQ, bR, bG, cA, bE, cF, bA, bM, bL, bK, cI, n1]
      refine hR _ _ ?_
      exact ⟨he, rfl, hx1.seq x2⟩
    | ok l' =>
      rw [hk] at hq hm
      obtain ⟨rfl, hd2, x2⟩ := hq
      have hle : l'.length <= (l.drop 4).length := by
       unfold HG at hk
       repeat' split at hk
       all_goals first | cases hk | skip
       rw [L7]
       omega
      simp (disch := omega) only [dQ, fJ, cQ, stepR_skip, eE, eT, eK, fC, fB, eX, fL, fA, dK, eL, eN, eY, eB, eI, eM, eF, eJ, fD, eZ, eC, dS, eS, eQ, eA, gP, gQ, gT, gU, gV, gR, gW, gS, gO, dH, Result.ok.injEq, Next.value.injEq, true_and, and_true, dZ, dY, eP, eU, eH, fM, LU, dR, dV, dW, dU, dN, dM, dO, dL, dI, cY, if_true, if_false, LQ, LX, LR, LS, LW, LV, LP, LO, cS, cM, cC, bW, cV, dJ, bV, bU, cR, cK, cO, dC, cN, dG, cZ, dT, dE, cH, bH, bO, aR, aC, aJ, dD, aL, cG, dF, dB, bN, aH, bD, aY, cP, aG, aX, aM, aV, cU, aW, cJ, bS, aD, aA, aK, dP, aO, aP, bC, aQ, cD, aE, bZ, bT, bF, bB, aZ, cX, aI, bJ, aT, aS, aU, aF, dA, cL, bP, aN, cW, bX, bY, cB, bQ, bR, bG, cA, bE, cF, bA, bM, bL, bK, cI, n0]
      exact ⟨f, by omega, l', out, fr, sk + 1, hm, hd2, hx1.seq x2, hout, by omega, by omega, by omega⟩
   .rw [if_neg hs] at hm
    cases hm
    have n1 : ((11 : Int) != 0) = true := rfl
    unfold mU
    by_cases h1 : 407710288 <= n
    .have g2 : decide ((n : Int) ≥ 407710288) = true := decide_eq_true (by omega)
     have g3 : decide ((407710288 : Int) <= (n : Int)) = true := decide_eq_true (by omega)
     have g4 : decide ((n : Int) < 407710304) = false := decide_eq_false (by omega)
     simp (disch := omega) only [dQ, fJ, cQ, stepR_skip, eE, eT, eK, fC, fB, eX, fL, fA, dK, eL, eN, eY, eB, eI, eM, eF, eJ, fD, eZ, eC, dS, eS, eQ, eA, gP, gQ, gT, gU, gV, gR, gW, gS, gO, dH, Result.ok.injEq, Next.value.injEq, true_and, and_true, dZ, dY, eP, eU, eH, fM, LU, dR, dV, dW, dU, dN, dM, dO, dL, dI, cY, if_true, if_false, LQ, LX, LR, LS, LW, LV, LP, LO, cS, cM, cC, bW, cV, dJ, bV, bU, cR, cK, cO, dC, cN, dG, cZ, dT, dE, cH, bH, bO, aR, aC, aJ, dD, aL, cG, dF, dB, bN, aH, bD, aY, cP, aG, aX, aM, aV, cU, aW, cJ, bS, aD, aA, aK, dP, aO, aP, bC, aQ, cD, aE, bZ, bT, bF, bB, aZ, cX, aI, bJ, aT, aS, aU, aF, dA, cL, bP, aN, cW, bX, bY, cB, bQ, bR, bG, cA, bE, cF, bA, bM, bL, bK, cI, en, n0, g1, g2, g3, g4, n1]
     refine hR _ _ ?_
     exact ⟨by decide, rfl, hx1⟩
    .have g2 : decide ((n : Int) ≥ 407710288) = false := decide_eq_false (by omega)
     have g3 : decide ((407710288 : Int) <= (n : Int)) = false := decide_eq_false (by omega)
     simp (disch := omega) only [dQ, fJ, cQ, stepR_skip, eE, eT, eK, fC, fB, eX, fL, fA, dK, eL, eN, eY, eB, eI, eM, eF, eJ, fD, eZ, eC, dS, eS, eQ, eA, gP, gQ, gT, gU, gV, gR, gW, gS, gO, dH, Result.ok.injEq, Next.value.injEq, true_and, and_true, dZ, dY, eP, eU, eH, fM, LU, dR, dV, dW, dU, dN, dM, dO, dL, dI, cY, if_true, if_false, LQ, LX, LR, LS, LW, LV, LP, LO, cS, cM, cC, bW, cV, dJ, bV, bU, cR, cK, cO, dC, cN, dG, cZ, dT, dE, cH, bH, bO, aR, aC, aJ, dD, aL, cG, dF, dB, bN, aH, bD, aY, cP, aG, aX, aM, aV, cU, aW, cJ, bS, aD, aA, aK, dP, aO, aP, bC, aQ, cD, aE, bZ, bT, bF, bB, aZ, cX, aI, bJ, aT, aS, aU, aF, dA, cL, bP, aN, cW, bX, bY, cB, bQ, bR, bG, cA, bE, cF, bA, bM, bL, bK, cI, en, n0, g1, g2, g3, n1]
     refine hR _ _ ?_
     exact ⟨by decide, rfl, hx1⟩
def KF (l : List UInt8) (log most : Nat) : Option (Except Int (List UInt8 × Nat × Nat)) := Ga (2 ^ log) most (l.length + 1) l [] 0 0
theorem FK {v : Nb} {l : List UInt8} {log most : Nat} {w : Na} {mm : Except Int (List UInt8 × Nat × Nat)} (hb : Bs w v l) (hl : l.length <= 1000000) (hlog : 10 <= log /\ log <= 22) (hmost : most <= 2000000) (hm : KF l log most = some mm) :
 fO pg pE #[v, .int .i64 (log : Nat), .int .i64 (most : Nat)] w (fun r w' => ∃ p, Kw w.heap.size p w (2 ^ log) most r w' mm) := by
 refine AD ?_
 obtain ⟨RR, hRR⟩ : ∃ RR : Nb -> Na -> Prop, RR = fun r w' => ∃ p, Kw w.heap.size p w (2 ^ log) most r w' mm := ⟨_, rfl⟩
 rw [<- hRR]
 unfold B1 rM rL
 have d1 : decide ((log : Int) < 10) = false := decide_eq_false (by omega)
 have d2 : decide ((log : Int) > 22) = false := decide_eq_false (by omega)
 have d3 : decide ((22 : Int) < (log : Int)) = false := decide_eq_false (by omega)
 have d4 : decide ((most : Int) < 0) = false := decide_eq_false (by omega)
 have hlb : 2 ^ log <= 2 ^ 22 := MC (by omega) hlog.2
 have e1 : (1 : Int) * 2 ^ min log IntKind.u64.bits = ((2 ^ log : Nat) : Int) := by
  rw [MI (by have : IntKind.u64.bits = 64 := rfl; omega)]
  simp
 have e2 : IntKind.u64.wrap ((2 ^ log : Nat) : Int) = ((2 ^ log : Nat) : Int) := by
  have : ∀ W : Nat, W <= 2 ^ 22 -> IntKind.u64.wrap (W : Int) = (W : Int) := fun W hW => dY (by omega) (by omega)
  exact this _ hlb
 have t0 : (log : Int).toNat = log := LU _
 have g0 : (0 : Int) <= (log : Int) := by omega
 simp (disch := omega) only [dQ, fJ, cQ, stepR_skip, eE, eT, eK, fC, fB, eX, fL, fA, dK, eL, eN, eY, eB, eI, eM, eF, eJ, fD, eZ, eC, dS, eS, eQ, eA, gP, gQ, gT, gU, gV, gR, gW, gS, gO, dH, Result.ok.injEq, Next.value.injEq, true_and, and_true, dZ, dY, eP, eU, eH, fM, LU, dR, dV, dW, dU, dN, dM, dO, dL, dI, cY, if_true, if_false, LQ, LX, LR, LS, LW, LV, LP, LO, cS, cM, cC, bW, cV, dJ, bV, bU, cR, cK, cO, dC, cN, dG, cZ, dT, dE, cH, bH, bO, aR, aC, aJ, dD, aL, cG, dF, dB, bN, aH, bD, aY, cP, aG, aX, aM, aV, cU, aW, cJ, bS, aD, aA, aK, dP, aO, aP, bC, aQ, cD, aE, bZ, bT, bF, bB, aZ, cX, aI, bJ, aT, aS, aU, aF, dA, cL, bP, aN, cW, bX, bY, cB, bQ, bR, bG, cA, bE, cF, bA, bM, bL, bK, cI, d1, d2, d3, d4]
 have hb1 := hb.ext (gB.dr w mZ) (jV _)
 refine (tV hb1 (by omega)).mono ?_
 rintro r w1 ⟨pr, rfl, hr, x1⟩
 have zd := (gB.dr w mZ).size
 have z1 := x1.size
 simp (disch := omega) only [dQ, fJ, cQ, stepR_skip, eE, eT, eK, fC, fB, eX, fL, fA, dK, eL, eN, eY, eB, eI, eM, eF, eJ, fD, eZ, eC, dS, eS, eQ, eA, gP, gQ, gT, gU, gV, gR, gW, gS, gO, dH, Result.ok.injEq, Next.value.injEq, true_and, and_true, dZ, dY, eP, eU, eH, fM, LU, dR, dV, dW, dU, dN, dM, dO, dL, dI, cY, if_true, if_false, LQ, LX, LR, LS, LW, LV, LP, LO, cS, cM, cC, bW, cV, dJ, bV, bU, cR, cK, cO, dC, cN, dG, cZ, dT, dE, cH, bH, bO, aR, aC, aJ, dD, aL, cG, dF, dB, bN, aH, bD, aY, cP, aG, aX, aM, aV, cU, aW, cJ, bS, aD, aA, aK, dP, aO, aP, bC, aQ, cD, aE, bZ, bT, bF, bB, aZ, cX, aI, bJ, aT, aS, aU, aF, dA, cL, bP, aN, cW, bX, bY, cB, bQ, bR, bG, cA, bE, cF, bA, bM, bL, bK, cI, e1, e2, t0, g0]
 refine DV fun w2 o2 x2 s2 => ?_
 have o2 : iA w2 w1.heap.size (lW pr tZ ⟨l, 2 ^ log, most, [], 0, 0⟩) := o2
 have hz := o2.lt
 have hpr : (dr w).heap.size <= pr /\ pr < w1.heap.size := ⟨hr.1, hr.2.1⟩
 refine Jw (base := w.heap.size) (p := w1.heap.size) (w0 := w) (w := w2) (f := l.length + 1) (l := l) (win := 2 ^ log) (most := most) (mm := mm) ((((gB.dr w mZ).seq x1).seq x2).mono fun _ _ h => h.elim) ⟨pr, tZ, (dr w).heap.size, w1.heap.size, (fun b => False), o2, hr.ext x2 (fun _ _ _ h => h), ⟨rfl, .inl ⟨rfl, rfl⟩⟩, by omega, by omega, fun b h => h.elim, by omega, by omega⟩ (by omega) hl hmost hm fun r w' h => ?_
 rw [hRR]
 exact ⟨_, h⟩
theorem GI {v : Nb} {log most : Int} {w : Na} (h : log < 10) :
 fO pg pE #[v, .int .i64 log, .int .i64 most] w (fun r w' => r = .tuple #[.pointer none, .int .i64 1] /\ w' = w) := by
 refine AD ?_
 unfold B1 rM rL
 have d1 : decide ((log : Int) < 10) = true := decide_eq_true (by omega)
 simp (disch := omega) only [dQ, fJ, cQ, stepR_skip, eE, eT, eK, fC, fB, eX, fL, fA, dK, eL, eN, eY, eB, eI, eM, eF, eJ, fD, eZ, eC, dS, eS, eQ, eA, gP, gQ, gT, gU, gV, gR, gW, gS, gO, dH, Result.ok.injEq, Next.value.injEq, true_and, and_true, dZ, dY, eP, eU, eH, fM, LU, dR, dV, dW, dU, dN, dM, dO, dL, dI, cY, if_true, if_false, LQ, LX, LR, LS, LW, LV, LP, LO, cS, cM, cC, bW, cV, dJ, bV, bU, cR, cK, cO, dC, cN, dG, cZ, dT, dE, cH, bH, bO, aR, aC, aJ, dD, aL, cG, dF, dB, bN, aH, bD, aY, cP, aG, aX, aM, aV, cU, aW, cJ, bS, aD, aA, aK, dP, aO, aP, bC, aQ, cD, aE, bZ, bT, bF, bB, aZ, cX, aI, bJ, aT, aS, aU, aF, dA, cL, bP, aN, cW, bX, bY, cB, bQ, bR, bG, cA, bE, cF, bA, bM, bL, bK, cI, d1]
def Ly (w : Na) (r : Nb) (w' : Na) : Except Int (List UInt8 × Nat × Nat) -> Prop
 | .error e => r = .tuple #[tZ, .int .i64 e] /\ gB w w' mZ
 | .ok (out, fr, sk) => ∃ v, r = .tuple #[v, .int .i64 0] /\ Bs w' v out /\ gB w w' mZ
theorem CN {v : Nb} {l : List UInt8} {log most : Nat} {w : Na} {mm : Except Int (List UInt8 × Nat × Nat)} (hb : Bs w v l) (hl : l.length <= 1000000) (hlog : 10 <= log /\ log <= 22) (hmost : most <= 2000000) (hm : KF l log most = some mm) :
 fO pg iZ #[v, .int .i64 (log : Nat), .int .i64 (most : Nat)] w (fun r w' => Ly w r w' mm) := by
 refine vB ?_
 unfold xI pB
 refine (FK hb hl hlog hmost hm).mono ?_
 rintro r w1 ⟨p, hq⟩
 cases mm with
 | error e =>
   obtain ⟨he, rfl, x⟩ := hq
   have n1 : (e != 0) = true := by simp [he]
   simp (disch := omega) only [dQ, fJ, cQ, stepR_skip, eE, eT, eK, fC, fB, eX, fL, fA, dK, eL, eN, eY, eB, eI, eM, eF, eJ, fD, eZ, eC, dS, eS, eQ, eA, gP, gQ, gT, gU, gV, gR, gW, gS, gO, dH, Result.ok.injEq, Next.value.injEq, true_and, and_true, dZ, dY, eP, eU, eH, fM, LU, dR, dV, dW, dU, dN, dM, dO, dL, dI, cY, if_true, if_false, LQ, LX, LR, LS, LW, LV, LP, LO, cS, cM, cC, bW, cV, dJ, bV, bU, cR, cK, cO, dC, cN, dG, cZ, dT, dE, cH, bH, bO, aR, aC, aJ, dD, aL, cG, dF, dB, bN, aH, bD, aY, cP, aG, aX, aM, aV, cU, aW, cJ, bS, aD, aA, aK, dP, aO, aP, bC, aQ, cD, aE, bZ, bT, bF, bB, aZ, cX, aI, bJ, aT, aS, aU, aF, dA, cL, bP, aN, cW, bX, bY, cB, bQ, bR, bG, cA, bE, cF, bA, bM, bL, bK, cI, n1]
   exact ⟨rfl, x.mono fun y hy h => by omega⟩
 | ok t =>
   obtain ⟨out, fr, sk⟩ := t
   obtain ⟨rfl, ⟨l', hd⟩, x⟩ := hq
   obtain ⟨pr, vo, lo, hi, O, o, hr, oo, hp, hlo, hO, q1, hhi⟩ := hd
   have n1 : ((0 : Int) != 0) = false := rfl
   have c3 := o.cell (off := 3)
   simp only [lW, LO, LP] at c3
   simp (disch := omega) only [dQ, fJ, cQ, stepR_skip, eE, eT, eK, fC, fB, eX, fL, fA, dK, eL, eN, eY, eB, eI, eM, eF, eJ, fD, eZ, eC, dS, eS, eQ, eA, gP, gQ, gT, gU, gV, gR, gW, gS, gO, dH, Result.ok.injEq, Next.value.injEq, true_and, and_true, dZ, dY, eP, eU, eH, fM, LU, dR, dV, dW, dU, dN, dM, dO, dL, dI, cY, if_true, if_false, LQ, LX, LR, LS, LW, LV, LP, LO, cS, cM, cC, bW, cV, dJ, bV, bU, cR, cK, cO, dC, cN, dG, cZ, dT, dE, cH, bH, bO, aR, aC, aJ, dD, aL, cG, dF, dB, bN, aH, bD, aY, cP, aG, aX, aM, aV, cU, aW, cJ, bS, aD, aA, aK, dP, aO, aP, bC, aQ, cD, aE, bZ, bT, bF, bB, aZ, cX, aI, bJ, aT, aS, aU, aF, dA, cL, bP, aN, cW, bX, bY, cB, bQ, bR, bG, cA, bE, cF, bA, bM, bL, bK, cI, n1, c3]
   exact ⟨vo, rfl, GS oo, x.mono fun y hy h => by omega⟩
theorem G0 {v : Nb} {log most : Int} {w : Na} (h : log < 10) :
 fO pg iZ #[v, .int .i64 log, .int .i64 most] w (fun r w' => r = .tuple #[tZ, .int .i64 1] /\ w' = w) := by
 refine vB ?_
 unfold xI pB
 refine (GI h).mono ?_
 rintro r w1 ⟨rfl, h2⟩
 rw [h2]; clear h2 w1
 have n1 : ((1 : Int) != 0) = true := rfl
 simp (disch := omega) only [dQ, fJ, cQ, stepR_skip, eE, eT, eK, fC, fB, eX, fL, fA, dK, eL, eN, eY, eB, eI, eM, eF, eJ, fD, eZ, eC, dS, eS, eQ, eA, gP, gQ, gT, gU, gV, gR, gW, gS, gO, dH, Result.ok.injEq, Next.value.injEq, true_and, and_true, dZ, dY, eP, eU, eH, fM, LU, dR, dV, dW, dU, dN, dM, dO, dL, dI, cY, if_true, if_false, LQ, LX, LR, LS, LW, LV, LP, LO, cS, cM, cC, bW, cV, dJ, bV, bU, cR, cK, cO, dC, cN, dG, cZ, dT, dE, cH, bH, bO, aR, aC, aJ, dD, aL, cG, dF, dB, bN, aH, bD, aY, cP, aG, aX, aM, aV, cU, aW, cJ, bS, aD, aA, aK, dP, aO, aP, bC, aQ, cD, aE, bZ, bT, bF, bB, aZ, cX, aI, bJ, aT, aS, aU, aF, dA, cL, bP, aN, cW, bX, bY, cB, bQ, bR, bG, cA, bE, cF, bA, bM, bL, bK, cI, n1]
 exact rfl
def JU : Except Int (List UInt8 × Nat × Nat) -> Nb
 | .error e => .tuple #[.int .i64 0, .int .i64 0, .int .i64 e]
 | .ok (_, fr, sk) => .tuple #[.int .i64 (fr : Nat), .int .i64 (sk : Nat), .int .i64 0]
theorem Ik {v : Nb} {l : List UInt8} {log most : Nat} {w : Na} {mm : Except Int (List UInt8 × Nat × Nat)} (hb : Bs w v l) (hl : l.length <= 1000000) (hlog : 10 <= log /\ log <= 22) (hmost : most <= 2000000) (hm : KF l log most = some mm) :
 fO pg qF #[v, .int .i64 (log : Nat), .int .i64 (most : Nat)] w (fun r w' => r = JU mm /\ gB w w' mZ) := by
 refine Ch ?_
 unfold BT sT
 refine (FK hb hl hlog hmost hm).mono ?_
 rintro r w1 ⟨p, hq⟩
 cases mm with
 | error e =>
   obtain ⟨he, rfl, x⟩ := hq
   have n1 : (e != 0) = true := by simp [he]
   simp (disch := omega) only [dQ, fJ, cQ, stepR_skip, eE, eT, eK, fC, fB, eX, fL, fA, dK, eL, eN, eY, eB, eI, eM, eF, eJ, fD, eZ, eC, dS, eS, eQ, eA, gP, gQ, gT, gU, gV, gR, gW, gS, gO, dH, Result.ok.injEq, Next.value.injEq, true_and, and_true, dZ, dY, eP, eU, eH, fM, LU, dR, dV, dW, dU, dN, dM, dO, dL, dI, cY, if_true, if_false, LQ, LX, LR, LS, LW, LV, LP, LO, cS, cM, cC, bW, cV, dJ, bV, bU, cR, cK, cO, dC, cN, dG, cZ, dT, dE, cH, bH, bO, aR, aC, aJ, dD, aL, cG, dF, dB, bN, aH, bD, aY, cP, aG, aX, aM, aV, cU, aW, cJ, bS, aD, aA, aK, dP, aO, aP, bC, aQ, cD, aE, bZ, bT, bF, bB, aZ, cX, aI, bJ, aT, aS, aU, aF, dA, cL, bP, aN, cW, bX, bY, cB, bQ, bR, bG, cA, bE, cF, bA, bM, bL, bK, cI, n1]
   exact ⟨rfl, x.mono fun y hy h => by omega⟩
 | ok t =>
   obtain ⟨out, fr, sk⟩ := t
   obtain ⟨rfl, ⟨l', hd⟩, x⟩ := hq
   obtain ⟨pr, vo, lo, hi, O, o, hr, oo, hp, hlo, hO, q1, hhi⟩ := hd
   have n1 : ((0 : Int) != 0) = false := rfl
   have c4 := o.cell (off := 4)
   have c5 := o.cell (off := 5)
   have d4 := (iQ o).cell (off := 4)
   have d5 := (iQ o).cell (off := 5)
   simp only [lW, LO, LP] at c4 c5 d4 d5
   simp (disch := omega) only [dQ, fJ, cQ, stepR_skip, eE, eT, eK, fC, fB, eX, fL, fA, dK, eL, eN, eY, eB, eI, eM, eF, eJ, fD, eZ, eC, dS, eS, eQ, eA, gP, gQ, gT, gU, gV, gR, gW, gS, gO, dH, Result.ok.injEq, Next.value.injEq, true_and, and_true, dZ, dY, eP, eU, eH, fM, LU, dR, dV, dW, dU, dN, dM, dO, dL, dI, cY, if_true, if_false, LQ, LX, LR, LS, LW, LV, LP, LO, cS, cM, cC, bW, cV, dJ, bV, bU, cR, cK, cO, dC, cN, dG, cZ, dT, dE, cH, bH, bO, aR, aC, aJ, dD, aL, cG, dF, dB, bN, aH, bD, aY, cP, aG, aX, aM, aV, cU, aW, cJ, bS, aD, aA, aK, dP, aO, aP, bC, aQ, cD, aE, bZ, bT, bF, bB, aZ, cX, aI, bJ, aT, aS, aU, aF, dA, cL, bP, aN, cW, bX, bY, cB, bQ, bR, bG, cA, bE, cF, bA, bM, bL, bK, cI, n1, c4, c5, d4, d5]
   exact ⟨rfl, (x.seq (gB.dr w1 _)).mono fun y hy h => by omega⟩
theorem HD (w : Na) : fO pg tE #[] w (fun r w' => r = .bool true /\ gB w w' mZ) := by
 refine CV ?_
 unfold Dt vA
 refine tP (cells := #[.int .u8 40, .int .u8 181, .int .u8 47, .int .u8 253, .int .u8 32, .int .u8 2, .int .u8 17, .int .u8 0, .int .u8 0, .int .u8 7, .int .u8 8]) (by decide) (by decide) (by kernel_rfl) fun w1 o1 x1 s1 => ?_
 refine Ah o1 fun w2 o2 x2 s2 => ?_
 have x02 : gB w w2 mZ := x1.new x2 (by omega)
 have b2 := o2.bs (off := 0) (c := 11) (l := [40, 181, 47, 253, 32, 2, 17, 0, 0, 7, 8]) (by decide) (fun i hi => by
  have : ∀ i : Fin 11, ([.int .u8 40, .int .u8 181, .int .u8 47, .int .u8 253, .int .u8 32, .int .u8 2, .int .u8 17, .int .u8 0, .int .u8 0, .int .u8 7, .int .u8 8] : List Nb)[0 + i.val]? = some (pU (([40, 181, 47, 253, 32, 2, 17, 0, 0, 7, 8] : List UInt8)[i.val])) := by
   intro i
   match i with
   | ⟨0, _⟩ => rfl
   | ⟨1, _⟩ => rfl
   | ⟨2, _⟩ => rfl
   | ⟨3, _⟩ => rfl
   | ⟨4, _⟩ => rfl
   | ⟨5, _⟩ => rfl
   | ⟨6, _⟩ => rfl
   | ⟨7, _⟩ => rfl
   | ⟨8, _⟩ => rfl
   | ⟨9, _⟩ => rfl
   | ⟨10, _⟩ => rfl
  exact this ⟨i, hi⟩)
 refine (CN (log := 20) (most := 100) (mm := .ok ([7, 8], 1, 0)) b2 (by decide) (by omega) (by omega) (by kernel_rfl)).mono ?_
 rintro r w3 ⟨v3, rfl, b3, x3⟩
 simp (disch := omega) only [dQ, fJ, cQ, stepR_skip, eE, eT, eK, fC, fB, eX, fL, fA, dK, eL, eN, eY, eB, eI, eM, eF, eJ, fD, eZ, eC, dS, eS, eQ, eA, gP, gQ, gT, gU, gV, gR, gW, gS, gO, dH, Result.ok.injEq, Next.value.injEq, true_and, and_true, dZ, dY, eP, eU, eH, fM, LU, dR, dV, dW, dU, dN, dM, dO, dL, dI, cY, if_true, if_false, LQ, LX, LR, LS, LW, LV, LP, LO, cS, cM, cC, bW, cV, dJ, bV, bU, cR, cK, cO, dC, cN, dG, cZ, dT, dE, cH, bH, bO, aR, aC, aJ, dD, aL, cG, dF, dB, bN, aH, bD, aY, cP, aG, aX, aM, aV, cU, aW, cJ, bS, aD, aA, aK, dP, aO, aP, bC, aQ, cD, aE, bZ, bT, bF, bB, aZ, cX, aI, bJ, aT, aS, aU, aF, dA, cL, bP, aN, cW, bX, bY, cB, bQ, bR, bG, cA, bE, cF, bA, bM, bL, bK, cI]
 refine tP (cells := #[.int .u8 1, .int .u8 2, .int .u8 3]) (by decide) (by decide) (by kernel_rfl) fun w4 o4 x4 s4 => ?_
 have b4 := o4.bs (off := 0) (c := 3) (l := [1, 2, 3]) (by decide) (fun i hi => by
  match i, hi with
  | 0, _ => rfl
  | 1, _ => rfl
  | 2, _ => rfl)
 refine (CN (log := 20) (most := 100) (mm := .error 10) b4 (by decide) (by omega) (by omega) (by kernel_rfl)).mono ?_
 rintro r w5 ⟨rfl, x5⟩
 unfold tZ
 simp (disch := omega) only [dQ, fJ, cQ, stepR_skip, eE, eT, eK, fC, fB, eX, fL, fA, dK, eL, eN, eY, eB, eI, eM, eF, eJ, fD, eZ, eC, dS, eS, eQ, eA, gP, gQ, gT, gU, gV, gR, gW, gS, gO, dH, Result.ok.injEq, Next.value.injEq, true_and, and_true, dZ, dY, eP, eU, eH, fM, LU, dR, dV, dW, dU, dN, dM, dO, dL, dI, cY, if_true, if_false, LQ, LX, LR, LS, LW, LV, LP, LO, cS, cM, cC, bW, cV, dJ, bV, bU, cR, cK, cO, dC, cN, dG, cZ, dT, dE, cH, bH, bO, aR, aC, aJ, dD, aL, cG, dF, dB, bN, aH, bD, aY, cP, aG, aX, aM, aV, cU, aW, cJ, bS, aD, aA, aK, dP, aO, aP, bC, aQ, cD, aE, bZ, bT, bF, bB, aZ, cX, aI, bJ, aT, aS, aU, aF, dA, cL, bP, aN, cW, bX, bY, cB, bQ, bR, bG, cA, bE, cF, bA, bM, bL, bK, cI]
 refine (G0 (by omega)).mono ?_
 rintro r w6 ⟨rfl, h6⟩
 rw [h6]; clear h6 w6
 unfold tZ
 simp (disch := omega) only [dQ, fJ, cQ, stepR_skip, eE, eT, eK, fC, fB, eX, fL, fA, dK, eL, eN, eY, eB, eI, eM, eF, eJ, fD, eZ, eC, dS, eS, eQ, eA, gP, gQ, gT, gU, gV, gR, gW, gS, gO, dH, Result.ok.injEq, Next.value.injEq, true_and, and_true, dZ, dY, eP, eU, eH, fM, LU, dR, dV, dW, dU, dN, dM, dO, dL, dI, cY, if_true, if_false, LQ, LX, LR, LS, LW, LV, LP, LO, cS, cM, cC, bW, cV, dJ, bV, bU, cR, cK, cO, dC, cN, dG, cZ, dT, dE, cH, bH, bO, aR, aC, aJ, dD, aL, cG, dF, dB, bN, aH, bD, aY, cP, aG, aX, aM, aV, cU, aW, cJ, bS, aD, aA, aK, dP, aO, aP, bC, aQ, cD, aE, bZ, bT, bF, bB, aZ, cX, aI, bJ, aT, aS, aU, aF, dA, cL, bP, aN, cW, bX, bY, cB, bQ, bR, bG, cA, bE, cF, bA, bM, bL, bK, cI]
 refine tP (cells := #[.int .u8 80, .int .u8 42, .int .u8 77, .int .u8 24, .int .u8 1, .int .u8 0, .int .u8 0, .int .u8 0, .int .u8 9]) (by decide) (by decide) (by kernel_rfl) fun w6 o6 x6 s6 => ?_
 refine Ah o6 fun w7 o7 x7 s7 => ?_
 have b7 := o7.bs (off := 0) (c := 9) (l := [80, 42, 77, 24, 1, 0, 0, 0, 9]) (by decide) (fun i hi => by
  match i, hi with
  | 0, _ => rfl
  | 1, _ => rfl
  | 2, _ => rfl
  | 3, _ => rfl
  | 4, _ => rfl
  | 5, _ => rfl
  | 6, _ => rfl
  | 7, _ => rfl
  | 8, _ => rfl)
 have x57 : gB w5 w7 mZ := x6.new x7 (by omega)
 refine (Ik (log := 20) (most := 100) (mm := .ok ([], 0, 1)) b7 (by decide) (by omega) (by omega) (by kernel_rfl)).mono ?_
 rintro r w8 ⟨rfl, x8⟩
 have b8 := ((((b3.ext x4 (jV _)).ext x5 (jV _)).ext x57 (jV _)).ext x8 (jV _))
 have hs := qZ b8
 have e1 : ((⟨#[7, 8]⟩ : ByteArray).toList == (⟨#[7, 8]⟩ : ByteArray).toList) = true := beq_self_eq_true _
 have n0 : ((0 : Int) == 0) = true := rfl
 have n1 : (((0 : Nat) : Int) == 0) = true := rfl
 have n2 : (((1 : Nat) : Int) == 1) = true := rfl
 have n3 : ((10 : Int) == 10) = true := rfl
 have n4 : ((1 : Int) == 1) = true := rfl
 unfold JU
 simp (disch := omega) only [dQ, fJ, cQ, stepR_skip, eE, eT, eK, fC, fB, eX, fL, fA, dK, eL, eN, eY, eB, eI, eM, eF, eJ, fD, eZ, eC, dS, eS, eQ, eA, gP, gQ, gT, gU, gV, gR, gW, gS, gO, dH, Result.ok.injEq, Next.value.injEq, true_and, and_true, dZ, dY, eP, eU, eH, fM, LU, dR, dV, dW, dU, dN, dM, dO, dL, dI, cY, if_true, if_false, LQ, LX, LR, LS, LW, LV, LP, LO, cS, cM, cC, bW, cV, dJ, bV, bU, cR, cK, cO, dC, cN, dG, cZ, dT, dE, cH, bH, bO, aR, aC, aJ, dD, aL, cG, dF, dB, bN, aH, bD, aY, cP, aG, aX, aM, aV, cU, aW, cJ, bS, aD, aA, aK, dP, aO, aP, bC, aQ, cD, aE, bZ, bT, bF, bB, aZ, cX, aI, bJ, aT, aS, aU, aF, dA, cL, bP, aN, cW, bX, bY, cB, bQ, bR, bG, cA, bE, cF, bA, bM, bL, bK, cI, hs, e1, H8, n0, n1, n2, n3, n4]
 exact ((((((x02.seq x3).seq x4).seq x5).seq x57).seq x8))
def LK (k : UInt8) (b : List UInt8) : List UInt8 := UInt8.ofNat (80 + k.toNat % 16) :: 42 :: 77 :: 24 :: UInt8.ofNat b.length :: 0 :: 0 :: 0 :: b
def H9 : List (UInt8 × List UInt8) -> List UInt8
 | [] => []
 | (k, b) :: L => LK k b ++ H9 L
def GM : Nat -> List (UInt8 × List UInt8) -> List Nat
 | _, [] => []
 | n, (k, b) :: L => (n + (8 + b.length)) :: GM (n + (8 + b.length)) L
def Kt (w : Na) (v : Nb) (ls : List (List UInt8)) : Prop := ∃ vs : List Nb, Sl w v vs /\ vs.length = ls.length /\ ∀ i (h : i < ls.length) (h' : i < vs.length), Bs w vs[i] ls[i]
theorem Kt.ext {w w' : Na} {v : Nb} {ls : List (List UInt8)} (h : Kt w v ls) (x : gB w w' mZ) : Kt w' v ls := by
 obtain ⟨vs, h1, h2, h3⟩ := h
 exact ⟨vs, h1.ext x (jV _), h2, fun i a b => (h3 i a b).ext x (jV _)⟩
theorem Kt.len {w : Na} {v : Nb} {ls : List (List UInt8)} (h : Kt w v ls) : ∃ a c, v = .slice a ls.length c := by
 obtain ⟨vs, ⟨a, n, c, rfl, hn, hc, _⟩, h2, h3⟩ := h
 exact ⟨a, c, by rw [<- h2, hn]⟩
theorem Kt.at {w : Na} {v : Nb} {ls : List (List UInt8)} (h : Kt w v ls) {i : Nat} (hi : i < ls.length) : ∃ b o c u, v = .slice (some ⟨b, o, none⟩) ls.length c /\ w.cell? ⟨b, o + i, none⟩ = some u /\ Bs w u (ls[i]'hi) := by
 obtain ⟨vs, ⟨a, n, c, rfl, hn, hc, hh⟩, h2, h3⟩ := h
 obtain ⟨b, o, rfl, h4⟩ := hh (by omega)
 have h5 := h4 i (by omega)
 rw [L3 (by omega)] at h5
 exact ⟨b, o, c, _, by rw [<- h2, hn], h5, h3 i hi (by omega)⟩
theorem JY {w : Na} {v : Nb} {l : List UInt8} (h : Bs w v l) {i : Nat} (hi : i < l.length) : ∃ b o c, v = .slice (some ⟨b, o, none⟩) l.length c /\ w.cell? ⟨b, o + i, none⟩ = some (pU (l[i]'hi)) := by
 obtain ⟨a, n, c, rfl, hn, hc, hh⟩ := h
 rw [LZ] at hn
 obtain ⟨b, o, rfl, h4⟩ := hh (by omega)
 have h5 := h4 i (by omega)
 rw [MK, L3 hi] at h5
 exact ⟨b, o, c, by rw [hn], h5⟩
theorem IL {w : Na} {b : Nat} {l : List UInt8} (h : iA w b (l.map pU)) : Bs w (.slice (some ⟨b, 0, none⟩) l.length l.length) l :=
 h.bs (off := 0) (c := l.length) (Md _) (fun i hi => by rw [LX, MK, L3 hi] <;> rfl)
def iv (n : Nat) : Nb := .int .i64 (n : Nat)
def Kk (base : Nat) (w : Na) (va ve : Nb) (L : List (UInt8 × List UInt8)) : Prop :=
 ∃ S T : Nat -> Prop, yG w S 1 va (H9 L).length ((H9 L).map pU) /\ yG w T 1 ve (GM 0 L).length ((GM 0 L).map iv) /\ (∀ b, S b -> base <= b /\ ¬ T b) /\ (∀ b, T b -> base <= b)
theorem Kk.ext {base : Nat} {w w' : Na} {va ve : Nb} {L : List (UInt8 × List UInt8)} (h : Kk base w va ve L) (x : gB w w' mZ) : Kk base w' va ve L := by
 obtain ⟨S, T, h1, h2, h3, h4⟩ := h
 exact ⟨S, T, h1.ext x (fun _ _ h => h), h2.ext x (fun _ _ h => h), h3, h4⟩
theorem KC {n : Nat} (h : n < 256) : (UInt8.ofNat n).toNat = n := by rw [UInt8.toNat_ofNat']; omega
def b3 (x : Nat) : List UInt8 := [UInt8.ofNat (x % 256), UInt8.ofNat (x / 256 % 256), UInt8.ofNat (x / 65536 % 256)]
theorem JC {x : Nat} (h : x < 2 ^ 24) : lK (b3 x) = x := by
 simp only [b3, lK]
 rw [KC (by omega), KC (by omega), KC (by omega)]
 omega
theorem Ld {x : Nat} {r : List UInt8} (h : x < 2 ^ 24) : bx (b3 x ++ r) = x := by
 have : (b3 x ++ r).take 3 = b3 x := rfl
 unfold bx
 rw [this, JC h]
def FM (n : Nat) (b : Bool) : Nat := 8 * n + 2 + (if b then 1 else 0)
def DE (n : Nat) (c : UInt8) (b : Bool) : List UInt8 := b3 (FM n b) ++ [c]
theorem Jk {n win room : Nat} {c : UInt8} {b : Bool} {r all : List UInt8} (hn : n <= win) (hn2 : n <= 131072) : DO (DE n c b ++ r) all win room = if room < all.length + n then some (.error 12) else some (.ok (all ++ List.replicate n c, r, b)) := by
 have hx : FM n b < 2 ^ 24 := by unfold FM; split <;> omega
 have e0 : DE n c b ++ r = b3 (FM n b) ++ (c :: r) := by unfold DE; rw [Mi] <;> rfl
 rw [e0]
 unfold DO
 have hl : (b3 (FM n b) ++ (c :: r)).length = 4 + r.length := by simp [b3]; omega
 have hb := Ld (r := c :: r) hx
 have hk : wQ (b3 (FM n b) ++ (c :: r)) = 1 := by unfold wQ; rw [hb]; unfold FM; split <;> omega
 have hs : zY (b3 (FM n b) ++ (c :: r)) = n := by unfold zY; rw [hb]; unfold FM; split <;> omega
 have hd : CA (b3 (FM n b) ++ (c :: r)) = 1 := by unfold CA; rw [hk] <;> rfl
 have hm : Gl (b3 (FM n b) ++ (c :: r)) = List.replicate n c := by unfold Gl; rw [hk, hs] <;> rfl
 have hq : (bx (b3 (FM n b) ++ (c :: r)) % 2 == 1) = b := by
  rw [hb]; unfold FM
  cases b
  .have : (8 * n + 2 + (if false = true then 1 else 0)) % 2 = 0 := by simp; omega
   rw [this] <;> rfl
  .have : (8 * n + 2 + (if true = true then 1 else 0)) % 2 = 1 := by simp; omega
   rw [this] <;> rfl
 rw [hl, hk, hs, hd, hm, hq, if_neg (by omega), if_neg (by omega), if_neg (by omega), if_neg (by omega), if_neg (by omega), L8]
 rfl
def pX : List (Nat × UInt8) -> List UInt8
 | [] => []
 | (n, c) :: L => DE n c L.isEmpty ++ pX L
def gJ : List (Nat × UInt8) -> List UInt8
 | [] => []
 | (n, c) :: L => List.replicate n c ++ gJ L
theorem Fy {h : FH} {room : Nat} (hk : h.known = false) (hw : 500 <= h.window) : ∀ (L : List (Nat × UInt8)) (f : Nat) (all : List UInt8), L ≠ [] -> (∀ x ∈ L, x.1 < 500) -> L.length <= f -> all.length <= room -> zM h room f (pX L) all = if room < all.length + (gJ L).length then some (.error 12) else some (.ok (all ++ gJ L, []))
 | [], _, _, hn, _, _, _ => absurd rfl hn
 | (n, c) :: L, f, all, _, hL, hf, hr => by
   obtain ⟨f, rfl⟩ : ∃ g, f = g + 1 := ⟨f - 1, by rw [Mc] at hf; omega⟩
   have hn : n < 500 := hL (n, c) (by simp)
   rw [zM, pX, Jk (by omega) (by omega)]
   by_cases h1 : room < all.length + n
   .have : room < all.length + (gJ ((n, c) :: L)).length := by rw [gJ, L4, L8]; omega
    rw [if_pos h1, if_pos this]
   rw [if_neg h1]
   simp only [hk]
   cases L with
   | nil =>
     have : ¬ room < all.length + (gJ [(n, c)]).length := by simp only [gJ, L4, L8, List.length_nil]; omega
     rw [if_neg this]
     simp [pX, gJ]
   | cons y L =>
     have ih := Fy (room := room) hk hw (y :: L) f (all ++ List.replicate n c) (by simp) (fun x hx => hL x (Mb _ hx)) (by rw [Mc] at hf; omega) (by rw [L4, L8]; omega)
     rw [L4, L8] at ih
     have e : (gJ ((n, c) :: y :: L)).length = n + (gJ (y :: L)).length := by rw [gJ, L4, L8]
     have e2 : (y :: L).isEmpty = false := rfl
     rw [e, e2]
     have e3 : all.length + (n + (gJ (y :: L)).length) = all.length + n + (gJ (y :: L)).length := by omega
     have e4 : gJ ((n, c) :: y :: L) = List.replicate n c ++ gJ (y :: L) := rfl
     rw [e3, e4, <- Mi]
     simp only [LQ, false_and, if_false]
     exact ih
def Jf (L : List (Nat × UInt8)) : List UInt8 := [40, 181, 47, 253, 0, 0] ++ pX L
theorem It (r : List UInt8) : AJ ((0 : UInt8) :: 0 :: r) = .ok (⟨1024, 0, false, false⟩, 2) := by
 have h1 : DT ((0 : UInt8) :: 0 :: r, 0) 1 = (0 :: r, 0) := by
  unfold DT sE
  rw [if_neg (by simp), if_neg (by simp)] <;> rfl
 have h2 : Fl ((0 : UInt8) :: 0 :: r, 0) 1 = 0 := by
  unfold Fl sE
  rw [if_neg (by simp), if_neg (by simp)] <;> rfl
 have h3 : DT ((0 : UInt8) :: r, 0) 1 = (r, 0) := by
  unfold DT sE
  rw [if_neg (by simp), if_neg (by simp)] <;> rfl
 have h4 : Fl ((0 : UInt8) :: r, 0) 1 = 0 := by
  unfold Fl sE
  rw [if_neg (by simp), if_neg (by simp)] <;> rfl
 unfold AJ
 rw [h1, h2]
 have e1 : BD 0 = false := rfl
 have e2 : G1 0 = 0 := rfl
 have e3 : Cn 0 = 0 := rfl
 unfold Eb Kc Jh
 rw [e1, e2, e3]
 simp only [LQ, if_false, h3, h4]
 have e4 : ∀ s, G7 s 0 = s := fun s => rfl
 have e5 : ∀ s, Es s 0 = 0 := fun s => rfl
 simp only [e4, e5]
 unfold DQ
 have e6 : HO 0 = 1024 := by decide
 rw [e6]
 simp
 omega
theorem Ko {L : List (Nat × UInt8)} {most : Nat} (hn : L ≠ []) (hL : ∀ x ∈ L, x.1 < 500) : KF (Jf L) 20 most = if most < (gJ L).length then some (.error 12) else some (.ok (gJ L, 1, 0)) := by
 unfold KF
 have hl : (Jf L).length = 6 + (pX L).length := by unfold Jf; rw [L4] <;> rfl
 have hLL : ∀ L : List (Nat × UInt8), L.length <= (pX L).length := by
  intro L
  induction L with
  | nil => simp
  | cons x L ih => obtain ⟨k, b⟩ := x; rw [pX, L4, Mc]; simp [DE, b3]; omega
 rw [hl, Ga]
 rw [if_neg (by omega), if_neg (by omega)]
 have h2 : (Jf L).take 4 = [40, 181, 47, 253] := rfl
 have h3 : lK [40, 181, 47, 253] = 4247762216 := by decide
 have h4 : (Jf L).drop 4 = 0 :: 0 :: pX L := rfl
 rw [h2, h3, if_pos rfl, h4]
 unfold F1
 rw [It]
 have h5 : ¬ ((2 : Nat) ^ 20 < 1024 ∨ (false = true /\ most - ([] : List UInt8).length < 0)) := by simp
 simp only [if_neg h5]
 have h6 : ((0 : UInt8) :: 0 :: pX L).drop 2 = pX L := rfl
 have := hLL L
 rw [h6, Fy rfl (by decide) L _ [] hn hL (by simp only [Mc]; omega) (by simp)]
 simp only [List.length_nil, LX, Nat.sub_zero, MH]
 by_cases hm : most < (gJ L).length
 .rw [if_pos hm, if_pos hm] <;> rfl
 .rw [if_neg hm, if_neg hm]
  have : Gg ⟨1024, 0, false, false⟩ (.ok (gJ L, [])) = .ok (gJ L, []) := by
   simp [Gg, BL]
  simp only [this]
  rw [show 6 + (pX L).length = (5 + (pX L).length) + 1 from by omega, Ga]
  simp
def Us (w : Na) (v : Nb) (zs : List Int) : Prop := Sl w v (zs.map (.int .u16))
theorem J2 {w : Na} {v : Nb} {l : List Int} (h : Us w v l) {i : Nat} (hi : i < l.length) : ∃ b o c, v = .slice (some ⟨b, o, none⟩) l.length c /\ w.cell? ⟨b, o + i, none⟩ = some (.int .u16 (l[i]'hi)) := by
 obtain ⟨a, n, c, rfl, hn, hc, hh⟩ := h
 rw [LZ] at hn
 obtain ⟨b, o, rfl, h4⟩ := hh (by omega)
 have h5 := h4 i (by omega)
 rw [MK, L3 hi] at h5
 exact ⟨b, o, c, by rw [hn], h5⟩
theorem Us.len {w : Na} {v : Nb} {l : List Int} (h : Us w v l) : ∃ a c, v = .slice a l.length c := by
 obtain ⟨a, n, c, rfl, hn, hc, hh⟩ := h
 rw [LZ] at hn
 exact ⟨a, c, by rw [hn]⟩
theorem Us.ext {w w' : Na} {v : Nb} {l : List Int} (h : Us w v l) (x : gB w w' mZ) : Us w' v l := Sl.ext h x (jV _)
def Ka (z : Int) : Nat := z.toNat % 500
theorem Fh (z : Int) : Ka z < 500 := Nat.mod_lt _ (by decide)
def H2 (zs : List Int) (ls : List UInt8) : List (Nat × UInt8) := (zs.map Ka).zip ls
theorem Fv {zs : List Int} {ls : List UInt8} {i : Nat} (h : i < ls.length) (h2 : ls.length <= zs.length) : (H2 zs ls).take (i + 1) = (H2 zs ls).take i ++ [(Ka (zs[i]'(by omega)), ls[i]'h)] := by
 unfold H2
 rw [List.take_add_one, L3 (by rw [M9, LZ]; omega), List.getElem_zip, List.getElem_map] <;> rfl
theorem Bi : ∀ (L : List (Nat × UInt8)) (n : Nat) (c : UInt8), gJ (L ++ [(n, c)]) = gJ L ++ List.replicate n c
 | [], n, c => by simp [gJ]
 | (n', c') :: L, n, c => by simp only [Mz, gJ, Bi L, Mi]
theorem Ca : ∀ (L : List (Nat × UInt8)), (∀ x ∈ L, x.1 < 500) -> (gJ L).length <= 500 * L.length
 | [], _ => by simp [gJ]
 | (n, c) :: L, h => by
   have h1 := h (n, c) (by simp)
   have h2 := Ca L fun x hx => h x (Mb _ hx)
   rw [gJ, L4, L8, Mc]
   simp only at h1
   omega
theorem ID {k2 : Nb -> Nb -> Nb -> Nb -> Nb -> Nb -> Nb -> Na -> Prop} {v0 v1 v2 va vw : Nb} {b n i : Nat} {ls : List UInt8} {w : Na} (h0 : Bs w v0 ls) (hi : i < ls.length) (hb : ¬ Co v0 (fun y => y = b)) (hn : n < 500) (hls : ls.length <= 20) (o : iA w b (List.replicate n (Value.int .u8 0)))
 (hk : ∀ w', iA w' b (List.replicate n (pU (ls[i]'hi))) -> gB w w' (fun y => y = b) -> k2 v0 v1 v2 va vw (.int .i64 (i : Nat)) (.slice (some ⟨b, 0, none⟩) n n) w') :
 lA k2 v0 v1 v2 va vw (.int .i64 (i : Nat)) (.int .i64 (n : Nat)) (.slice (some ⟨b, 0, none⟩) n n) w := by
 unfold lA oH oT oN
 obtain ⟨c, hc⟩ : ∃ c, c = ls[i]'hi := ⟨_, rfl⟩
 rw [<- hc] at hk
 refine iR.rule (fun m (t : Nb) w1 => ∃ j, m = n - j /\ t = .int .i64 (j : Nat) /\ j <= n /\ iA w1 b (List.replicate j (pU c) ++ List.replicate (n - j) (.int .u8 0)) /\ gB w w1 (fun y => y = b)) n
  ⟨0, by omega, rfl, by omega, by simpa using o, gB.refl _ _⟩ ?_
 rintro m t w1 ⟨j, rfl, rfl, hj, o1, x1⟩
 unfold kX
 by_cases hlt : j < n
 rotate_left
 .have d1 : decide ((j : Int) < (n : Int)) = false := decide_eq_false (by omega)
  have hjn : j = n := by omega
  rw [hjn, M8, List.replicate_zero, MW] at o1
  simp (disch := omega) only [dQ, fJ, cQ, stepR_skip, eE, eT, eK, fC, fB, eX, fL, fA, dK, eL, eN, eY, eB, eI, eM, eF, eJ, fD, eZ, eC, dS, eS, eQ, eA, gP, gQ, gT, gU, gV, gR, gW, gS, gO, dH, Result.ok.injEq, Next.value.injEq, true_and, and_true, dZ, dY, eP, eU, eH, fM, LU, dR, dV, dW, dU, dN, dM, dO, dL, dI, cY, if_true, if_false, LQ, LX, LR, LS, LW, LV, LP, LO, cS, cM, cC, bW, cV, dJ, bV, bU, cR, cK, cO, dC, cN, dG, cZ, dT, dE, cH, bH, bO, aR, aC, aJ, dD, aL, cG, dF, dB, bN, aH, bD, aY, cP, aG, aX, aM, aV, cU, aW, cJ, bS, aD, aA, aK, dP, aO, aP, bC, aQ, cD, aE, bZ, bT, bF, bB, aZ, cX, aI, bJ, aT, aS, aU, aF, dA, cL, bP, aN, cW, bX, bY, cB, bQ, bR, bG, cA, bE, cF, bA, bM, bL, bK, cI, d1]
  exact hk w1 o1 x1
 have d1 : decide ((j : Int) < (n : Int)) = true := decide_eq_true (by omega)
 obtain ⟨b0, o0, c0, e0, hc0⟩ := JY (h0.ext x1 hb) hi
 rw [<- hc] at hc0
 unfold pU at hc0
 have t0 : (i : Int).toNat = i := LU _
 have t1 : (j : Int).toNat = j := LU _
 have z0 : 0 + j = j := by omega
 have e7 : (j : Int) + 1 = ((j + 1 : Nat) : Int) := by omega
 rw [e0]
 simp (disch := omega) only [dQ, fJ, cQ, stepR_skip, eE, eT, eK, fC, fB, eX, fL, fA, dK, eL, eN, eY, eB, eI, eM, eF, eJ, fD, eZ, eC, dS, eS, eQ, eA, gP, gQ, gT, gU, gV, gR, gW, gS, gO, dH, Result.ok.injEq, Next.value.injEq, true_and, and_true, dZ, dY, eP, eU, eH, fM, LU, dR, dV, dW, dU, dN, dM, dO, dL, dI, cY, if_true, if_false, LQ, LX, LR, LS, LW, LV, LP, LO, cS, cM, cC, bW, cV, dJ, bV, bU, cR, cK, cO, dC, cN, dG, cZ, dT, dE, cH, bH, bO, aR, aC, aJ, dD, aL, cG, dF, dB, bN, aH, bD, aY, cP, aG, aX, aM, aV, cU, aW, cJ, bS, aD, aA, aK, dP, aO, aP, bC, aQ, cD, aE, bZ, bT, bF, bB, aZ, cX, aI, bJ, aT, aS, aU, aF, dA, cL, bP, aN, cW, bX, bY, cB, bQ, bR, bG, cA, bE, cF, bA, bM, bL, bK, cI, d1, hc0, t0, t1, z0]
 refine IC (off := j) o1 rfl (by simp; omega) fun w2 o2 x2 s2 => ?_
 simp (disch := omega) only [dQ, fJ, cQ, stepR_skip, eE, eT, eK, fC, fB, eX, fL, fA, dK, eL, eN, eY, eB, eI, eM, eF, eJ, fD, eZ, eC, dS, eS, eQ, eA, gP, gQ, gT, gU, gV, gR, gW, gS, gO, dH, Result.ok.injEq, Next.value.injEq, true_and, and_true, dZ, dY, eP, eU, eH, fM, LU, dR, dV, dW, dU, dN, dM, dO, dL, dI, cY, if_true, if_false, LQ, LX, LR, LS, LW, LV, LP, LO, cS, cM, cC, bW, cV, dJ, bV, bU, cR, cK, cO, dC, cN, dG, cZ, dT, dE, cH, bH, bO, aR, aC, aJ, dD, aL, cG, dF, dB, bN, aH, bD, aY, cP, aG, aX, aM, aV, cU, aW, cJ, bS, aD, aA, aK, dP, aO, aP, bC, aQ, cD, aE, bZ, bT, bF, bB, aZ, cX, aI, bJ, aT, aS, aU, aF, dA, cL, bP, aN, cW, bX, bY, cB, bQ, bR, bG, cA, bE, cF, bA, bM, bL, bK, cI, e7]
 refine ⟨n - (j + 1), by omega, j + 1, rfl, rfl, by omega, ?_, x1.seq x2⟩
 have : (List.replicate j (pU c) ++ List.replicate (n - j) (Value.int .u8 0)).set j (.int .u8 (c.toNat : Nat)) = List.replicate (j + 1) (pU c) ++ List.replicate (n - (j + 1)) (.int .u8 0) := by
  rw [Mo _ _ (by simp), L8, M8]
  obtain ⟨q, hq⟩ : ∃ q, n - j = q + 1 := ⟨n - j - 1, by omega⟩
  rw [hq, List.replicate_succ, L2, List.replicate_succ', Mi, show n - (j + 1) = q from by omega]
  rfl
 rw [this] at o2
 exact o2
theorem JF {k0 : Nb -> Nb -> Nb -> Nb -> Nb -> Na -> Prop} {v0 v1 v2 : Nb} {ls : List UInt8} {zs : List Int} {w : Na} (h0 : Bs w v0 ls) (h1 : Us w v1 zs) (hls : ls.length <= 20) (hz : ls.length <= zs.length) (hzs : ∀ z ∈ zs, 0 <= z /\ z <= 65535)
 (hk : ∀ w', gB w w' mZ -> k0 v0 v1 v2 (.int .i64 ((gJ (H2 zs ls)).length : Nat)) (.string ⟨(gJ (H2 zs ls)).toArray⟩) w') :
 lD k0 v0 v1 v2 (.int .i64 0) (.string ⟨#[]⟩) w := by
 unfold lD oQ oF nZ
 obtain ⟨L, hL⟩ : ∃ L, L = H2 zs ls := ⟨_, rfl⟩
 have hLl : L.length = ls.length := by rw [hL]; unfold H2; rw [M9, LZ]; omega
 have hL5 : ∀ x ∈ L, x.1 < 500 := by
  intro x hx
  rw [hL] at hx
  have := (List.of_mem_zip hx).1
  obtain ⟨z, _, hz⟩ := M6.1 this
  rw [<- hz]; exact Fh z
 rw [<- hL] at hk
 refine iR.rule (fun m (t : Nb × Nb × Nb) w1 => ∃ i, m = ls.length - i /\ t = (.int .i64 ((gJ (L.take i)).length : Nat), .string ⟨(gJ (L.take i)).toArray⟩, .int .i64 (i : Nat)) /\ i <= ls.length /\ gB w w1 mZ) ls.length
  ⟨0, by omega, rfl, by omega, gB.refl _ _⟩ ?_
 rintro m t w1 ⟨i, rfl, rfl, hi, x1⟩
 show jQ _ k0 v0 v1 v2 (.int .i64 ((gJ (L.take i)).length : Nat)) (.string ⟨(gJ (L.take i)).toArray⟩) (.int .i64 (i : Nat)) w1
 unfold jQ oK
 have g0 := h0.ext x1 (jV _)
 have g1 := h1.ext x1
 obtain ⟨a0, c0, e0, _⟩ := g0.len
 rw [LZ] at e0
 by_cases hlt : i < ls.length
 rotate_left
 .have d1 : decide ((i : Int) < (ls.length : Int)) = false := decide_eq_false (by omega)
  have hi' : i = ls.length := by omega
  rw [hi', <- hLl, List.take_length]
  rw [hi', ] at d1
  have hk := hk w1 x1
  subst e0
  rw [hLl]
  simp (disch := omega) only [dQ, fJ, cQ, stepR_skip, eE, eT, eK, fC, fB, eX, fL, fA, dK, eL, eN, eY, eB, eI, eM, eF, eJ, fD, eZ, eC, dS, eS, eQ, eA, gP, gQ, gT, gU, gV, gR, gW, gS, gO, dH, Result.ok.injEq, Next.value.injEq, true_and, and_true, dZ, dY, eP, eU, eH, fM, LU, dR, dV, dW, dU, dN, dM, dO, dL, dI, cY, if_true, if_false, LQ, LX, LR, LS, LW, LV, LP, LO, cS, cM, cC, bW, cV, dJ, bV, bU, cR, cK, cO, dC, cN, dG, cZ, dT, dE, cH, bH, bO, aR, aC, aJ, dD, aL, cG, dF, dB, bN, aH, bD, aY, cP, aG, aX, aM, aV, cU, aW, cJ, bS, aD, aA, aK, dP, aO, aP, bC, aQ, cD, aE, bZ, bT, bF, bB, aZ, cX, aI, bJ, aT, aS, aU, aF, dA, cL, bP, aN, cW, bX, bY, cB, bQ, bR, bG, cA, bE, cF, bA, bM, bL, bK, cI, d1]
  exact hk
 have d1 : decide ((i : Int) < (ls.length : Int)) = true := decide_eq_true (by omega)
 have htk := Fv hlt hz
 rw [<- hL] at htk
 have hm := Ca (L.take i) fun x hx => hL5 x (M7 hx)
 rw [L6] at hm
 obtain ⟨b1, o1, c1, e1, hc1⟩ := J2 g1 (i := i) (by omega)
 obtain ⟨z, hzz⟩ : ∃ z, z = zs[i]'(by omega) := ⟨_, rfl⟩
 rw [<- hzz] at hc1 htk
 have hzr := hzs z (by rw [hzz]; exact List.getElem_mem _)
 have t0 : (i : Int).toNat = i := LU _
 have hnl := Fh z
 obtain ⟨n, hn⟩ : ∃ n, n = Ka z := ⟨_, rfl⟩
 rw [<- hn] at htk hnl
 have e3 : z.tmod 500 = (n : Int) := by
  rw [hn]; unfold Ka
  rw [Int.tmod_eq_emod_of_nonneg hzr.1]
  omega
 have w3 : IntKind.i64.wrap (n : Int) = n := dZ (by omega) (by omega)
 have w4 : IntKind.u16.wrap (n : Int) = n := eH (by omega) (by omega)
 have e4 : ((gJ (L.take i)).length : Int) + (n : Int) = (((gJ (L.take i)).length + n : Nat) : Int) := by omega
 have e7 : (i : Int) + 1 = ((i + 1 : Nat) : Int) := by omega
 rw [e0]
 simp (disch := omega) only [dQ, fJ, cQ, stepR_skip, eE, eT, eK, fC, fB, eX, fL, fA, dK, eL, eN, eY, eB, eI, eM, eF, eJ, fD, eZ, eC, dS, eS, eQ, eA, gP, gQ, gT, gU, gV, gR, gW, gS, gO, dH, Result.ok.injEq, Next.value.injEq, true_and, and_true, dZ, dY, eP, eU, eH, fM, LU, dR, dV, dW, dU, dN, dM, dO, dL, dI, cY, if_true, if_false, LQ, LX, LR, LS, LW, LV, LP, LO, cS, cM, cC, bW, cV, dJ, bV, bU, cR, cK, cO, dC, cN, dG, cZ, dT, dE, cH, bH, bO, aR, aC, aJ, dD, aL, cG, dF, dB, bN, aH, bD, aY, cP, aG, aX, aM, aV, cU, aW, cJ, bS, aD, aA, aK, dP, aO, aP, bC, aQ, cD, aE, bZ, bT, bF, bB, aZ, cX, aI, bJ, aT, aS, aU, aF, dA, cL, bP, aN, cW, bX, bY, cB, bQ, bR, bG, cA, bE, cF, bA, bM, bL, bK, cI, d1]
 unfold pA oE tU oY
 rw [<- e0]
 rw [e1]
 simp (disch := omega) only [dQ, fJ, cQ, stepR_skip, eE, eT, eK, fC, fB, eX, fL, fA, dK, eL, eN, eY, eB, eI, eM, eF, eJ, fD, eZ, eC, dS, eS, eQ, eA, gP, gQ, gT, gU, gV, gR, gW, gS, gO, dH, Result.ok.injEq, Next.value.injEq, true_and, and_true, dZ, dY, eP, eU, eH, fM, LU, dR, dV, dW, dU, dN, dM, dO, dL, dI, cY, if_true, if_false, LQ, LX, LR, LS, LW, LV, LP, LO, cS, cM, cC, bW, cV, dJ, bV, bU, cR, cK, cO, dC, cN, dG, cZ, dT, dE, cH, bH, bO, aR, aC, aJ, dD, aL, cG, dF, dB, bN, aH, bD, aY, cP, aG, aX, aM, aV, cU, aW, cJ, bS, aD, aA, aK, dP, aO, aP, bC, aQ, cD, aE, bZ, bT, bF, bB, aZ, cX, aI, bJ, aT, aS, aU, aF, dA, cL, bP, aN, cW, bX, bY, cB, bQ, bR, bG, cA, bE, cF, bA, bM, bL, bK, cI, hc1, t0, e3, w3, w4, e4]
 rw [<- e1]
 refine Dv (by omega) (by omega) fun w2 o2 x2 s2 => ?_
 simp only [LU] at o2 ⊢
 have z1 := x1.size
 have z2 := x2.size
 obtain ⟨b, hb⟩ : ∃ b, b = w1.heap.size := ⟨_, rfl⟩
 rw [<- hb] at o2 ⊢
 unfold nU
 have hnin : ¬ Co v0 (fun y => y = b) := by
  intro hh
  refine g0.old ?_
  unfold Co at hh ⊢
  split at hh
  .omega
  .exact hh
 refine ID (g0.ext x2 (jV _)) hlt hnin hnl hls o2 fun w3 o3 x3 => ?_
 unfold lB
 have hbs : Bs w3 (.slice (some ⟨b, 0, none⟩) n n) (List.replicate n (ls[i]'hlt)) := by
  have := IL (l := List.replicate n (ls[i]'hlt)) (by rw [List.map_replicate]; exact o3)
  rw [L8] at this
  exact this
 have hcv := qZ hbs
 have hsc : ∀ (t : TypeId) (ox oy : Operand) (w : Na), (fI .add t ox oy (.string ⟨(gJ (L.take i)).toArray⟩) (.string ⟨(List.replicate n (ls[i]'hlt)).toArray⟩)).run pg w = .ok (.value (.string ⟨(gJ (L.take (i + 1))).toArray⟩)) w := fun t ox oy w => by
  have h1 := KA (P := pg) (t := t) (ox := ox) (oy := oy) (w := w) ⟨(gJ (L.take i)).toArray⟩ ⟨(List.replicate n (ls[i]'hlt)).toArray⟩ (by
   have e1 : (⟨(gJ (L.take i)).toArray⟩ : ByteArray).size = (gJ (L.take i)).length := by simp [ByteArray.size]
   have e2 : (⟨(List.replicate n (ls[i]'hlt)).toArray⟩ : ByteArray).size = n := by simp [ByteArray.size]
   omega)
  rw [h1, htk, Bi]
  congr 3
 simp (disch := omega) only [dQ, fJ, cQ, stepR_skip, eE, eT, eK, fC, fB, eX, fL, fA, dK, eL, eN, eY, eB, eI, eM, eF, eJ, fD, eZ, eC, dS, eS, eQ, eA, gP, gQ, gT, gU, gV, gR, gW, gS, gO, dH, Result.ok.injEq, Next.value.injEq, true_and, and_true, dZ, dY, eP, eU, eH, fM, LU, dR, dV, dW, dU, dN, dM, dO, dL, dI, cY, if_true, if_false, LQ, LX, LR, LS, LW, LV, LP, LO, cS, cM, cC, bW, cV, dJ, bV, bU, cR, cK, cO, dC, cN, dG, cZ, dT, dE, cH, bH, bO, aR, aC, aJ, dD, aL, cG, dF, dB, bN, aH, bD, aY, cP, aG, aX, aM, aV, cU, aW, cJ, bS, aD, aA, aK, dP, aO, aP, bC, aQ, cD, aE, bZ, bT, bF, bB, aZ, cX, aI, bJ, aT, aS, aU, aF, dA, cL, bP, aN, cW, bX, bY, cB, bQ, bR, bG, cA, bE, cF, bA, bM, bL, bK, cI, hcv, hsc]
 unfold kV
 simp (disch := omega) only [dQ, fJ, cQ, stepR_skip, eE, eT, eK, fC, fB, eX, fL, fA, dK, eL, eN, eY, eB, eI, eM, eF, eJ, fD, eZ, eC, dS, eS, eQ, eA, gP, gQ, gT, gU, gV, gR, gW, gS, gO, dH, Result.ok.injEq, Next.value.injEq, true_and, and_true, dZ, dY, eP, eU, eH, fM, LU, dR, dV, dW, dU, dN, dM, dO, dL, dI, cY, if_true, if_false, LQ, LX, LR, LS, LW, LV, LP, LO, cS, cM, cC, bW, cV, dJ, bV, bU, cR, cK, cO, dC, cN, dG, cZ, dT, dE, cH, bH, bO, aR, aC, aJ, dD, aL, cG, dF, dB, bN, aH, bD, aY, cP, aG, aX, aM, aV, cU, aW, cJ, bS, aD, aA, aK, dP, aO, aP, bC, aQ, cD, aE, bZ, bT, bF, bB, aZ, cX, aI, bJ, aT, aS, aU, aF, dA, cL, bP, aN, cW, bX, bY, cB, bQ, bR, bG, cA, bE, cF, bA, bM, bL, bK, cI, e7]
 have x13 : gB w w3 mZ := (x1.seq x2).trans x3 fun y hy h => by omega
 refine ⟨ls.length - (i + 1), by omega, i + 1, rfl, ?_, by omega, x13⟩
 have : (gJ (L.take (i + 1))).length = (gJ (L.take i)).length + n := by rw [htk, Bi, L4, L8]
 rw [this]
def AK : List (Nat × UInt8) -> List UInt8
 | [] => []
 | (n, c) :: L => DE n c false ++ AK L
theorem D3 : ∀ (L : List (Nat × UInt8)) (n : Nat) (c : UInt8), AK (L ++ [(n, c)]) = AK L ++ DE n c false
 | [], n, c => by simp [AK]
 | (n', c') :: L, n, c => by simp only [Mz, AK, D3 L, Mi]
theorem Em : ∀ (L : List (Nat × UInt8)) (n : Nat) (c : UInt8), pX (L ++ [(n, c)]) = AK L ++ DE n c true
 | [], n, c => by simp [AK, pX]
 | (n', c') :: L, n, c => by
   have e : (L ++ [(n, c)]).isEmpty = false := by cases L <;> rfl
   simp only [Mz, pX, AK, Em L, e, Mi]
theorem EH : ∀ (L : List (Nat × UInt8)), (AK L).length = 4 * L.length
 | [] => rfl
 | (n, c) :: L => by rw [AK, L4, EH L, Mc]; simp [DE, b3]; omega
def F6 (L : List (Nat × UInt8)) (i : Nat) : List UInt8 := [40, 181, 47, 253, 0, 0] ++ (if i < L.length then AK (L.take i) else pX L)
theorem Im {L : List (Nat × UInt8)} {i n : Nat} {c : UInt8} (hi : i < L.length) (h : L.take (i + 1) = L.take i ++ [(n, c)]) : F6 L (i + 1) = F6 L i ++ DE n c (i + 1 == L.length) := by
 unfold F6
 rw [if_pos hi]
 by_cases h1 : i + 1 < L.length
 .have e : (i + 1 == L.length) = false := by simp; omega
  rw [if_pos h1, h, D3, e, Mi]
 .have e : (i + 1 == L.length) = true := by simp; omega
  have e2 : L = L.take i ++ [(n, c)] := by rw [<- h, Mf (by omega)]
  rw [if_neg h1, e]
  have e3 : pX L = AK (L.take i) ++ DE n c true := by
   have := Em (L.take i) n c
   rw [<- e2] at this
   exact this
  rw [e3, Mi]
theorem Hg {L : List (Nat × UInt8)} {i : Nat} (hi : i < L.length) : (F6 L i).length = 6 + 4 * i := by
 unfold F6
 rw [if_pos hi, L4, EH, L6]
 simp
 omega
theorem I0 (x : Nat) (c : UInt8) (hx : x < 2 ^ 24) : (#[.int .u8 ((x : Int) % 256), .int .u8 (((x / 256 : Nat) : Int) % 256), .int .u8 (((x / 65536 : Nat) : Int)), .int .u8 (c.toNat : Nat)] : Array Nb).toList = (b3 x ++ [c]).map pU := by
 simp only [b3, Mz, MH, List.map_cons, List.map_nil, pU]
 rw [KC (by omega), KC (by omega), KC (by omega), MA (show x / 65536 < 256 by omega)]
 rfl
theorem Iy {R : Nb -> Na -> Prop} {v0 v1 v2 va vw : Nb} {ls : List UInt8} {zs : List Int} {w : Na} (h0 : Bs w v0 ls) (h1 : Us w v1 zs) (hls : ls.length <= 20) (hpos : 0 < ls.length) (hz : ls.length <= zs.length) (hzs : ∀ z ∈ zs, 0 <= z /\ z <= 65535)
 (hk : ∀ w' vf, Bs w' vf (Jf (H2 zs ls)) -> gB w w' mZ -> jW R v2 va vw vf w') :
 kU R v0 v1 v2 va vw w := by
 unfold kU oS
 refine tP (cells := #[.int .u8 40, .int .u8 181, .int .u8 47, .int .u8 253, .int .u8 0, .int .u8 0]) (by decide) (by decide) (by kernel_rfl) fun w1 o1 x1 s1 => ?_
 refine Ah o1 fun w2 o2 x2 s2 => ?_
 have x02 : gB w w2 mZ := x1.new x2 (by omega)
 unfold oR oU nY oM oX
 obtain ⟨L, hL⟩ : ∃ L, L = H2 zs ls := ⟨_, rfl⟩
 have hLl : L.length = ls.length := by rw [hL]; unfold H2; rw [M9, LZ]; omega
 rw [<- hL] at hk
 have hG0 : F6 L 0 = [40, 181, 47, 253, 0, 0] := by unfold F6; rw [if_pos (by omega)] <;> rfl
 have hs0 : yG w2 (fun y => w.heap.size <= y) 1 (.slice (some ⟨w.heap.size, 0, none⟩) 6 6) (F6 L 0).length ((F6 L 0).map pU) := by
  rw [hG0]
  have hz := o2.lt
  refine ⟨by simp, .inr ⟨w.heap.size, 6, [], rfl, Md _, ?_, by simp, by simp⟩⟩
  exact o2
 refine iR.rule (fun m (t : Nb × Nb) w3 => ∃ i vf, m = ls.length - i /\ t = (vf, .int .i64 (i : Nat)) /\ i <= ls.length /\ yG w3 (fun y => w.heap.size <= y) 1 vf (F6 L i).length ((F6 L i).map pU) /\ gB w w3 mZ) ls.length
  ⟨0, _, by omega, rfl, by omega, hs0, x02⟩ ?_
 rintro m t w3 ⟨i, vf, rfl, rfl, hi, hS, x3⟩
 show jY _ _ v0 v1 v2 va vw vf (.int .i64 (i : Nat)) w3
 unfold jY pR
 have g0 := h0.ext x3 (jV _)
 have g1 := h1.ext x3
 obtain ⟨a0, c0, e0, _⟩ := g0.len
 rw [LZ] at e0
 by_cases hlt : i < ls.length
 rotate_left
 .have d1 : decide ((i : Int) < (ls.length : Int)) = false := decide_eq_false (by omega)
  have hg : F6 L i = Jf L := by unfold F6 Jf; rw [if_neg (by omega)]
  rw [hg] at hS
  have := hk w3 vf (GS hS) x3
  subst e0
  simp (disch := omega) only [dQ, fJ, cQ, stepR_skip, eE, eT, eK, fC, fB, eX, fL, fA, dK, eL, eN, eY, eB, eI, eM, eF, eJ, fD, eZ, eC, dS, eS, eQ, eA, gP, gQ, gT, gU, gV, gR, gW, gS, gO, dH, Result.ok.injEq, Next.value.injEq, true_and, and_true, dZ, dY, eP, eU, eH, fM, LU, dR, dV, dW, dU, dN, dM, dO, dL, dI, cY, if_true, if_false, LQ, LX, LR, LS, LW, LV, LP, LO, cS, cM, cC, bW, cV, dJ, bV, bU, cR, cK, cO, dC, cN, dG, cZ, dT, dE, cH, bH, bO, aR, aC, aJ, dD, aL, cG, dF, dB, bN, aH, bD, aY, cP, aG, aX, aM, aV, cU, aW, cJ, bS, aD, aA, aK, dP, aO, aP, bC, aQ, cD, aE, bZ, bT, bF, bB, aZ, cX, aI, bJ, aT, aS, aU, aF, dA, cL, bP, aN, cW, bX, bY, cB, bQ, bR, bG, cA, bE, cF, bA, bM, bL, bK, cI, d1]
  exact this
 have d1 : decide ((i : Int) < (ls.length : Int)) = true := decide_eq_true (by omega)
 have htk := Fv hlt hz
 rw [<- hL] at htk
 obtain ⟨b1, o1', c1, e1, hc1⟩ := J2 g1 (i := i) (by omega)
 obtain ⟨b5, o5', c5, e5, hc5⟩ := JY g0 hlt
 obtain ⟨z, hzz⟩ : ∃ z, z = zs[i]'(by omega) := ⟨_, rfl⟩
 obtain ⟨c, hcc⟩ : ∃ c, c = ls[i]'hlt := ⟨_, rfl⟩
 rw [<- hzz] at hc1 htk
 rw [<- hcc] at hc5 htk
 unfold pU at hc5
 have hzr := hzs z (by rw [hzz]; exact List.getElem_mem _)
 have t0 : (i : Int).toNat = i := LU _
 have hnl := Fh z
 obtain ⟨n, hn⟩ : ∃ n, n = Ka z := ⟨_, rfl⟩
 rw [<- hn] at htk hnl
 have hstep := Im (by omega) htk
 have hGl := Hg (L := L) (i := i) (by omega)
 have e3 : z.tmod 500 = (n : Int) := by
  rw [hn]; unfold Ka
  rw [Int.tmod_eq_emod_of_nonneg hzr.1]
  omega
 have w3' : IntKind.i64.wrap (n : Int) = n := dZ (by omega) (by omega)
 have w4 : IntKind.u16.wrap (n : Int) = n := eH (by omega) (by omega)
 have e4 : (8 : Int) * (n : Int) = ((8 * n : Nat) : Int) := by omega
 have e6 : ((8 * n : Nat) : Int) + 2 = ((8 * n + 2 : Nat) : Int) := by omega
 have e7 : (i : Int) + 1 = ((i + 1 : Nat) : Int) := by omega
 have e8 : (ls.length : Int) - 1 = ((ls.length - 1 : Nat) : Int) := by omega
 have e9 : ((8 * n + 2 : Nat) : Int) + 1 = ((8 * n + 2 + 1 : Nat) : Int) := by omega
 have main : ∀ b : Bool, b = (i + 1 == L.length) -> jZ (fun iI fS eD fG fE iP jX w9 => kA (fun _ _ _ _ _ iP jX w9 => (fun (t : Nb × Nb) w3 => ∃ m, m < ls.length - i /\ ∃ i vf, m = ls.length - i /\ t = (vf, .int .i64 (i : Nat)) /\ i <= ls.length /\ yG w3 (fun y => w.heap.size <= y) 1 vf (F6 L i).length ((F6 L i).map pU) /\ gB w w3 mZ) (iP, jX) w9) iI fS eD fG fE iP jX w9) v0 v1 v2 va vw vf (.int .i64 (i : Nat)) (.int .i64 (FM n b : Nat)) w3 := by
  intro b hb
  have hx : FM n b < 2 ^ 24 := by unfold FM; split <;> omega
  obtain ⟨x, hxx⟩ : ∃ x, x = FM n b := ⟨_, rfl⟩
  rw [<- hxx] at hx ⊢
  unfold jZ
  have q1 : (x : Int).fdiv (2 ^ min (Int.toNat 8) IntKind.i64.bits) = ((x / 256 : Nat) : Int) := by
   have : (2 : Int) ^ min (Int.toNat 8) IntKind.i64.bits = 256 := by decide
   rw [this, Mr _ (by omega)]; omega
  have q2 : (x : Int).fdiv (2 ^ min (Int.toNat 16) IntKind.i64.bits) = ((x / 65536 : Nat) : Int) := by
   have : (2 : Int) ^ min (Int.toNat 16) IntKind.i64.bits = 65536 := by decide
   rw [this, Mr _ (by omega)]; omega
  rw [e5]
  simp (disch := omega) only [dQ, fJ, cQ, stepR_skip, eE, eT, eK, fC, fB, eX, fL, fA, dK, eL, eN, eY, eB, eI, eM, eF, eJ, fD, eZ, eC, dS, eS, eQ, eA, gP, gQ, gT, gU, gV, gR, gW, gS, gO, dH, Result.ok.injEq, Next.value.injEq, true_and, and_true, dZ, dY, eP, eU, eH, fM, LU, dR, dV, dW, dU, dN, dM, dO, dL, dI, cY, if_true, if_false, LQ, LX, LR, LS, LW, LV, LP, LO, cS, cM, cC, bW, cV, dJ, bV, bU, cR, cK, cO, dC, cN, dG, cZ, dT, dE, cH, bH, bO, aR, aC, aJ, dD, aL, cG, dF, dB, bN, aH, bD, aY, cP, aG, aX, aM, aV, cU, aW, cJ, bS, aD, aA, aK, dP, aO, aP, bC, aQ, cD, aE, bZ, bT, bF, bB, aZ, cX, aI, bJ, aT, aS, aU, aF, dA, cL, bP, aN, cW, bX, bY, cB, bQ, bR, bG, cA, bE, cF, bA, bM, bL, bK, cI, q1, q2, LJ, hc5, t0]
  rw [<- e5]
  refine tP (cells := #[.int .u8 ((x : Int) % 256), .int .u8 (((x / 256 : Nat) : Int) % 256), .int .u8 (((x / 65536 : Nat) : Int)), .int .u8 (c.toNat : Nat)]) (by decide) (by decide) (by kernel_rfl) fun w4 o4 x4 s4 => ?_
  rw [I0 x c hx] at o4
  have hb4 := IL o4
  have z4 := x4.size
  have z3 := x3.size
  have S4 : yG w4 (fun y => (w.heap.size <= y /\ y < w3.heap.size) ∨ w4.heap.size <= y) 1 vf _ _ := (zN hS fun y hy h => .inl ⟨hy, h⟩).ext x4 fun _ _ h => h
  refine Ll S4 hb4 (fun y hy => .inr hy) (by rw [hGl]; simp [b3]; omega) fun v5 w5 o5 x5 => ?_
  unfold kA
  simp (disch := omega) only [dQ, fJ, cQ, stepR_skip, eE, eT, eK, fC, fB, eX, fL, fA, dK, eL, eN, eY, eB, eI, eM, eF, eJ, fD, eZ, eC, dS, eS, eQ, eA, gP, gQ, gT, gU, gV, gR, gW, gS, gO, dH, Result.ok.injEq, Next.value.injEq, true_and, and_true, dZ, dY, eP, eU, eH, fM, LU, dR, dV, dW, dU, dN, dM, dO, dL, dI, cY, if_true, if_false, LQ, LX, LR, LS, LW, LV, LP, LO, cS, cM, cC, bW, cV, dJ, bV, bU, cR, cK, cO, dC, cN, dG, cZ, dT, dE, cH, bH, bO, aR, aC, aJ, dD, aL, cG, dF, dB, bN, aH, bD, aY, cP, aG, aX, aM, aV, cU, aW, cJ, bS, aD, aA, aK, dP, aO, aP, bC, aQ, cD, aE, bZ, bT, bF, bB, aZ, cX, aI, bJ, aT, aS, aU, aF, dA, cL, bP, aN, cW, bX, bY, cB, bQ, bR, bG, cA, bE, cF, bA, bM, bL, bK, cI, e7]
  have hm : F6 L (i + 1) = F6 L i ++ (b3 x ++ [c]) := by rw [hstep, <- hb, hxx] <;> rfl
  refine ⟨ls.length - (i + 1), by omega, i + 1, v5, rfl, rfl, by omega, ?_, (x3.seq x4).trans x5 fun y hy h => by omega⟩
  rw [hm]
  exact zN o5 fun y hy _ => by omega
 rw [e0]
 simp (disch := omega) only [dQ, fJ, cQ, stepR_skip, eE, eT, eK, fC, fB, eX, fL, fA, dK, eL, eN, eY, eB, eI, eM, eF, eJ, fD, eZ, eC, dS, eS, eQ, eA, gP, gQ, gT, gU, gV, gR, gW, gS, gO, dH, Result.ok.injEq, Next.value.injEq, true_and, and_true, dZ, dY, eP, eU, eH, fM, LU, dR, dV, dW, dU, dN, dM, dO, dL, dI, cY, if_true, if_false, LQ, LX, LR, LS, LW, LV, LP, LO, cS, cM, cC, bW, cV, dJ, bV, bU, cR, cK, cO, dC, cN, dG, cZ, dT, dE, cH, bH, bO, aR, aC, aJ, dD, aL, cG, dF, dB, bN, aH, bD, aY, cP, aG, aX, aM, aV, cU, aW, cJ, bS, aD, aA, aK, dP, aO, aP, bC, aQ, cD, aE, bZ, bT, bF, bB, aZ, cX, aI, bJ, aT, aS, aU, aF, dA, cL, bP, aN, cW, bX, bY, cB, bQ, bR, bG, cA, bE, cF, bA, bM, bL, bK, cI, d1]
 unfold pP pJ uK pO
 rw [<- e0]
 by_cases hlast : i + 1 = ls.length
 .have q : ((i : Int) == ((ls.length - 1 : Nat) : Int)) = true := by simp; omega
  have := main true (by rw [hLl]; simp [hlast])
  rw [e1, e0] at this ⊢
  simp (disch := omega) only [dQ, fJ, cQ, stepR_skip, eE, eT, eK, fC, fB, eX, fL, fA, dK, eL, eN, eY, eB, eI, eM, eF, eJ, fD, eZ, eC, dS, eS, eQ, eA, gP, gQ, gT, gU, gV, gR, gW, gS, gO, dH, Result.ok.injEq, Next.value.injEq, true_and, and_true, dZ, dY, eP, eU, eH, fM, LU, dR, dV, dW, dU, dN, dM, dO, dL, dI, cY, if_true, if_false, LQ, LX, LR, LS, LW, LV, LP, LO, cS, cM, cC, bW, cV, dJ, bV, bU, cR, cK, cO, dC, cN, dG, cZ, dT, dE, cH, bH, bO, aR, aC, aJ, dD, aL, cG, dF, dB, bN, aH, bD, aY, cP, aG, aX, aM, aV, cU, aW, cJ, bS, aD, aA, aK, dP, aO, aP, bC, aQ, cD, aE, bZ, bT, bF, bB, aZ, cX, aI, bJ, aT, aS, aU, aF, dA, cL, bP, aN, cW, bX, bY, cB, bQ, bR, bG, cA, bE, cF, bA, bM, bL, bK, cI, hc1, t0, e3, w3', w4, e4, e6, e8, e9, q]
  exact this
 .have q : ((i : Int) == ((ls.length - 1 : Nat) : Int)) = false := by simp; omega
  have := main false (by rw [hLl]; simp [hlast])
  rw [e1, e0] at this ⊢
  simp (disch := omega) only [dQ, fJ, cQ, stepR_skip, eE, eT, eK, fC, fB, eX, fL, fA, dK, eL, eN, eY, eB, eI, eM, eF, eJ, fD, eZ, eC, dS, eS, eQ, eA, gP, gQ, gT, gU, gV, gR, gW, gS, gO, dH, Result.ok.injEq, Next.value.injEq, true_and, and_true, dZ, dY, eP, eU, eH, fM, LU, dR, dV, dW, dU, dN, dM, dO, dL, dI, cY, if_true, if_false, LQ, LX, LR, LS, LW, LV, LP, LO, cS, cM, cC, bW, cV, dJ, bV, bU, cR, cK, cO, dC, cN, dG, cZ, dT, dE, cH, bH, bO, aR, aC, aJ, dD, aL, cG, dF, dB, bN, aH, bD, aY, cP, aG, aX, aM, aV, cU, aW, cJ, bS, aD, aA, aK, dP, aO, aP, bC, aQ, cD, aE, bZ, bT, bF, bB, aZ, cX, aI, bJ, aT, aS, aU, aF, dA, cL, bP, aN, cW, bX, bY, cB, bQ, bR, bG, cA, bE, cF, bA, bM, bL, bK, cI, hc1, t0, e3, w3', w4, e4, e6, e8, e9, q]
  exact this
theorem EY {v0 v1 : Nb} {ls : List UInt8} {zs : List Int} {n2 : Nat} {w : Na} (h0 : Bs w v0 ls) (h1 : Us w v1 zs) (hls : ls.length <= 9223372036854775807) (hzl : zs.length <= 9223372036854775807) (hzs : ∀ z ∈ zs, 0 <= z /\ z <= 65535) (hn2 : n2 < 65536) :
 fO pg qU #[v0, v1, .int .u16 (n2 : Nat)] w (fun r w' => r = .bool true /\ gB w w' mZ) := by
 refine A0 ?_
 obtain ⟨RR, hRR⟩ : ∃ RR : Nb -> Na -> Prop, RR = fun r w' => r = .bool true /\ gB w w' mZ := ⟨_, rfl⟩
 rw [<- hRR]
 unfold yK nV oA
 refine (HD w).mono ?_
 rintro r w1 ⟨rfl, x1⟩
 obtain ⟨a0, c0, e0, _⟩ := h0.len
 rw [LZ] at e0
 obtain ⟨a1, c1, e1⟩ := h1.len
 have fin : RR (.bool true) w1 := by rw [hRR]; exact ⟨rfl, x1⟩
 by_cases hz : ls.length = 0
 .have d0 : ((ls.length : Int) == 0) = true := by rw [hz] <;> rfl
  subst e0
  simp (disch := omega) only [dQ, fJ, cQ, stepR_skip, eE, eT, eK, fC, fB, eX, fL, fA, dK, eL, eN, eY, eB, eI, eM, eF, eJ, fD, eZ, eC, dS, eS, eQ, eA, gP, gQ, gT, gU, gV, gR, gW, gS, gO, dH, Result.ok.injEq, Next.value.injEq, true_and, and_true, dZ, dY, eP, eU, eH, fM, LU, dR, dV, dW, dU, dN, dM, dO, dL, dI, cY, if_true, if_false, LQ, LX, LR, LS, LW, LV, LP, LO, cS, cM, cC, bW, cV, dJ, bV, bU, cR, cK, cO, dC, cN, dG, cZ, dT, dE, cH, bH, bO, aR, aC, aJ, dD, aL, cG, dF, dB, bN, aH, bD, aY, cP, aG, aX, aM, aV, cU, aW, cJ, bS, aD, aA, aK, dP, aO, aP, bC, aQ, cD, aE, bZ, bT, bF, bB, aZ, cX, aI, bJ, aT, aS, aU, aF, dA, cL, bP, aN, cW, bX, bY, cB, bQ, bR, bG, cA, bE, cF, bA, bM, bL, bK, cI, d0]
  exact fin
 have d0 : ((ls.length : Int) == 0) = false := beq_eq_false_iff_ne.2 (by omega)
 by_cases h20 : 20 < ls.length
 .have d1 : decide ((ls.length : Int) > 20) = true := decide_eq_true (by omega)
  have d2 : decide ((20 : Int) < (ls.length : Int)) = true := decide_eq_true (by omega)
  subst e0
  simp (disch := omega) only [dQ, fJ, cQ, stepR_skip, eE, eT, eK, fC, fB, eX, fL, fA, dK, eL, eN, eY, eB, eI, eM, eF, eJ, fD, eZ, eC, dS, eS, eQ, eA, gP, gQ, gT, gU, gV, gR, gW, gS, gO, dH, Result.ok.injEq, Next.value.injEq, true_and, and_true, dZ, dY, eP, eU, eH, fM, LU, dR, dV, dW, dU, dN, dM, dO, dL, dI, cY, if_true, if_false, LQ, LX, LR, LS, LW, LV, LP, LO, cS, cM, cC, bW, cV, dJ, bV, bU, cR, cK, cO, dC, cN, dG, cZ, dT, dE, cH, bH, bO, aR, aC, aJ, dD, aL, cG, dF, dB, bN, aH, bD, aY, cP, aG, aX, aM, aV, cU, aW, cJ, bS, aD, aA, aK, dP, aO, aP, bC, aQ, cD, aE, bZ, bT, bF, bB, aZ, cX, aI, bJ, aT, aS, aU, aF, dA, cL, bP, aN, cW, bX, bY, cB, bQ, bR, bG, cA, bE, cF, bA, bM, bL, bK, cI, d0, d1, d2]
  exact fin
 have d1 : decide ((ls.length : Int) > 20) = false := decide_eq_false (by omega)
 have d2 : decide ((20 : Int) < (ls.length : Int)) = false := decide_eq_false (by omega)
 by_cases hlz : zs.length < ls.length
 .have d3 : decide ((zs.length : Int) < (ls.length : Int)) = true := decide_eq_true (by omega)
  subst e0
  subst e1
  simp (disch := omega) only [dQ, fJ, cQ, stepR_skip, eE, eT, eK, fC, fB, eX, fL, fA, dK, eL, eN, eY, eB, eI, eM, eF, eJ, fD, eZ, eC, dS, eS, eQ, eA, gP, gQ, gT, gU, gV, gR, gW, gS, gO, dH, Result.ok.injEq, Next.value.injEq, true_and, and_true, dZ, dY, eP, eU, eH, fM, LU, dR, dV, dW, dU, dN, dM, dO, dL, dI, cY, if_true, if_false, LQ, LX, LR, LS, LW, LV, LP, LO, cS, cM, cC, bW, cV, dJ, bV, bU, cR, cK, cO, dC, cN, dG, cZ, dT, dE, cH, bH, bO, aR, aC, aJ, dD, aL, cG, dF, dB, bN, aH, bD, aY, cP, aG, aX, aM, aV, cU, aW, cJ, bS, aD, aA, aK, dP, aO, aP, bC, aQ, cD, aE, bZ, bT, bF, bB, aZ, cX, aI, bJ, aT, aS, aU, aF, dA, cL, bP, aN, cW, bX, bY, cB, bQ, bR, bG, cA, bE, cF, bA, bM, bL, bK, cI, d0, d1, d2, d3]
  exact fin
 have d3 : decide ((zs.length : Int) < (ls.length : Int)) = false := decide_eq_false (by omega)
 have main : lE RR v0 v1 (.int .u16 (n2 : Nat)) (.int .i64 0) (.string ⟨#[]⟩) w1 := by
  unfold lE
  refine JF (h0.ext x1 (jV _)) (h1.ext x1) (by omega) (by omega) hzs fun w2 x2 => ?_
  have x02 := x1.seq x2
  refine Iy (h0.ext x02 (jV _)) (h1.ext x02) (by omega) (by omega) (by omega) hzs fun w3 vf hb3 x3 => ?_
  have x03 := x02.seq x3
  obtain ⟨L, hL⟩ : ∃ L, L = H2 zs ls := ⟨_, rfl⟩
  rw [<- hL] at hb3 ⊢
  have hLl : L.length = ls.length := by rw [hL]; unfold H2; rw [M9, LZ]; omega
  have hL5 : ∀ x ∈ L, x.1 < 500 := by
   intro x hx
   rw [hL] at hx
   have := (List.of_mem_zip hx).1
   obtain ⟨z, _, hz⟩ := M6.1 this
   rw [<- hz]; exact Fh z
  have hml := Ca L hL5
  have hne : L ≠ [] := by intro h; rw [h] at hLl; simp at hLl; omega
  have hdec := Ko (most := n2) hne hL5
  have hfl : (Jf L).length <= 1000000 := by
   have := Hg (L := L) (i := L.length - 1) (by omega)
   have e : Jf L = [40, 181, 47, 253, 0, 0] ++ pX L := rfl
   have h2 : ∀ L : List (Nat × UInt8), (pX L).length = 4 * L.length := by
    intro L
    induction L with
    | nil => rfl
    | cons x L ih => obtain ⟨n, c⟩ := x; rw [pX, L4, ih, Mc]; simp [DE, b3]; omega
   rw [e, L4, h2]
   simp
   omega
  unfold jW
  have w2' : IntKind.i64.wrap (n2 : Int) = n2 := dZ (by omega) (by omega)
  simp (disch := omega) only [dQ, fJ, cQ, stepR_skip, eE, eT, eK, fC, fB, eX, fL, fA, dK, eL, eN, eY, eB, eI, eM, eF, eJ, fD, eZ, eC, dS, eS, eQ, eA, gP, gQ, gT, gU, gV, gR, gW, gS, gO, dH, Result.ok.injEq, Next.value.injEq, true_and, and_true, dZ, dY, eP, eU, eH, fM, LU, dR, dV, dW, dU, dN, dM, dO, dL, dI, cY, if_true, if_false, LQ, LX, LR, LS, LW, LV, LP, LO, cS, cM, cC, bW, cV, dJ, bV, bU, cR, cK, cO, dC, cN, dG, cZ, dT, dE, cH, bH, bO, aR, aC, aJ, dD, aL, cG, dF, dB, bN, aH, bD, aY, cP, aG, aX, aM, aV, cU, aW, cJ, bS, aD, aA, aK, dP, aO, aP, bC, aQ, cD, aE, bZ, bT, bF, bB, aZ, cX, aI, bJ, aT, aS, aU, aF, dA, cL, bP, aN, cW, bX, bY, cB, bQ, bR, bG, cA, bE, cF, bA, bM, bL, bK, cI, w2']
  by_cases hm : n2 < (gJ L).length
  .rw [if_pos hm] at hdec
   refine (CN (log := 20) hb3 hfl (by omega) (by omega) hdec).mono ?_
   rintro r w4 ⟨rfl, x4⟩
   have g1 : decide (((gJ L).length : Int) > (n2 : Int)) = true := decide_eq_true (by omega)
   have g2 : decide ((n2 : Int) < ((gJ L).length : Int)) = true := decide_eq_true (by omega)
   have n1 : ((12 : Int) == 12) = true := rfl
   have n0 : (((0 : Nat) : Int) == 0) = true := rfl
   unfold tZ
   simp (disch := omega) only [dQ, fJ, cQ, stepR_skip, eE, eT, eK, fC, fB, eX, fL, fA, dK, eL, eN, eY, eB, eI, eM, eF, eJ, fD, eZ, eC, dS, eS, eQ, eA, gP, gQ, gT, gU, gV, gR, gW, gS, gO, dH, Result.ok.injEq, Next.value.injEq, true_and, and_true, dZ, dY, eP, eU, eH, fM, LU, dR, dV, dW, dU, dN, dM, dO, dL, dI, cY, if_true, if_false, LQ, LX, LR, LS, LW, LV, LP, LO, cS, cM, cC, bW, cV, dJ, bV, bU, cR, cK, cO, dC, cN, dG, cZ, dT, dE, cH, bH, bO, aR, aC, aJ, dD, aL, cG, dF, dB, bN, aH, bD, aY, cP, aG, aX, aM, aV, cU, aW, cJ, bS, aD, aA, aK, dP, aO, aP, bC, aQ, cD, aE, bZ, bT, bF, bB, aZ, cX, aI, bJ, aT, aS, aU, aF, dA, cL, bP, aN, cW, bX, bY, cB, bQ, bR, bG, cA, bE, cF, bA, bM, bL, bK, cI, w2', g1, g2, n1, n0]
   rw [hRR]
   exact ⟨rfl, x03.seq x4⟩
  .rw [if_neg hm] at hdec
   refine (CN (log := 20) hb3 hfl (by omega) (by omega) hdec).mono ?_
   rintro r w4 ⟨v4, rfl, hb4, x4⟩
   have g1 : decide (((gJ L).length : Int) > (n2 : Int)) = false := decide_eq_false (by omega)
   have g2 : decide ((n2 : Int) < ((gJ L).length : Int)) = false := decide_eq_false (by omega)
   have n1 : ((0 : Int) == 0) = true := rfl
   have hcv := qZ hb4
   have bself : ((⟨(gJ L).toArray⟩ : ByteArray).toList == (⟨(gJ L).toArray⟩ : ByteArray).toList) = true := beq_self_eq_true _
   simp (disch := omega) only [dQ, fJ, cQ, stepR_skip, eE, eT, eK, fC, fB, eX, fL, fA, dK, eL, eN, eY, eB, eI, eM, eF, eJ, fD, eZ, eC, dS, eS, eQ, eA, gP, gQ, gT, gU, gV, gR, gW, gS, gO, dH, Result.ok.injEq, Next.value.injEq, true_and, and_true, dZ, dY, eP, eU, eH, fM, LU, dR, dV, dW, dU, dN, dM, dO, dL, dI, cY, if_true, if_false, LQ, LX, LR, LS, LW, LV, LP, LO, cS, cM, cC, bW, cV, dJ, bV, bU, cR, cK, cO, dC, cN, dG, cZ, dT, dE, cH, bH, bO, aR, aC, aJ, dD, aL, cG, dF, dB, bN, aH, bD, aY, cP, aG, aX, aM, aV, cU, aW, cJ, bS, aD, aA, aK, dP, aO, aP, bC, aQ, cD, aE, bZ, bT, bF, bB, aZ, cX, aI, bJ, aT, aS, aU, aF, dA, cL, bP, aN, cW, bX, bY, cB, bQ, bR, bG, cA, bE, cF, bA, bM, bL, bK, cI, w2', g1, g2, n1, hcv, H8, bself]
   rw [hRR]
   exact ⟨rfl, x03.seq x4⟩
 subst e0
 subst e1
 simp (disch := omega) only [dQ, fJ, cQ, stepR_skip, eE, eT, eK, fC, fB, eX, fL, fA, dK, eL, eN, eY, eB, eI, eM, eF, eJ, fD, eZ, eC, dS, eS, eQ, eA, gP, gQ, gT, gU, gV, gR, gW, gS, gO, dH, Result.ok.injEq, Next.value.injEq, true_and, and_true, dZ, dY, eP, eU, eH, fM, LU, dR, dV, dW, dU, dN, dM, dO, dL, dI, cY, if_true, if_false, LQ, LX, LR, LS, LW, LV, LP, LO, cS, cM, cC, bW, cV, dJ, bV, bU, cR, cK, cO, dC, cN, dG, cZ, dT, dE, cH, bH, bO, aR, aC, aJ, dD, aL, cG, dF, dB, bN, aH, bD, aY, cP, aG, aX, aM, aV, cU, aW, cJ, bS, aD, aA, aK, dP, aO, aP, bC, aQ, cD, aE, bZ, bT, bF, bB, aZ, cX, aI, bJ, aT, aS, aU, aF, dA, cL, bP, aN, cW, bX, bY, cB, bQ, bR, bG, cA, bE, cF, bA, bM, bL, bK, cI, d0, d1, d2, d3]
 exact main
end Go.Proofs.YthohephggmkeeaaDoor
namespace Go.En
open Go Go.ChangeShapes Go.WideShapes Go.ChangeAt Go.RowKit
theorem Et {H : Type} {enc : TypeId × Nb -> H} {P : Program} (hl : laidOutB P = true) {W W' : Na} (hb : Below W.heap.size W W') : ∀ (ts : List TypeId) (vs : List Nb) (ds : List (DataW H)) (ps : List MemPlace),
 (ts.all fun t => P.readableRec t && decide (t < P.types.size)) = true -> DataW.TrodAll enc P W 0 (fun _ => true) true ts vs ds ps -> (∀ x ∈ ps, x.block < W.heap.size) →
 DataW.TrodAll enc P W' 0 (fun b => decide (b < W.heap.size)) true ts vs ds ps := by
 intro ts
 induction ts with
 | nil =>
   intro vs ds ps _ h _
   cases vs <;> cases ds <;> simp [DataW.TrodAll] at h ⊢
   exact h
 | cons t ts ih =>
   intro vs ds ps hr h hlt
   cases vs with
   | nil => simp [DataW.TrodAll] at h
   | cons v vs =>
     cases ds with
     | nil => simp [DataW.TrodAll] at h
     | cons d ds =>
       obtain ⟨p, q, h1, h2, rfl⟩ := h
       rw [List.all_cons, LY, LY, decide_eq_true_eq] at hr
       exact ⟨p, q, Below.trod hl hr.1.1 hr.1.2 h1 hb (fun x hx => hlt x (MB _ hx)), ih _ _ _ hr.2 h2 (fun x hx => hlt x (MP _ hx)), rfl⟩
theorem IH {H : Type} {enc : TypeId × Nb -> H} {P : Program} {f : Func} {s : ChangeSpec} {apart fresh handsOn : Bool} {tb : TypeId} {W W' : Na} {args : Array Nb} {ds gs : List (DataW H)} {before : List MemPlace}
 (hl : laidOutB P = true) (hr : (f.params.toList.all fun t => P.readableRec t && decide (t < P.types.size)) = true) (hres : f.resultTypes = #[tb]) (hbool : P.underlying tb = some .bool)
 (hW : DataW.Whole enc P f.params.toList s.vars apart W args.toList ds gs before) (hvars : s.vars = []) (h1 : (s.fn H (ds ++ gs)).results = [.lit (.bool true)]) (h2 : (s.fn H (ds ++ gs)).args = ds) (h3 : (s.fn H (ds ++ gs)).vars = [])
 (hx : gB W W' mZ) : s.post enc P f apart fresh handsOn false W args (.bool true) W' := by
 have hb := hx.below
 have hlt : ∀ x ∈ before, x.block < W.heap.size := fun x hx => hW.lt x hx
 have hW' := hW
 obtain ⟨p, q, hA, hV, rfl, _, _⟩ := hW
 rw [hvars] at hV
 obtain ⟨_, rfl⟩ := trodVars_none hV
 rw [MW] at hW' hlt
 refine ⟨ds, gs, p, [], p, [], hW', ?_, ?_, ?_, hb.frame _, fun h => by cases h⟩
 .rw [h1, hres]
  exact trodAll_cons_mk (shut_bool hbool _) trodAll_mk0
 .rw [h2]; exact Et hl hb _ _ _ _ hr hA hlt
 .rw [h3, hvars] <;> rfl
theorem Hj {H : Type} {enc : TypeId × Nb -> H} {P : Program} {W : Na} {base b0 : Nat} {r : Reach} {sp : Nat -> Bool} {hd : Bool} {t e : TypeId} {k : IntKind} {v : Nb} {d : DataW H} {ps : List MemPlace} (ht : P.underlying t = some (.slice e)) (he : P.underlying e = some (.int k)) (hc : P.cellsOf e = 1)
 (hval : Value.okWide P W r b0 t v) (h : DataW.Trod enc P W base sp hd t v d ps) :
 ∃ zs : List Int, Sl W v (zs.map (Value.int k)) /\ zs.length <= 9223372036854775807 /\ ∀ z ∈ zs, (Lit.int k z).wf = true := by
 obtain ⟨a0, len, cap, rfl⟩ := okWide_slice ht hval
 obtain ⟨fuel, hf⟩ := h
 rcases open_ints ht he hc hf with ⟨hcs, -⟩ | ⟨a, len', cap', zs, hcs, _, hl, hm, hz, -, hcell, hwz⟩
 .have : Value.slice a0 len cap = .slice none 0 0 := by simpa [Value.cells] using hcs
  cases this
  exact ⟨[], ⟨none, 0, 0, rfl, rfl, Md _, fun h => absurd h (by simp)⟩, by simp, by simp⟩
 .have : Value.slice a0 len cap = .slice (some a) len' cap' := by simpa [Value.cells] using hcs
  cases this
  unfold maxLen at hm
  have hle : len <= zs.length := by rw [hz]; split <;> omega
  refine ⟨zs.take len, ⟨some a, len, cap, rfl, by rw [LZ, L6]; omega, hl, fun h0 => ?_⟩, by rw [L6]; omega, fun z hz => hwz z (M7 hz)⟩
  obtain ⟨b, off, spot⟩ := a
  have hs : spot = none := by
   have h0 := hcell 0 (by omega)
   unfold World.cell? at h0
   split at h0
   .cases spot
    .rfl
    .simp [Addr.add] at h0
   .cases h0
  subst hs
  refine ⟨b, off, rfl, fun i hi => ?_⟩
  rw [<- vN, hcell i (by omega), MK, MY hi, Mu, L3 (by omega)]
  rfl
theorem Ir (zs : List Int) (h : ∀ z ∈ zs, (Lit.int .u8 z).wf = true) : ∃ l : List UInt8, zs.map (Value.int .u8) = l.map pU /\ l.length = zs.length := by
 refine ⟨zs.map fun z => UInt8.ofNat z.toNat, ?_, by simp⟩
 rw [List.map_map]
 refine Mv fun z hz => ?_
 have := h z hz
 have hx : 0 <= z /\ z <= 255 := by simpa [Lit.wf, IntKind.min, IntKind.max, IntKind.signed, IntKind.bits] using this
 show _ = pU (UInt8.ofNat z.toNat)
 unfold pU
 rw [UInt8.toNat_ofNat']
 congr 1
 omega
end Go.En
