/- Parts of the proof of ChunkSame: merged and given short names by a program of ours. -/
import Derived.WalkKit
import Derived.ProofKit
import Derived.OpenShut
import Derived.Test.YtoecppploooloaaGreatDoorZuE
set_option linter.unusedVariables false
set_option linter.unusedSimpArgs false
open Bool renaming not_false → aB3, not_true → aB5, false_eq_true → aBZ, and_eq_true → aCe
open Int renaming toNat_natCast → aB0
open List renaming length_map → aB6, getElem?_cons_zero → aBX, getElem?_cons_succ → aBY, append_nil → aCM, mem_append_right → aDO, mem_append_left → aDo, map_replicate → aDx
open Nat renaming zero_add → aB4, le_refl → aCb, sub_self → aDh
open Option renaming isNone_some → aB1, isNone_none → aB2
namespace Go.Proofs.YtoecppploooloaaGreatDoor
open Go Go.En Go.Pu
set_option maxRecDepth 4000
theorem asL {v : aEm} {l : List UInt8} {lvl : Nat} {w : aEl} (h : Bs w v l) (h1 : 1 <= l.length) (hl : l.length <= 65536) (hs : Dn l = true ∨ l.length <= 2) (hlv : lvl <= 9) :
 jE pg FB #[v, .int .i64 (lvl : Nat)] w (fun r w' => (∃ x, r = .tuple #[.int .u8 (if (enF l (DG l) false).length < l.length then 1 else 0), x, .int .i64 0] /\ Bs w' x (if (enF l (DG l) false).length < l.length then enF l (DG l) false else l)) /\ jN w w' mC) := by
 refine ZK ?_
 obtain ⟨RR, hRR⟩ : ∃ RR : aEm -> aEl -> Prop, RR = fun r w' => (∃ x, r = .tuple #[.int .u8 (if (enF l (DG l) false).length < l.length then 1 else 0), x, .int .i64 0] /\ Bs w' x (if (enF l (DG l) false).length < l.length then enF l (DG l) false else l)) /\ jN w w' mC := ⟨_, rfl⟩
 rw [<- hRR]
 have hv := h
 obtain ⟨va, vc, rfl, hvc⟩ := h.len
 rw [aB6] at hv hvc ⊢
 have d1 : decide ((65536 : Int) < (l.length : Int)) = false := decide_eq_false (by omega)
 unfold abM NF
 simp (disch := omega) only [gI, jD, dJ, stepR_skip, hJ, iC, iM, iP, iL, iN, jJ, iX, gM, iE, iG, iI, iH, gY, iO, hZ, iF, iV, iW, iJ, gR, iT, iQ, iD, jV, jW, kF, kD, kC, kG, kA, kB, kE, gD, Result.ok.injEq, Next.value.injEq, true_and, and_true, gX, iA, iU, iR, iS, jF, aB0, gV, gU, gW, gT, gO, gJ, gP, gN, gB, fV, if_true, if_false, aBZ, aB4, aB1, aB2, aB5, aB3, aBY, aBX, fQ, fL, fE, fR, cU, eS, eF, dK, bP, fS, eY, aP, dB, aX, bQ, bM, aO, cO, cJ, eQ, aE, gS, aJ, cK, aT, bU, fT, cI, cF, aD, gA, fD, aN, aF, bO, gQ, aI, eX, dT, dV, gF, dE, fB, cZ, eH, fF, fC, cG, dG, gK, dN, bZ, aS, bV, bT, fN, aG, aH, aQ, bA, bE, cP, bK, aA, fA, aR, cL, fJ, eU, gG, bJ, eL, eN, bY, fW, eZ, eJ, dH, cQ, dD, aY, bD, aL, fZ, aM, dA, eE, bB, cC, fK, dL, gC, fM, fG, fI, dS, aK, cH, cY, fY, fX, fH, dC, aV, dX, fU, cS, eT, fO, cD, bL, dR, aZ, dW, dQ, cM, eM, eK, bF, dF, bG, eD, dU, dZ, bN, cR, cN, dO, bS, cW, cV, fP, cB, eI, eP, gE, dY, dP, dM, dI, bH, bR, bW, bX, aU, cX, aW, d1]
 have he := alI (s := false) hv h1 hl hs hlv
 refine he.mono ?_
 rintro r w1 ⟨⟨x, rfl, o1⟩, x1⟩
 generalize enF l (DG l) false = F at *
 obtain ⟨xa, xc, rfl⟩ := o1.len
 have n0 : ((0 : Int) != 0) = false := rfl
 by_cases hlt : F.length < l.length
 .have d2 : decide ((F.length : Int) < (l.length : Int)) = true := decide_eq_true (by omega)
  simp (disch := omega) only [gI, jD, dJ, stepR_skip, hJ, iC, iM, iP, iL, iN, jJ, iX, gM, iE, iG, iI, iH, gY, iO, hZ, iF, iV, iW, iJ, gR, iT, iQ, iD, jV, jW, kF, kD, kC, kG, kA, kB, kE, gD, Result.ok.injEq, Next.value.injEq, true_and, and_true, gX, iA, iU, iR, iS, jF, aB0, gV, gU, gW, gT, gO, gJ, gP, gN, gB, fV, if_true, if_false, aBZ, aB4, aB1, aB2, aB5, aB3, aBY, aBX, fQ, fL, fE, fR, cU, eS, eF, dK, bP, fS, eY, aP, dB, aX, bQ, bM, aO, cO, cJ, eQ, aE, gS, aJ, cK, aT, bU, fT, cI, cF, aD, gA, fD, aN, aF, bO, gQ, aI, eX, dT, dV, gF, dE, fB, cZ, eH, fF, fC, cG, dG, gK, dN, bZ, aS, bV, bT, fN, aG, aH, aQ, bA, bE, cP, bK, aA, fA, aR, cL, fJ, eU, gG, bJ, eL, eN, bY, fW, eZ, eJ, dH, cQ, dD, aY, bD, aL, fZ, aM, dA, eE, bB, cC, fK, dL, gC, fM, fG, fI, dS, aK, cH, cY, fY, fX, fH, dC, aV, dX, fU, cS, eT, fO, cD, bL, dR, aZ, dW, dQ, cM, eM, eK, bF, dF, bG, eD, dU, dZ, bN, cR, cN, dO, bS, cW, cV, fP, cB, eI, eP, gE, dY, dP, dM, dI, bH, bR, bW, bX, aU, cX, aW, n0, d2]
  rw [hRR, if_pos hlt, if_pos hlt]
  exact ⟨⟨_, rfl, o1.sl⟩, x1⟩
 .have d2 : decide ((F.length : Int) < (l.length : Int)) = false := decide_eq_false (by omega)
  simp (disch := omega) only [gI, jD, dJ, stepR_skip, hJ, iC, iM, iP, iL, iN, jJ, iX, gM, iE, iG, iI, iH, gY, iO, hZ, iF, iV, iW, iJ, gR, iT, iQ, iD, jV, jW, kF, kD, kC, kG, kA, kB, kE, gD, Result.ok.injEq, Next.value.injEq, true_and, and_true, gX, iA, iU, iR, iS, jF, aB0, gV, gU, gW, gT, gO, gJ, gP, gN, gB, fV, if_true, if_false, aBZ, aB4, aB1, aB2, aB5, aB3, aBY, aBX, fQ, fL, fE, fR, cU, eS, eF, dK, bP, fS, eY, aP, dB, aX, bQ, bM, aO, cO, cJ, eQ, aE, gS, aJ, cK, aT, bU, fT, cI, cF, aD, gA, fD, aN, aF, bO, gQ, aI, eX, dT, dV, gF, dE, fB, cZ, eH, fF, fC, cG, dG, gK, dN, bZ, aS, bV, bT, fN, aG, aH, aQ, bA, bE, cP, bK, aA, fA, aR, cL, fJ, eU, gG, bJ, eL, eN, bY, fW, eZ, eJ, dH, cQ, dD, aY, bD, aL, fZ, aM, dA, eE, bB, cC, fK, dL, gC, fM, fG, fI, dS, aK, cH, cY, fY, fX, fH, dC, aV, dX, fU, cS, eT, fO, cD, bL, dR, aZ, dW, dQ, cM, eM, eK, bF, dF, bG, eD, dU, dZ, bN, cR, cN, dO, bS, cW, cV, fP, cB, eI, eP, gE, dY, dP, dM, dI, bH, bR, bW, bX, aU, cX, aW, n0, d2]
  have hc := Xr (l := l) (hv.ext x1 (kJ _)) (by omega)
  refine hc.mono ?_
  rintro r w2 ⟨o2, x2⟩
  rw [hRR, if_neg hlt, if_neg hlt]
  exact ⟨⟨_, rfl, o2.sl⟩, x1.seq x2⟩
theorem aqG {v : aEm} {l : List UInt8} {w : aEl} (h : Bs w v l) (hl : l.length <= 65536) :
 jE pg xQ #[.int .u8 0, v, .int .i64 (l.length : Nat)] w (fun r w' => (∃ x, r = .tuple #[x, .int .i64 0] /\ Bs w' x l) /\ jN w w' mC) := by
 refine MU ?_
 have hv := h
 obtain ⟨va, vc, rfl, hvc⟩ := h.len
 rw [aB6] at hv hvc ⊢
 have d0 : decide (((l.length : Nat) : Int) < 0) = false := decide_eq_false (by omega)
 have d1 : decide ((65536 : Int) < (l.length : Int)) = false := decide_eq_false (by omega)
 have n0 : ((0 : Int) == 0) = true := rfl
 have n1 : (((l.length : Nat) : Int) == ((l.length : Nat) : Int)) = true := beq_self_eq_true _
 unfold PK D8
 simp (disch := omega) only [gI, jD, dJ, stepR_skip, hJ, iC, iM, iP, iL, iN, jJ, iX, gM, iE, iG, iI, iH, gY, iO, hZ, iF, iV, iW, iJ, gR, iT, iQ, iD, jV, jW, kF, kD, kC, kG, kA, kB, kE, gD, Result.ok.injEq, Next.value.injEq, true_and, and_true, gX, iA, iU, iR, iS, jF, aB0, gV, gU, gW, gT, gO, gJ, gP, gN, gB, fV, if_true, if_false, aBZ, aB4, aB1, aB2, aB5, aB3, aBY, aBX, fQ, fL, fE, fR, cU, eS, eF, dK, bP, fS, eY, aP, dB, aX, bQ, bM, aO, cO, cJ, eQ, aE, gS, aJ, cK, aT, bU, fT, cI, cF, aD, gA, fD, aN, aF, bO, gQ, aI, eX, dT, dV, gF, dE, fB, cZ, eH, fF, fC, cG, dG, gK, dN, bZ, aS, bV, bT, fN, aG, aH, aQ, bA, bE, cP, bK, aA, fA, aR, cL, fJ, eU, gG, bJ, eL, eN, bY, fW, eZ, eJ, dH, cQ, dD, aY, bD, aL, fZ, aM, dA, eE, bB, cC, fK, dL, gC, fM, fG, fI, dS, aK, cH, cY, fY, fX, fH, dC, aV, dX, fU, cS, eT, fO, cD, bL, dR, aZ, dW, dQ, cM, eM, eK, bF, dF, bG, eD, dU, dZ, bN, cR, cN, dO, bS, cW, cV, fP, cB, eI, eP, gE, dY, dP, dM, dI, bH, bR, bW, bX, aU, cX, aW, d0, d1, n0, n1]
 refine (Xr (l := l) hv (by omega)).mono ?_
 rintro r w2 ⟨o2, x2⟩
 exact ⟨⟨_, rfl, o2.sl⟩, x2⟩
theorem apO {v : aEm} {l F : List UInt8} {w : aEl} (h : Bs w v F) (hl : l.length <= 65536) (hF : F.length <= 1000000) (hd : dec F 22 l.length = some (.ok (l, 1, 0))) :
 jE pg xQ #[.int .u8 1, v, .int .i64 (l.length : Nat)] w (fun r w' => (∃ x, r = .tuple #[x, .int .i64 0] /\ Bs w' x l) /\ jN w w' mC) := by
 refine MU ?_
 have d0 : decide (((l.length : Nat) : Int) < 0) = false := decide_eq_false (by omega)
 have d1 : decide ((65536 : Int) < (l.length : Int)) = false := decide_eq_false (by omega)
 have n0 : ((1 : Int) == 0) = false := rfl
 have n1 : ((1 : Int) != 1) = false := rfl
 unfold PK D8
 simp (disch := omega) only [gI, jD, dJ, stepR_skip, hJ, iC, iM, iP, iL, iN, jJ, iX, gM, iE, iG, iI, iH, gY, iO, hZ, iF, iV, iW, iJ, gR, iT, iQ, iD, jV, jW, kF, kD, kC, kG, kA, kB, kE, gD, Result.ok.injEq, Next.value.injEq, true_and, and_true, gX, iA, iU, iR, iS, jF, aB0, gV, gU, gW, gT, gO, gJ, gP, gN, gB, fV, if_true, if_false, aBZ, aB4, aB1, aB2, aB5, aB3, aBY, aBX, fQ, fL, fE, fR, cU, eS, eF, dK, bP, fS, eY, aP, dB, aX, bQ, bM, aO, cO, cJ, eQ, aE, gS, aJ, cK, aT, bU, fT, cI, cF, aD, gA, fD, aN, aF, bO, gQ, aI, eX, dT, dV, gF, dE, fB, cZ, eH, fF, fC, cG, dG, gK, dN, bZ, aS, bV, bT, fN, aG, aH, aQ, bA, bE, cP, bK, aA, fA, aR, cL, fJ, eU, gG, bJ, eL, eN, bY, fW, eZ, eJ, dH, cQ, dD, aY, bD, aL, fZ, aM, dA, eE, bB, cC, fK, dL, gC, fM, fG, fI, dS, aK, cH, cY, fY, fX, fH, dC, aV, dX, fU, cS, eT, fO, cD, bL, dR, aZ, dW, dQ, cM, eM, eK, bF, dF, bG, eD, dU, dZ, bN, cR, cN, dO, bS, cW, cV, fP, cB, eI, eP, gE, dY, dP, dM, dI, bH, bR, bW, bX, aU, cX, aW, d0, d1, n0, n1]
 refine (asY (log := 22) (most := l.length) h hF (by omega) (by omega) hd).mono ?_
 rintro r w1 ⟨y, rfl, b1, x1⟩
 have e0 : ((0 : Int) != 0) = false := rfl
 have e1 : (((1 : Nat) : Int) != 1) = false := rfl
 have e2 : (((0 : Nat) : Int) != 0) = false := rfl
 have e3 : (((l.length : Nat) : Int) != ((l.length : Nat) : Int)) = false := by simp
 simp (disch := omega) only [gI, jD, dJ, stepR_skip, hJ, iC, iM, iP, iL, iN, jJ, iX, gM, iE, iG, iI, iH, gY, iO, hZ, iF, iV, iW, iJ, gR, iT, iQ, iD, jV, jW, kF, kD, kC, kG, kA, kB, kE, gD, Result.ok.injEq, Next.value.injEq, true_and, and_true, gX, iA, iU, iR, iS, jF, aB0, gV, gU, gW, gT, gO, gJ, gP, gN, gB, fV, if_true, if_false, aBZ, aB4, aB1, aB2, aB5, aB3, aBY, aBX, fQ, fL, fE, fR, cU, eS, eF, dK, bP, fS, eY, aP, dB, aX, bQ, bM, aO, cO, cJ, eQ, aE, gS, aJ, cK, aT, bU, fT, cI, cF, aD, gA, fD, aN, aF, bO, gQ, aI, eX, dT, dV, gF, dE, fB, cZ, eH, fF, fC, cG, dG, gK, dN, bZ, aS, bV, bT, fN, aG, aH, aQ, bA, bE, cP, bK, aA, fA, aR, cL, fJ, eU, gG, bJ, eL, eN, bY, fW, eZ, eJ, dH, cQ, dD, aY, bD, aL, fZ, aM, dA, eE, bB, cC, fK, dL, gC, fM, fG, fI, dS, aK, cH, cY, fY, fX, fH, dC, aV, dX, fU, cS, eT, fO, cD, bL, dR, aZ, dW, dQ, cM, eM, eK, bF, dF, bG, eD, dU, dZ, bN, cR, cN, dO, bS, cW, cV, fP, cB, eI, eP, gE, dY, dP, dM, dI, bH, bR, bW, bX, aU, cX, aW, e0]
 refine (asV (log := 22) (most := l.length) (h.ext x1 (kJ _)) hF (by omega) (by omega) hd).mono ?_
 rintro r w2 ⟨rfl, x2⟩
 have b2 := b1.ext x2 (kJ _)
 have b2' := b2
 obtain ⟨ya, yc, rfl, -⟩ := b2.len
 rw [aB6] at b2' ⊢
 unfold axX
 simp (disch := omega) only [gI, jD, dJ, stepR_skip, hJ, iC, iM, iP, iL, iN, jJ, iX, gM, iE, iG, iI, iH, gY, iO, hZ, iF, iV, iW, iJ, gR, iT, iQ, iD, jV, jW, kF, kD, kC, kG, kA, kB, kE, gD, Result.ok.injEq, Next.value.injEq, true_and, and_true, gX, iA, iU, iR, iS, jF, aB0, gV, gU, gW, gT, gO, gJ, gP, gN, gB, fV, if_true, if_false, aBZ, aB4, aB1, aB2, aB5, aB3, aBY, aBX, fQ, fL, fE, fR, cU, eS, eF, dK, bP, fS, eY, aP, dB, aX, bQ, bM, aO, cO, cJ, eQ, aE, gS, aJ, cK, aT, bU, fT, cI, cF, aD, gA, fD, aN, aF, bO, gQ, aI, eX, dT, dV, gF, dE, fB, cZ, eH, fF, fC, cG, dG, gK, dN, bZ, aS, bV, bT, fN, aG, aH, aQ, bA, bE, cP, bK, aA, fA, aR, cL, fJ, eU, gG, bJ, eL, eN, bY, fW, eZ, eJ, dH, cQ, dD, aY, bD, aL, fZ, aM, dA, eE, bB, cC, fK, dL, gC, fM, fG, fI, dS, aK, cH, cY, fY, fX, fH, dC, aV, dX, fU, cS, eT, fO, cD, bL, dR, aZ, dW, dQ, cM, eM, eK, bF, dF, bG, eD, dU, dZ, bN, cR, cN, dO, bS, cW, cV, fP, cB, eI, eP, gE, dY, dP, dM, dI, bH, bR, bW, bX, aU, cX, aW, e1, e2, e3]
 exact ⟨⟨_, rfl, b2'⟩, x1.seq x2⟩
theorem ayL : (enF [1, 2] (DG [1, 2]) false).length = 11 := by decide +kernel
theorem anT (w : aEl) : jE pg Is #[] w (fun r w' => r = .bool true /\ jN w w' mC) := by
 refine Y3 ?_
 unfold ZD KX
 refine (aiM (L := 10) (k := 4) (by decide) (by decide)).mono ?_
 rintro r w1 ⟨rfl, hw⟩
 rw [hw]; clear hw w1
 have ec : Nv 10 4 = (3, 0) := by decide
 unfold aoE
 rw [ec]
 simp (disch := omega) only [gI, jD, dJ, stepR_skip, hJ, iC, iM, iP, iL, iN, jJ, iX, gM, iE, iG, iI, iH, gY, iO, hZ, iF, iV, iW, iJ, gR, iT, iQ, iD, jV, jW, kF, kD, kC, kG, kA, kB, kE, gD, Result.ok.injEq, Next.value.injEq, true_and, and_true, gX, iA, iU, iR, iS, jF, aB0, gV, gU, gW, gT, gO, gJ, gP, gN, gB, fV, if_true, if_false, aBZ, aB4, aB1, aB2, aB5, aB3, aBY, aBX, fQ, fL, fE, fR, cU, eS, eF, dK, bP, fS, eY, aP, dB, aX, bQ, bM, aO, cO, cJ, eQ, aE, gS, aJ, cK, aT, bU, fT, cI, cF, aD, gA, fD, aN, aF, bO, gQ, aI, eX, dT, dV, gF, dE, fB, cZ, eH, fF, fC, cG, dG, gK, dN, bZ, aS, bV, bT, fN, aG, aH, aQ, bA, bE, cP, bK, aA, fA, aR, cL, fJ, eU, gG, bJ, eL, eN, bY, fW, eZ, eJ, dH, cQ, dD, aY, bD, aL, fZ, aM, dA, eE, bB, cC, fK, dL, gC, fM, fG, fI, dS, aK, cH, cY, fY, fX, fH, dC, aV, dX, fU, cS, eT, fO, cD, bL, dR, aZ, dW, dQ, cM, eM, eK, bF, dF, bG, eD, dU, dZ, bN, cR, cN, dO, bS, cW, cV, fP, cB, eI, eP, gE, dY, dP, dM, dI, bH, bR, bW, bX, aU, cX, aW]
 refine (awU (L := 10) (k := 4) (i := 2) (by decide) (by decide) (by decide)).mono ?_
 rintro r w1 ⟨rfl, hw⟩
 rw [hw]; clear hw w1
 have es : akD 10 4 2 = (8, 2, 0) := by decide
 unfold asT
 rw [es]
 simp (disch := omega) only [gI, jD, dJ, stepR_skip, hJ, iC, iM, iP, iL, iN, jJ, iX, gM, iE, iG, iI, iH, gY, iO, hZ, iF, iV, iW, iJ, gR, iT, iQ, iD, jV, jW, kF, kD, kC, kG, kA, kB, kE, gD, Result.ok.injEq, Next.value.injEq, true_and, and_true, gX, iA, iU, iR, iS, jF, aB0, gV, gU, gW, gT, gO, gJ, gP, gN, gB, fV, if_true, if_false, aBZ, aB4, aB1, aB2, aB5, aB3, aBY, aBX, fQ, fL, fE, fR, cU, eS, eF, dK, bP, fS, eY, aP, dB, aX, bQ, bM, aO, cO, cJ, eQ, aE, gS, aJ, cK, aT, bU, fT, cI, cF, aD, gA, fD, aN, aF, bO, gQ, aI, eX, dT, dV, gF, dE, fB, cZ, eH, fF, fC, cG, dG, gK, dN, bZ, aS, bV, bT, fN, aG, aH, aQ, bA, bE, cP, bK, aA, fA, aR, cL, fJ, eU, gG, bJ, eL, eN, bY, fW, eZ, eJ, dH, cQ, dD, aY, bD, aL, fZ, aM, dA, eE, bB, cC, fK, dL, gC, fM, fG, fI, dS, aK, cH, cY, fY, fX, fH, dC, aV, dX, fU, cS, eT, fO, cD, bL, dR, aZ, dW, dQ, cM, eM, eK, bF, dF, bG, eD, dU, dZ, bN, cR, cN, dO, bS, cW, cV, fP, cB, eI, eP, gE, dY, dP, dM, dI, bH, bR, bW, bX, aU, cX, aW]
 refine uD (cells := #[.int .u8 1, .int .u8 2]) (by decide) (by decide) (by kernel_rfl) fun w1 o1 x1 s1 => ?_
 have b1 : Bs w1 (.slice (some ⟨w.heap.size, 0, none⟩) 2 2) [1, 2] := o1.bs (off := 0) (c := 2) (l := [1, 2]) (by decide) (fun i hi => by
  match i, hi with
  | 0, _ => rfl
  | 1, _ => rfl)
 refine (asL (lvl := 5) b1 (by decide) (by decide) (.inr (by decide)) (by omega)).mono ?_
 rintro r w2 ⟨⟨x, rfl, b2⟩, x2⟩
 have hl12 : ([1, 2] : List UInt8).length = 2 := rfl
 rw [ayL, hl12, if_neg (by omega)]
 rw [ayL, hl12, if_neg (by omega)] at b2
 simp (disch := omega) only [gI, jD, dJ, stepR_skip, hJ, iC, iM, iP, iL, iN, jJ, iX, gM, iE, iG, iI, iH, gY, iO, hZ, iF, iV, iW, iJ, gR, iT, iQ, iD, jV, jW, kF, kD, kC, kG, kA, kB, kE, gD, Result.ok.injEq, Next.value.injEq, true_and, and_true, gX, iA, iU, iR, iS, jF, aB0, gV, gU, gW, gT, gO, gJ, gP, gN, gB, fV, if_true, if_false, aBZ, aB4, aB1, aB2, aB5, aB3, aBY, aBX, fQ, fL, fE, fR, cU, eS, eF, dK, bP, fS, eY, aP, dB, aX, bQ, bM, aO, cO, cJ, eQ, aE, gS, aJ, cK, aT, bU, fT, cI, cF, aD, gA, fD, aN, aF, bO, gQ, aI, eX, dT, dV, gF, dE, fB, cZ, eH, fF, fC, cG, dG, gK, dN, bZ, aS, bV, bT, fN, aG, aH, aQ, bA, bE, cP, bK, aA, fA, aR, cL, fJ, eU, gG, bJ, eL, eN, bY, fW, eZ, eJ, dH, cQ, dD, aY, bD, aL, fZ, aM, dA, eE, bB, cC, fK, dL, gC, fM, fG, fI, dS, aK, cH, cY, fY, fX, fH, dC, aV, dX, fU, cS, eT, fO, cD, bL, dR, aZ, dW, dQ, cM, eM, eK, bF, dF, bG, eD, dU, dZ, bN, cR, cN, dO, bS, cW, cV, fP, cB, eI, eP, gE, dY, dP, dM, dI, bH, bR, bW, bX, aU, cX, aW]
 refine (aqG (l := [1, 2]) b2 (by decide)).mono ?_
 rintro r w3 ⟨⟨y, rfl, b3⟩, x3⟩
 have hs := Ez b3
 have e1 := atU [1, 2]
 have n3 : (((3 : Nat) : Int) == 3) = true := rfl
 have n8 : (((8 : Nat) : Int) == 8) = true := rfl
 have n2 : (((2 : Nat) : Int) == 2) = true := rfl
 have n0 : ((0 : Int) == 0) = true := rfl
 simp (disch := omega) only [gI, jD, dJ, stepR_skip, hJ, iC, iM, iP, iL, iN, jJ, iX, gM, iE, iG, iI, iH, gY, iO, hZ, iF, iV, iW, iJ, gR, iT, iQ, iD, jV, jW, kF, kD, kC, kG, kA, kB, kE, gD, Result.ok.injEq, Next.value.injEq, true_and, and_true, gX, iA, iU, iR, iS, jF, aB0, gV, gU, gW, gT, gO, gJ, gP, gN, gB, fV, if_true, if_false, aBZ, aB4, aB1, aB2, aB5, aB3, aBY, aBX, fQ, fL, fE, fR, cU, eS, eF, dK, bP, fS, eY, aP, dB, aX, bQ, bM, aO, cO, cJ, eQ, aE, gS, aJ, cK, aT, bU, fT, cI, cF, aD, gA, fD, aN, aF, bO, gQ, aI, eX, dT, dV, gF, dE, fB, cZ, eH, fF, fC, cG, dG, gK, dN, bZ, aS, bV, bT, fN, aG, aH, aQ, bA, bE, cP, bK, aA, fA, aR, cL, fJ, eU, gG, bJ, eL, eN, bY, fW, eZ, eJ, dH, cQ, dD, aY, bD, aL, fZ, aM, dA, eE, bB, cC, fK, dL, gC, fM, fG, fI, dS, aK, cH, cY, fY, fX, fH, dC, aV, dX, fU, cS, eT, fO, cD, bL, dR, aZ, dW, dQ, cM, eM, eK, bF, dF, bG, eD, dU, dZ, bN, cR, cN, dO, bS, cW, cV, fP, cB, eI, eP, gE, dY, dP, dM, dI, bH, bR, bW, bX, aU, cX, aW, n3, n8, n2, n0, hs, e1, auY]
 exact (x1.seq x2).seq x3
theorem ahU {c n lv : Nat} {w : aEl} (hc : c < 256) (hn : n < 65536) (hlv : lv < 256) :
 jE pg Gy #[.int .u8 (c : Nat), .int .u16 (n : Nat), .int .u8 (lv : Nat)] w (fun r w' => r = .bool true /\ jN w w' mC) := by
 refine S5 ?_
 obtain ⟨RR, hRR⟩ : ∃ RR : aEm -> aEl -> Prop, RR = fun r w' => r = .bool true /\ jN w w' mC := ⟨_, rfl⟩
 rw [<- hRR]
 unfold Q9 Em Eu
 refine (anT w).mono ?_
 rintro r w1 ⟨rfl, x1⟩
 have e1 : ((n : Nat) : Int).tmod 5000 = ((n % 5000 : Nat) : Int) := rfl
 have e2 : IntKind.i64.wrap ((n % 5000 : Nat) : Int) = ((n % 5000 : Nat) : Int) := gX (by omega) (by omega)
 have e3 : ((n % 5000 : Nat) : Int) + 100 = ((n % 5000 + 100 : Nat) : Int) := by omega
 have e0 : IntKind.u16.wrap ((n % 5000 : Nat) : Int) = ((n % 5000 : Nat) : Int) := iS (by omega) (by omega)
 simp (disch := omega) only [gI, jD, dJ, stepR_skip, hJ, iC, iM, iP, iL, iN, jJ, iX, gM, iE, iG, iI, iH, gY, iO, hZ, iF, iV, iW, iJ, gR, iT, iQ, iD, jV, jW, kF, kD, kC, kG, kA, kB, kE, gD, Result.ok.injEq, Next.value.injEq, true_and, and_true, gX, iA, iU, iR, iS, jF, aB0, gV, gU, gW, gT, gO, gJ, gP, gN, gB, fV, if_true, if_false, aBZ, aB4, aB1, aB2, aB5, aB3, aBY, aBX, fQ, fL, fE, fR, cU, eS, eF, dK, bP, fS, eY, aP, dB, aX, bQ, bM, aO, cO, cJ, eQ, aE, gS, aJ, cK, aT, bU, fT, cI, cF, aD, gA, fD, aN, aF, bO, gQ, aI, eX, dT, dV, gF, dE, fB, cZ, eH, fF, fC, cG, dG, gK, dN, bZ, aS, bV, bT, fN, aG, aH, aQ, bA, bE, cP, bK, aA, fA, aR, cL, fJ, eU, gG, bJ, eL, eN, bY, fW, eZ, eJ, dH, cQ, dD, aY, bD, aL, fZ, aM, dA, eE, bB, cC, fK, dL, gC, fM, fG, fI, dS, aK, cH, cY, fY, fX, fH, dC, aV, dX, fU, cS, eT, fO, cD, bL, dR, aZ, dW, dQ, cM, eM, eK, bF, dF, bG, eD, dU, dZ, bN, cR, cN, dO, bS, cW, cV, fP, cB, eI, eP, gE, dY, dP, dM, dI, bH, bR, bW, bX, aU, cX, aW, e1, e0, e2, e3]
 obtain ⟨k, hk⟩ : ∃ k, k = n % 5000 + 100 := ⟨_, rfl⟩
 rw [<- hk]
 have hk1 : 100 <= k /\ k <= 5100 := by omega
 refine Zr (by omega) (by omega) fun w2 o2 x2 s2 => ?_
 obtain ⟨b, hb⟩ : ∃ b, b = w1.heap.size := ⟨_, rfl⟩
 have tk : ((k : Nat) : Int).toNat = k := aB0 _
 rw [<- hb, tk] at o2
 rw [<- hb, tk]
 unfold EX Ej EV EJ Fe
 refine kP.rule (fun m (t : aEm) W => ∃ i : Nat, m = k - i /\ i <= k /\ t = .int .i64 (i : Nat) /\ lN W b (List.replicate i (.int .u8 (c : Nat)) ++ List.replicate (k - i) (Value.int .u8 0)) /\ jN w2 W (fun y => y = b)) k ⟨0, rfl, by omega, rfl, by simpa using o2, jN.refl _ _⟩ ?_
 rintro m t W ⟨i, rfl, hi, rfl, oW, xW⟩
 unfold Aj
 by_cases hlt : i < k
 .have d1 : decide ((i : Int) < (k : Int)) = true := decide_eq_true (by omega)
  have hin : (i : Int).toNat = i := aB0 _
  have e4 : (i : Int) + 1 = ((i + 1 : Nat) : Int) := by omega
  simp (disch := omega) only [gI, jD, dJ, stepR_skip, hJ, iC, iM, iP, iL, iN, jJ, iX, gM, iE, iG, iI, iH, gY, iO, hZ, iF, iV, iW, iJ, gR, iT, iQ, iD, jV, jW, kF, kD, kC, kG, kA, kB, kE, gD, Result.ok.injEq, Next.value.injEq, true_and, and_true, gX, iA, iU, iR, iS, jF, aB0, gV, gU, gW, gT, gO, gJ, gP, gN, gB, fV, if_true, if_false, aBZ, aB4, aB1, aB2, aB5, aB3, aBY, aBX, fQ, fL, fE, fR, cU, eS, eF, dK, bP, fS, eY, aP, dB, aX, bQ, bM, aO, cO, cJ, eQ, aE, gS, aJ, cK, aT, bU, fT, cI, cF, aD, gA, fD, aN, aF, bO, gQ, aI, eX, dT, dV, gF, dE, fB, cZ, eH, fF, fC, cG, dG, gK, dN, bZ, aS, bV, bT, fN, aG, aH, aQ, bA, bE, cP, bK, aA, fA, aR, cL, fJ, eU, gG, bJ, eL, eN, bY, fW, eZ, eJ, dH, cQ, dD, aY, bD, aL, fZ, aM, dA, eE, bB, cC, fK, dL, gC, fM, fG, fI, dS, aK, cH, cY, fY, fX, fH, dC, aV, dX, fU, cS, eT, fO, cD, bL, dR, aZ, dW, dQ, cM, eM, eK, bF, dF, bG, eD, dU, dZ, bN, cR, cN, dO, bS, cW, cV, fP, cB, eI, eP, gE, dY, dP, dM, dI, bH, bR, bW, bX, aU, cX, aW, d1, hin, aB4]
  refine acC oW rfl (by simp; omega) fun w3 o3 x3 s3 => ?_
  rw [asC hlt] at o3
  simp (disch := omega) only [gI, jD, dJ, stepR_skip, hJ, iC, iM, iP, iL, iN, jJ, iX, gM, iE, iG, iI, iH, gY, iO, hZ, iF, iV, iW, iJ, gR, iT, iQ, iD, jV, jW, kF, kD, kC, kG, kA, kB, kE, gD, Result.ok.injEq, Next.value.injEq, true_and, and_true, gX, iA, iU, iR, iS, jF, aB0, gV, gU, gW, gT, gO, gJ, gP, gN, gB, fV, if_true, if_false, aBZ, aB4, aB1, aB2, aB5, aB3, aBY, aBX, fQ, fL, fE, fR, cU, eS, eF, dK, bP, fS, eY, aP, dB, aX, bQ, bM, aO, cO, cJ, eQ, aE, gS, aJ, cK, aT, bU, fT, cI, cF, aD, gA, fD, aN, aF, bO, gQ, aI, eX, dT, dV, gF, dE, fB, cZ, eH, fF, fC, cG, dG, gK, dN, bZ, aS, bV, bT, fN, aG, aH, aQ, bA, bE, cP, bK, aA, fA, aR, cL, fJ, eU, gG, bJ, eL, eN, bY, fW, eZ, eJ, dH, cQ, dD, aY, bD, aL, fZ, aM, dA, eE, bB, cC, fK, dL, gC, fM, fG, fI, dS, aK, cH, cY, fY, fX, fH, dC, aV, dX, fU, cS, eT, fO, cD, bL, dR, aZ, dW, dQ, cM, eM, eK, bF, dF, bG, eD, dU, dZ, bN, cR, cN, dO, bS, cW, cV, fP, cB, eI, eP, gE, dY, dP, dM, dI, bH, bR, bW, bX, aU, cX, aW, e4]
  exact ⟨k - (i + 1), by omega, i + 1, rfl, by omega, rfl, o3, xW.seq x3⟩
 .have d1 : decide ((i : Int) < (k : Int)) = false := decide_eq_false (by omega)
  have hik : i = k := by omega
  subst hik
  have e5 : ((lv : Nat) : Int).tmod 9 = ((lv % 9 : Nat) : Int) := rfl
  have e6 : IntKind.i64.wrap ((lv % 9 : Nat) : Int) = ((lv % 9 : Nat) : Int) := gX (by omega) (by omega)
  have e6' : IntKind.u8.wrap ((lv % 9 : Nat) : Int) = ((lv % 9 : Nat) : Int) := jF (by omega) (by omega)
  have e7 : ((lv % 9 : Nat) : Int) + 1 = ((lv % 9 + 1 : Nat) : Int) := by omega
  unfold Ac
  simp (disch := omega) only [gI, jD, dJ, stepR_skip, hJ, iC, iM, iP, iL, iN, jJ, iX, gM, iE, iG, iI, iH, gY, iO, hZ, iF, iV, iW, iJ, gR, iT, iQ, iD, jV, jW, kF, kD, kC, kG, kA, kB, kE, gD, Result.ok.injEq, Next.value.injEq, true_and, and_true, gX, iA, iU, iR, iS, jF, aB0, gV, gU, gW, gT, gO, gJ, gP, gN, gB, fV, if_true, if_false, aBZ, aB4, aB1, aB2, aB5, aB3, aBY, aBX, fQ, fL, fE, fR, cU, eS, eF, dK, bP, fS, eY, aP, dB, aX, bQ, bM, aO, cO, cJ, eQ, aE, gS, aJ, cK, aT, bU, fT, cI, cF, aD, gA, fD, aN, aF, bO, gQ, aI, eX, dT, dV, gF, dE, fB, cZ, eH, fF, fC, cG, dG, gK, dN, bZ, aS, bV, bT, fN, aG, aH, aQ, bA, bE, cP, bK, aA, fA, aR, cL, fJ, eU, gG, bJ, eL, eN, bY, fW, eZ, eJ, dH, cQ, dD, aY, bD, aL, fZ, aM, dA, eE, bB, cC, fK, dL, gC, fM, fG, fI, dS, aK, cH, cY, fY, fX, fH, dC, aV, dX, fU, cS, eT, fO, cD, bL, dR, aZ, dW, dQ, cM, eM, eK, bF, dF, bG, eD, dU, dZ, bN, cR, cN, dO, bS, cW, cV, fP, cB, eI, eP, gE, dY, dP, dM, dI, bH, bR, bW, bX, aU, cX, aW, d1, e5, e6, e6', e7]
  obtain ⟨l, hl⟩ : ∃ l : List UInt8, l = List.replicate i (UInt8.ofNat c) := ⟨_, rfl⟩
  have hll : l.length = i := by rw [hl]; simp
  have hbW : Bs W (.slice (some ⟨b, 0, none⟩) i i) l := by
   have he : List.replicate i (Value.int .u8 (c : Nat)) ++ List.replicate (i - i) (Value.int .u8 0) = l.map nT := by
    rw [hl, aDh, List.replicate_zero, aCM, aDx]
    unfold nT
    rw [ofN hc]
   rw [he] at oW
   have := asF oW
   rw [hll] at this
   exact this
  have hal : Dn l = true := by rw [hl]; exact alW (by omega)
  have hblk : DG l = Zd i (UInt8.ofNat c) true := by
   unfold DG
   rw [if_pos hal, hll, hl]
   obtain ⟨m, rfl⟩ : ∃ m, i = m + 1 := ⟨i - 1, by omega⟩
   rfl
  have hel := awF (b := l) (blk := Zd i (UInt8.ofNat c) true) (s := false)
  have hsl : (Zd i (UInt8.ofNat c) true).length = 4 := rfl
  have hdec : dec (enF l (Zd i (UInt8.ofNat c) true) false) 22 l.length = some (.ok (l, 1, 0)) := by
   rw [hll, hl]
   exact aqK (by omega) (by have : (2 : Nat) ^ 22 = 4194304 := by decide
                            omega) (aCb _)
  refine (asL (lvl := lv % 9 + 1) hbW (by omega) (by omega) (.inl hal) (by omega)).mono ?_
  rintro r w4 ⟨⟨x, rfl, b4⟩, x4⟩
  rw [hblk] at b4 ⊢
  generalize enF l (Zd i (UInt8.ofNat c) true) false = F at *
  rw [if_pos (by omega)] at b4 ⊢
  simp (disch := omega) only [gI, jD, dJ, stepR_skip, hJ, iC, iM, iP, iL, iN, jJ, iX, gM, iE, iG, iI, iH, gY, iO, hZ, iF, iV, iW, iJ, gR, iT, iQ, iD, jV, jW, kF, kD, kC, kG, kA, kB, kE, gD, Result.ok.injEq, Next.value.injEq, true_and, and_true, gX, iA, iU, iR, iS, jF, aB0, gV, gU, gW, gT, gO, gJ, gP, gN, gB, fV, if_true, if_false, aBZ, aB4, aB1, aB2, aB5, aB3, aBY, aBX, fQ, fL, fE, fR, cU, eS, eF, dK, bP, fS, eY, aP, dB, aX, bQ, bM, aO, cO, cJ, eQ, aE, gS, aJ, cK, aT, bU, fT, cI, cF, aD, gA, fD, aN, aF, bO, gQ, aI, eX, dT, dV, gF, dE, fB, cZ, eH, fF, fC, cG, dG, gK, dN, bZ, aS, bV, bT, fN, aG, aH, aQ, bA, bE, cP, bK, aA, fA, aR, cL, fJ, eU, gG, bJ, eL, eN, bY, fW, eZ, eJ, dH, cQ, dD, aY, bD, aL, fZ, aM, dA, eE, bB, cC, fK, dL, gC, fM, fG, fI, dS, aK, cH, cY, fY, fX, fH, dC, aV, dX, fU, cS, eT, fO, cD, bL, dR, aZ, dW, dQ, cM, eM, eK, bF, dF, bG, eD, dU, dZ, bN, cR, cN, dO, bS, cW, cV, fP, cB, eI, eP, gE, dY, dP, dM, dI, bH, bR, bW, bX, aU, cX, aW]
  have hu := apO (l := l) b4 (by omega) (by omega) hdec
  rw [hll] at hu
  refine hu.mono ?_
  rintro r w5 ⟨⟨y, rfl, b5⟩, x5⟩
  have hbX := b4.ext x5 (kJ _)
  obtain ⟨xa, xc, rfl, hxc⟩ := hbX.len
  rw [aB6]
  have d2 : decide ((F.length : Int) < 96) = true := decide_eq_true (by omega)
  have n0 : ((0 : Int) == 0) = true := rfl
  have n1 : ((1 : Int) == 1) = true := rfl
  have hs1 := Ez b5
  have hs2 := Ez ((hbW.ext x4 (kJ _)).ext x5 (kJ _))
  have e8 := atU l
  simp (disch := omega) only [gI, jD, dJ, stepR_skip, hJ, iC, iM, iP, iL, iN, jJ, iX, gM, iE, iG, iI, iH, gY, iO, hZ, iF, iV, iW, iJ, gR, iT, iQ, iD, jV, jW, kF, kD, kC, kG, kA, kB, kE, gD, Result.ok.injEq, Next.value.injEq, true_and, and_true, gX, iA, iU, iR, iS, jF, aB0, gV, gU, gW, gT, gO, gJ, gP, gN, gB, fV, if_true, if_false, aBZ, aB4, aB1, aB2, aB5, aB3, aBY, aBX, fQ, fL, fE, fR, cU, eS, eF, dK, bP, fS, eY, aP, dB, aX, bQ, bM, aO, cO, cJ, eQ, aE, gS, aJ, cK, aT, bU, fT, cI, cF, aD, gA, fD, aN, aF, bO, gQ, aI, eX, dT, dV, gF, dE, fB, cZ, eH, fF, fC, cG, dG, gK, dN, bZ, aS, bV, bT, fN, aG, aH, aQ, bA, bE, cP, bK, aA, fA, aR, cL, fJ, eU, gG, bJ, eL, eN, bY, fW, eZ, eJ, dH, cQ, dD, aY, bD, aL, fZ, aM, dA, eE, bB, cC, fK, dL, gC, fM, fG, fI, dS, aK, cH, cY, fY, fX, fH, dC, aV, dX, fU, cS, eT, fO, cD, bL, dR, aZ, dW, dQ, cM, eM, eK, bF, dF, bG, eD, dU, dZ, bN, cR, cN, dO, bS, cW, cV, fP, cB, eI, eP, gE, dY, dP, dM, dI, bH, bR, bW, bX, aU, cX, aW, n0, n1, d2, hs1, hs2, e8, auY]
  rw [hRR]
  refine ⟨rfl, ?_⟩
  have z1 := x1.size
  exact ((((x1.seq x2).trans xW fun y hy h => by omega).seq x4).seq x5)
end Go.Proofs.YtoecppploooloaaGreatDoor
namespace Go.En
open Go Go.ChangeShapes Go.WideShapes Go.ChangeAt Go.RowKit
theorem adA {H : Type} {enc : TypeId × aEm -> H} {P : Program} (hl : laidOutB P = true) {W W' : aEl} (hb : Below W.heap.size W W') : ∀ (ts : List TypeId) (vs : List aEm) (ds : List (DataW H)) (ps : List MemPlace),
 (ts.all fun t => P.readableRec t && decide (t < P.types.size)) = true -> DataW.TrodAll enc P W 0 (fun _ => true) true ts vs ds ps -> (∀ x ∈ ps, x.block < W.heap.size) →
 DataW.TrodAll enc P W' 0 (fun b => decide (b < W.heap.size)) true ts vs ds ps := by
 intro ts
 induction ts with
 | nil =>
   intro vs ds ps _ h _
   cases vs <;> cases ds <;> simp [DataW.TrodAll] at h ⊢
   exact h
 | cons t ts ih =>
   intro vs ds ps hr h hlt
   cases vs with
   | nil => simp [DataW.TrodAll] at h
   | cons v vs =>
     cases ds with
     | nil => simp [DataW.TrodAll] at h
     | cons d ds =>
       obtain ⟨p, q, h1, h2, rfl⟩ := h
       rw [List.all_cons, aCe, aCe, decide_eq_true_eq] at hr
       exact ⟨p, q, Below.trod hl hr.1.1 hr.1.2 h1 hb (fun x hx => hlt x (aDo _ hx)), ih _ _ _ hr.2 h2 (fun x hx => hlt x (aDO _ hx)), rfl⟩
theorem atS {H : Type} {enc : TypeId × aEm -> H} {P : Program} {f : Func} {s : ChangeSpec} {apart fresh handsOn : Bool} {tb : TypeId} {W W' : aEl} {args : Array aEm} {ds gs : List (DataW H)} {before : List MemPlace}
 (hl : laidOutB P = true) (hr : (f.params.toList.all fun t => P.readableRec t && decide (t < P.types.size)) = true) (hres : f.resultTypes = #[tb]) (hbool : P.underlying tb = some .bool)
 (hW : DataW.Whole enc P f.params.toList s.vars apart W args.toList ds gs before) (hvars : s.vars = []) (h1 : (s.fn H (ds ++ gs)).results = [.lit (.bool true)]) (h2 : (s.fn H (ds ++ gs)).args = ds) (h3 : (s.fn H (ds ++ gs)).vars = [])
 (hx : jN W W' mC) : s.post enc P f apart fresh handsOn false W args (.bool true) W' := by
 have hb := hx.below
 have hlt : ∀ x ∈ before, x.block < W.heap.size := fun x hx => hW.lt x hx
 have hW' := hW
 obtain ⟨p, q, hA, hV, rfl, _, _⟩ := hW
 rw [hvars] at hV
 obtain ⟨_, rfl⟩ := trodVars_none hV
 rw [aCM] at hW' hlt
 refine ⟨ds, gs, p, [], p, [], hW', ?_, ?_, ?_, hb.frame _, fun h => by cases h⟩
 .rw [h1, hres]
  exact trodAll_cons_mk (shut_bool hbool _) trodAll_mk0
 .rw [h2]; exact adA hl hb _ _ _ _ hr hA hlt
 .rw [h3, hvars] <;> rfl
end Go.En
