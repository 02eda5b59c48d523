/- Parts of the proof of EncodeSame: merged and given short names by a program of ours. -/
import Derived.WalkKit
import Derived.ProofKit
import Derived.OpenShut
import Derived.Test.YtoecppploooloaaGreatDoorZsE
set_option linter.unusedVariables false
set_option linter.unusedSimpArgs false
open Bool renaming false_eq_true → aA8, not_false → aBd, not_true → aBe, and_eq_true → aBn
open Int renaming toNat_natCast → aA9
open List renaming getElem?_cons_zero → aA6, getElem?_cons_succ → aA7, length_replicate → aB8, set_append_right → aBR, append_nil → aBV, length_map → aBf, set_cons_zero → aBj, map_replicate → aCG, mem_append_right → aCW, replicate_succ → aCi, mem_append_left → aCx
open Nat renaming zero_add → aBc, le_refl → aBk, sub_self → aCr
open Option renaming isNone_some → aBa, isNone_none → aBb
namespace Go.Proofs.YtoecppploooloaaGreatDoor
open Go Go.En Go.Pu
set_option maxRecDepth 4000
theorem ajF (l : List UInt8) : ((⟨l.toArray⟩ : ByteArray).toList == (⟨l.toArray⟩ : ByteArray).toList) = true := beq_self_eq_true _
theorem awB : enF [7, 8] (Jd [7, 8]) false = [40, 181, 47, 253, 32, 2, 17, 0, 0, 7, 8] := by decide +kernel
theorem amM (w : aDs) : jE pg Ik #[] w (fun r w' => r = .bool true /\ jN w w' mC) := by
 refine Yz ?_
 unfold YL Lm
 refine uE (cells := #[.int .u8 7, .int .u8 8]) (by decide) (by decide) (by kernel_rfl) fun w1 o1 x1 s1 => ?_
 have b1 : Bs w1 (.slice (some ⟨w.heap.size, 0, none⟩) 2 2) [7, 8] := o1.bs (off := 0) (c := 2) (l := [7, 8]) (by decide) (fun i hi => by
  match i, hi with
  | 0, _ => rfl
  | 1, _ => rfl)
 refine (aaA (lvl := 0) (s := false) b1 (by decide) (by decide) (.inr (by decide)) (by omega)).mono ?_
 rintro r w2 ⟨⟨x, rfl, o2⟩, x2⟩
 rw [awB] at o2
 have b2 : Bs w2 x [40, 181, 47, 253, 32, 2, 17, 0, 0, 7, 8] := o2.sl
 simp (disch := omega) only [gI, jD, dJ, stepR_skip, hJ, iC, iM, iP, iL, iO, jJ, iW, gM, iG, iI, iJ, iH, gY, iN, iA, iF, iX, iV, iK, gR, iR, iQ, iE, jW, jV, kH, kC, kG, kF, kI, kE, kD, gD, Result.ok.injEq, Next.value.injEq, true_and, and_true, gX, iB, iU, iT, iS, jI, aA9, gV, gU, gW, gT, gO, gJ, gP, gN, gB, fV, if_true, if_false, aA8, aBc, aBa, aBb, aBe, aBd, aA7, aA6, fQ, fL, fA, fR, cU, eS, eH, dK, bN, fS, fC, aM, dF, aX, bM, bP, aQ, cP, cG, eQ, aF, gS, aI, cK, aT, bV, fT, cI, cJ, aD, gA, fB, aP, aG, bQ, gQ, aK, fH, dT, dP, gG, dA, eU, dI, eF, fG, fF, cF, dC, gK, dO, cB, aS, bU, bT, fN, aE, aH, aN, aY, bF, cN, bK, aA, eY, aL, cL, fJ, fE, gF, bJ, eP, eN, bY, fW, fI, eJ, dH, cO, dB, bD, aZ, aO, fZ, aJ, dE, dQ, bG, cC, fK, dL, gC, fM, eZ, eT, dU, aR, cH, dG, fY, fX, fD, cZ, aW, dV, fU, cR, eX, fP, cD, bO, eD, bB, dX, dW, cM, eL, eK, bE, cY, bA, dR, dY, eE, bL, cS, cQ, dN, bS, cW, cV, fO, bZ, eI, eM, gE, dZ, dS, dM, dD, bH, bR, bX, bW, aU, cX, aV]
 have hdec : dec [40, 181, 47, 253, 32, 2, 17, 0, 0, 7, 8] 22 100 = some (.ok ([7, 8], 1, 0)) := by
  have := auJ (b := [7, 8]) (log := 22) (most := 100) (s := false) (by decide) (by decide) (by decide)
  rw [<- awB]
  exact this
 refine (agK (log := 22) (most := 100) b2 (by decide) (by omega) (by omega) hdec).mono ?_
 rintro r w3 ⟨y, rfl, b3, x3⟩
 simp (disch := omega) only [gI, jD, dJ, stepR_skip, hJ, iC, iM, iP, iL, iO, jJ, iW, gM, iG, iI, iJ, iH, gY, iN, iA, iF, iX, iV, iK, gR, iR, iQ, iE, jW, jV, kH, kC, kG, kF, kI, kE, kD, gD, Result.ok.injEq, Next.value.injEq, true_and, and_true, gX, iB, iU, iT, iS, jI, aA9, gV, gU, gW, gT, gO, gJ, gP, gN, gB, fV, if_true, if_false, aA8, aBc, aBa, aBb, aBe, aBd, aA7, aA6, fQ, fL, fA, fR, cU, eS, eH, dK, bN, fS, fC, aM, dF, aX, bM, bP, aQ, cP, cG, eQ, aF, gS, aI, cK, aT, bV, fT, cI, cJ, aD, gA, fB, aP, aG, bQ, gQ, aK, fH, dT, dP, gG, dA, eU, dI, eF, fG, fF, cF, dC, gK, dO, cB, aS, bU, bT, fN, aE, aH, aN, aY, bF, cN, bK, aA, eY, aL, cL, fJ, fE, gF, bJ, eP, eN, bY, fW, fI, eJ, dH, cO, dB, bD, aZ, aO, fZ, aJ, dE, dQ, bG, cC, fK, dL, gC, fM, eZ, eT, dU, aR, cH, dG, fY, fX, fD, cZ, aW, dV, fU, cR, eX, fP, cD, bO, eD, bB, dX, dW, cM, eL, eK, bE, cY, bA, dR, dY, eE, bL, cS, cQ, dN, bS, cW, cV, fO, bZ, eI, eM, gE, dZ, dS, dM, dD, bH, bR, bX, bW, aU, cX, aV]
 refine (aeK (.inr (by decide))).mono ?_
 rintro r w4 ⟨rfl, h4⟩
 rw [h4]; clear h4 w4
 have b2' := b2.ext x3 (kL _)
 have b2s := b2'
 obtain ⟨xa, xc, rfl, hxc⟩ := b2'.len
 have hl11 : (List.map nR [40, 181, 47, 253, 32, 2, 17, 0, 0, 7, 8]).length = 11 := rfl
 rw [hl11] at b2s hxc ⊢
 have hsl : Bs w3 (.slice (mN xa xc 0 1) (6 - 0) (xc - 0)) [40, 181, 47, 253, 32, 2] := by
  have := Sl.take' b2s (k := 6) (by omega)
  exact this
 have z6 : (6 : Int).toNat = 6 := rfl
 have hs1 := zV hsl
 have hs2 := zV b3
 have e1 := ajF [40, 181, 47, 253, 32, 2]
 have e2 := ajF [7, 8]
 have d1 : decide ((6 : Int) < ((11 : Nat) : Int)) = true := rfl
 have n0 : ((0 : Int) == 0) = true := rfl
 have n1 : ((1 : Int) == 1) = true := rfl
 have bound : ∀ (K : aDt -> aDs -> Prop), K (.int .i64 29) w3 -> jE pg FB #[.int .i64 5] w3 K := fun K hK => by
  refine Xp ?_
  unfold WZ Jl
  have d5 : decide ((5 : Int) < 0) = false := rfl
  have k1 : (5 : Int) + 18 = 23 := rfl
  have k2 : (5 : Int) + 131072 = 131077 := rfl
  have k3 : (131077 : Int) - 1 = 131076 := rfl
  have k4 : (131076 : Int).tdiv 131072 = 1 := rfl
  have k5 : (6 : Int) * 1 = 6 := rfl
  have k6 : (23 : Int) + 6 = 29 := rfl
  have n5 : ((131072 : Int) == 0) = false := rfl
  simp (disch := omega) only [gI, jD, dJ, stepR_skip, hJ, iC, iM, iP, iL, iO, jJ, iW, gM, iG, iI, iJ, iH, gY, iN, iA, iF, iX, iV, iK, gR, iR, iQ, iE, jW, jV, kH, kC, kG, kF, kI, kE, kD, gD, Result.ok.injEq, Next.value.injEq, true_and, and_true, gX, iB, iU, iT, iS, jI, aA9, gV, gU, gW, gT, gO, gJ, gP, gN, gB, fV, if_true, if_false, aA8, aBc, aBa, aBb, aBe, aBd, aA7, aA6, fQ, fL, fA, fR, cU, eS, eH, dK, bN, fS, fC, aM, dF, aX, bM, bP, aQ, cP, cG, eQ, aF, gS, aI, cK, aT, bV, fT, cI, cJ, aD, gA, fB, aP, aG, bQ, gQ, aK, fH, dT, dP, gG, dA, eU, dI, eF, fG, fF, cF, dC, gK, dO, cB, aS, bU, bT, fN, aE, aH, aN, aY, bF, cN, bK, aA, eY, aL, cL, fJ, fE, gF, bJ, eP, eN, bY, fW, fI, eJ, dH, cO, dB, bD, aZ, aO, fZ, aJ, dE, dQ, bG, cC, fK, dL, gC, fM, eZ, eT, dU, aR, cH, dG, fY, fX, fD, cZ, aW, dV, fU, cR, eX, fP, cD, bO, eD, bB, dX, dW, cM, eL, eK, bE, cY, bA, dR, dY, eE, bL, cS, cQ, dN, bS, cW, cV, fO, bZ, eI, eM, gE, dZ, dS, dM, dD, bH, bR, bX, bW, aU, cX, aV, d5, k1, k2, k3, k4, k5, k6, n5]
  exact hK
 have n29 : ((29 : Int) == 29) = true := rfl
 simp (disch := omega) only [gI, jD, dJ, stepR_skip, hJ, iC, iM, iP, iL, iO, jJ, iW, gM, iG, iI, iJ, iH, gY, iN, iA, iF, iX, iV, iK, gR, iR, iQ, iE, jW, jV, kH, kC, kG, kF, kI, kE, kD, gD, Result.ok.injEq, Next.value.injEq, true_and, and_true, gX, iB, iU, iT, iS, jI, aA9, gV, gU, gW, gT, gO, gJ, gP, gN, gB, fV, if_true, if_false, aA8, aBc, aBa, aBb, aBe, aBd, aA7, aA6, fQ, fL, fA, fR, cU, eS, eH, dK, bN, fS, fC, aM, dF, aX, bM, bP, aQ, cP, cG, eQ, aF, gS, aI, cK, aT, bV, fT, cI, cJ, aD, gA, fB, aP, aG, bQ, gQ, aK, fH, dT, dP, gG, dA, eU, dI, eF, fG, fF, cF, dC, gK, dO, cB, aS, bU, bT, fN, aE, aH, aN, aY, bF, cN, bK, aA, eY, aL, cL, fJ, fE, gF, bJ, eP, eN, bY, fW, fI, eJ, dH, cO, dB, bD, aZ, aO, fZ, aJ, dE, dQ, bG, cC, fK, dL, gC, fM, eZ, eT, dU, aR, cH, dG, fY, fX, fD, cZ, aW, dV, fU, cR, eX, fP, cD, bO, eD, bB, dX, dW, cM, eL, eK, bE, cY, bA, dR, dY, eE, bL, cS, cQ, dN, bS, cW, cV, fO, bZ, eI, eM, gE, dZ, dS, dM, dD, bH, bR, bX, bW, aU, cX, aV, n0, n1, d1, z6, hs1, hs2, e1, e2, arT]
 refine bound _ ?_
 simp (disch := omega) only [gI, jD, dJ, stepR_skip, hJ, iC, iM, iP, iL, iO, jJ, iW, gM, iG, iI, iJ, iH, gY, iN, iA, iF, iX, iV, iK, gR, iR, iQ, iE, jW, jV, kH, kC, kG, kF, kI, kE, kD, gD, Result.ok.injEq, Next.value.injEq, true_and, and_true, gX, iB, iU, iT, iS, jI, aA9, gV, gU, gW, gT, gO, gJ, gP, gN, gB, fV, if_true, if_false, aA8, aBc, aBa, aBb, aBe, aBd, aA7, aA6, fQ, fL, fA, fR, cU, eS, eH, dK, bN, fS, fC, aM, dF, aX, bM, bP, aQ, cP, cG, eQ, aF, gS, aI, cK, aT, bV, fT, cI, cJ, aD, gA, fB, aP, aG, bQ, gQ, aK, fH, dT, dP, gG, dA, eU, dI, eF, fG, fF, cF, dC, gK, dO, cB, aS, bU, bT, fN, aE, aH, aN, aY, bF, cN, bK, aA, eY, aL, cL, fJ, fE, gF, bJ, eP, eN, bY, fW, fI, eJ, dH, cO, dB, bD, aZ, aO, fZ, aJ, dE, dQ, bG, cC, fK, dL, gC, fM, eZ, eT, dU, aR, cH, dG, fY, fX, fD, cZ, aW, dV, fU, cR, eX, fP, cD, bO, eD, bB, dX, dW, cM, eL, eK, bE, cY, bA, dR, dY, eE, bL, cS, cQ, dN, bS, cW, cV, fO, bZ, eI, eM, gE, dZ, dS, dM, dD, bH, bR, bX, bW, aU, cX, aV, n29]
 exact (x1.seq x2).seq x3
theorem arA {i k : Nat} {c : aDt} (h : i < k) : (List.replicate i c ++ List.replicate (k - i) (Value.int .u8 0)).set i c = List.replicate (i + 1) c ++ List.replicate (k - (i + 1)) (Value.int .u8 0) := by
 obtain ⟨m, hm⟩ : ∃ m, k - i = m + 1 := ⟨k - i - 1, by omega⟩
 have hm2 : k - (i + 1) = m := by omega
 rw [hm, hm2, aBR _ _ (by simp), aB8, aCr, aCi, aBj, List.replicate_succ']
 simp
theorem adE {c n lv : Nat} {w : aDs} (hc : c < 256) (hn : n < 65536) (hlv : lv < 256) :
 jE pg Eh #[.int .u8 (c : Nat), .int .u16 (n : Nat), .int .u8 (lv : Nat)] w (fun r w' => r = .bool true /\ jN w w' mC) := by
 refine Re ?_
 obtain ⟨RR, hRR⟩ : ∃ RR : aDt -> aDs -> Prop, RR = fun r w' => r = .bool true /\ jN w w' mC := ⟨_, rfl⟩
 rw [<- hRR]
 unfold OO Dh Dq
 refine (amM w).mono ?_
 rintro r w1 ⟨rfl, x1⟩
 have e1 : ((n : Nat) : Int).tmod 5000 = ((n % 5000 : Nat) : Int) := rfl
 have e2 : IntKind.i64.wrap ((n % 5000 : Nat) : Int) = ((n % 5000 : Nat) : Int) := gX (by omega) (by omega)
 have e3 : ((n % 5000 : Nat) : Int) + 64 = ((n % 5000 + 64 : Nat) : Int) := by omega
 have e0 : IntKind.u16.wrap ((n % 5000 : Nat) : Int) = ((n % 5000 : Nat) : Int) := iS (by omega) (by omega)
 simp (disch := omega) only [gI, jD, dJ, stepR_skip, hJ, iC, iM, iP, iL, iO, jJ, iW, gM, iG, iI, iJ, iH, gY, iN, iA, iF, iX, iV, iK, gR, iR, iQ, iE, jW, jV, kH, kC, kG, kF, kI, kE, kD, gD, Result.ok.injEq, Next.value.injEq, true_and, and_true, gX, iB, iU, iT, iS, jI, aA9, gV, gU, gW, gT, gO, gJ, gP, gN, gB, fV, if_true, if_false, aA8, aBc, aBa, aBb, aBe, aBd, aA7, aA6, fQ, fL, fA, fR, cU, eS, eH, dK, bN, fS, fC, aM, dF, aX, bM, bP, aQ, cP, cG, eQ, aF, gS, aI, cK, aT, bV, fT, cI, cJ, aD, gA, fB, aP, aG, bQ, gQ, aK, fH, dT, dP, gG, dA, eU, dI, eF, fG, fF, cF, dC, gK, dO, cB, aS, bU, bT, fN, aE, aH, aN, aY, bF, cN, bK, aA, eY, aL, cL, fJ, fE, gF, bJ, eP, eN, bY, fW, fI, eJ, dH, cO, dB, bD, aZ, aO, fZ, aJ, dE, dQ, bG, cC, fK, dL, gC, fM, eZ, eT, dU, aR, cH, dG, fY, fX, fD, cZ, aW, dV, fU, cR, eX, fP, cD, bO, eD, bB, dX, dW, cM, eL, eK, bE, cY, bA, dR, dY, eE, bL, cS, cQ, dN, bS, cW, cV, fO, bZ, eI, eM, gE, dZ, dS, dM, dD, bH, bR, bX, bW, aU, cX, aV, e1, e0, e2, e3]
 obtain ⟨k, hk⟩ : ∃ k, k = n % 5000 + 64 := ⟨_, rfl⟩
 rw [<- hk]
 have hk1 : 64 <= k /\ k <= 5063 := by omega
 refine YX (by omega) (by omega) fun w2 o2 x2 s2 => ?_
 obtain ⟨b, hb⟩ : ∃ b, b = w1.heap.size := ⟨_, rfl⟩
 have tk : ((k : Nat) : Int).toNat = k := aA9 _
 rw [<- hb, tk] at o2
 rw [<- hb, tk]
 unfold C7 Dn Dm Dv DF
 refine kO.rule (fun m (t : aDt) W => ∃ i : Nat, m = k - i /\ i <= k /\ t = .int .i64 (i : Nat) /\ lN W b (List.replicate i (.int .u8 (c : Nat)) ++ List.replicate (k - i) (Value.int .u8 0)) /\ jN w2 W (fun y => y = b)) k ⟨0, rfl, by omega, rfl, by simpa using o2, jN.refl _ _⟩ ?_
 rintro m t W ⟨i, rfl, hi, rfl, oW, xW⟩
 unfold wQ
 by_cases hlt : i < k
 .have d1 : decide ((i : Int) < (k : Int)) = true := decide_eq_true (by omega)
  have hin : (i : Int).toNat = i := aA9 _
  have e4 : (i : Int) + 1 = ((i + 1 : Nat) : Int) := by omega
  simp (disch := omega) only [gI, jD, dJ, stepR_skip, hJ, iC, iM, iP, iL, iO, jJ, iW, gM, iG, iI, iJ, iH, gY, iN, iA, iF, iX, iV, iK, gR, iR, iQ, iE, jW, jV, kH, kC, kG, kF, kI, kE, kD, gD, Result.ok.injEq, Next.value.injEq, true_and, and_true, gX, iB, iU, iT, iS, jI, aA9, gV, gU, gW, gT, gO, gJ, gP, gN, gB, fV, if_true, if_false, aA8, aBc, aBa, aBb, aBe, aBd, aA7, aA6, fQ, fL, fA, fR, cU, eS, eH, dK, bN, fS, fC, aM, dF, aX, bM, bP, aQ, cP, cG, eQ, aF, gS, aI, cK, aT, bV, fT, cI, cJ, aD, gA, fB, aP, aG, bQ, gQ, aK, fH, dT, dP, gG, dA, eU, dI, eF, fG, fF, cF, dC, gK, dO, cB, aS, bU, bT, fN, aE, aH, aN, aY, bF, cN, bK, aA, eY, aL, cL, fJ, fE, gF, bJ, eP, eN, bY, fW, fI, eJ, dH, cO, dB, bD, aZ, aO, fZ, aJ, dE, dQ, bG, cC, fK, dL, gC, fM, eZ, eT, dU, aR, cH, dG, fY, fX, fD, cZ, aW, dV, fU, cR, eX, fP, cD, bO, eD, bB, dX, dW, cM, eL, eK, bE, cY, bA, dR, dY, eE, bL, cS, cQ, dN, bS, cW, cV, fO, bZ, eI, eM, gE, dZ, dS, dM, dD, bH, bR, bX, bW, aU, cX, aV, d1, hin, aBc]
  refine Zx oW rfl (by simp; omega) fun w3 o3 x3 s3 => ?_
  rw [arA hlt] at o3
  simp (disch := omega) only [gI, jD, dJ, stepR_skip, hJ, iC, iM, iP, iL, iO, jJ, iW, gM, iG, iI, iJ, iH, gY, iN, iA, iF, iX, iV, iK, gR, iR, iQ, iE, jW, jV, kH, kC, kG, kF, kI, kE, kD, gD, Result.ok.injEq, Next.value.injEq, true_and, and_true, gX, iB, iU, iT, iS, jI, aA9, gV, gU, gW, gT, gO, gJ, gP, gN, gB, fV, if_true, if_false, aA8, aBc, aBa, aBb, aBe, aBd, aA7, aA6, fQ, fL, fA, fR, cU, eS, eH, dK, bN, fS, fC, aM, dF, aX, bM, bP, aQ, cP, cG, eQ, aF, gS, aI, cK, aT, bV, fT, cI, cJ, aD, gA, fB, aP, aG, bQ, gQ, aK, fH, dT, dP, gG, dA, eU, dI, eF, fG, fF, cF, dC, gK, dO, cB, aS, bU, bT, fN, aE, aH, aN, aY, bF, cN, bK, aA, eY, aL, cL, fJ, fE, gF, bJ, eP, eN, bY, fW, fI, eJ, dH, cO, dB, bD, aZ, aO, fZ, aJ, dE, dQ, bG, cC, fK, dL, gC, fM, eZ, eT, dU, aR, cH, dG, fY, fX, fD, cZ, aW, dV, fU, cR, eX, fP, cD, bO, eD, bB, dX, dW, cM, eL, eK, bE, cY, bA, dR, dY, eE, bL, cS, cQ, dN, bS, cW, cV, fO, bZ, eI, eM, gE, dZ, dS, dM, dD, bH, bR, bX, bW, aU, cX, aV, e4]
  exact ⟨k - (i + 1), by omega, i + 1, rfl, by omega, rfl, o3, xW.seq x3⟩
 .have d1 : decide ((i : Int) < (k : Int)) = false := decide_eq_false (by omega)
  have hik : i = k := by omega
  subst hik
  have e5 : ((lv : Nat) : Int).tmod 9 = ((lv % 9 : Nat) : Int) := rfl
  have e6 : IntKind.i64.wrap ((lv % 9 : Nat) : Int) = ((lv % 9 : Nat) : Int) := gX (by omega) (by omega)
  have e6' : IntKind.u8.wrap ((lv % 9 : Nat) : Int) = ((lv % 9 : Nat) : Int) := jI (by omega) (by omega)
  have e7 : ((lv % 9 : Nat) : Int) + 1 = ((lv % 9 + 1 : Nat) : Int) := by omega
  unfold xM
  simp (disch := omega) only [gI, jD, dJ, stepR_skip, hJ, iC, iM, iP, iL, iO, jJ, iW, gM, iG, iI, iJ, iH, gY, iN, iA, iF, iX, iV, iK, gR, iR, iQ, iE, jW, jV, kH, kC, kG, kF, kI, kE, kD, gD, Result.ok.injEq, Next.value.injEq, true_and, and_true, gX, iB, iU, iT, iS, jI, aA9, gV, gU, gW, gT, gO, gJ, gP, gN, gB, fV, if_true, if_false, aA8, aBc, aBa, aBb, aBe, aBd, aA7, aA6, fQ, fL, fA, fR, cU, eS, eH, dK, bN, fS, fC, aM, dF, aX, bM, bP, aQ, cP, cG, eQ, aF, gS, aI, cK, aT, bV, fT, cI, cJ, aD, gA, fB, aP, aG, bQ, gQ, aK, fH, dT, dP, gG, dA, eU, dI, eF, fG, fF, cF, dC, gK, dO, cB, aS, bU, bT, fN, aE, aH, aN, aY, bF, cN, bK, aA, eY, aL, cL, fJ, fE, gF, bJ, eP, eN, bY, fW, fI, eJ, dH, cO, dB, bD, aZ, aO, fZ, aJ, dE, dQ, bG, cC, fK, dL, gC, fM, eZ, eT, dU, aR, cH, dG, fY, fX, fD, cZ, aW, dV, fU, cR, eX, fP, cD, bO, eD, bB, dX, dW, cM, eL, eK, bE, cY, bA, dR, dY, eE, bL, cS, cQ, dN, bS, cW, cV, fO, bZ, eI, eM, gE, dZ, dS, dM, dD, bH, bR, bX, bW, aU, cX, aV, d1, e5, e6, e6', e7]
  obtain ⟨l, hl⟩ : ∃ l : List UInt8, l = List.replicate i (UInt8.ofNat c) := ⟨_, rfl⟩
  have hll : l.length = i := by rw [hl]; simp
  have hbW : Bs W (.slice (some ⟨b, 0, none⟩) i i) l := by
   have he : List.replicate i (Value.int .u8 (c : Nat)) ++ List.replicate (i - i) (Value.int .u8 0) = l.map nR := by
    rw [hl, aCr, List.replicate_zero, aBV, aCG]
    unfold nR
    rw [ofN hc]
   rw [he] at oW
   have := atA oW
   rw [hll] at this
   exact this
  have hal : Ev l = true := by rw [hl]; exact ajV (by omega)
  refine (aaA (lvl := lv % 9 + 1) (s := true) hbW (by omega) (by omega) (.inl hal) (by omega)).mono ?_
  rintro r w4 ⟨⟨x, rfl, o4⟩, x4⟩
  have hblk : Jd l = YA i (UInt8.ofNat c) true := by
   unfold Jd
   rw [if_pos hal, hll, hl]
   obtain ⟨m, rfl⟩ : ∃ m, i = m + 1 := ⟨i - 1, by omega⟩
   rfl
  rw [hblk] at o4
  have hel := auH (b := l) (blk := YA i (UInt8.ofNat c) true) (s := true)
  have hsl : (YA i (UInt8.ofNat c) true).length = 4 := rfl
  have hdec : dec (enF l (YA i (UInt8.ofNat c) true) true) 22 i = some (.ok (l, 1, 0)) := by
   rw [hl]
   exact aoX (by omega) (by have : (2 : Nat) ^ 22 = 4194304 := by decide
                            omega) (aBk _)
  have hb4 := o4.sl
  generalize enF l (YA i (UInt8.ofNat c) true) true = F at *
  simp (disch := omega) only [gI, jD, dJ, stepR_skip, hJ, iC, iM, iP, iL, iO, jJ, iW, gM, iG, iI, iJ, iH, gY, iN, iA, iF, iX, iV, iK, gR, iR, iQ, iE, jW, jV, kH, kC, kG, kF, kI, kE, kD, gD, Result.ok.injEq, Next.value.injEq, true_and, and_true, gX, iB, iU, iT, iS, jI, aA9, gV, gU, gW, gT, gO, gJ, gP, gN, gB, fV, if_true, if_false, aA8, aBc, aBa, aBb, aBe, aBd, aA7, aA6, fQ, fL, fA, fR, cU, eS, eH, dK, bN, fS, fC, aM, dF, aX, bM, bP, aQ, cP, cG, eQ, aF, gS, aI, cK, aT, bV, fT, cI, cJ, aD, gA, fB, aP, aG, bQ, gQ, aK, fH, dT, dP, gG, dA, eU, dI, eF, fG, fF, cF, dC, gK, dO, cB, aS, bU, bT, fN, aE, aH, aN, aY, bF, cN, bK, aA, eY, aL, cL, fJ, fE, gF, bJ, eP, eN, bY, fW, fI, eJ, dH, cO, dB, bD, aZ, aO, fZ, aJ, dE, dQ, bG, cC, fK, dL, gC, fM, eZ, eT, dU, aR, cH, dG, fY, fX, fD, cZ, aW, dV, fU, cR, eX, fP, cD, bO, eD, bB, dX, dW, cM, eL, eK, bE, cY, bA, dR, dY, eE, bL, cS, cQ, dN, bS, cW, cV, fO, bZ, eI, eM, gE, dZ, dS, dM, dD, bH, bR, bX, bW, aU, cX, aV]
  refine (agK (log := 22) (most := i) hb4 (by omega) (by omega) (by omega) hdec).mono ?_
  rintro r w5 ⟨y, rfl, b5, x5⟩
  have hbX := hb4.ext x5 (kL _)
  obtain ⟨xa, xc, rfl, hxc⟩ := hbX.len
  rw [aBf]
  have d2 : decide ((F.length : Int) < 96) = true := decide_eq_true (by omega)
  have n0 : ((0 : Int) == 0) = true := rfl
  have hs1 := zV b5
  have hs2 := zV ((hbW.ext x4 (kL _)).ext x5 (kL _))
  have e8 := ajF l
  simp (disch := omega) only [gI, jD, dJ, stepR_skip, hJ, iC, iM, iP, iL, iO, jJ, iW, gM, iG, iI, iJ, iH, gY, iN, iA, iF, iX, iV, iK, gR, iR, iQ, iE, jW, jV, kH, kC, kG, kF, kI, kE, kD, gD, Result.ok.injEq, Next.value.injEq, true_and, and_true, gX, iB, iU, iT, iS, jI, aA9, gV, gU, gW, gT, gO, gJ, gP, gN, gB, fV, if_true, if_false, aA8, aBc, aBa, aBb, aBe, aBd, aA7, aA6, fQ, fL, fA, fR, cU, eS, eH, dK, bN, fS, fC, aM, dF, aX, bM, bP, aQ, cP, cG, eQ, aF, gS, aI, cK, aT, bV, fT, cI, cJ, aD, gA, fB, aP, aG, bQ, gQ, aK, fH, dT, dP, gG, dA, eU, dI, eF, fG, fF, cF, dC, gK, dO, cB, aS, bU, bT, fN, aE, aH, aN, aY, bF, cN, bK, aA, eY, aL, cL, fJ, fE, gF, bJ, eP, eN, bY, fW, fI, eJ, dH, cO, dB, bD, aZ, aO, fZ, aJ, dE, dQ, bG, cC, fK, dL, gC, fM, eZ, eT, dU, aR, cH, dG, fY, fX, fD, cZ, aW, dV, fU, cR, eX, fP, cD, bO, eD, bB, dX, dW, cM, eL, eK, bE, cY, bA, dR, dY, eE, bL, cS, cQ, dN, bS, cW, cV, fO, bZ, eI, eM, gE, dZ, dS, dM, dD, bH, bR, bX, bW, aU, cX, aV, n0, d2, hs1, hs2, e8, arT]
  rw [hRR]
  refine ⟨rfl, ?_⟩
  have z1 := x1.size
  exact ((((x1.seq x2).trans xW fun y hy h => by omega).seq x4).seq x5)
end Go.Proofs.YtoecppploooloaaGreatDoor
namespace Go.En
open Go Go.ChangeShapes Go.WideShapes Go.ChangeAt Go.RowKit
theorem abE {H : Type} {enc : TypeId × aDt -> H} {P : Program} (hl : laidOutB P = true) {W W' : aDs} (hb : Below W.heap.size W W') : ∀ (ts : List TypeId) (vs : List aDt) (ds : List (DataW H)) (ps : List MemPlace),
 (ts.all fun t => P.readableRec t && decide (t < P.types.size)) = true -> DataW.TrodAll enc P W 0 (fun _ => true) true ts vs ds ps -> (∀ x ∈ ps, x.block < W.heap.size) →
 DataW.TrodAll enc P W' 0 (fun b => decide (b < W.heap.size)) true ts vs ds ps := by
 intro ts
 induction ts with
 | nil =>
   intro vs ds ps _ h _
   cases vs <;> cases ds <;> simp [DataW.TrodAll] at h ⊢
   exact h
 | cons t ts ih =>
   intro vs ds ps hr h hlt
   cases vs with
   | nil => simp [DataW.TrodAll] at h
   | cons v vs =>
     cases ds with
     | nil => simp [DataW.TrodAll] at h
     | cons d ds =>
       obtain ⟨p, q, h1, h2, rfl⟩ := h
       rw [List.all_cons, aBn, aBn, decide_eq_true_eq] at hr
       exact ⟨p, q, Below.trod hl hr.1.1 hr.1.2 h1 hb (fun x hx => hlt x (aCx _ hx)), ih _ _ _ hr.2 h2 (fun x hx => hlt x (aCW _ hx)), rfl⟩
theorem aqI {H : Type} {enc : TypeId × aDt -> H} {P : Program} {f : Func} {s : ChangeSpec} {apart fresh handsOn : Bool} {tb : TypeId} {W W' : aDs} {args : Array aDt} {ds gs : List (DataW H)} {before : List MemPlace}
 (hl : laidOutB P = true) (hr : (f.params.toList.all fun t => P.readableRec t && decide (t < P.types.size)) = true) (hres : f.resultTypes = #[tb]) (hbool : P.underlying tb = some .bool)
 (hW : DataW.Whole enc P f.params.toList s.vars apart W args.toList ds gs before) (hvars : s.vars = []) (h1 : (s.fn H (ds ++ gs)).results = [.lit (.bool true)]) (h2 : (s.fn H (ds ++ gs)).args = ds) (h3 : (s.fn H (ds ++ gs)).vars = [])
 (hx : jN W W' mC) : s.post enc P f apart fresh handsOn false W args (.bool true) W' := by
 have hb := hx.below
 have hlt : ∀ x ∈ before, x.block < W.heap.size := fun x hx => hW.lt x hx
 have hW' := hW
 obtain ⟨p, q, hA, hV, rfl, _, _⟩ := hW
 rw [hvars] at hV
 obtain ⟨_, rfl⟩ := trodVars_none hV
 rw [aBV] at hW' hlt
 refine ⟨ds, gs, p, [], p, [], hW', ?_, ?_, ?_, hb.frame _, fun h => by cases h⟩
 .rw [h1, hres]
  exact trodAll_cons_mk (shut_bool hbool _) trodAll_mk0
 .rw [h2]; exact abE hl hb _ _ _ _ hr hA hlt
 .rw [h3, hvars] <;> rfl
end Go.En
