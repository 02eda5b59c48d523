/- Parts of the proof of StoreSafe: merged and given short names by a program of ours. -/
import Derived.Test.YteelnmpbnaohpaaDoorZvC
set_option linter.unusedVariables false
set_option linter.unusedSimpArgs false
open Array renaming getElem?_eq_none → adR
open Bool renaming false_eq_true → acK, not_false → acO, not_true → acP, or_false → afO, false_or → agN, and_eq_false_iff → agS
open Int renaming toNat_natCast → acM
open List renaming getElem?_cons_zero → acI, getElem?_cons_succ → acJ, length_map → acR, getElem?_eq_getElem → acS, length_append → acT, getD_eq_getElem?_getD → acU, take_of_length_le → acX, set_cons_zero → adA, length_drop → adB, mem_cons_of_mem → adC, length_take → adE, length_replicate → adI, nil_append → adJ, length_eq_zero_iff → adK, take_append_of_le_length → adL, append_assoc → adM, set_cons_succ → adN, getElem?_map → adQ, drop_append_of_le_length → adS, getElem?_append_left → adU, mem_append → adV, mem_range → adY, getElem?_eq_none → adZ, length_singleton → aeB, toList_toArray → aeC, mem_map → aeE, getElem?_append_right → aeF, map_append → aeI, append_nil → aeJ, mem_singleton → aeK, map_congr_left → aeL, length_nil → aeN, mem_cons_self → aeO, take_succ_eq_append_getElem → aeS, set_append_right → aeU, getElem_mem → aeX, length_set → afH, map_drop → afM, getElem?_drop → afQ, map_take → agB, getElem_of_mem → agF, map_replicate → agH, flatMap_cons → agJ, length_range → agK, ext_getElem → agO, getElem_map → agP, range_succ → agX, map_set → agY
open Nat renaming zero_add → acQ, le_refl → acY, add_sub_cancel_left → aeR, le_trans → aeV, add_assoc → afN, ne_of_lt → afT, sub_self → agV
open Option renaming isNone_some → acL, isNone_none → acN, getD_some → adH, map_some → aeA, getD_none → afZ
open Option.some renaming injEq → adT
open Prod.mk renaming injEq → agA
namespace Go.Proofs.YteelnmpbnaohpaaDoor
open Go Go.En Go.Pu
set_option maxRecDepth 4000
def S7 (os : List NT) (ks : List Bool) (c : oR) : Nat -> oR
 | 0 => c
 | i + 1 => match os[i]?, ks[i]? with
   | some o, some true => CV o (S7 os ks c i)
   | _, _ => S7 os ks c i
def XM (S : jL) (ks : List Bool) : jL := { S with sure := S7 S.under ks S.sure S.under.length, seen := S7 S.under ks S.sure S.under.length, under := [], left := -1, down := false }
theorem Yl {p : Nat} {X D : Nat -> Prop} {S : jL} {kv : ahB} {ks : List Bool} {w : ahA} (h : mE w p X D S) (hk : Sl w kv (ks.map Value.bool)) (hkX : ¬ vO kv X) (hkl : ks.length <= 9223372036854775807) (hu : S.under.length <= 1000000)
 (hs : ∀ i, i <= S.under.length -> iJ (S7 S.under ks S.sure i) <= 1099511627776) (hop' : ∀ o ∈ S.under, o.at' <= 1099511627776 /\ o.bytes.length <= 1099511627776) :
 gT pg qE #[dP p, kv] w (fun r w' => r = .tuple #[] /\ A7 w p X D (XM S ks) w') := by
 refine Jc ?_
 unfold HM wA wF
 simp (disch := omega) only [eY, gN, dX, stepR_skip, fO, fW, fN, fZ, fX, fY, gQ, gG, eT, fT, fS, gE, fR, fL, fV, fQ, fU, gB, gC, fP, fC, gI, gA, fK, iR, iO, iP, iU, iM, iS, iQ, iT, iN, eP, Result.ok.injEq, Next.value.injEq, true_and, and_true, fI, fJ, gH, fM, gD, gR, acM, fE, fF, fG, fD, eZ, eU, fB, eX, eQ, eH, if_true, if_false, acK, acQ, acL, acN, acP, acO, acJ, acI, eA, dV, aB, dM, dO, cB, eB, eS, eE, dK, eF, fA, dJ, eJ, bP, dS, bE, dN, aL, aH, eL, aX, cI, eM, aE, eN, dE, aR, bF, eD, bB, bC, bJ, aO, aI, cF, fH, dY, cJ, cC, dA, cH, dT, bD, eK, bT, dF, bR, aT, bV, aC, bY, bQ, cA, bX, aY, aU, bA, bU, dL, cP, bO, aV, aJ, aM, bG, aF, dC, dW, aK, aN, aZ, aG, cY, aD, cL, bW, bH, aP, cM, bZ, aA, dD, cO, cU, cG, dI, cD, dG, dU, cQ, eC, eI, bN, aS, dZ, bS, aQ, bL, dH, cZ, cV, cN, cS, bK, bM, cX, dR, cR, dQ, dB]
 obtain ⟨ms, mn, sv, ls, ln, cs, h1, h2, h3, h4, h5, h6, hXD, hDl, op, hms, hmn, hfs, hfn, hun, hop⟩ := h
 have h7 := fun b (hb : X b) => hDl b (hXD b hb)
 have hp : p < w.heap.size := op.lt
 have hmsl := hms.lt
 have hmnl := hmn.lt
 have c3 := op.cell (off := 3)
 simp only [acI, acJ] at c3
 obtain ⟨ua, uc, rfl⟩ := hun.len
 obtain ⟨ka, kc, rfl, _⟩ := hk.len
 rw [acR] at hk hkX ⊢
 unfold yA zH yC
 simp (disch := omega) only [eY, gN, dX, stepR_skip, fO, fW, fN, fZ, fX, fY, gQ, gG, eT, fT, fS, gE, fR, fL, fV, fQ, fU, gB, gC, fP, fC, gI, gA, fK, iR, iO, iP, iU, iM, iS, iQ, iT, iN, eP, Result.ok.injEq, Next.value.injEq, true_and, and_true, fI, fJ, gH, fM, gD, gR, acM, fE, fF, fG, fD, eZ, eU, fB, eX, eQ, eH, if_true, if_false, acK, acQ, acL, acN, acP, acO, acJ, acI, eA, dV, aB, dM, dO, cB, eB, eS, eE, dK, eF, fA, dJ, eJ, bP, dS, bE, dN, aL, aH, eL, aX, cI, eM, aE, eN, dE, aR, bF, eD, bB, bC, bJ, aO, aI, cF, fH, dY, cJ, cC, dA, cH, dT, bD, eK, bT, dF, bR, aT, bV, aC, bY, bQ, cA, bX, aY, aU, bA, bU, dL, cP, bO, aV, aJ, aM, bG, aF, dC, dW, aK, aN, aZ, aG, cY, aD, cL, bW, bH, aP, cM, bZ, aA, dD, cO, cU, cG, dI, cD, dG, dU, cQ, eC, eI, bN, aS, dZ, bS, aQ, bL, dH, cZ, cV, cN, cS, bK, bM, cX, dR, cR, dQ, dB, c3]
 unfold yT xU
 have hol := hop.len
 refine kJ.rule (fun m (t : ahB) w' => ∃ (i : Nat) (ls' : List (ByteArray × ahB)), m = S.under.length - i /\ t = .int .i64 i /\ i <= S.under.length /\ Mp w' ms Nl ls' /\ C7 w' D ls' (S7 S.under ks S.sure i) /\ gV w w' (fun b => b = ms)) S.under.length
  ⟨0, ls, rfl, rfl, by omega, hms, hfs, gV.refl _ _⟩ ?_
 rintro m t w1 ⟨i, ls', rfl, rfl, hi, hms1, hf1, x1⟩
 have z1 := x1.size
 have x1X : gV w w1 X := x1.mono fun b _ h => h ▸ h2
 have x1D : gV w w1 D := x1X.mono fun b _ h => hXD b h
 have op1 := op.ext x1 (fun h => h4 h)
 unfold rZ zA
 by_cases hlt : i < S.under.length
 .have d1 : decide ((i : Int) < (S.under.length : Int)) = true := by simp; omega
  obtain ⟨v, ⟨va, vn, vc, rfl⟩, hcs, hdat⟩ := hop.at hlt
  obtain ⟨a', c', e'⟩ := EM.slice hdat
  simp only [Value.slice.injEq] at e'
  obtain ⟨-, rfl, -⟩ := e'
  rcases hun.2 with ⟨hnil, h0⟩ | ⟨b, c, rest, hsv, hbX, ob, hbl, hbc⟩
  .omega
  simp only [Value.slice.injEq] at hsv
  obtain ⟨rfl, -, rfl⟩ := hsv
  have ob1 := ob.ext x1 (fun h => hbX.2.2.1 h)
  have l1 := pE (off := i * 5) ob1 (by rw [acT]; omega)
  have htk : ((cs ++ rest).drop (i * 5)).take 5 = MW S.under[i] (.slice va S.under[i].bytes.length vc) := by
   rw [adS (by omega), adL (by rw [adB]; omega)]; exact hcs
  rw [htk] at l1
  have hmem := hop' _ (aeX hlt)
  have hcr : S7 S.under ks S.sure (i + 1) = match ks[i]? with | some true => CV S.under[i] (S7 S.under ks S.sure i) | _ => S7 S.under ks S.sure i := by
   rw [S7, acS hlt]
   cases ks[i]? with
   | none => rfl
   | some q => cases q <;> rfl
  have hsi := hs i hi
  generalize S.under[i] = o at *
  simp (disch := omega) only [eY, gN, dX, stepR_skip, fO, fW, fN, fZ, fX, fY, gQ, gG, eT, fT, fS, gE, fR, fL, fV, fQ, fU, gB, gC, fP, fC, gI, gA, fK, iR, iO, iP, iU, iM, iS, iQ, iT, iN, eP, Result.ok.injEq, Next.value.injEq, true_and, and_true, fI, fJ, gH, fM, gD, gR, acM, fE, fF, fG, fD, eZ, eU, fB, eX, eQ, eH, if_true, if_false, acK, acQ, acL, acN, acP, acO, acJ, acI, eA, dV, aB, dM, dO, cB, eB, eS, eE, dK, eF, fA, dJ, eJ, bP, dS, bE, dN, aL, aH, eL, aX, cI, eM, aE, eN, dE, aR, bF, eD, bB, bC, bJ, aO, aI, cF, fH, dY, cJ, cC, dA, cH, dT, bD, eK, bT, dF, bR, aT, bV, aC, bY, bQ, cA, bX, aY, aU, bA, bU, dL, cP, bO, aV, aJ, aM, bG, aF, dC, dW, aK, aN, aZ, aG, cY, aD, cL, bW, bH, aP, cM, bZ, aA, dD, cO, cU, cG, dI, cD, dG, dU, cQ, eC, eI, bN, aS, dZ, bS, aQ, bL, dH, cZ, cV, cN, cS, bK, bM, cX, dR, cR, dQ, dB, d1, l1]
  refine MO fun w2 o2 x2 s2 => ?_
  refine Lr o2 rfl (by unfold MW; simp [one]) (by simp) fun w3 o3 x3 s3 => ?_
  have o3 : jI w3 w1.heap.size (MW o (.slice va o.bytes.length vc)) := o3
  have x13 : gV w1 w3 jN := x2.new x3 (acY _)
  have x03 := x1.trans x13 fun _ _ h => h.elim
  have hms3 := hms1.ext x13 (fun h => h)
  have hf3 := hf1.ext x13 fun _ h => h.elim
  have hd3 : EM w3 D (.slice va o.bytes.length vc) o.bytes := (hdat.ext x1D fun _ h => h).ext x13 fun _ h => h.elim
  have op3 := op1.ext x13 (fun h => h)
  have q1d := (kR op3).cell (off := 1)
  have q1 := op3.cell (off := 1)
  simp only [acI, acJ] at q1 q1d
  have l3 := pE (off := 0) o3 (by unfold MW; simp)
  have l3d := pE (off := 0) (kR o3) (by unfold MW; simp)
  have l3' : ((MW o (.slice va o.bytes.length vc)).drop 0).take 5 = MW o (.slice va o.bytes.length vc) := rfl
  rw [l3'] at l3 l3d
  have z3 := x13.size
  unfold sQ
  have skip : S7 S.under ks S.sure (i + 1) = S7 S.under ks S.sure i -> ∃ m, m < S.under.length - i /\ ∃ (i' : Nat) (ls' : List (ByteArray × ahB)), m = S.under.length - i' /\ Value.int .i64 ((i + 1 : Nat) : Int) = .int .i64 i' /\ i' <= S.under.length /\ Mp w3 ms Nl ls' /\ C7 w3 D ls' (S7 S.under ks S.sure i') /\ gV w w3 (fun b => b = ms) := fun e =>
   ⟨S.under.length - (i + 1), by omega, i + 1, ls', rfl, rfl, by omega, hms3, by rw [e]; exact hf3, x03⟩
  have ei : (i : Int) + 1 = ((i + 1 : Nat) : Int) := by omega
  by_cases hki : i < ks.length
  .have d2 : decide ((i : Int) < (ks.length : Int)) = true := by simp; omega
   obtain ⟨kb, koff, rfl, hcell⟩   := abD (hk.ext x03 (fun h => hkX (vG h fun b hb => by rw [hb]; exact h2))) (by omega)
   have g1 := hcell i hki
   rw [adQ, acS hki] at g1
   simp only [aeA] at g1
   rw [acS hki] at hcr
   generalize ks[i] = kq at *
   cases kq with
   | false =>
     simp (disch := omega) only [eY, gN, dX, stepR_skip, fO, fW, fN, fZ, fX, fY, gQ, gG, eT, fT, fS, gE, fR, fL, fV, fQ, fU, gB, gC, fP, fC, gI, gA, fK, iR, iO, iP, iU, iM, iS, iQ, iT, iN, eP, Result.ok.injEq, Next.value.injEq, true_and, and_true, fI, fJ, gH, fM, gD, gR, acM, fE, fF, fG, fD, eZ, eU, fB, eX, eQ, eH, if_true, if_false, acK, acQ, acL, acN, acP, acO, acJ, acI, eA, dV, aB, dM, dO, cB, eB, eS, eE, dK, eF, fA, dJ, eJ, bP, dS, bE, dN, aL, aH, eL, aX, cI, eM, aE, eN, dE, aR, bF, eD, bB, bC, bJ, aO, aI, cF, fH, dY, cJ, cC, dA, cH, dT, bD, eK, bT, dF, bR, aT, bV, aC, bY, bQ, cA, bX, aY, aU, bA, bU, dL, cP, bO, aV, aJ, aM, bG, aF, dC, dW, aK, aN, aZ, aG, cY, aD, cL, bW, bH, aP, cM, bZ, aA, dD, cO, cU, cG, dI, cD, dG, dU, cQ, eC, eI, bN, aS, dZ, bS, aQ, bL, dH, cZ, cV, cN, cS, bK, bM, cX, dR, cR, dQ, dB, d2, g1, ei]
     exact skip hcr
   | true =>
     simp (disch := omega) only [eY, gN, dX, stepR_skip, fO, fW, fN, fZ, fX, fY, gQ, gG, eT, fT, fS, gE, fR, fL, fV, fQ, fU, gB, gC, fP, fC, gI, gA, fK, iR, iO, iP, iU, iM, iS, iQ, iT, iN, eP, Result.ok.injEq, Next.value.injEq, true_and, and_true, fI, fJ, gH, fM, gD, gR, acM, fE, fF, fG, fD, eZ, eU, fB, eX, eQ, eH, if_true, if_false, acK, acQ, acL, acN, acP, acO, acJ, acI, eA, dV, aB, dM, dO, cB, eB, eS, eE, dK, eF, fA, dJ, eJ, bP, dS, bE, dN, aL, aH, eL, aX, cI, eM, aE, eN, dE, aR, bF, eD, bB, bC, bJ, aO, aI, cF, fH, dY, cJ, cC, dA, cH, dT, bD, eK, bT, dF, bR, aT, bV, aC, bY, bQ, cA, bX, aY, aU, bA, bU, dL, cP, bO, aV, aJ, aM, bG, aF, dC, dW, aK, aN, aZ, aG, cY, aD, cL, bW, bH, aP, cM, bZ, aA, dD, cO, cU, cG, dI, cD, dG, dU, cQ, eC, eI, bN, aS, dZ, bS, aQ, bL, dH, cZ, cV, cN, cS, bK, bM, cX, dR, cR, dQ, dB, d2, g1, q1, q1d, l3, l3d]
     refine (ZO (X := D) (c := S7 S.under ks S.sure i) (o := o) hms3.dr (hXD _ h2) (fun b hb => by have := hDl b hb; show b < w3.heap.size; omega) (hf3.ext (gV.dr _ jN) fun _ h => h.elim) (hd3.ext (gV.dr _ jN) fun _ h => h.elim) hsi hmem.1 hmem.2).mono ?_
     rintro r w4 ⟨rfl, ls4, hms4, hf4, x4⟩
     have x4 : gV w3 w4 (fun b => b = ms) := (gV.dr _ _).seq x4
     simp (disch := omega) only [eY, gN, dX, stepR_skip, fO, fW, fN, fZ, fX, fY, gQ, gG, eT, fT, fS, gE, fR, fL, fV, fQ, fU, gB, gC, fP, fC, gI, gA, fK, iR, iO, iP, iU, iM, iS, iQ, iT, iN, eP, Result.ok.injEq, Next.value.injEq, true_and, and_true, fI, fJ, gH, fM, gD, gR, acM, fE, fF, fG, fD, eZ, eU, fB, eX, eQ, eH, if_true, if_false, acK, acQ, acL, acN, acP, acO, acJ, acI, eA, dV, aB, dM, dO, cB, eB, eS, eE, dK, eF, fA, dJ, eJ, bP, dS, bE, dN, aL, aH, eL, aX, cI, eM, aE, eN, dE, aR, bF, eD, bB, bC, bJ, aO, aI, cF, fH, dY, cJ, cC, dA, cH, dT, bD, eK, bT, dF, bR, aT, bV, aC, bY, bQ, cA, bX, aY, aU, bA, bU, dL, cP, bO, aV, aJ, aM, bG, aF, dC, dW, aK, aN, aZ, aG, cY, aD, cL, bW, bH, aP, cM, bZ, aA, dD, cO, cU, cG, dI, cD, dG, dU, cQ, eC, eI, bN, aS, dZ, bS, aQ, bL, dH, cZ, cV, cN, cS, bK, bM, cX, dR, cR, dQ, dB, ei]
     exact ⟨S.under.length - (i + 1), by omega, i + 1, ls4, rfl, rfl, by omega, hms4, by rw [hcr]; exact hf4, x03.seq x4⟩
  .have d2 : decide ((i : Int) < (ks.length : Int)) = false := by simp; omega
   rw [adZ (by omega)] at hcr
   simp (disch := omega) only [eY, gN, dX, stepR_skip, fO, fW, fN, fZ, fX, fY, gQ, gG, eT, fT, fS, gE, fR, fL, fV, fQ, fU, gB, gC, fP, fC, gI, gA, fK, iR, iO, iP, iU, iM, iS, iQ, iT, iN, eP, Result.ok.injEq, Next.value.injEq, true_and, and_true, fI, fJ, gH, fM, gD, gR, acM, fE, fF, fG, fD, eZ, eU, fB, eX, eQ, eH, if_true, if_false, acK, acQ, acL, acN, acP, acO, acJ, acI, eA, dV, aB, dM, dO, cB, eB, eS, eE, dK, eF, fA, dJ, eJ, bP, dS, bE, dN, aL, aH, eL, aX, cI, eM, aE, eN, dE, aR, bF, eD, bB, bC, bJ, aO, aI, cF, fH, dY, cJ, cC, dA, cH, dT, bD, eK, bT, dF, bR, aT, bV, aC, bY, bQ, cA, bX, aY, aU, bA, bU, dL, cP, bO, aV, aJ, aM, bG, aF, dC, dW, aK, aN, aZ, aG, cY, aD, cL, bW, bH, aP, cM, bZ, aA, dD, cO, cU, cG, dI, cD, dG, dU, cQ, eC, eI, bN, aS, dZ, bS, aQ, bL, dH, cZ, cV, cN, cS, bK, bM, cX, dR, cR, dQ, dB, d2, ei]
   exact skip hcr
 .have d1 : decide ((i : Int) < (S.under.length : Int)) = false := by simp; omega
  obtain rfl : i = S.under.length := by omega
  have c1 := op1.cell (off := 1)
  simp only [acI, acJ] at c1
  unfold sM
  simp (disch := omega) only [eY, gN, dX, stepR_skip, fO, fW, fN, fZ, fX, fY, gQ, gG, eT, fT, fS, gE, fR, fL, fV, fQ, fU, gB, gC, fP, fC, gI, gA, fK, iR, iO, iP, iU, iM, iS, iQ, iT, iN, eP, Result.ok.injEq, Next.value.injEq, true_and, and_true, fI, fJ, gH, fM, gD, gR, acM, fE, fF, fG, fD, eZ, eU, fB, eX, eQ, eH, if_true, if_false, acK, acQ, acL, acN, acP, acO, acJ, acI, eA, dV, aB, dM, dO, cB, eB, eS, eE, dK, eF, fA, dJ, eJ, bP, dS, bE, dN, aL, aH, eL, aX, cI, eM, aE, eN, dE, aR, bF, eD, bB, bC, bJ, aO, aI, cF, fH, dY, cJ, cC, dA, cH, dT, bD, eK, bT, dF, bR, aT, bV, aC, bY, bQ, cA, bX, aY, aU, bA, bU, dL, cP, bO, aV, aJ, aM, bG, aF, dC, dW, aK, aN, aZ, aG, cY, aD, cL, bW, bH, aP, cM, bZ, aA, dD, cO, cU, cG, dI, cD, dG, dU, cQ, eC, eI, bN, aS, dZ, bS, aQ, bL, dH, cZ, cV, cN, cS, bK, bM, cX, dR, cR, dQ, dB, d1, c1]
  refine (RN hms1).mono ?_
  rintro r w3 ⟨rfl, hmc, x3, s3⟩
  have op3 := op1.ext x3 (fun h => h)
  refine KK op3 rfl (by simp) fun w4 op4 x4 s4 => ?_
  simp only [adA, adN] at op4
  refine uH op4 rfl (by simp) fun w5 op5 x5 s5 => ?_
  simp only [adA, adN] at op5
  refine HD op5 rfl (by simp) fun w6 op6 x6 s6 => ?_
  simp only [adA, adN] at op6
  refine Dc op6 rfl (by simp) fun w7 op7 x7 s7 => ?_
  simp only [adA, adN] at op7
  have x37 : gV w3 w7 (fun y => y = p) := ((x4.seq x5).seq x6).seq x7
  obtain ⟨Y, hY⟩ : ∃ Y : Nat -> Prop, Y = fun b => X b ∨ b = w1.heap.size := ⟨_, rfl⟩
  have hYX : ∀ b, X b -> Y b := fun b h => by rw [hY]; exact .inl h
  have hY2 : ∀ b, Y b -> X b ∨ w1.heap.size <= b := fun b h => by rw [hY] at h; rcases h with h | h; exact .inl h; exact .inr (by omega)
  obtain ⟨E, hE⟩ : ∃ E : Nat -> Prop, E = fun b => D b ∨ b = w1.heap.size := ⟨_, rfl⟩
  have hED : ∀ b, D b -> E b := fun b h => by rw [hE]; exact .inl h
  have hYE : ∀ b, Y b -> E b := fun b h => by rw [hY] at h; rw [hE]; rcases h with h | h; exact .inl (hXD b h); exact .inr h
  have hE2 : ∀ b, E b -> D b ∨ w1.heap.size <= b := fun b h => by rw [hE] at h; rcases h with h | h; exact .inl h; exact .inr (by omega)
  have x3Y : gV w1 w3 E := x3.mono fun _ _ h => h.elim
  have x37Y : gV w3 w7 E := x37.mono fun b _ h => by rw [h]; exact hED _ (hXD _ h1)
  have dat : ∀ v b, EM w1 D v b -> EM w7 E v b := fun v b hd => ((hd.sub hE2).ext x3Y fun _ h => h).ext x37Y fun _ h => h
  refine ⟨Y, E, ⟨ms, w1.heap.size, .slice none 0 0, ls', ls', [], hYX _ h1, hYX _ h2, by rw [hY]; exact .inr rfl, h4, by omega, by omega, hYE, fun b h => ?_, op7, (hms1.ext x3 (fun h => h)).ext x37 (fun h => h4 h.symm), hmc.ext x37 (by omega), hf1.map dat, hf1.map dat, ⟨rfl, .inl ⟨rfl, rfl⟩⟩, rfl⟩, fun b h => ?_, hED, (x1X.trans x3 fun _ _ h => h.elim).trans x37 fun b _ h => by rw [h]; exact h1⟩
  .rw [hE] at h
   rcases h with h | h
   .have := hDl b h; omega
   .omega
  .rcases hY2 b h with h | h
   .exact .inl h
   .exact .inr (by omega)
end Go.Proofs.YteelnmpbnaohpaaDoor
namespace Go.Proofs.YteelnmpbnaohpaaDoor
open Go Go.En Go.Pu
structure UO where
 size : Nat
 part : Nat
 leaves : List (List UInt8)
structure nG where
 nm : ByteArray
 man : UO
 epoch : Nat
 hv : List Bool
 log : Nat
 fin : Bool
 err : Int
def gZ (n : ByteArray) : ByteArray := n ++ ⟨#[46, 112, 97, 114, 116]⟩
def jH (n : ByteArray) : ByteArray := n ++ ⟨#[46, 108, 111, 103]⟩
section
variable (lf : List UInt8 -> List UInt8) (cf : List UInt8 -> Nat)
def BR (m : UO) (i : Nat) (b : List UInt8) : Bool := b.length == Kq m.size m.part i && lf b == m.leaves.getD i []
def wholeAt (m : UO) (b : List UInt8) (i : Nat) : Bool := decide (m.part * i + Kq m.size m.part i <= b.length) && BR lf m i (nW m.size m.part i b)
def iV (m : UO) (b : List UInt8) : List Bool := (List.range m.leaves.length).map (wholeAt lf m b)
def Ct (l : List Bool) : Bool := !l.contains false
def jA (S : jL) (n : ByteArray) : List UInt8 × Bool × Int := if S.down then ([], false, 20) else match jC n S.seen with
 | none => ([], false, 0)
 | some b => (b, true, 0)
def jQ (S : jL) (s : nG) (k v : Nat) : jL × nG × Int :=
 let r := Da S (jH s.nm) s.log (rT cf k v)
 if r.2 = 0 then (r.1, { s with log := s.log + 13 }, 0) else (r.1, s, r.2)
def kH (S : jL) (s : nG) : jL × List UInt8 × Int :=
 let r := jA S (gZ s.nm)
 if r.2.2 ≠ 0 then (S, [], r.2.2)
 else if s.man.size < r.1.length then
  let d := Vv S (gZ s.nm)
  if d.2 ≠ 0 then (d.1, [], d.2) else
    let e := Da d.1 (gZ s.nm) 0 (List.replicate s.man.size 0)
    (e.1, [], e.2)
 else if r.1.length < s.man.size ∨ r.2.1 = false then
  let e := Da S (gZ s.nm) r.1.length (List.replicate (s.man.size - r.1.length) 0)
  (e.1, r.1, e.2)
 else (S, r.1, 0)
def oS (l : List (Nat × Nat)) (w : List Bool) (n : Nat) : List Bool := (List.range n).map fun i => l.any (fun r => r.1 == 2 && r.2 == i) && w.getD i false
def DF (S : jL) (n : ByteArray) (m : UO) : jL × Option nG × Int :=
 let r := jA S n
 if r.2.2 ≠ 0 then (S, none, r.2.2) else
 let hv := iV lf m r.1
 let fin := r.2.1 && r.1.length == m.size && Ct hv
 let g := jA S (jH n)
 if g.2.2 ≠ 0 then (S, none, g.2.2) else
 let l := mZ cf g.1
 let last := jY 1 l
 if last = 18446744073709551615 then (S, none, 23) else
 let s : nG := ⟨n, m, last + 1, hv, 13 * l.length, fin, 0⟩
 let q := jQ cf S s 1 (last + 1)
 if q.2.2 ≠ 0 then (q.1, none, q.2.2) else
 if fin then
   let y := Ab q.1
   if y.2 ≠ 0 then (y.1, none, y.2) else (y.1, some q.2.1, 0)
 else
  let f := kH q.1 q.2.1
  if f.2.2 ≠ 0 then (f.1, none, f.2.2) else
  let y := Ab f.1
  if y.2 ≠ 0 then (y.1, none, y.2) else (y.1, some { q.2.1 with hv := oS l (iV lf m f.2.1) m.leaves.length }, 0)
def kC (S : jL) (s : nG) (i : Nat) (b : List UInt8) : jL × nG × Int :=
 let r := Da S (gZ s.nm) (s.man.part * i : Nat) b
 if r.2 ≠ 0 then (r.1, s, r.2) else
 let y := Ab r.1
 if y.2 ≠ 0 then (y.1, s, y.2) else
 let q := jQ cf y.1 s 2 i
 if q.2.2 ≠ 0 then (q.1, q.2.1, q.2.2) else
 let z := Ab q.1
 (z.1, q.2.1, z.2)
def pU (S : jL) (s : nG) (i : Int) (b : List UInt8) : jL × nG × Int :=
 if s.err ≠ 0 then (S, s, s.err)
 else if i < 0 ∨ (s.hv.length : Int) <= i then (S, s, 17)
 else if s.fin || s.hv.getD i.toNat false then (S, s, 0)
 else if BR lf s.man i.toNat b = false then (S, s, 13)
 else
  let q := kC cf S s i.toNat b
  (q.1, { q.2.1 with err := q.2.2, hv := q.2.1.hv.set i.toNat (q.2.2 == 0) }, q.2.2)
def jK (S : jL) (s : nG) : jL × nG × Int :=
 if s.err ≠ 0 then (S, s, s.err)
 else if s.fin then (S, s, 0)
 else if Ct s.hv = false then (S, s, 30)
 else if S.down then (S, { s with err := 20 }, 20)
 else match jC (gZ s.nm) S.seen with
 | none => (S, { s with err := 21 }, 21)
 | some b =>
   if Ct (iV lf s.man b) = false then (S, { s with hv := iV lf s.man b }, 13)
   else
    let r := MX S (gZ s.nm) s.nm
    if r.2 ≠ 0 then (r.1, { s with hv := iV lf s.man b, err := r.2, fin := false }, r.2) else
    let y := Ab r.1
    (y.1, { s with hv := iV lf s.man b, err := y.2, fin := y.2 == 0 }, y.2)
def kO (f : List UInt8) (k : Nat) : UO := ⟨f.length, k, (List.range (mA f.length k)).map fun i => lf (nW f.length k i f)⟩
end
structure Bg (n : Nat) (S : jL) : Prop where
 bd : Yu S
 sz : iJ S.seen <= 1000000000
 un : S.under.length + n <= 1000000
theorem Bg.le {n m : Nat} {S : jL} (h : Bg n S) (hm : m <= n) : Bg m S := ⟨h.bd, h.sz, by have := h.un; omega⟩
theorem Bg.file {n : Nat} {S : jL} (h : Bg n S) {k : ByteArray} {b : List UInt8} (hb : jC k S.seen = some b) : b.length <= 1000000000 := by
 have h1 := BJ (k := k) (c := S.seen)
 rw [hb] at h1
 have := h.sz
 have h1 : b.length <= iJ S.seen := h1
 omega
theorem Mm {l : Int} (h : -1 <= l /\ l <= 9223372036854775807) : -1 <= pO l /\ pO l <= 9223372036854775807 := by
 unfold pO
 split <;> omega
theorem Rh {n : Nat} {S : jL} {o : NT} (h : Bg (n + 1) S) (hs : iJ (CV o S.seen) <= 1000000000) : Bg n (pW S o).1 := by
 have hb := h.bd
 have hu := h.un
 have hz := h.sz
 unfold pW
 split
 .exact ⟨⟨Mm hb.left, hb.seen, hb.under, hb.room⟩, hz, by show S.under.length + n <= _; omega⟩
 .refine ⟨⟨Mm hb.left, by show iJ (CV o S.seen) <= _; omega, ?_, hb.room⟩, hs, ?_⟩
  .show (S.under ++ [o]).length <= _; rw [acT]; simp; omega
  .show (S.under ++ [o]).length + n <= _; rw [acT]; simp; omega
theorem QC {n : Nat} {S : jL} {k : ByteArray} {a : Int} {l : List UInt8} (h : Bg (n + 1) S) : Bg n (Da S k a l).1 := by
 unfold Da
 split
 .rename_i h0
  refine Rh h ?_
  unfold Yn at h0
  split at h0
  .omega
  split at h0
  .omega
  rename_i h1
  split at h0
  .omega
  split at h0
  .omega
  rename_i h2
  have hr := h.bd.room
  have e : CV ⟨0, k, ⟨#[]⟩, a.toNat, l⟩ S.seen = nB k (over (oD S k) a.toNat l) S.seen := rfl
  have hs := nR k (over (oD S k) a.toNat l) S.seen
  rw [B2] at hs
  rw [e]
  unfold oD at *
  generalize ((jC k S.seen).getD []).length = q at *
  have : 0 <= a := by
   by_cases ha : a < 0
   .exact absurd (.inr ha) h1
   .omega
  omega
 .exact h.le (by omega)
theorem Xi {n : Nat} {S : jL} {k : ByteArray} (h : Bg (n + 1) S) : Bg n (Vv S k).1 := by
 unfold Vv
 split
 .exact h.le (by omega)
 .split
  .exact h.le (by omega)
  .refine Rh h ?_
   have := Di k S.seen
   have hz := h.sz
   show iJ (zB k S.seen) <= _
   omega
theorem ZV {n : Nat} {S : jL} {k j : ByteArray} (h : Bg (n + 1) S) : Bg n (MX S k j).1 := by
 unfold MX
 split
 .exact h.le (by omega)
 .split
  .exact h.le (by omega)
  .split
   .exact h.le (by omega)
   .refine Rh h ?_
    have hz := h.sz
    unfold CV
    rw [if_neg (show ¬ (1 : Nat) = 0 by decide), if_pos (show (1 : Nat) = 1 from rfl)]
    show iJ (match jC k S.seen with | none => S.seen | some old => nB j old (zB k S.seen)) <= _
    have h1 := Di k S.seen
    cases hg : jC k S.seen with
    | none => exact hz
    | some old =>
      rw [hg] at h1
      have h1 : iJ (zB k S.seen) + old.length = iJ S.seen := h1
      have h2 := nR j old (zB k S.seen)
      show iJ (nB j old (zB k S.seen)) <= _
      omega
theorem WB {n : Nat} {S : jL} (h : Bg n S) : Bg n (Ab S).1 := by
 have hb := h.bd
 have hu := h.un
 unfold Ab
 split
 .exact h
 .split
  .exact ⟨⟨Mm hb.left, hb.seen, hb.under, hb.room⟩, h.sz, hu⟩
  .exact ⟨⟨Mm hb.left, hb.seen, by simp, hb.room⟩, h.sz, by simp; omega⟩
structure Calm (S : jL) : Prop where
 up : S.down = false
 left : S.left = -1
theorem T9 {S : jL} (h : Calm S) : LM S = false := by unfold LM; rw [h.up, h.left] <;> rfl
theorem Qz {S : jL} (h : Calm S) (o : NT) : pW S o = ({ S with under := S.under ++ [o], seen := CV o S.seen }, 0) := by
 have h1 := h.up
 have h2 := h.left
 unfold pW
 rw [T9 h, if_neg (by decide)]
 obtain ⟨room, sure, seen, under, left, down⟩ := S
 simp only at h1 h2
 subst h1; subst h2
 rfl
theorem Hd {S : jL} (h : Calm S) : Ab S = ({ S with sure := S.seen, under := [] }, 0) := by
 have h1 := h.up
 have h2 := h.left
 unfold Ab
 rw [T9 h, h.up, if_neg (show ¬ false = true by decide), if_neg (show ¬ false = true by decide)]
 obtain ⟨room, sure, seen, under, left, down⟩ := S
 simp only at h1 h2
 subst h1; subst h2
 rfl
theorem ON {S : jL} {k : ByteArray} {a : Nat} {l : List UInt8} (h : Calm S) (hk : Lw k = true) (ha : a <= (oD S k).length) :
 Da S k a l = if S.room < ((iJ S.seen + (a + l.length - (oD S k).length) : Nat) : Int) then (S, 22) else ({ S with under := S.under ++ [⟨0, k, ⟨#[]⟩, a, l⟩], seen := nB k (over (oD S k) a l) S.seen }, 0) := by
 have e : Yn S k a l.length = if S.room < ((iJ S.seen + (a + l.length - (oD S k).length) : Nat) : Int) then 22 else 0 := by
  unfold Yn
  rw [h.up, if_neg (by decide), hk, if_neg (by rintro (h | h); cases h; omega), if_neg (by omega)]
  have : ((iJ S.seen : Nat) : Int) + max ((a : Int) + (l.length : Int) - ((oD S k).length : Int)) 0 = ((iJ S.seen + (a + l.length - (oD S k).length) : Nat) : Int) := by omega
  rw [this]
 unfold Da
 rw [e]
 by_cases h1 : S.room < ((iJ S.seen + (a + l.length - (oD S k).length) : Nat) : Int)
 .rw [if_pos h1, if_pos h1, if_neg (by decide)]
 .rw [if_neg h1, if_neg h1, if_pos rfl, Qz h, acM]
  rfl
end Go.Proofs.YteelnmpbnaohpaaDoor
namespace Go.Proofs.YteelnmpbnaohpaaDoor
open Go Go.En Go.Pu
set_option maxRecDepth 4000
abbrev O3 (m : UO) (lv : ahB) : List ahB := [.int .u64 (m.size : Nat), .int .u32 (m.part : Nat), lv]
abbrev stC (p : Nat) (s : nG) (lv hv : ahB) : List ahB :=
 [dP p, .string s.nm, .int .u64 (s.man.size : Nat), .int .u32 (s.man.part : Nat), lv, .int .u64 (s.epoch : Nat), hv, .int .i64 (s.log : Nat), .bool s.fin, .int .i64 s.err]
abbrev Vt (l : List (List UInt8)) : List ahB := l.flatMap fun x => x.map pG
structure Uq (m : UO) : Prop where
 size : m.size <= 1000000
 part : 1 <= m.part /\ m.part <= 65536
 cnt : m.leaves.length = mA m.size m.part
 max : mA m.size m.part <= 1024
 len : ∀ x ∈ m.leaves, x.length = 32
def VN (w : ahA) (T : Nat -> Prop) (lv : ahB) (l : List (List UInt8)) : Prop := Cl w 32 lv l.length (Vt l) /\ ¬ vO lv T
theorem JQ {w w' : ahA} {sz n : Nat} {v : ahB} {l : List ahB} {M : Nat -> Prop} (h : Cl w sz v n l) (x : gV w w' M) (hM : ¬ vO v M) : Cl w' sz v n l := by
 obtain ⟨a, c, rfl, hl, hh⟩ := h
 refine ⟨a, c, rfl, hl, fun h0 => ?_⟩
 obtain ⟨b, off, rfl, h2⟩ := hh h0
 refine ⟨b, off, rfl, fun i hi => ?_⟩
 have hb : ¬ M b := fun hm => hM (by
  obtain ⟨n', rfl⟩ : ∃ n', n = n' + 1 := ⟨n - 1, by omega⟩
  exact hm)
 obtain ⟨y, hy⟩ : ∃ y, l[i]? = some y := ⟨_, acS hi⟩
 rw [<- h2 i hi]
 have h3 := h2 i hi
 rw [hy] at h3
 rw [Br h3 x hb, h3]
theorem YM {w : ahA} {sz n : Nat} {v : ahB} {l : List ahB} (h : Cl w sz v n l) (hsz : 0 < sz) : ¬ vO v (fun b => w.heap.size <= b) := by
 obtain ⟨a, c, rfl, hl, hh⟩ := h
 intro hi
 cases n with
 | zero => unfold vO at hi; split at hi <;> simp_all
 | succ n =>
   obtain ⟨b, off, rfl, h2⟩ := hh (by omega)
   have hi : w.heap.size <= b := hi
   have h3 := h2 0 (by rw [hl]; exact Nat.mul_pos (by omega) hsz)
   have hlt : 0 < l.length := by rw [hl]; exact Nat.mul_pos (by omega) hsz
   rw [acS hlt] at h3
   unfold World.cell? at h3
   rw [adR hi] at h3
   cases h3
structure kP (n0 : Nat) (w : ahA) (q p : Nat) (X D Y : Nat -> Prop) (S : jL) (s : nG) (lv hv : ahB) : Prop where
 glob : qK w
 g0 : 0 < n0 /\ 1 < n0
 lo : ∀ b, X b ∨ Y b -> n0 <= b
 hi : n0 <= w.heap.size
 dsk : mE w p X D S
 yq : Y q
 yd : ∀ b, Y b -> D b /\ ¬ X b
 own : jI w q (stC p s lv hv)
 man : Uq s.man
 lv : VN w (fun b => X b ∨ Y b) lv s.man.leaves
 hv : Jv w (fun b => Y b /\ b ≠ q) 1 hv s.hv.length (s.hv.map Value.bool)
 ep : s.epoch < 18446744073709551616
 lg : s.log <= 1000000000
 hl : s.hv.length <= 1024
 nl : s.nm.size <= 27
def iW (n0 : Nat) (w : ahA) (q p : Nat) (X D Y : Nat -> Prop) (S' : jL) (s' : nG) (w' : ahA) : Prop :=
 ∃ X' D' Y' lv hv, kP n0 w' q p X' D' Y' S' s' lv hv /\ (∀ b, X' b -> X b ∨ w.heap.size <= b) /\ (∀ b, D b -> D' b) /\ (∀ b, Y' b -> Y b ∨ w.heap.size <= b) /\ gV w w' (fun b => X b ∨ Y b)
theorem iW.refl {n0 : Nat} {w : ahA} {q p : Nat} {X D Y : Nat -> Prop} {S : jL} {s : nG} {lv hv : ahB} (h : kP n0 w q p X D Y S s lv hv) : iW n0 w q p X D Y S s w :=
 ⟨X, D, Y, lv, hv, h, fun _ h => .inl h, fun _ h => h, fun _ h => .inl h, gV.refl _ _⟩
theorem iW.step {n0 : Nat} {w w1 w2 : ahA} {q p : Nat} {X D Y X1 D1 Y1 : Nat -> Prop} {S2 : jL} {s2 : nG} (x : gV w w1 (fun b => X b ∨ Y b)) (hX : ∀ b, X1 b -> X b ∨ w.heap.size <= b) (hD : ∀ b, D b -> D1 b) (hY : ∀ b, Y1 b -> Y b ∨ w.heap.size <= b)
 (h : iW n0 w1 q p X1 D1 Y1 S2 s2 w2) : iW n0 w q p X D Y S2 s2 w2 := by
 obtain ⟨X2, D2, Y2, lv, hv, h1, h2, h3, h4, h5⟩ := h
 have z := x.size
 refine ⟨X2, D2, Y2, lv, hv, h1, fun b hb => ?_, fun b hb => h3 b (hD b hb), fun b hb => ?_, x.trans h5 fun b hb hx => ?_⟩
 .rcases h2 b hb with h | h
  .exact hX b h
  .exact .inr (by omega)
 .rcases h4 b hb with h | h
  .exact hY b h
  .exact .inr (by omega)
 .rcases hx with h | h
  .rcases hX b h with h | h
   .exact .inl h
   .omega
  .rcases hY b h with h | h
   .exact .inr h
   .omega
theorem mE.xd' {w : ahA} {p : Nat} {X D : Nat -> Prop} {S : jL} (h : mE w p X D S) : ∀ b, X b -> D b := by
 obtain ⟨_, _, _, _, _, _, _, _, _, _, _, _, h7, _⟩ := h; exact h7
theorem VN.keep {w w' : ahA} {T : Nat -> Prop} {lv : ahB} {l : List (List UInt8)} (h : VN w T lv l) (x : gV w w' T) {T' : Nat -> Prop} (hT : ∀ b, T' b -> T b ∨ w.heap.size <= b) : VN w' T' lv l := by
 refine ⟨JQ h.1 x h.2, fun hi => ?_⟩
 have h3 := YM h.1 (by decide)
 obtain ⟨a, c, rfl, hl, hh⟩ := h.1
 have h2 := h.2
 unfold vO at hi h2 h3
 split at hi
 .rename_i e
  simp only [Value.slice.injEq] at e
  obtain ⟨rfl, e2, rfl⟩ := e
  rw [e2] at h2 h3
  rcases hT _ hi with h4 | h4
  .exact h2 h4
  .exact h3 h4
 .exact hi
theorem kP.ext {n0 : Nat} {w w' : ahA} {q p : Nat} {X D Y M : Nat -> Prop} {S : jL} {s : nG} {lv hv : ahB} (h : kP n0 w q p X D Y S s lv hv) (x : gV w w' M) (hM : ∀ b, M b -> D b /\ ¬ X b /\ ¬ Y b /\ n0 <= b) (hl : ¬ vO lv M) : kP n0 w' q p X D Y S s lv hv := by
 have hg := h.g0
 refine ⟨h.glob.extM x (fun hm => by have := (hM _ hm).2.2.2; omega) (fun hm => by have := (hM _ hm).2.2.2; omega), h.g0, h.lo, aeV h.hi x.size, h.dsk.ext x fun b hb => ⟨(hM b hb).1, (hM b hb).2.1⟩, h.yq, h.yd, h.own.ext x (fun hm => (hM _ hm).2.2.1 h.yq), h.man, ⟨JQ h.lv.1 x hl, h.lv.2⟩, h.hv.ext x fun b hb hm => (hM _ hm).2.2.1 hb.1, h.ep, h.lg, h.hl, h.nl⟩
theorem kP.new {n0 : Nat} {w w' : ahA} {q p : Nat} {X D Y : Nat -> Prop} {S : jL} {s : nG} {lv hv : ahB} (h : kP n0 w q p X D Y S s lv hv) (x : gV w w' jN) : kP n0 w' q p X D Y S s lv hv :=
 h.ext x (fun _ h => h.elim) (jG _)
theorem kP.lt {n0 : Nat} {w : ahA} {q p : Nat} {X D Y : Nat -> Prop} {S : jL} {s : nG} {lv hv : ahB} (h : kP n0 w q p X D Y S s lv hv) : ∀ b, X b ∨ Y b -> b < w.heap.size := fun b hb => by
 rcases hb with hb | hb
 .exact mE.lt h.dsk b (mE.xd' h.dsk b hb)
 .exact mE.lt h.dsk b (h.yd b hb).1
theorem kP.disk {n0 : Nat} {w w' : ahA} {q p : Nat} {X D Y : Nat -> Prop} {S S' : jL} {s : nG} {lv hv : ahB} (h : kP n0 w q p X D Y S s lv hv) (hp : A7 w p X D S' w') :
 ∃ X' D', kP n0 w' q p X' D' Y S' s lv hv /\ (∀ b, X' b -> X b ∨ w.heap.size <= b) /\ (∀ b, D b -> D' b) /\ gV w w' X := by
 obtain ⟨X', D', h1, h2, h3, x⟩ := hp
 have z := x.size
 have hh := h.hi
 have hn : ∀ b, Y b -> ¬ X b := fun b hb => (h.yd b hb).2
 refine ⟨X', D', ⟨h.glob.extM x (fun hm => by have := h.lo _ (.inl hm); have := h.g0; omega) (fun hm => by have := h.lo _ (.inl hm); have := h.g0; omega), h.g0, fun b hb => ?_, by omega, h1, h.yq, fun b hb => ⟨h3 b (h.yd b hb).1, fun hx => ?_⟩, h.own.ext x (hn _ h.yq), h.man, h.lv.keep (x.mono fun _ _ h => .inl h) fun b hb => ?_, h.hv.ext x fun b hb => hn b hb.1, h.ep, h.lg, h.hl, h.nl⟩, h2, h3, x⟩
 .rcases hb with hb | hb
  .rcases h2 b hb with h4 | h4
   .exact h.lo b (.inl h4)
   .omega
  .exact h.lo b (.inr hb)
 .rcases h2 b hx with h4 | h4
  .exact (h.yd b hb).2 h4
  .have := kP.lt h b (.inr hb); omega
 .rcases hb with hb | hb
  .rcases h2 b hb with h4 | h4
   .exact .inl (.inl h4)
   .exact .inr h4
  .exact .inl (.inr hb)
theorem kP.cells {n0 : Nat} {w : ahA} {q p : Nat} {X D Y : Nat -> Prop} {S : jL} {s : nG} {lv hv : ahB} (h : kP n0 w q p X D Y S s lv hv) :
 w.cell? ⟨q, 0, none⟩ = some (dP p) /\ w.cell? ⟨q, 1, none⟩ = some (.string s.nm) /\ w.cell? ⟨q, 2, none⟩ = some (.int .u64 (s.man.size : Nat)) /\ w.cell? ⟨q, 3, none⟩ = some (.int .u32 (s.man.part : Nat)) /\ w.cell? ⟨q, 4, none⟩ = some lv /\
 w.cell? ⟨q, 5, none⟩ = some (.int .u64 (s.epoch : Nat)) /\ w.cell? ⟨q, 6, none⟩ = some hv /\ w.cell? ⟨q, 7, none⟩ = some (.int .i64 (s.log : Nat)) /\ w.cell? ⟨q, 8, none⟩ = some (.bool s.fin) /\ w.cell? ⟨q, 9, none⟩ = some (.int .i64 s.err) :=
 ⟨h.own.cell (off := 0), h.own.cell (off := 1), h.own.cell (off := 2), h.own.cell (off := 3), h.own.cell (off := 4), h.own.cell (off := 5), h.own.cell (off := 6), h.own.cell (off := 7), h.own.cell (off := 8), h.own.cell (off := 9)⟩
theorem kP.set {n0 : Nat} {w w' : ahA} {q p : Nat} {X D Y : Nat -> Prop} {S : jL} {s s' : nG} {lv hv : ahB} (h : kP n0 w q p X D Y S s lv hv) (x : gV w w' (fun y => y = q)) (o : jI w' q (stC p s' lv hv)) (hm : s'.man = s.man) (hh : s'.hv = s.hv) (hn : s'.nm = s.nm)
 (he : s'.epoch < 18446744073709551616) (hl : s'.log <= 1000000000) : kP n0 w' q p X D Y S s' lv hv := by
 have hq := h.yd q h.yq
 have hqn := h.lo q (.inr h.yq)
 have hg := h.g0
 refine ⟨h.glob.extM x (by omega) (by omega), h.g0, h.lo, aeV h.hi x.size, h.dsk.ext x fun b hb => hb ▸ hq, h.yq, h.yd, o, hm ▸ h.man, ?_, ?_, he, hl, hh ▸ h.hl, hn ▸ h.nl⟩
 .rw [hm]
  exact h.lv.keep (x.mono fun b _ hb => .inr (hb ▸ h.yq)) fun b hb => .inl hb
 .rw [hh]
  exact h.hv.ext x fun b hb h => hb.2 h
theorem Yf {ox oy : Operand} {a b : List UInt8} (ha : a.length = 32) (hb : b.length = 32) (w : ahA) : (gO .eql 49 ox oy (.agg (a.map pG).toArray) (.agg (b.map pG).toArray)).run pg w = .ok (.value (.bool (a == b))) w := by
 have g0 : pg.eqGuardType pg.depth 49 = false := by kernel_rfl
 unfold gO
 simp only [Cn, nF, Sem.run_bind, run_eqGuard_agg w .eql 49 ox oy _ _ g0, Result.andThen_ok, run_eql_struct]
 rw [TO 9998 32 Tryd.underlying49 Tryd.underlying5 Jl rfl a b ha hb]
 simp only [Result.andThen_ok]
 rw [show decide (a = b) = (a == b) from (by cases h : (a == b) <;> simp_all)]
theorem TL : ∀ {l : List (List UInt8)} {i j : Nat}, (∀ x ∈ l, x.length = 32) -> i < l.length -> j < 32 -> (Vt l)[i * 32 + j]? = ((l.getD i []).map pG)[j]?
 | [], i, j, _, hi, _ => by simp at hi
 | x :: l, 0, j, h, _, hj => by
   show (List.flatMap _ (x :: l))[0 * 32 + j]? = _
   rw [agJ, adU (by rw [acR, h x aeO]; omega)]
   simp
 | x :: l, i + 1, j, h, hi, hj => by
   show (List.flatMap _ (x :: l))[(i + 1) * 32 + j]? = _
   rw [agJ, aeF (by rw [acR, h x aeO]; omega), acR, h x aeO, show (i + 1) * 32 + j - 32 = i * 32 + j from by omega]
   exact TL (l := l) (fun y hy => h y (adC _ hy)) (by simpa using hi) hj
theorem LN {n0 q p : Nat} {X D Y : Nat -> Prop} {S : jL} {s : nG} {lv hv : ahB} {w : ahA} (h : kP n0 w q p X D Y S s lv hv) : gT pg lK #[dP q] w (fun r w' => r = .int .i64 s.err /\ w' = w) := by
 refine Jp ?_
 obtain ⟨c0, c1, c2, c3, c4, c5, c6, c7, c8, c9⟩ := h.cells
 unfold H3 yY
 simp (disch := omega) only [eY, gN, dX, stepR_skip, fO, fW, fN, fZ, fX, fY, gQ, gG, eT, fT, fS, gE, fR, fL, fV, fQ, fU, gB, gC, fP, fC, gI, gA, fK, iR, iO, iP, iU, iM, iS, iQ, iT, iN, eP, Result.ok.injEq, Next.value.injEq, true_and, and_true, fI, fJ, gH, fM, gD, gR, acM, fE, fF, fG, fD, eZ, eU, fB, eX, eQ, eH, if_true, if_false, acK, acQ, acL, acN, acP, acO, acJ, acI, eA, dV, aB, dM, dO, cB, eB, eS, eE, dK, eF, fA, dJ, eJ, bP, dS, bE, dN, aL, aH, eL, aX, cI, eM, aE, eN, dE, aR, bF, eD, bB, bC, bJ, aO, aI, cF, fH, dY, cJ, cC, dA, cH, dT, bD, eK, bT, dF, bR, aT, bV, aC, bY, bQ, cA, bX, aY, aU, bA, bU, dL, cP, bO, aV, aJ, aM, bG, aF, dC, dW, aK, aN, aZ, aG, cY, aD, cL, bW, bH, aP, cM, bZ, aA, dD, cO, cU, cG, dI, cD, dG, dU, cQ, eC, eI, bN, aS, dZ, bS, aQ, bL, dH, cZ, cV, cN, cS, bK, bM, cX, dR, cR, dQ, dB, c9]
theorem XI {n0 q p : Nat} {X D Y : Nat -> Prop} {S : jL} {s : nG} {lv hv : ahB} {w : ahA} (h : kP n0 w q p X D Y S s lv hv) : gT pg oU #[dP q] w (fun r w' => r = .bool s.fin /\ w' = w) := by
 refine IV ?_
 obtain ⟨c0, c1, c2, c3, c4, c5, c6, c7, c8, c9⟩ := h.cells
 unfold F9 wR
 simp (disch := omega) only [eY, gN, dX, stepR_skip, fO, fW, fN, fZ, fX, fY, gQ, gG, eT, fT, fS, gE, fR, fL, fV, fQ, fU, gB, gC, fP, fC, gI, gA, fK, iR, iO, iP, iU, iM, iS, iQ, iT, iN, eP, Result.ok.injEq, Next.value.injEq, true_and, and_true, fI, fJ, gH, fM, gD, gR, acM, fE, fF, fG, fD, eZ, eU, fB, eX, eQ, eH, if_true, if_false, acK, acQ, acL, acN, acP, acO, acJ, acI, eA, dV, aB, dM, dO, cB, eB, eS, eE, dK, eF, fA, dJ, eJ, bP, dS, bE, dN, aL, aH, eL, aX, cI, eM, aE, eN, dE, aR, bF, eD, bB, bC, bJ, aO, aI, cF, fH, dY, cJ, cC, dA, cH, dT, bD, eK, bT, dF, bR, aT, bV, aC, bY, bQ, cA, bX, aY, aU, bA, bU, dL, cP, bO, aV, aJ, aM, bG, aF, dC, dW, aK, aN, aZ, aG, cY, aD, cL, bW, bH, aP, cM, bZ, aA, dD, cO, cU, cG, dI, cD, dG, dU, cQ, eC, eI, bN, aS, dZ, bS, aQ, bL, dH, cZ, cV, cN, cS, bK, bM, cX, dR, cR, dQ, dB, c8]
theorem Vg {n0 q p : Nat} {X D Y : Nat -> Prop} {S : jL} {s : nG} {lv hv : ahB} {w : ahA} (h : kP n0 w q p X D Y S s lv hv) : gT pg lH #[dP q] w (fun r w' => r = .int .u64 (s.epoch : Nat) /\ w' = w) := by
 refine Hw ?_
 obtain ⟨c0, c1, c2, c3, c4, c5, c6, c7, c8, c9⟩ := h.cells
 unfold Fe uN
 simp (disch := omega) only [eY, gN, dX, stepR_skip, fO, fW, fN, fZ, fX, fY, gQ, gG, eT, fT, fS, gE, fR, fL, fV, fQ, fU, gB, gC, fP, fC, gI, gA, fK, iR, iO, iP, iU, iM, iS, iQ, iT, iN, eP, Result.ok.injEq, Next.value.injEq, true_and, and_true, fI, fJ, gH, fM, gD, gR, acM, fE, fF, fG, fD, eZ, eU, fB, eX, eQ, eH, if_true, if_false, acK, acQ, acL, acN, acP, acO, acJ, acI, eA, dV, aB, dM, dO, cB, eB, eS, eE, dK, eF, fA, dJ, eJ, bP, dS, bE, dN, aL, aH, eL, aX, cI, eM, aE, eN, dE, aR, bF, eD, bB, bC, bJ, aO, aI, cF, fH, dY, cJ, cC, dA, cH, dT, bD, eK, bT, dF, bR, aT, bV, aC, bY, bQ, cA, bX, aY, aU, bA, bU, dL, cP, bO, aV, aJ, aM, bG, aF, dC, dW, aK, aN, aZ, aG, cY, aD, cL, bW, bH, aP, cM, bZ, aA, dD, cO, cU, cG, dI, cD, dG, dU, cQ, eC, eI, bN, aS, dZ, bS, aQ, bL, dH, cZ, cV, cN, cS, bK, bM, cX, dR, cR, dQ, dB, c5]
theorem Pv {q p : Nat} {X D : Nat -> Prop} {S : jL} {n : ByteArray} {w : ahA} (hd : mE w p X D S) (hB : Bg 0 S) (hc : w.cell? ⟨q, 0, none⟩ = some (dP p)) :
 gT pg nD #[dP q, .string n] w (fun r w' => ∃ v, r = .tuple #[v, .bool (jA S n).2.1, .int .i64 (jA S n).2.2] /\ Ac w' w.heap.size 1 v (jA S n).1.length ((jA S n).1.map pG) /\ gV w w' jN) := by
 refine IN ?_
 unfold GF wS
 simp (disch := omega) only [eY, gN, dX, stepR_skip, fO, fW, fN, fZ, fX, fY, gQ, gG, eT, fT, fS, gE, fR, fL, fV, fQ, fU, gB, gC, fP, fC, gI, gA, fK, iR, iO, iP, iU, iM, iS, iQ, iT, iN, eP, Result.ok.injEq, Next.value.injEq, true_and, and_true, fI, fJ, gH, fM, gD, gR, acM, fE, fF, fG, fD, eZ, eU, fB, eX, eQ, eH, if_true, if_false, acK, acQ, acL, acN, acP, acO, acJ, acI, eA, dV, aB, dM, dO, cB, eB, eS, eE, dK, eF, fA, dJ, eJ, bP, dS, bE, dN, aL, aH, eL, aX, cI, eM, aE, eN, dE, aR, bF, eD, bB, bC, bJ, aO, aI, cF, fH, dY, cJ, cC, dA, cH, dT, bD, eK, bT, dF, bR, aT, bV, aC, bY, bQ, cA, bX, aY, aU, bA, bU, dL, cP, bO, aV, aJ, aM, bG, aF, dC, dW, aK, aN, aZ, aG, cY, aD, cL, bW, bH, aP, cM, bZ, aA, dD, cO, cU, cG, dI, cD, dG, dU, cQ, eC, eI, bN, aS, dZ, bS, aQ, bL, dH, cZ, cV, cN, cS, bK, bM, cX, dR, cR, dQ, dB, hc]
 refine (Rq hd hB.bd (fun b hb => hB.file hb)).mono ?_
 rintro r w1 ⟨hr, x1⟩
 unfold jA
 rcases hr with ⟨h1, rfl⟩ | ⟨h1, h2, rfl⟩ | ⟨h1, b, v, h2, rfl, ho⟩
 .have n1 : ((20 : Int) == 21) = false := rfl
  have n2 : ((20 : Int) == 0) = false := rfl
  rw [if_pos h1]
  simp (disch := omega) only [eY, gN, dX, stepR_skip, fO, fW, fN, fZ, fX, fY, gQ, gG, eT, fT, fS, gE, fR, fL, fV, fQ, fU, gB, gC, fP, fC, gI, gA, fK, iR, iO, iP, iU, iM, iS, iQ, iT, iN, eP, Result.ok.injEq, Next.value.injEq, true_and, and_true, fI, fJ, gH, fM, gD, gR, acM, fE, fF, fG, fD, eZ, eU, fB, eX, eQ, eH, if_true, if_false, acK, acQ, acL, acN, acP, acO, acJ, acI, eA, dV, aB, dM, dO, cB, eB, eS, eE, dK, eF, fA, dJ, eJ, bP, dS, bE, dN, aL, aH, eL, aX, cI, eM, aE, eN, dE, aR, bF, eD, bB, bC, bJ, aO, aI, cF, fH, dY, cJ, cC, dA, cH, dT, bD, eK, bT, dF, bR, aT, bV, aC, bY, bQ, cA, bX, aY, aU, bA, bU, dL, cP, bO, aV, aJ, aM, bG, aF, dC, dW, aK, aN, aZ, aG, cY, aD, cL, bW, bH, aP, cM, bZ, aA, dD, cO, cU, cG, dI, cD, dG, dU, cQ, eC, eI, bN, aS, dZ, bS, aQ, bL, dH, cZ, cV, cN, cS, bK, bM, cX, dR, cR, dQ, dB, n1, n2]
  exact ⟨_, rfl, Ac.nil _ _ _, x1⟩
 .have n1 : ((21 : Int) == 21) = true := rfl
  rw [if_neg (by rw [h1]; decide), h2]
  simp (disch := omega) only [eY, gN, dX, stepR_skip, fO, fW, fN, fZ, fX, fY, gQ, gG, eT, fT, fS, gE, fR, fL, fV, fQ, fU, gB, gC, fP, fC, gI, gA, fK, iR, iO, iP, iU, iM, iS, iQ, iT, iN, eP, Result.ok.injEq, Next.value.injEq, true_and, and_true, fI, fJ, gH, fM, gD, gR, acM, fE, fF, fG, fD, eZ, eU, fB, eX, eQ, eH, if_true, if_false, acK, acQ, acL, acN, acP, acO, acJ, acI, eA, dV, aB, dM, dO, cB, eB, eS, eE, dK, eF, fA, dJ, eJ, bP, dS, bE, dN, aL, aH, eL, aX, cI, eM, aE, eN, dE, aR, bF, eD, bB, bC, bJ, aO, aI, cF, fH, dY, cJ, cC, dA, cH, dT, bD, eK, bT, dF, bR, aT, bV, aC, bY, bQ, cA, bX, aY, aU, bA, bU, dL, cP, bO, aV, aJ, aM, bG, aF, dC, dW, aK, aN, aZ, aG, cY, aD, cL, bW, bH, aP, cM, bZ, aA, dD, cO, cU, cG, dI, cD, dG, dU, cQ, eC, eI, bN, aS, dZ, bS, aQ, bL, dH, cZ, cV, cN, cS, bK, bM, cX, dR, cR, dQ, dB, n1]
  exact ⟨_, rfl, Ac.nil _ _ _, x1⟩
 .have n1 : ((0 : Int) == 21) = false := rfl
  have n2 : ((0 : Int) == 0) = true := rfl
  rw [if_neg (by rw [h1]; decide), h2]
  simp (disch := omega) only [eY, gN, dX, stepR_skip, fO, fW, fN, fZ, fX, fY, gQ, gG, eT, fT, fS, gE, fR, fL, fV, fQ, fU, gB, gC, fP, fC, gI, gA, fK, iR, iO, iP, iU, iM, iS, iQ, iT, iN, eP, Result.ok.injEq, Next.value.injEq, true_and, and_true, fI, fJ, gH, fM, gD, gR, acM, fE, fF, fG, fD, eZ, eU, fB, eX, eQ, eH, if_true, if_false, acK, acQ, acL, acN, acP, acO, acJ, acI, eA, dV, aB, dM, dO, cB, eB, eS, eE, dK, eF, fA, dJ, eJ, bP, dS, bE, dN, aL, aH, eL, aX, cI, eM, aE, eN, dE, aR, bF, eD, bB, bC, bJ, aO, aI, cF, fH, dY, cJ, cC, dA, cH, dT, bD, eK, bT, dF, bR, aT, bV, aC, bY, bQ, cA, bX, aY, aU, bA, bU, dL, cP, bO, aV, aJ, aM, bG, aF, dC, dW, aK, aN, aZ, aG, cY, aD, cL, bW, bH, aP, cM, bZ, aA, dD, cO, cU, cG, dI, cD, dG, dU, cQ, eC, eI, bN, aS, dZ, bS, aQ, bL, dH, cZ, cV, cN, cS, bK, bM, cX, dR, cR, dQ, dB, n1, n2]
  exact ⟨_, rfl, ho, x1⟩
theorem UH {n0 q p i : Nat} {X D Y : Nat -> Prop} {S : jL} {s : nG} {lv hv bv : ahB} {b : List UInt8} {w : ahA} (h : kP n0 w q p X D Y S s lv hv) (hi : i < s.man.leaves.length) (hb : Bs w bv b) (hl : b.length <= 1000000) :
 gT pg oE #[dP q, .int .i64 (i : Nat), bv] w (fun r w' => r = .bool (BR gU s.man i b) /\ gV w w' jN) := by
 refine Hp ?_
 obtain ⟨RR, hRR⟩ : ∃ RR : ahB -> ahA -> Prop, RR = fun r w' => r = .bool (BR gU s.man i b) /\ gV w w' jN := ⟨_, rfl⟩
 rw [<- hRR]
 have hm := h.man
 have hc1 := hm.cnt
 have hc2 := hm.max
 have h' := h.new (gV.dr w jN)
 obtain ⟨c0, c1, c2, c3, c4, c5, c6, c7, c8, c9⟩ := h'.cells
 obtain ⟨ba, bc, rfl, hbc⟩ := hb.len
 rw [acR] at hb hbc
 unfold EU uI
 have e1 : IntKind.i64.wrap ((s.man.part : Nat) : Int) = ((s.man.part : Nat) : Int) := fI (by omega) (by have := hm.part; omega)
 simp (disch := omega) only [eY, gN, dX, stepR_skip, fO, fW, fN, fZ, fX, fY, gQ, gG, eT, fT, fS, gE, fR, fL, fV, fQ, fU, gB, gC, fP, fC, gI, gA, fK, iR, iO, iP, iU, iM, iS, iQ, iT, iN, eP, Result.ok.injEq, Next.value.injEq, true_and, and_true, fI, fJ, gH, fM, gD, gR, acM, fE, fF, fG, fD, eZ, eU, fB, eX, eQ, eH, if_true, if_false, acK, acQ, acL, acN, acP, acO, acJ, acI, eA, dV, aB, dM, dO, cB, eB, eS, eE, dK, eF, fA, dJ, eJ, bP, dS, bE, dN, aL, aH, eL, aX, cI, eM, aE, eN, dE, aR, bF, eD, bB, bC, bJ, aO, aI, cF, fH, dY, cJ, cC, dA, cH, dT, bD, eK, bT, dF, bR, aT, bV, aC, bY, bQ, cA, bX, aY, aU, bA, bU, dL, cP, bO, aV, aJ, aM, bG, aF, dC, dW, aK, aN, aZ, aG, cY, aD, cL, bW, bH, aP, cM, bZ, aA, dD, cO, cU, cG, dI, cD, dG, dU, cQ, eC, eI, bN, aS, dZ, bS, aQ, bL, dH, cZ, cV, cN, cS, bK, bM, cX, dR, cR, dQ, dB, c2, c3, e1, acR]
 have hsz := hm.size
 refine (Ph (by omega) hm.part.1 hm.part.2 hc2 (by omega)).mono ?_
 rintro r w1 ⟨rfl, hw⟩
 rw [hw]; clear hw w1
 have n0' : ((0 : Int) == 0) = true := rfl
 obtain ⟨N, hN⟩ : ∃ N, N = Kq s.man.size s.man.part i := ⟨_, rfl⟩
 have hwb : BR gU s.man i b = (b.length == N && gU b == s.man.leaves.getD i []) := by rw [hN] <;> rfl
 rw [<- hN]
 have key : ∀ W, gV w W jN -> ∃ la off lc, lv = .slice (some ⟨la, off, none⟩) s.man.leaves.length lc /\ (gJ 49 (.pointer (some ⟨la, off + i * 32, none⟩))).run pg W = .ok (.value (.agg ((s.man.leaves.getD i []).map pG).toArray)) W := fun W x => by
  obtain ⟨a, c, hlv, hln, hh⟩ := JQ h.lv.1 x (jG _)
  obtain ⟨la, off, rfl, h2⟩ := hh (by omega)
  have hmem : s.man.leaves.getD i [] ∈ s.man.leaves := by
   rw [acU, acS hi]; exact aeX hi
  refine ⟨la, off, c, hlv, SE (by rw [acR, hm.len _ hmem]) fun j hj => ?_⟩
  rw [acR, hm.len _ hmem] at hj
  rw [afN, h2 _ (by rw [hln]; omega), TL hm.len hi hj]
 have hllen : (s.man.leaves.getD i []).length = 32 := hm.len _ (by rw [acU, acS hi]; exact aeX hi)
 by_cases hq : b.length = N
 rotate_left
 .have d1 : (((b.length : Nat) : Int) == ((N : Nat) : Int)) = false := by rw [beq_eq_false_iff_ne]; omega
  have d2 : (b.length == N) = false := by rw [beq_eq_false_iff_ne]; exact hq
  rw [d2, Bool.false_and] at hwb
  simp (disch := omega) only [eY, gN, dX, stepR_skip, fO, fW, fN, fZ, fX, fY, gQ, gG, eT, fT, fS, gE, fR, fL, fV, fQ, fU, gB, gC, fP, fC, gI, gA, fK, iR, iO, iP, iU, iM, iS, iQ, iT, iN, eP, Result.ok.injEq, Next.value.injEq, true_and, and_true, fI, fJ, gH, fM, gD, gR, acM, fE, fF, fG, fD, eZ, eU, fB, eX, eQ, eH, if_true, if_false, acK, acQ, acL, acN, acP, acO, acJ, acI, eA, dV, aB, dM, dO, cB, eB, eS, eE, dK, eF, fA, dJ, eJ, bP, dS, bE, dN, aL, aH, eL, aX, cI, eM, aE, eN, dE, aR, bF, eD, bB, bC, bJ, aO, aI, cF, fH, dY, cJ, cC, dA, cH, dT, bD, eK, bT, dF, bR, aT, bV, aC, bY, bQ, cA, bX, aY, aU, bA, bU, dL, cP, bO, aV, aJ, aM, bG, aF, dC, dW, aK, aN, aZ, aG, cY, aD, cL, bW, bH, aP, cM, bZ, aA, dD, cO, cU, cG, dI, cD, dG, dU, cQ, eC, eI, bN, aS, dZ, bS, aQ, bL, dH, cZ, cV, cN, cS, bK, bM, cX, dR, cR, dQ, dB, n0', d1]
  rw [hRR]
  exact ⟨by rw [hwb], (gV.dr w _).seq (gV.dr _ _)⟩
 have d1 : (((b.length : Nat) : Int) == ((N : Nat) : Int)) = true := by rw [beq_iff_eq]; omega
 have d2 : (b.length == N) = true := by rw [beq_iff_eq]; exact hq
 rw [d2, Bool.true_and] at hwb
 simp (disch := omega) only [eY, gN, dX, stepR_skip, fO, fW, fN, fZ, fX, fY, gQ, gG, eT, fT, fS, gE, fR, fL, fV, fQ, fU, gB, gC, fP, fC, gI, gA, fK, iR, iO, iP, iU, iM, iS, iQ, iT, iN, eP, Result.ok.injEq, Next.value.injEq, true_and, and_true, fI, fJ, gH, fM, gD, gR, acM, fE, fF, fG, fD, eZ, eU, fB, eX, eQ, eH, if_true, if_false, acK, acQ, acL, acN, acP, acO, acJ, acI, eA, dV, aB, dM, dO, cB, eB, eS, eE, dK, eF, fA, dJ, eJ, bP, dS, bE, dN, aL, aH, eL, aX, cI, eM, aE, eN, dE, aR, bF, eD, bB, bC, bJ, aO, aI, cF, fH, dY, cJ, cC, dA, cH, dT, bD, eK, bT, dF, bR, aT, bV, aC, bY, bQ, cA, bX, aY, aU, bA, bU, dL, cP, bO, aV, aJ, aM, bG, aF, dC, dW, aK, aN, aZ, aG, cY, aD, cL, bW, bH, aP, cM, bZ, aA, dD, cO, cU, cG, dI, cD, dG, dU, cQ, eC, eI, bN, aS, dZ, bS, aQ, bL, dH, cZ, cV, cN, cS, bK, bM, cX, dR, cR, dQ, dB, n0', d1]
 have xd2 : gV w (dr (dr w)) jN := (gV.dr w _).seq (gV.dr _ _)
 refine (Xy (l := b) (h.glob.ext xd2) (hb.ext xd2 (jG _)) (by omega)).mono ?_
 rintro r w2 ⟨rfl, x2⟩
 have x02 := xd2.seq x2
 obtain ⟨la, off, lc, hlv, ld2⟩ := key w2 x02
 obtain ⟨_, _, _, hlv', ldd⟩ := key _ xd2
 rw [hlv] at hlv'
 cases hlv'
 obtain ⟨a0, a1, a2, a3, a4, a5, a6, a7, a8, a9⟩ := (h.new x02).cells
 obtain ⟨b0, b1, b2, b3, b4, b5, b6, b7, b8, b9⟩ := (h.new xd2).cells
 rw [hlv] at a4 b4
 have hs := fun ox oy => Yf (ox := ox) (oy := oy) (a := gU b) (b := s.man.leaves.getD i []) (Aw _) hllen w2
 simp (disch := omega) only [eY, gN, dX, stepR_skip, fO, fW, fN, fZ, fX, fY, gQ, gG, eT, fT, fS, gE, fR, fL, fV, fQ, fU, gB, gC, fP, fC, gI, gA, fK, iR, iO, iP, iU, iM, iS, iQ, iT, iN, eP, Result.ok.injEq, Next.value.injEq, true_and, and_true, fI, fJ, gH, fM, gD, gR, acM, fE, fF, fG, fD, eZ, eU, fB, eX, eQ, eH, if_true, if_false, acK, acQ, acL, acN, acP, acO, acJ, acI, eA, dV, aB, dM, dO, cB, eB, eS, eE, dK, eF, fA, dJ, eJ, bP, dS, bE, dN, aL, aH, eL, aX, cI, eM, aE, eN, dE, aR, bF, eD, bB, bC, bJ, aO, aI, cF, fH, dY, cJ, cC, dA, cH, dT, bD, eK, bT, dF, bR, aT, bV, aC, bY, bQ, cA, bX, aY, aU, bA, bU, dL, cP, bO, aV, aJ, aM, bG, aF, dC, dW, aK, aN, aZ, aG, cY, aD, cL, bW, bH, aP, cM, bZ, aA, dD, cO, cU, cG, dI, cD, dG, dU, cQ, eC, eI, bN, aS, dZ, bS, aQ, bL, dH, cZ, cV, cN, cS, bK, bM, cX, dR, cR, dQ, dB, a4, b4, ld2, ldd, hs]
 rw [hRR]
 exact ⟨by rw [hwb], x02⟩
theorem Lh (L k i : Nat) (b : List UInt8) : (nW L k i b).length <= b.length := by
 unfold nW
 rw [adE, adB]; omega
theorem Pg {n0 q p : Nat} {X D Y : Nat -> Prop} {S : jL} {s : nG} {lv hv bv : ahB} {b : List UInt8} {w : ahA} (h : kP n0 w q p X D Y S s lv hv) (hb : Bs w bv b) (hl : b.length <= 1000000) :
 gT pg mM #[dP q, bv] w (fun r w' => ∃ ob, r = .slice (some ⟨ob, 0, none⟩) s.man.leaves.length s.man.leaves.length /\ w.heap.size <= ob /\ jI w' ob ((iV gU s.man b).map Value.bool) /\ gV w w' jN) := by
 refine Gn ?_
 obtain ⟨RR, hRR⟩ : ∃ RR : ahB -> ahA -> Prop, RR = fun r w' => ∃ ob, r = .slice (some ⟨ob, 0, none⟩) s.man.leaves.length s.man.leaves.length /\ w.heap.size <= ob /\ jI w' ob ((iV gU s.man b).map Value.bool) /\ gV w w' jN := ⟨_, rfl⟩
 rw [<- hRR]
 have hm := h.man
 have hc1 := hm.cnt
 have hc2 := hm.max
 have hsz := hm.size
 obtain ⟨c0, c1, c2, c3, c4, c5, c6, c7, c8, c9⟩ := h.cells
 obtain ⟨la, lc, hlv, _⟩ := h.lv.1
 obtain ⟨ba, bc, rfl, hbc⟩ := hb.len
 rw [acR] at hb hbc ⊢
 obtain ⟨n, hn⟩ : ∃ n, n = s.man.leaves.length := ⟨_, rfl⟩
 rw [hlv] at c4
 rw [<- hn] at c4 hc1
 unfold Dp tC tG
 simp (disch := omega) only [eY, gN, dX, stepR_skip, fO, fW, fN, fZ, fX, fY, gQ, gG, eT, fT, fS, gE, fR, fL, fV, fQ, fU, gB, gC, fP, fC, gI, gA, fK, iR, iO, iP, iU, iM, iS, iQ, iT, iN, eP, Result.ok.injEq, Next.value.injEq, true_and, and_true, fI, fJ, gH, fM, gD, gR, acM, fE, fF, fG, fD, eZ, eU, fB, eX, eQ, eH, if_true, if_false, acK, acQ, acL, acN, acP, acO, acJ, acI, eA, dV, aB, dM, dO, cB, eB, eS, eE, dK, eF, fA, dJ, eJ, bP, dS, bE, dN, aL, aH, eL, aX, cI, eM, aE, eN, dE, aR, bF, eD, bB, bC, bJ, aO, aI, cF, fH, dY, cJ, cC, dA, cH, dT, bD, eK, bT, dF, bR, aT, bV, aC, bY, bQ, cA, bX, aY, aU, bA, bU, dL, cP, bO, aV, aJ, aM, bG, aF, dC, dW, aK, aN, aZ, aG, cY, aD, cL, bW, bH, aP, cM, bZ, aA, dD, cO, cU, cG, dI, cD, dG, dU, cQ, eC, eI, bN, aS, dZ, bS, aQ, bL, dH, cZ, cV, cN, cS, bK, bM, cX, dR, cR, dQ, dB, c4]
 refine Lt (by omega) (by omega) fun w1 o1 x1 s1 => ?_
 rw [acM] at o1 ⊢
 obtain ⟨ob, hob⟩ : ∃ ob, ob = w.heap.size := ⟨_, rfl⟩
 rw [<- hob] at o1 ⊢
 unfold tD tH tI sY sZ
 simp (disch := omega) only [eY, gN, dX, stepR_skip, fO, fW, fN, fZ, fX, fY, gQ, gG, eT, fT, fS, gE, fR, fL, fV, fQ, fU, gB, gC, fP, fC, gI, gA, fK, iR, iO, iP, iU, iM, iS, iQ, iT, iN, eP, Result.ok.injEq, Next.value.injEq, true_and, and_true, fI, fJ, gH, fM, gD, gR, acM, fE, fF, fG, fD, eZ, eU, fB, eX, eQ, eH, if_true, if_false, acK, acQ, acL, acN, acP, acO, acJ, acI, eA, dV, aB, dM, dO, cB, eB, eS, eE, dK, eF, fA, dJ, eJ, bP, dS, bE, dN, aL, aH, eL, aX, cI, eM, aE, eN, dE, aR, bF, eD, bB, bC, bJ, aO, aI, cF, fH, dY, cJ, cC, dA, cH, dT, bD, eK, bT, dF, bR, aT, bV, aC, bY, bQ, cA, bX, aY, aU, bA, bU, dL, cP, bO, aV, aJ, aM, bG, aF, dC, dW, aK, aN, aZ, aG, cY, aD, cL, bW, bH, aP, cM, bZ, aA, dD, cO, cU, cG, dI, cD, dG, dU, cQ, eC, eI, bN, aS, dZ, bS, aQ, bL, dH, cZ, cV, cN, cS, bK, bM, cX, dR, cR, dQ, dB]
 refine kJ.rule (fun m (t : ahB) w' => ∃ i : Nat, m = n - i /\ i <= n /\ t = .int .i64 (i : Nat) /\ jI w' ob (((List.range i).map fun j => Value.bool (wholeAt gU s.man b j)) ++ List.replicate (n - i) (.bool false)) /\ gV w w' jN) n ⟨0, rfl, by omega, rfl, o1, x1⟩ ?_
 clear o1
 rintro m t w2 ⟨i, rfl, hi, rfl, o2, x2⟩
 unfold pK
 by_cases hlt : i < n
 .have d1 : decide ((i : Int) < (n : Int)) = true := by simp; omega
  have x2d : gV w (dr w2) jN := x2.seq (gV.dr _ _)
  obtain ⟨a0, a1, a2, a3, a4, a5, a6, a7, a8, a9⟩ := (h.new x2d).cells
  have e1 : IntKind.i64.wrap ((s.man.part : Nat) : Int) = ((s.man.part : Nat) : Int) := fI (by omega) (by have := hm.part; omega)
  simp (disch := omega) only [eY, gN, dX, stepR_skip, fO, fW, fN, fZ, fX, fY, gQ, gG, eT, fT, fS, gE, fR, fL, fV, fQ, fU, gB, gC, fP, fC, gI, gA, fK, iR, iO, iP, iU, iM, iS, iQ, iT, iN, eP, Result.ok.injEq, Next.value.injEq, true_and, and_true, fI, fJ, gH, fM, gD, gR, acM, fE, fF, fG, fD, eZ, eU, fB, eX, eQ, eH, if_true, if_false, acK, acQ, acL, acN, acP, acO, acJ, acI, eA, dV, aB, dM, dO, cB, eB, eS, eE, dK, eF, fA, dJ, eJ, bP, dS, bE, dN, aL, aH, eL, aX, cI, eM, aE, eN, dE, aR, bF, eD, bB, bC, bJ, aO, aI, cF, fH, dY, cJ, cC, dA, cH, dT, bD, eK, bT, dF, bR, aT, bV, aC, bY, bQ, cA, bX, aY, aU, bA, bU, dL, cP, bO, aV, aJ, aM, bG, aF, dC, dW, aK, aN, aZ, aG, cY, aD, cL, bW, bH, aP, cM, bZ, aA, dD, cO, cU, cG, dI, cD, dG, dU, cQ, eC, eI, bN, aS, dZ, bS, aQ, bL, dH, cZ, cV, cN, cS, bK, bM, cX, dR, cR, dQ, dB, d1, a2, a3, e1]
  refine (Ph (by omega) hm.part.1 hm.part.2 hc2 (by omega)).mono ?_
  rintro r w3 ⟨rfl, hw⟩
  rw [hw]; clear hw w3
  obtain ⟨P, hP⟩ : ∃ P, P = s.man.part * i := ⟨_, rfl⟩
  obtain ⟨N, hN⟩ : ∃ N, N = Kq s.man.size s.man.part i := ⟨_, rfl⟩
  have hPl : P < s.man.size := hP ▸ (Av (by have := hm.part; omega)).1 (by omega)
  have hNl : N <= s.man.part := by rw [hN]; unfold Kq; omega
  have hpm := hm.part
  rw [<- hP, <- hN]
  have n1 : ((0 : Int) == 0) = true := rfl
  have e2 : (P : Int) + (N : Int) = ((P + N : Nat) : Int) := by omega
  have hwa : wholeAt gU s.man b i = (decide (P + N <= b.length) && BR gU s.man i (nW s.man.size s.man.part i b)) := by rw [hP, hN] <;> rfl
  have o3 := kR o2
  have oset : ∀ (z : Bool), z = wholeAt gU s.man b i -> ((((List.range i).map fun j => Value.bool (wholeAt gU s.man b j)) ++ List.replicate (n - i) (Value.bool false)).set i (.bool z)) = ((List.range (i + 1)).map fun j => Value.bool (wholeAt gU s.man b j)) ++ List.replicate (n - (i + 1)) (.bool false) := fun z hz => by
   rw [aeU _ _ (by simp), acR, agK, agV, show n - i = (n - (i + 1)) + 1 from by omega, List.replicate_succ, adA, agX, aeI, adM, hz]
   rfl
  by_cases hfit : P + N <= b.length
  .have d2 : decide (((P + N : Nat) : Int) <= (b.length : Int)) = true := by simp only [decide_eq_true_eq]; omega
   rw [decide_eq_true hfit, Bool.true_and] at hwa
   simp (disch := omega) only [eY, gN, dX, stepR_skip, fO, fW, fN, fZ, fX, fY, gQ, gG, eT, fT, fS, gE, fR, fL, fV, fQ, fU, gB, gC, fP, fC, gI, gA, fK, iR, iO, iP, iU, iM, iS, iQ, iT, iN, eP, Result.ok.injEq, Next.value.injEq, true_and, and_true, fI, fJ, gH, fM, gD, gR, acM, fE, fF, fG, fD, eZ, eU, fB, eX, eQ, eH, if_true, if_false, acK, acQ, acL, acN, acP, acO, acJ, acI, eA, dV, aB, dM, dO, cB, eB, eS, eE, dK, eF, fA, dJ, eJ, bP, dS, bE, dN, aL, aH, eL, aX, cI, eM, aE, eN, dE, aR, bF, eD, bB, bC, bJ, aO, aI, cF, fH, dY, cJ, cC, dA, cH, dT, bD, eK, bT, dF, bR, aT, bV, aC, bY, bQ, cA, bX, aY, aU, bA, bU, dL, cP, bO, aV, aJ, aM, bG, aF, dC, dW, aK, aN, aZ, aG, cY, aD, cL, bW, bH, aP, cM, bZ, aA, dD, cO, cU, cG, dI, cD, dG, dU, cQ, eC, eI, bN, aS, dZ, bS, aQ, bL, dH, cZ, cV, cN, cS, bK, bM, cX, dR, cR, dQ, dB, n1, e2, d2]
   have hbd : Bs (dr w2) (.slice (kA ba bc P 1) (P + N - P) (bc - P)) (nW s.man.size s.man.part i b) := by
    have := Sl.mid (hb.ext x2d (jG _)) (i := P) (j := P + N) (by omega) hfit
    rw [<- afM, <- agB, aeR] at this
    rw [aeR]
    unfold nW
    rw [<- hP, <- hN]
    exact this
   refine (UH (h.new x2d) (by omega) hbd (by have := Lh s.man.size s.man.part i b; omega)).mono ?_
   rintro r w4 ⟨rfl, x4⟩
   refine Dc (o3.ext x4 (fun h => h)) rfl (by rw [acT, acR, agK, adI]; omega) fun w5 o5 x5 s5 => ?_
   rw [oset _ hwa.symm] at o5
   exact ⟨n - (i + 1), by omega, i + 1, rfl, by omega, rfl, o5, (x2d.seq x4).trans x5 fun y hy h => by omega⟩
  .have d2 : decide (((P + N : Nat) : Int) <= (b.length : Int)) = false := by simp only [decide_eq_false_iff_not]; omega
   rw [decide_eq_false hfit, Bool.false_and] at hwa
   simp (disch := omega) only [eY, gN, dX, stepR_skip, fO, fW, fN, fZ, fX, fY, gQ, gG, eT, fT, fS, gE, fR, fL, fV, fQ, fU, gB, gC, fP, fC, gI, gA, fK, iR, iO, iP, iU, iM, iS, iQ, iT, iN, eP, Result.ok.injEq, Next.value.injEq, true_and, and_true, fI, fJ, gH, fM, gD, gR, acM, fE, fF, fG, fD, eZ, eU, fB, eX, eQ, eH, if_true, if_false, acK, acQ, acL, acN, acP, acO, acJ, acI, eA, dV, aB, dM, dO, cB, eB, eS, eE, dK, eF, fA, dJ, eJ, bP, dS, bE, dN, aL, aH, eL, aX, cI, eM, aE, eN, dE, aR, bF, eD, bB, bC, bJ, aO, aI, cF, fH, dY, cJ, cC, dA, cH, dT, bD, eK, bT, dF, bR, aT, bV, aC, bY, bQ, cA, bX, aY, aU, bA, bU, dL, cP, bO, aV, aJ, aM, bG, aF, dC, dW, aK, aN, aZ, aG, cY, aD, cL, bW, bH, aP, cM, bZ, aA, dD, cO, cU, cG, dI, cD, dG, dU, cQ, eC, eI, bN, aS, dZ, bS, aQ, bL, dH, cZ, cV, cN, cS, bK, bM, cX, dR, cR, dQ, dB, n1, e2, d2]
   refine Dc o3 rfl (by rw [acT, acR, agK, adI]; omega) fun w5 o5 x5 s5 => ?_
   rw [oset _ hwa.symm] at o5
   exact ⟨n - (i + 1), by omega, i + 1, rfl, by omega, rfl, o5, x2d.trans x5 fun y hy h => by omega⟩
 .have d1 : decide ((i : Int) < (n : Int)) = false := by simp; omega
  obtain rfl : i = n := by omega
  unfold pH
  simp (disch := omega) only [eY, gN, dX, stepR_skip, fO, fW, fN, fZ, fX, fY, gQ, gG, eT, fT, fS, gE, fR, fL, fV, fQ, fU, gB, gC, fP, fC, gI, gA, fK, iR, iO, iP, iU, iM, iS, iQ, iT, iN, eP, Result.ok.injEq, Next.value.injEq, true_and, and_true, fI, fJ, gH, fM, gD, gR, acM, fE, fF, fG, fD, eZ, eU, fB, eX, eQ, eH, if_true, if_false, acK, acQ, acL, acN, acP, acO, acJ, acI, eA, dV, aB, dM, dO, cB, eB, eS, eE, dK, eF, fA, dJ, eJ, bP, dS, bE, dN, aL, aH, eL, aX, cI, eM, aE, eN, dE, aR, bF, eD, bB, bC, bJ, aO, aI, cF, fH, dY, cJ, cC, dA, cH, dT, bD, eK, bT, dF, bR, aT, bV, aC, bY, bQ, cA, bX, aY, aU, bA, bU, dL, cP, bO, aV, aJ, aM, bG, aF, dC, dW, aK, aN, aZ, aG, cY, aD, cL, bW, bH, aP, cM, bZ, aA, dD, cO, cU, cG, dI, cD, dG, dU, cQ, eC, eI, bN, aS, dZ, bS, aQ, bL, dH, cZ, cV, cN, cS, bK, bM, cX, dR, cR, dQ, dB, d1]
  rw [hRR]
  refine ⟨ob, by rw [<- hn], by omega, ?_, x2⟩
  rw [agV, List.replicate_zero, aeJ] at o2
  unfold iV
  rw [<- hn, List.map_map]
  exact o2
theorem Uz {n : ByteArray} (h : n.size <= 27) (t : TypeId) (ox oy : Operand) (w : ahA) : (gO .add t ox oy (.string n) (.string ⟨#[46, 108, 111, 103]⟩)).run pg w = .ok (.value (.string (jH n))) w := Xs n _ (by show ((n.size + 4 : Nat) : Int) <= _; omega)
theorem O6 {n : ByteArray} (h : n.size <= 27) (t : TypeId) (ox oy : Operand) (w : ahA) : (gO .add t ox oy (.string n) (.string ⟨#[46, 112, 97, 114, 116]⟩)).run pg w = .ok (.value (.string (gZ n))) w := Xs n _ (by show ((n.size + 5 : Nat) : Int) <= _; omega)
theorem SB {n0 q p k v : Nat} {X D Y : Nat -> Prop} {S : jL} {s : nG} {lv hv : ahB} {w : ahA} (h : kP n0 w q p X D Y S s lv hv) (hB : Bg 1 S) (hk : k = 1 ∨ k = 2) (hv' : v < 2 ^ 64) (hlg : s.log + 13 <= 1000000000) :
 gT pg nM #[dP q, WV k v] w (fun r w' => r = .int .i64 (jQ iA S s k v).2.2 /\ iW n0 w q p X D Y (jQ iA S s k v).1 (jQ iA S s k v).2.1 w') := by
 refine Gt ?_
 obtain ⟨RR, hRR⟩ : ∃ RR : ahB -> ahA -> Prop, RR = fun r w' => r = .int .i64 (jQ iA S s k v).2.2 /\ iW n0 w q p X D Y (jQ iA S s k v).1 (jQ iA S s k v).2.1 w' := ⟨_, rfl⟩
 rw [<- hRR]
 unfold DC tB tM
 refine oM fun w1 o1 x1 s1 => ?_
 have o1 : jI w1 w.heap.size (BN (k, v)) := o1
 have l1 := tS (off := 0) o1 (by simp)
 have l1 : (gJ 77 (.pointer (some ⟨w.heap.size, 0, none⟩))).run pg w1 = .ok (.value (WV k v)) w1 := l1
 simp (disch := omega) only [eY, gN, dX, stepR_skip, fO, fW, fN, fZ, fX, fY, gQ, gG, eT, fT, fS, gE, fR, fL, fV, fQ, fU, gB, gC, fP, fC, gI, gA, fK, iR, iO, iP, iU, iM, iS, iQ, iT, iN, eP, Result.ok.injEq, Next.value.injEq, true_and, and_true, fI, fJ, gH, fM, gD, gR, acM, fE, fF, fG, fD, eZ, eU, fB, eX, eQ, eH, if_true, if_false, acK, acQ, acL, acN, acP, acO, acJ, acI, eA, dV, aB, dM, dO, cB, eB, eS, eE, dK, eF, fA, dJ, eJ, bP, dS, bE, dN, aL, aH, eL, aX, cI, eM, aE, eN, dE, aR, bF, eD, bB, bC, bJ, aO, aI, cF, fH, dY, cJ, cC, dA, cH, dT, bD, eK, bT, dF, bR, aT, bV, aC, bY, bQ, cA, bX, aY, aU, bA, bU, dL, cP, bO, aV, aJ, aM, bG, aF, dC, dW, aK, aN, aZ, aG, cY, aD, cL, bW, bH, aP, cM, bZ, aA, dD, cO, cU, cG, dI, cD, dG, dU, cQ, eC, eI, bN, aS, dZ, bS, aQ, bL, dH, cZ, cV, cN, cS, bK, bM, cX, dR, cR, dQ, dB, l1]
 refine (Sy (h.glob.ext x1) (by omega) hv').mono ?_
 rintro r w2 ⟨hr, x2⟩
 rw [if_pos hk] at hr
 obtain ⟨b, rfl, hb⟩ := hr
 have h13 := nJ iA k v
 have h2 := h.new (x1.seq x2)
 have h2d := h2.new (gV.dr w2 jN)
 obtain ⟨a0, a1, a2, a3, a4, a5, a6, a7, a8, a9⟩ := h2d.cells
 have n1 : ((0 : Int) == 0) = true := rfl
 have hbd : Bs (dr w2) b (rT iA k v) := (show Bs w2 b (rT iA k v) from hb.sl).ext (gV.dr w2 jN) (jG _)
 obtain ⟨ba, bc, rfl, _⟩ := hbd.len
 rw [acR] at hbd hb ⊢
 have ct := Uz h.nl
 simp (disch := omega) only [eY, gN, dX, stepR_skip, fO, fW, fN, fZ, fX, fY, gQ, gG, eT, fT, fS, gE, fR, fL, fV, fQ, fU, gB, gC, fP, fC, gI, gA, fK, iR, iO, iP, iU, iM, iS, iQ, iT, iN, eP, Result.ok.injEq, Next.value.injEq, true_and, and_true, fI, fJ, gH, fM, gD, gR, acM, fE, fF, fG, fD, eZ, eU, fB, eX, eQ, eH, if_true, if_false, acK, acQ, acL, acN, acP, acO, acJ, acI, eA, dV, aB, dM, dO, cB, eB, eS, eE, dK, eF, fA, dJ, eJ, bP, dS, bE, dN, aL, aH, eL, aX, cI, eM, aE, eN, dE, aR, bF, eD, bB, bC, bJ, aO, aI, cF, fH, dY, cJ, cC, dA, cH, dT, bD, eK, bT, dF, bR, aT, bV, aC, bY, bQ, cA, bX, aY, aU, bA, bU, dL, cP, bO, aV, aJ, aM, bG, aF, dC, dW, aK, aN, aZ, aG, cY, aD, cL, bW, bH, aP, cM, bZ, aA, dD, cO, cU, cG, dI, cD, dG, dU, cQ, eC, eI, bN, aS, dZ, bS, aQ, bL, dH, cZ, cV, cN, cS, bK, bM, cX, dR, cR, dQ, dB, n1, a0, a1, a7, ct]
 have x02 : gV w (dr w2) (fun b => X b ∨ Y b) := ((x1.seq x2).seq (gV.dr _ _)).mono fun _ _ h => h.elim
 refine (MR (name := jH s.nm) (a := (s.log : Nat)) h2d.dsk hB.bd hbd (by omega) (by omega) (by omega)).mono ?_
 rintro r w3 ⟨rfl, hp⟩
 obtain ⟨X', D', h3, hX, hD, x3⟩ := h2d.disk hp
 have hrec : jQ iA S s k v = if (Da S (jH s.nm) s.log (rT iA k v)).2 = 0 then ((Da S (jH s.nm) s.log (rT iA k v)).1, { s with log := s.log + 13 }, 0) else ((Da S (jH s.nm) s.log (rT iA k v)).1, s, (Da S (jH s.nm) s.log (rT iA k v)).2) := rfl
 generalize Da S (jH s.nm) s.log (rT iA k v) = W at *
 obtain ⟨S', e⟩ := W
 simp only at h3 hrec
 unfold tO tA pI
 have x3' : gV (dr w2) w3 (fun b => X b ∨ Y b) := x3.mono fun _ _ h => .inl h
 by_cases he : e = 0
 .subst he
  rw [if_pos rfl] at hrec
  obtain ⟨c0, c1, c2, c3, c4, c5, c6, c7, c8, c9⟩ := h3.cells
  have e1 : (s.log : Int) + (13 : Int) = ((s.log + 13 : Nat) : Int) := by omega
  rw [h13] at *
  simp (disch := omega) only [eY, gN, dX, stepR_skip, fO, fW, fN, fZ, fX, fY, gQ, gG, eT, fT, fS, gE, fR, fL, fV, fQ, fU, gB, gC, fP, fC, gI, gA, fK, iR, iO, iP, iU, iM, iS, iQ, iT, iN, eP, Result.ok.injEq, Next.value.injEq, true_and, and_true, fI, fJ, gH, fM, gD, gR, acM, fE, fF, fG, fD, eZ, eU, fB, eX, eQ, eH, if_true, if_false, acK, acQ, acL, acN, acP, acO, acJ, acI, eA, dV, aB, dM, dO, cB, eB, eS, eE, dK, eF, fA, dJ, eJ, bP, dS, bE, dN, aL, aH, eL, aX, cI, eM, aE, eN, dE, aR, bF, eD, bB, bC, bJ, aO, aI, cF, fH, dY, cJ, cC, dA, cH, dT, bD, eK, bT, dF, bR, aT, bV, aC, bY, bQ, cA, bX, aY, aU, bA, bU, dL, cP, bO, aV, aJ, aM, bG, aF, dC, dW, aK, aN, aZ, aG, cY, aD, cL, bW, bH, aP, cM, bZ, aA, dD, cO, cU, cG, dI, cD, dG, dU, cQ, eC, eI, bN, aS, dZ, bS, aQ, bL, dH, cZ, cV, cN, cS, bK, bM, cX, dR, cR, dQ, dB, n1, c7, e1]
  refine HD h3.own rfl (by simp) fun w4 o4 x4 s4 => ?_
  have h4 := h3.set (s' := { s with log := s.log + 13 }) x4 o4 rfl rfl rfl h.ep hlg
  rw [hRR, hrec]
  exact ⟨rfl, iW.step x02 (fun _ h => .inl h) (fun _ h => h) (fun _ h => .inl h) ⟨X', D', Y, _, _, h4, hX, hD, fun _ h => .inl h, x3'.seq (x4.mono fun y _ hy => .inr (hy ▸ h.yq))⟩⟩
 .rw [if_neg he] at hrec
  have n2 : (e == 0) = false := beq_eq_false_iff_ne.2 he
  simp (disch := omega) only [eY, gN, dX, stepR_skip, fO, fW, fN, fZ, fX, fY, gQ, gG, eT, fT, fS, gE, fR, fL, fV, fQ, fU, gB, gC, fP, fC, gI, gA, fK, iR, iO, iP, iU, iM, iS, iQ, iT, iN, eP, Result.ok.injEq, Next.value.injEq, true_and, and_true, fI, fJ, gH, fM, gD, gR, acM, fE, fF, fG, fD, eZ, eU, fB, eX, eQ, eH, if_true, if_false, acK, acQ, acL, acN, acP, acO, acJ, acI, eA, dV, aB, dM, dO, cB, eB, eS, eE, dK, eF, fA, dJ, eJ, bP, dS, bE, dN, aL, aH, eL, aX, cI, eM, aE, eN, dE, aR, bF, eD, bB, bC, bJ, aO, aI, cF, fH, dY, cJ, cC, dA, cH, dT, bD, eK, bT, dF, bR, aT, bV, aC, bY, bQ, cA, bX, aY, aU, bA, bU, dL, cP, bO, aV, aJ, aM, bG, aF, dC, dW, aK, aN, aZ, aG, cY, aD, cL, bW, bH, aP, cM, bZ, aA, dD, cO, cU, cG, dI, cD, dG, dU, cQ, eC, eI, bN, aS, dZ, bS, aQ, bL, dH, cZ, cV, cN, cS, bK, bM, cX, dR, cR, dQ, dB, n1, n2]
  rw [hRR, hrec]
  exact ⟨rfl, iW.step x02 (fun _ h => .inl h) (fun _ h => h) (fun _ h => .inl h) ⟨X', D', Y, _, _, h3, hX, hD, fun _ h => .inl h, x3'⟩⟩
theorem Xl {n0 q p : Nat} {X D Y : Nat -> Prop} {S : jL} {s : nG} {lv hv : ahB} {w : ahA} (h : kP n0 w q p X D Y S s lv hv) (hB : Bg 2 S) :
 gT pg pV #[dP q] w (fun r w' => ∃ bv, r = .tuple #[bv, .int .i64 (kH S s).2.2] /\ Bs w' bv (kH S s).2.1 /\ (∀ b, (X b ∨ Y b) -> ¬ vO bv (fun y => y = b)) /\ iW n0 w q p X D Y (kH S s).1 s w') := by
 refine GB ?_
 obtain ⟨RR, hRR⟩ : ∃ RR : ahB -> ahA -> Prop, RR = fun r w' => ∃ bv, r = .tuple #[bv, .int .i64 (kH S s).2.2] /\ Bs w' bv (kH S s).2.1 /\ (∀ b, (X b ∨ Y b) -> ¬ vO bv (fun y => y = b)) /\ iW n0 w q p X D Y (kH S s).1 s w' := ⟨_, rfl⟩
 rw [<- hRR]
 obtain ⟨c0, c1, c2, c3, c4, c5, c6, c7, c8, c9⟩ := h.cells
 have ct := O6 h.nl
 unfold Ds tP tK
 simp (disch := omega) only [eY, gN, dX, stepR_skip, fO, fW, fN, fZ, fX, fY, gQ, gG, eT, fT, fS, gE, fR, fL, fV, fQ, fU, gB, gC, fP, fC, gI, gA, fK, iR, iO, iP, iU, iM, iS, iQ, iT, iN, eP, Result.ok.injEq, Next.value.injEq, true_and, and_true, fI, fJ, gH, fM, gD, gR, acM, fE, fF, fG, fD, eZ, eU, fB, eX, eQ, eH, if_true, if_false, acK, acQ, acL, acN, acP, acO, acJ, acI, eA, dV, aB, dM, dO, cB, eB, eS, eE, dK, eF, fA, dJ, eJ, bP, dS, bE, dN, aL, aH, eL, aX, cI, eM, aE, eN, dE, aR, bF, eD, bB, bC, bJ, aO, aI, cF, fH, dY, cJ, cC, dA, cH, dT, bD, eK, bT, dF, bR, aT, bV, aC, bY, bQ, cA, bX, aY, aU, bA, bU, dL, cP, bO, aV, aJ, aM, bG, aF, dC, dW, aK, aN, aZ, aG, cY, aD, cL, bW, bH, aP, cM, bZ, aA, dD, cO, cU, cG, dI, cD, dG, dU, cQ, eC, eI, bN, aS, dZ, bS, aQ, bL, dH, cZ, cV, cN, cS, bK, bM, cX, dR, cR, dQ, dB, c1, ct]
 refine (Pv (n := gZ s.nm) h.dsk (hB.le (by omega)) c0).mono ?_
 rintro r w1 ⟨v, rfl, ho, x1⟩
 have h1 := h.new x1
 obtain ⟨rb, hrb⟩ : ∃ rb, rb = jA S (gZ s.nm) := ⟨_, rfl⟩
 rw [<- hrb] at ho ⊢
 obtain ⟨b, th, e⟩ := rb
 simp only at ho ⊢
 have hno : ∀ b, (X b ∨ Y b) -> ¬ vO v (fun y => y = b) := fun y hy hi => by
  have hlt := kP.lt h y hy
  rcases ho.2 with ⟨rfl, _⟩ | ⟨bb, cc, rest, rfl, g2, _⟩
  .exact hi
  .unfold vO at hi
   split at hi
   .rename_i e
    simp only [Value.slice.injEq, adT] at e
    obtain ⟨rfl, _⟩ := e
    have hi : bb = y := hi
    omega
   .exact hi
 have hnn : ∀ y : Nat, (X y ∨ Y y) -> ¬ vO (.slice none 0 0) (fun z => z = y) := fun y _ h => h
 have hf : kH S s = if e ≠ 0 then (S, [], e) else if s.man.size < b.length then (if (Vv S (gZ s.nm)).2 ≠ 0 then ((Vv S (gZ s.nm)).1, [], (Vv S (gZ s.nm)).2) else ((Da (Vv S (gZ s.nm)).1 (gZ s.nm) 0 (List.replicate s.man.size 0)).1, [], (Da (Vv S (gZ s.nm)).1 (gZ s.nm) 0 (List.replicate s.man.size 0)).2))
     else if b.length < s.man.size ∨ th = false then ((Da S (gZ s.nm) b.length (List.replicate (s.man.size - b.length) 0)).1, b, (Da S (gZ s.nm) b.length (List.replicate (s.man.size - b.length) 0)).2) else (S, b, 0) := by
  unfold kH
  rw [<- hrb]
 have hsz := h.man.size
 by_cases he : e = 0
 rotate_left
 .have n1 : (e != 0) = true := bne_iff_ne.2 he
  rw [if_pos he] at hf
  simp (disch := omega) only [eY, gN, dX, stepR_skip, fO, fW, fN, fZ, fX, fY, gQ, gG, eT, fT, fS, gE, fR, fL, fV, fQ, fU, gB, gC, fP, fC, gI, gA, fK, iR, iO, iP, iU, iM, iS, iQ, iT, iN, eP, Result.ok.injEq, Next.value.injEq, true_and, and_true, fI, fJ, gH, fM, gD, gR, acM, fE, fF, fG, fD, eZ, eU, fB, eX, eQ, eH, if_true, if_false, acK, acQ, acL, acN, acP, acO, acJ, acI, eA, dV, aB, dM, dO, cB, eB, eS, eE, dK, eF, fA, dJ, eJ, bP, dS, bE, dN, aL, aH, eL, aX, cI, eM, aE, eN, dE, aR, bF, eD, bB, bC, bJ, aO, aI, cF, fH, dY, cJ, cC, dA, cH, dT, bD, eK, bT, dF, bR, aT, bV, aC, bY, bQ, cA, bX, aY, aU, bA, bU, dL, cP, bO, aV, aJ, aM, bG, aF, dC, dW, aK, aN, aZ, aG, cY, aD, cL, bW, bH, aP, cM, bZ, aA, dD, cO, cU, cG, dI, cD, dG, dU, cQ, eC, eI, bN, aS, dZ, bS, aQ, bL, dH, cZ, cV, cN, cS, bK, bM, cX, dR, cR, dQ, dB, n1]
  rw [hRR, hf]
  exact ⟨_, rfl, Sl.nil _, hnn, iW.step (x1.mono fun _ _ h => h.elim) (fun _ h => .inl h) (fun _ h => h) (fun _ h => .inl h) (iW.refl h1)⟩
 subst he
 rw [if_neg (by decide)] at hf
 have n1 : ((0 : Int) != 0) = false := rfl
 have hbs : Bs w1 v b := ho.sl
 obtain ⟨va, vc, rfl, _⟩ := hbs.len
 rw [acR] at hbs hno ho
 have hbl : b.length <= 1000000000 := by
  unfold jA at hrb
  split at hrb
  .cases hrb
  .cases hg : jC (gZ s.nm) S.seen with
   | none => rw [hg] at hrb; cases hrb; simp
   | some b' => rw [hg] at hrb; cases hrb; exact hB.file hg
 have tail : ∀ {w2 : ahA} {X2 D2 : Nat -> Prop} {S2 : jL} {b2 : List UInt8} {a2 : Option Addr} {c2 : Nat} {th2 : Bool}, kP n0 w2 q p X2 D2 Y S2 s lv hv -> Bg 1 S2 -> Bs w2 (.slice a2 b2.length c2) b2 -> (∀ y, (X2 y ∨ Y y) -> ¬ vO (.slice a2 b2.length c2) (fun z => z = y)) -> b2.length <= s.man.size →
     (∀ w3 e3 S3, (if b2.length < s.man.size ∨ th2 = false then ((Da S2 (gZ s.nm) b2.length (List.replicate (s.man.size - b2.length) 0)).1, (Da S2 (gZ s.nm) b2.length (List.replicate (s.man.size - b2.length) 0)).2) else (S2, 0)) = (S3, e3) -> Bs w3 (.slice a2 b2.length c2) b2 -> iW n0 w2 q p X2 D2 Y S3 s w3 -> RR (.tuple #[.slice a2 b2.length c2, .int .i64 e3]) w3) →
     mX RR (dP q) (.slice a2 b2.length c2) (.bool th2) w2 := by
  intro w2 X2 D2 S2 b2 a2 c2 th2 h2 hB2 hb2 hn2 hle hK
  obtain ⟨d0, d1, d2, d3, d4, d5, d6, d7, d8, d9⟩ := h2.cells
  have e1 : IntKind.i64.wrap ((s.man.size : Nat) : Int) = ((s.man.size : Nat) : Int) := fI (by omega) (by omega)
  have e2 : (s.man.size : Int) - (b2.length : Int) = ((s.man.size - b2.length : Nat) : Int) := by omega
  have fin : ∀ {w3 : ahA}, (b2.length < s.man.size ∨ th2 = false) -> jI w3 (dr w2).heap.size (List.replicate (s.man.size - b2.length) (.int .u8 0)) -> gV (dr w2) w3 jN -> gT pg kY #[dP p, .string (gZ s.nm), .int .i64 (b2.length : Nat), .slice (some ⟨(dr w2).heap.size, 0, none⟩) (s.man.size - b2.length) (s.man.size - b2.length)] w3 fun t74 w4 => RR (.tuple #[.slice a2 b2.length c2, t74]) w4 := by
   intro w3 hc o3 x3
   rw [if_pos hc] at hK
   have x23 : gV w2 w3 jN := (gV.dr _ _).seq x3
   have h3 := h2.new x23
   have hbz : Bs w3 (.slice (some ⟨(dr w2).heap.size, 0, none⟩) (s.man.size - b2.length) (s.man.size - b2.length)) (List.replicate (s.man.size - b2.length) 0) := by
    refine jI.whole (l := List.replicate (s.man.size - b2.length) (0 : UInt8)) (c := s.man.size - b2.length) ?_ ?_ |> fun hh => by rw [adI] at hh; exact hh
    .rw [Ur]; exact o3
    .simp
   have hdw := MR (name := gZ s.nm) (a := (b2.length : Nat)) h3.dsk hB2.bd hbz (by rw [adI]; omega) (by omega) (by omega)
   refine hdw.mono ?_
   rintro r w4 ⟨rfl, hp⟩
   obtain ⟨X', D', h4, hX, hD, x4⟩ := h3.disk hp
   refine hK w4 _ _ rfl ((hb2.ext x23 (jG _)).ext x4 fun hi => ?_) (iW.step (x23.mono fun _ _ h => h.elim) (fun _ h => .inl h) (fun _ h => h) (fun _ h => .inl h) ⟨X', D', Y, _, _, h4, hX, hD, fun _ h => .inl h, x4.mono fun _ _ h => .inl h⟩)
   unfold vO at hi
   split at hi
   .rename_i b' _ m _ he
    have := hn2 _ (.inl hi)
    rw [he] at this
    exact this rfl
   .exact hi
  have h2d := (h2.new (gV.dr w2 jN))
  obtain ⟨f0, f1, f2, f3, f4, f5, f6, f7, f8, f9⟩ := h2d.cells
  unfold mX
  have mk : (b2.length < s.man.size ∨ th2 = false) -> eY pg (vK 22 (.int .i64 ((s.man.size - b2.length : Nat) : Int)) (.int .i64 ((s.man.size - b2.length : Nat) : Int))) (dr w2) fun t73 w3 =>
      (Px (w3.cell? ⟨q, 1, none⟩) w3 (Qg pg 9 ⟨q, 1, none⟩ w3) = Result.ok (Next.value (Value.string s.nm)) w3 /\ Px (w3.cell? ⟨q, 0, none⟩) w3 (Qg pg 32 ⟨q, 0, none⟩ w3) = Result.ok (Next.value (dP p)) w3) /\
      gT pg kY #[dP p, .string (gZ s.nm), .int .i64 (b2.length : Nat), t73] w3 fun t74 w4 => RR (.tuple #[.slice a2 b2.length c2, t74]) w4 := fun hc => by
   refine NV (by omega) (by omega) fun w3 o3 x3 s3 => ?_
   rw [acM] at o3 ⊢
   obtain ⟨g0, g1, _⟩ := (h2.new ((gV.dr _ _).seq x3)).cells
   refine ⟨⟨by rw [g1] <;> rfl, by rw [g0] <;> rfl⟩, fin hc o3 x3⟩
  by_cases hlt : b2.length < s.man.size
  .have q1 : decide ((0 : Int) < ((s.man.size - b2.length : Nat) : Int)) = true := by simp only [decide_eq_true_eq]; omega
   simp (disch := omega) only [eY, gN, dX, stepR_skip, fO, fW, fN, fZ, fX, fY, gQ, gG, eT, fT, fS, gE, fR, fL, fV, fQ, fU, gB, gC, fP, fC, gI, gA, fK, iR, iO, iP, iU, iM, iS, iQ, iT, iN, eP, Result.ok.injEq, Next.value.injEq, true_and, and_true, fI, fJ, gH, fM, gD, gR, acM, fE, fF, fG, fD, eZ, eU, fB, eX, eQ, eH, if_true, if_false, acK, acQ, acL, acN, acP, acO, acJ, acI, eA, dV, aB, dM, dO, cB, eB, eS, eE, dK, eF, fA, dJ, eJ, bP, dS, bE, dN, aL, aH, eL, aX, cI, eM, aE, eN, dE, aR, bF, eD, bB, bC, bJ, aO, aI, cF, fH, dY, cJ, cC, dA, cH, dT, bD, eK, bT, dF, bR, aT, bV, aC, bY, bQ, cA, bX, aY, aU, bA, bU, dL, cP, bO, aV, aJ, aM, bG, aF, dC, dW, aK, aN, aZ, aG, cY, aD, cL, bW, bH, aP, cM, bZ, aA, dD, cO, cU, cG, dI, cD, dG, dU, cQ, eC, eI, bN, aS, dZ, bS, aQ, bL, dH, cZ, cV, cN, cS, bK, bM, cX, dR, cR, dQ, dB, d2, e1, e2, q1, f0, f1, ct]
   exact mk (.inl hlt)
  .have q1 : decide ((0 : Int) < ((s.man.size - b2.length : Nat) : Int)) = false := by simp only [decide_eq_false_iff_not]; omega
   cases th2 with
   | false =>
     simp (disch := omega) only [eY, gN, dX, stepR_skip, fO, fW, fN, fZ, fX, fY, gQ, gG, eT, fT, fS, gE, fR, fL, fV, fQ, fU, gB, gC, fP, fC, gI, gA, fK, iR, iO, iP, iU, iM, iS, iQ, iT, iN, eP, Result.ok.injEq, Next.value.injEq, true_and, and_true, fI, fJ, gH, fM, gD, gR, acM, fE, fF, fG, fD, eZ, eU, fB, eX, eQ, eH, if_true, if_false, acK, acQ, acL, acN, acP, acO, acJ, acI, eA, dV, aB, dM, dO, cB, eB, eS, eE, dK, eF, fA, dJ, eJ, bP, dS, bE, dN, aL, aH, eL, aX, cI, eM, aE, eN, dE, aR, bF, eD, bB, bC, bJ, aO, aI, cF, fH, dY, cJ, cC, dA, cH, dT, bD, eK, bT, dF, bR, aT, bV, aC, bY, bQ, cA, bX, aY, aU, bA, bU, dL, cP, bO, aV, aJ, aM, bG, aF, dC, dW, aK, aN, aZ, aG, cY, aD, cL, bW, bH, aP, cM, bZ, aA, dD, cO, cU, cG, dI, cD, dG, dU, cQ, eC, eI, bN, aS, dZ, bS, aQ, bL, dH, cZ, cV, cN, cS, bK, bM, cX, dR, cR, dQ, dB, d2, e1, e2, q1, f0, f1, ct]
     exact mk (.inr rfl)
   | true =>
     rw [if_neg (by rintro (h | h); exact hlt h; cases h)] at hK
     simp (disch := omega) only [eY, gN, dX, stepR_skip, fO, fW, fN, fZ, fX, fY, gQ, gG, eT, fT, fS, gE, fR, fL, fV, fQ, fU, gB, gC, fP, fC, gI, gA, fK, iR, iO, iP, iU, iM, iS, iQ, iT, iN, eP, Result.ok.injEq, Next.value.injEq, true_and, and_true, fI, fJ, gH, fM, gD, gR, acM, fE, fF, fG, fD, eZ, eU, fB, eX, eQ, eH, if_true, if_false, acK, acQ, acL, acN, acP, acO, acJ, acI, eA, dV, aB, dM, dO, cB, eB, eS, eE, dK, eF, fA, dJ, eJ, bP, dS, bE, dN, aL, aH, eL, aX, cI, eM, aE, eN, dE, aR, bF, eD, bB, bC, bJ, aO, aI, cF, fH, dY, cJ, cC, dA, cH, dT, bD, eK, bT, dF, bR, aT, bV, aC, bY, bQ, cA, bX, aY, aU, bA, bU, dL, cP, bO, aV, aJ, aM, bG, aF, dC, dW, aK, aN, aZ, aG, cY, aD, cL, bW, bH, aP, cM, bZ, aA, dD, cO, cU, cG, dI, cD, dG, dU, cQ, eC, eI, bN, aS, dZ, bS, aQ, bL, dH, cZ, cV, cN, cS, bK, bM, cX, dR, cR, dQ, dB, d2, e1, e2, q1]
     exact hK w2 0 S2 rfl hb2 (iW.refl h2)
 have x1' : gV w w1 (fun b => X b ∨ Y b) := x1.mono fun _ _ h => h.elim
 obtain ⟨d0, d1, d2, d3, d4, d5, d6, d7, d8, d9⟩ := h1.cells
 have e1 : IntKind.u64.wrap ((b.length : Nat) : Int) = ((b.length : Nat) : Int) := fJ (by omega) (by omega)
 by_cases hgt : s.man.size < b.length
 .rw [if_pos hgt] at hf
  have q1 : decide (((s.man.size : Nat) : Int) < ((b.length : Nat) : Int)) = true := by simp only [decide_eq_true_eq]; omega
  have h1d := h1.new (gV.dr w1 jN)
  obtain ⟨f0, f1, f2, f3, f4, f5, f6, f7, f8, f9⟩ := h1d.cells
  simp (disch := omega) only [eY, gN, dX, stepR_skip, fO, fW, fN, fZ, fX, fY, gQ, gG, eT, fT, fS, gE, fR, fL, fV, fQ, fU, gB, gC, fP, fC, gI, gA, fK, iR, iO, iP, iU, iM, iS, iQ, iT, iN, eP, Result.ok.injEq, Next.value.injEq, true_and, and_true, fI, fJ, gH, fM, gD, gR, acM, fE, fF, fG, fD, eZ, eU, fB, eX, eQ, eH, if_true, if_false, acK, acQ, acL, acN, acP, acO, acJ, acI, eA, dV, aB, dM, dO, cB, eB, eS, eE, dK, eF, fA, dJ, eJ, bP, dS, bE, dN, aL, aH, eL, aX, cI, eM, aE, eN, dE, aR, bF, eD, bB, bC, bJ, aO, aI, cF, fH, dY, cJ, cC, dA, cH, dT, bD, eK, bT, dF, bR, aT, bV, aC, bY, bQ, cA, bX, aY, aU, bA, bU, dL, cP, bO, aV, aJ, aM, bG, aF, dC, dW, aK, aN, aZ, aG, cY, aD, cL, bW, bH, aP, cM, bZ, aA, dD, cO, cU, cG, dI, cD, dG, dU, cQ, eC, eI, bN, aS, dZ, bS, aQ, bL, dH, cZ, cV, cN, cS, bK, bM, cX, dR, cR, dQ, dB, acR, n1, d2, e1, q1, f0, f1, ct]
  refine (U0 (name := gZ s.nm) h1d.dsk hB.bd).mono ?_
  rintro r w2 ⟨rfl, hp⟩
  obtain ⟨X', D', h2, hX, hD, x2⟩ := h1d.disk hp
  have hB2 : Bg 1 (Vv S (gZ s.nm)).1 := Xi hB
  have x02 : gV w w2 (fun b => X b ∨ Y b) := (x1'.seq (gV.dr _ _)).seq (x2.mono fun _ _ h => .inl h)
  have hX0 : ∀ b, X' b -> X b ∨ w.heap.size <= b := fun b hb => by
   have := x1.size
   rcases hX b hb with h | h
   .exact .inl h
   .exact .inr (aeV this h)
  generalize Vv S (gZ s.nm) = R at *
  obtain ⟨S2, e⟩ := R
  simp only at h2 hB2 hf
  by_cases he : e = 0
  .subst he
   rw [if_neg (by decide)] at hf
   simp (disch := omega) only [eY, gN, dX, stepR_skip, fO, fW, fN, fZ, fX, fY, gQ, gG, eT, fT, fS, gE, fR, fL, fV, fQ, fU, gB, gC, fP, fC, gI, gA, fK, iR, iO, iP, iU, iM, iS, iQ, iT, iN, eP, Result.ok.injEq, Next.value.injEq, true_and, and_true, fI, fJ, gH, fM, gD, gR, acM, fE, fF, fG, fD, eZ, eU, fB, eX, eQ, eH, if_true, if_false, acK, acQ, acL, acN, acP, acO, acJ, acI, eA, dV, aB, dM, dO, cB, eB, eS, eE, dK, eF, fA, dJ, eJ, bP, dS, bE, dN, aL, aH, eL, aX, cI, eM, aE, eN, dE, aR, bF, eD, bB, bC, bJ, aO, aI, cF, fH, dY, cJ, cC, dA, cH, dT, bD, eK, bT, dF, bR, aT, bV, aC, bY, bQ, cA, bX, aY, aU, bA, bU, dL, cP, bO, aV, aJ, aM, bG, aF, dC, dW, aK, aN, aZ, aG, cY, aD, cL, bW, bH, aP, cM, bZ, aA, dD, cO, cU, cG, dI, cD, dG, dU, cQ, eC, eI, bN, aS, dZ, bS, aQ, bL, dH, cZ, cV, cN, cS, bK, bM, cX, dR, cR, dQ, dB, n1]
   refine tail (th2 := false) (a2 := none) (c2 := 0) (b2 := []) h2 hB2 (Sl.nil _) (fun y _ h => h) (by simp) fun w3 e3 S3 h3 hb3 hp3 => ?_
   rw [if_pos (.inr rfl)] at h3
   have h3 : ((Da S2 (gZ s.nm) 0 (List.replicate s.man.size 0)).1, (Da S2 (gZ s.nm) 0 (List.replicate s.man.size 0)).2) = (S3, e3) := h3
   rw [hRR, hf]
   obtain ⟨ha, hb'⟩ := agA .. ▸ h3
   rw [ha, hb']
   exact ⟨_, rfl, Sl.nil _, hnn, iW.step x02 hX0 hD (fun _ h => .inl h) hp3⟩
  .have n2 : (e != 0) = true := bne_iff_ne.2 he
   rw [if_pos he] at hf
   simp (disch := omega) only [eY, gN, dX, stepR_skip, fO, fW, fN, fZ, fX, fY, gQ, gG, eT, fT, fS, gE, fR, fL, fV, fQ, fU, gB, gC, fP, fC, gI, gA, fK, iR, iO, iP, iU, iM, iS, iQ, iT, iN, eP, Result.ok.injEq, Next.value.injEq, true_and, and_true, fI, fJ, gH, fM, gD, gR, acM, fE, fF, fG, fD, eZ, eU, fB, eX, eQ, eH, if_true, if_false, acK, acQ, acL, acN, acP, acO, acJ, acI, eA, dV, aB, dM, dO, cB, eB, eS, eE, dK, eF, fA, dJ, eJ, bP, dS, bE, dN, aL, aH, eL, aX, cI, eM, aE, eN, dE, aR, bF, eD, bB, bC, bJ, aO, aI, cF, fH, dY, cJ, cC, dA, cH, dT, bD, eK, bT, dF, bR, aT, bV, aC, bY, bQ, cA, bX, aY, aU, bA, bU, dL, cP, bO, aV, aJ, aM, bG, aF, dC, dW, aK, aN, aZ, aG, cY, aD, cL, bW, bH, aP, cM, bZ, aA, dD, cO, cU, cG, dI, cD, dG, dU, cQ, eC, eI, bN, aS, dZ, bS, aQ, bL, dH, cZ, cV, cN, cS, bK, bM, cX, dR, cR, dQ, dB, n2]
   rw [hRR, hf]
   exact ⟨_, rfl, Sl.nil _, hnn, iW.step x02 hX0 hD (fun _ h => .inl h) (iW.refl h2)⟩
 .rw [if_neg hgt] at hf
  have q1 : decide (((s.man.size : Nat) : Int) < ((b.length : Nat) : Int)) = false := by simp only [decide_eq_false_iff_not]; omega
  simp (disch := omega) only [eY, gN, dX, stepR_skip, fO, fW, fN, fZ, fX, fY, gQ, gG, eT, fT, fS, gE, fR, fL, fV, fQ, fU, gB, gC, fP, fC, gI, gA, fK, iR, iO, iP, iU, iM, iS, iQ, iT, iN, eP, Result.ok.injEq, Next.value.injEq, true_and, and_true, fI, fJ, gH, fM, gD, gR, acM, fE, fF, fG, fD, eZ, eU, fB, eX, eQ, eH, if_true, if_false, acK, acQ, acL, acN, acP, acO, acJ, acI, eA, dV, aB, dM, dO, cB, eB, eS, eE, dK, eF, fA, dJ, eJ, bP, dS, bE, dN, aL, aH, eL, aX, cI, eM, aE, eN, dE, aR, bF, eD, bB, bC, bJ, aO, aI, cF, fH, dY, cJ, cC, dA, cH, dT, bD, eK, bT, dF, bR, aT, bV, aC, bY, bQ, cA, bX, aY, aU, bA, bU, dL, cP, bO, aV, aJ, aM, bG, aF, dC, dW, aK, aN, aZ, aG, cY, aD, cL, bW, bH, aP, cM, bZ, aA, dD, cO, cU, cG, dI, cD, dG, dU, cQ, eC, eI, bN, aS, dZ, bS, aQ, bL, dH, cZ, cV, cN, cS, bK, bM, cX, dR, cR, dQ, dB, acR, n1, d2, e1, q1]
  refine tail (th2 := th) h1 (hB.le (by omega)) hbs hno (by omega) fun w3 e3 S3 h3 hb3 hp3 => ?_
  rw [hRR, hf]
  by_cases hc : b.length < s.man.size ∨ th = false
  .rw [if_pos hc] at h3 ⊢
   obtain ⟨ha, hb'⟩ := agA .. ▸ h3
   rw [ha, hb']
   exact ⟨_, rfl, hb3, hno, iW.step x1' (fun _ h => .inl h) (fun _ h => h) (fun _ h => .inl h) hp3⟩
  .rw [if_neg hc] at h3 ⊢
   obtain ⟨ha, hb'⟩ := agA .. ▸ h3
   rw [ha, hb']
   exact ⟨_, rfl, hb3, hno, iW.step x1' (fun _ h => .inl h) (fun _ h => h) (fun _ h => .inl h) hp3⟩
theorem Ka {P : Program} {f : FuncId} {fn : Func} (hf : P.funcs[f]? = some fn) (hb : fn.body.isSome = true) (hn : (fn.name == "runtime.NumGoroutine") = false) (first cap : Array ahB) (args : List ahB) (w : ahA) :
 (zL (.func (.func f) first cap) args).run P w = .ok (.enter f (first ++ args.toArray ++ cap)) w := by
 unfold zL Deferred.ofValue
 simp only [pure_bind, invoke]
 exact Hu hf hb hn _ _
theorem Uo {fs : List ahB} {b c : Nat} {w : ahA} (J : Nat -> ahA -> Prop) (E : Int -> ahA -> Prop) (hl : fs.length <= 100) (h0 : J 0 w) (ho : ∀ i w', J i w' -> jI w' b fs)
 (hs : ∀ i w' f, fs[i]? = some f -> J i w' -> Of pg ((zL f []).run pg w') (fun r w'' => ∃ e : Int, r = .int .i64 e /\ (if e = 0 then J (i + 1) w'' else E e w''))) :
 gT pg xF #[.slice (some ⟨b, 0, none⟩) fs.length c] w (fun r w' => ∃ e : Int, r = .int .i64 e /\ (if e = 0 then J fs.length w' else E e w')) := by
 refine M3 ?_
 obtain ⟨RR, hRR⟩ : ∃ RR : ahB -> ahA -> Prop, RR = fun r w' => ∃ e : Int, r = .int .i64 e /\ (if e = 0 then J fs.length w' else E e w') := ⟨_, rfl⟩
 rw [<- hRR]
 unfold NI D5 Dk Dv Ek Eg D4 Ew
 simp (disch := omega) only [eY, gN, dX, stepR_skip, fO, fW, fN, fZ, fX, fY, gQ, gG, eT, fT, fS, gE, fR, fL, fV, fQ, fU, gB, gC, fP, fC, gI, gA, fK, iR, iO, iP, iU, iM, iS, iQ, iT, iN, eP, Result.ok.injEq, Next.value.injEq, true_and, and_true, fI, fJ, gH, fM, gD, gR, acM, fE, fF, fG, fD, eZ, eU, fB, eX, eQ, eH, if_true, if_false, acK, acQ, acL, acN, acP, acO, acJ, acI, eA, dV, aB, dM, dO, cB, eB, eS, eE, dK, eF, fA, dJ, eJ, bP, dS, bE, dN, aL, aH, eL, aX, cI, eM, aE, eN, dE, aR, bF, eD, bB, bC, bJ, aO, aI, cF, fH, dY, cJ, cC, dA, cH, dT, bD, eK, bT, dF, bR, aT, bV, aC, bY, bQ, cA, bX, aY, aU, bA, bU, dL, cP, bO, aV, aJ, aM, bG, aF, dC, dW, aK, aN, aZ, aG, cY, aD, cL, bW, bH, aP, cM, bZ, aA, dD, cO, cU, cG, dI, cD, dG, dU, cQ, eC, eI, bN, aS, dZ, bS, aQ, bL, dH, cZ, cV, cN, cS, bK, bM, cX, dR, cR, dQ, dB]
 refine kJ.rule (fun m (t : ahB) w' => ∃ i : Nat, m = fs.length - i /\ i <= fs.length /\ t = .int .i64 (i : Nat) /\ J i w') fs.length ⟨0, rfl, by omega, rfl, h0⟩ ?_
 rintro m t w1 ⟨i, rfl, hi, rfl, hJ⟩
 unfold AW
 by_cases hlt : i < fs.length
 .have d1 : decide ((i : Int) < (fs.length : Int)) = true := by simp; omega
  have c1 := (ho _ _ hJ).cell (off := i)
  rw [acS hlt] at c1
  have hss := hs i w1 fs[i] (acS hlt) hJ
  simp (disch := omega) only [eY, gN, dX, stepR_skip, fO, fW, fN, fZ, fX, fY, gQ, gG, eT, fT, fS, gE, fR, fL, fV, fQ, fU, gB, gC, fP, fC, gI, gA, fK, iR, iO, iP, iU, iM, iS, iQ, iT, iN, eP, Result.ok.injEq, Next.value.injEq, true_and, and_true, fI, fJ, gH, fM, gD, gR, acM, fE, fF, fG, fD, eZ, eU, fB, eX, eQ, eH, if_true, if_false, acK, acQ, acL, acN, acP, acO, acJ, acI, eA, dV, aB, dM, dO, cB, eB, eS, eE, dK, eF, fA, dJ, eJ, bP, dS, bE, dN, aL, aH, eL, aX, cI, eM, aE, eN, dE, aR, bF, eD, bB, bC, bJ, aO, aI, cF, fH, dY, cJ, cC, dA, cH, dT, bD, eK, bT, dF, bR, aT, bV, aC, bY, bQ, cA, bX, aY, aU, bA, bU, dL, cP, bO, aV, aJ, aM, bG, aF, dC, dW, aK, aN, aZ, aG, cY, aD, cL, bW, bH, aP, cM, bZ, aA, dD, cO, cU, cG, dI, cD, dG, dU, cQ, eC, eI, bN, aS, dZ, bS, aQ, bL, dH, cZ, cV, cN, cS, bK, bM, cX, dR, cR, dQ, dB, d1, c1]
  have mono : ∀ {r : Result Next} {K K' : ahB -> ahA -> Prop}, Of pg r K -> (∀ v w, K v w -> K' v w) -> Of pg r K' := fun {r K K'} h hk => by
   unfold Of at *
   split at h
   .exact hk _ _ h
   .exact hk _ _ h
   .exact h.mono hk
   .obtain ⟨v, w', h1, h2⟩ := h
    exact ⟨v, w', h1, hk _ _ h2⟩
   .exact h
  refine mono hss ?_
  rintro r w2 ⟨e, rfl, he⟩
  by_cases h0' : e = 0
  .subst h0'
   rw [if_pos rfl] at he
   have n1 : ((0 : Int) != 0) = false := rfl
   simp (disch := omega) only [eY, gN, dX, stepR_skip, fO, fW, fN, fZ, fX, fY, gQ, gG, eT, fT, fS, gE, fR, fL, fV, fQ, fU, gB, gC, fP, fC, gI, gA, fK, iR, iO, iP, iU, iM, iS, iQ, iT, iN, eP, Result.ok.injEq, Next.value.injEq, true_and, and_true, fI, fJ, gH, fM, gD, gR, acM, fE, fF, fG, fD, eZ, eU, fB, eX, eQ, eH, if_true, if_false, acK, acQ, acL, acN, acP, acO, acJ, acI, eA, dV, aB, dM, dO, cB, eB, eS, eE, dK, eF, fA, dJ, eJ, bP, dS, bE, dN, aL, aH, eL, aX, cI, eM, aE, eN, dE, aR, bF, eD, bB, bC, bJ, aO, aI, cF, fH, dY, cJ, cC, dA, cH, dT, bD, eK, bT, dF, bR, aT, bV, aC, bY, bQ, cA, bX, aY, aU, bA, bU, dL, cP, bO, aV, aJ, aM, bG, aF, dC, dW, aK, aN, aZ, aG, cY, aD, cL, bW, bH, aP, cM, bZ, aA, dD, cO, cU, cG, dI, cD, dG, dU, cQ, eC, eI, bN, aS, dZ, bS, aQ, bL, dH, cZ, cV, cN, cS, bK, bM, cX, dR, cR, dQ, dB, n1]
   exact ⟨fs.length - (i + 1), by omega, i + 1, rfl, by omega, rfl, he⟩
  .have n1 : (e != 0) = true := bne_iff_ne.2 h0'
   rw [if_neg h0'] at he
   simp (disch := omega) only [eY, gN, dX, stepR_skip, fO, fW, fN, fZ, fX, fY, gQ, gG, eT, fT, fS, gE, fR, fL, fV, fQ, fU, gB, gC, fP, fC, gI, gA, fK, iR, iO, iP, iU, iM, iS, iQ, iT, iN, eP, Result.ok.injEq, Next.value.injEq, true_and, and_true, fI, fJ, gH, fM, gD, gR, acM, fE, fF, fG, fD, eZ, eU, fB, eX, eQ, eH, if_true, if_false, acK, acQ, acL, acN, acP, acO, acJ, acI, eA, dV, aB, dM, dO, cB, eB, eS, eE, dK, eF, fA, dJ, eJ, bP, dS, bE, dN, aL, aH, eL, aX, cI, eM, aE, eN, dE, aR, bF, eD, bB, bC, bJ, aO, aI, cF, fH, dY, cJ, cC, dA, cH, dT, bD, eK, bT, dF, bR, aT, bV, aC, bY, bQ, cA, bX, aY, aU, bA, bU, dL, cP, bO, aV, aJ, aM, bG, aF, dC, dW, aK, aN, aZ, aG, cY, aD, cL, bW, bH, aP, cM, bZ, aA, dD, cO, cU, cG, dI, cD, dG, dU, cQ, eC, eI, bN, aS, dZ, bS, aQ, bL, dH, cZ, cV, cN, cS, bK, bM, cX, dR, cR, dQ, dB, n1]
   rw [hRR]
   exact ⟨e, rfl, by rw [if_neg h0']; exact he⟩
 .have d1 : decide ((i : Int) < (fs.length : Int)) = false := by simp; omega
  obtain rfl : i = fs.length := by omega
  unfold A0
  simp (disch := omega) only [eY, gN, dX, stepR_skip, fO, fW, fN, fZ, fX, fY, gQ, gG, eT, fT, fS, gE, fR, fL, fV, fQ, fU, gB, gC, fP, fC, gI, gA, fK, iR, iO, iP, iU, iM, iS, iQ, iT, iN, eP, Result.ok.injEq, Next.value.injEq, true_and, and_true, fI, fJ, gH, fM, gD, gR, acM, fE, fF, fG, fD, eZ, eU, fB, eX, eQ, eH, if_true, if_false, acK, acQ, acL, acN, acP, acO, acJ, acI, eA, dV, aB, dM, dO, cB, eB, eS, eE, dK, eF, fA, dJ, eJ, bP, dS, bE, dN, aL, aH, eL, aX, cI, eM, aE, eN, dE, aR, bF, eD, bB, bC, bJ, aO, aI, cF, fH, dY, cJ, cC, dA, cH, dT, bD, eK, bT, dF, bR, aT, bV, aC, bY, bQ, cA, bX, aY, aU, bA, bU, dL, cP, bO, aV, aJ, aM, bG, aF, dC, dW, aK, aN, aZ, aG, cY, aD, cL, bW, bH, aP, cM, bZ, aA, dD, cO, cU, cG, dI, cD, dG, dU, cQ, eC, eI, bN, aS, dZ, bS, aQ, bL, dH, cZ, cV, cN, cS, bK, bM, cX, dR, cR, dQ, dB, d1]
  rw [hRR]
  exact ⟨0, rfl, by rw [if_pos rfl]; exact hJ⟩
theorem Tx {n : Nat} {S : jL} {s : nG} {k v : Nat} (h : Bg (n + 1) S) : Bg n (jQ iA S s k v).1 := by
 have := QC (k := jH s.nm) (a := s.log) (l := rT iA k v) h
 unfold jQ
 simp only
 split
 .exact this
 .exact this
theorem iW.keep {n0 : Nat} {w w' : ahA} {q p b : Nat} {X D Y : Nat -> Prop} {S : jL} {s : nG} {cs : List ahB} (h : iW n0 w q p X D Y S s w') (o : jI w b cs) (hb : ¬ (X b ∨ Y b)) : jI w' b cs := by
 obtain ⟨_, _, _, _, _, _, _, _, _, x⟩ := h
 exact o.ext x hb
theorem iW.andThen {n0 : Nat} {w w1 w2 : ahA} {q p : Nat} {X D Y : Nat -> Prop} {S1 S2 : jL} {s1 s2 : nG} (h : iW n0 w q p X D Y S1 s1 w1) (h2 : ∀ {X' D' Y' lv hv}, kP n0 w1 q p X' D' Y' S1 s1 lv hv -> iW n0 w1 q p X' D' Y' S2 s2 w2) : iW n0 w q p X D Y S2 s2 w2 := by
 obtain ⟨X', D', Y', lv, hv, h1, hX, hD, hY, x⟩ := h
 exact iW.step x hX hD hY (h2 h1)
theorem Q7 {n0 q p : Nat} {X D Y : Nat -> Prop} {S : jL} {s : nG} {w w1 : ahA} (h : iW n0 w q p X D Y S s w1) (hB : Bg 0 S) :
 gT pg jJ #[dP p] w1 (fun r w2 => r = .int .i64 (Ab S).2 /\ iW n0 w q p X D Y (Ab S).1 s w2) := by
 obtain ⟨X', D', Y', lv, hv, h1, hX, hD, hY, x⟩ := h
 refine (V6 h1.dsk hB.bd).mono ?_
 rintro r w2 ⟨rfl, hp⟩
 obtain ⟨X2, D2, h2, hX2, hD2, x2⟩ := h1.disk hp
 exact ⟨rfl, iW.step x hX hD hY ⟨X2, D2, Y', _, _, h2, hX2, hD2, fun _ h => .inl h, x2.mono fun _ _ h => .inl h⟩⟩
theorem Rb {S : jL} {s : nG} {k v : Nat} : (jQ iA S s k v).2.1.hv = s.hv /\ (jQ iA S s k v).2.1.man = s.man /\ (jQ iA S s k v).2.1.nm = s.nm /\ (jQ iA S s k v).2.1.epoch = s.epoch := by
 unfold jQ
 simp only
 split <;> exact ⟨rfl, rfl, rfl, rfl⟩
theorem Ww {S : jL} {s : nG} {i : Nat} {b : List UInt8} : (kC iA S s i b).2.1.hv = s.hv := by
 unfold kC
 simp only
 split
 .rfl
 .split
  .rfl
  .split
   .exact Rb.1
   .exact Rb.1
theorem kP.setHv {n0 : Nat} {w : ahA} {q p : Nat} {X D Y : Nat -> Prop} {S : jL} {s : nG} {lv hv : ahB} (h : kP n0 w q p X D Y S s lv hv) {i : Nat} (hi : i < s.hv.length) :
 ∃ hb c rest, hv = .slice (some ⟨hb, 0, none⟩) s.hv.length c /\ Y hb /\ hb ≠ q /\ jI w hb (s.hv.map Value.bool ++ rest) /\ ∀ {w' : ahA} {z : Bool}, jI w' hb ((s.hv.map Value.bool ++ rest).set i (.bool z)) -> gV w w' (fun y => y = hb) -> kP n0 w' q p X D Y S { s with hv := s.hv.set i z } lv hv := by
 rcases h.hv.2 with ⟨_, h0⟩ | ⟨hb, c, rest, hhv, ⟨hbY, hbq⟩, o, ol, oc⟩
 .omega
 refine ⟨hb, c, rest, hhv, hbY, hbq, o, fun {w' z} o' x => ?_⟩
 have hg := h.g0
 have hn := h.lo hb (.inr hbY)
 have hd := h.yd hb hbY
 refine ⟨h.glob.extM x (by omega) (by omega), h.g0, h.lo, aeV h.hi x.size, h.dsk.ext x fun b hb => hb ▸ hd, h.yq, h.yd, h.own.ext x (fun e => hbq e.symm), h.man, h.lv.keep (x.mono fun b _ hb => .inr (hb ▸ hbY)) fun b hb => .inl hb, ?_, h.ep, h.lg, ?_, h.nl⟩
 .refine ⟨by rw [acR]; simp, .inr ⟨hb, c, rest, ?_, ⟨hbY, hbq⟩, ?_, ?_, ?_⟩⟩
  .rw [hhv]; simp
  .rw [List.set_append_left _ _ (by rw [acR]; exact hi)] at o'
   rw [agY]; exact o'
  .rw [acT, acR] at ol ⊢
   rw [afH]; exact ol
  .rw [afH]; exact oc
 .show (s.hv.set i z).length <= 1024
  rw [afH]; exact h.hl
theorem U3 {n0 q p i s3 i4 b5 a7 : Nat} {X D Y : Nat -> Prop} {S : jL} {s : nG} {lv hv bv : ahB} {b : List UInt8} {w : ahA} {RR : ahB -> ahA -> Prop} (h : kP n0 w q p X D Y S s lv hv) (hB : Bg 2 S) (hi : i < s.hv.length) (hb : Bs w bv b) (hbl : b.length <= 1000000)
 (hbn : ¬ vO bv (fun y => X y ∨ Y y)) (hlg : s.log + 13 <= 1000000000) (hpi : s.man.part * i <= 1000000000) (o3 : jI w s3 [dP q]) (o4 : jI w i4 [.int .i64 (i : Nat)]) (o5 : jI w b5 [bv]) (o7 : jI w a7 [.int .u64 ((s.man.part * i : Nat) : Int)])
 (m3 : ¬ (X s3 ∨ Y s3)) (m4 : ¬ (X i4 ∨ Y i4)) (m5 : ¬ (X b5 ∨ Y b5)) (m7 : ¬ (X a7 ∨ Y a7))
 (hR : ∀ w', iW n0 w q p X D Y (kC iA S s i b).1 { (kC iA S s i b).2.1 with err := (kC iA S s i b).2.2, hv := (kC iA S s i b).2.1.hv.set i ((kC iA S s i b).2.2 == 0) } w' -> RR (.int .i64 (kC iA S s i b).2.2) w') :
 nC RR (.pointer (some ⟨s3, 0, none⟩)) (.pointer (some ⟨i4, 0, none⟩)) (.pointer (some ⟨b5, 0, none⟩)) (.pointer (some ⟨a7, 0, none⟩)) w := by
 unfold nC
 have hd := h.new (gV.dr w jN)
 obtain ⟨c0, c1, c2, c3, c4, c5, c6, c7, c8, c9⟩ := hd.cells
 have k3 := (kR o3).cell (off := 0)
 simp only [acI] at k3
 have f1 := fun w => Np (P := pg) (f := oC) [] [.pointer (some ⟨s3, 0, none⟩), .pointer (some ⟨a7, 0, none⟩), .pointer (some ⟨b5, 0, none⟩)] w
 have f2 := fun w => Np (P := pg) (f := jJ) [dP p] [] w
 have f3 := fun w => Np (P := pg) (f := oH) [] [.pointer (some ⟨s3, 0, none⟩), .pointer (some ⟨i4, 0, none⟩)] w
 simp (disch := omega) only [eY, gN, dX, stepR_skip, fO, fW, fN, fZ, fX, fY, gQ, gG, eT, fT, fS, gE, fR, fL, fV, fQ, fU, gB, gC, fP, fC, gI, gA, fK, iR, iO, iP, iU, iM, iS, iQ, iT, iN, eP, Result.ok.injEq, Next.value.injEq, true_and, and_true, fI, fJ, gH, fM, gD, gR, acM, fE, fF, fG, fD, eZ, eU, fB, eX, eQ, eH, if_true, if_false, acK, acQ, acL, acN, acP, acO, acJ, acI, eA, dV, aB, dM, dO, cB, eB, eS, eE, dK, eF, fA, dJ, eJ, bP, dS, bE, dN, aL, aH, eL, aX, cI, eM, aE, eN, dE, aR, bF, eD, bB, bC, bJ, aO, aI, cF, fH, dY, cJ, cC, dA, cH, dT, bD, eK, bT, dF, bR, aT, bV, aC, bY, bQ, cA, bX, aY, aU, bA, bU, dL, cP, bO, aV, aJ, aM, bG, aF, dC, dW, aK, aN, aZ, aG, cY, aD, cL, bW, bH, aP, cM, bZ, aA, dD, cO, cU, cG, dI, cD, dG, dU, cQ, eC, eI, bN, aS, dZ, bS, aQ, bL, dH, cZ, cV, cN, cS, bK, bM, cX, dR, cR, dQ, dB, k3, c0, f1, f2, f3]
 obtain ⟨fs, hfs⟩ : ∃ fs : List ahB, fs = [.func (.func oC) #[] #[.pointer (some ⟨s3, 0, none⟩), .pointer (some ⟨a7, 0, none⟩), .pointer (some ⟨b5, 0, none⟩)], .func (.func jJ) #[dP p] #[], .func (.func oH) #[] #[.pointer (some ⟨s3, 0, none⟩), .pointer (some ⟨i4, 0, none⟩)], .func (.func jJ) #[dP p] #[]] := ⟨_, rfl⟩
 refine Ao (cells := fs.toArray) (by decide) (by decide) (by rw [hfs]; kernel_rfl) fun w1 o1 x1 s1 => ?_
 have o1 : jI w1 (dr w).heap.size fs := o1
 obtain ⟨bb, hbb⟩ : ∃ bb, bb = (dr w).heap.size := ⟨_, rfl⟩
 rw [<- hbb] at o1 ⊢
 have hw0 : bb = w.heap.size := hbb
 have x01 : gV w w1 jN := (gV.dr w _).seq x1
 have h1 := h.new x01
 have mb : ¬ (X bb ∨ Y bb) := fun hx => by have := kP.lt h bb hx; omega
 have o3 := o3.ext x01 (fun h => h)
 have o4 := o4.ext x01 (fun h => h)
 have o5 := o5.ext x01 (fun h => h)
 have o7 := o7.ext x01 (fun h => h)
 have hb1 := hb.ext x01 (jG _)
 obtain ⟨A1, hA1⟩ : ∃ A1, A1 = Da S (gZ s.nm) (s.man.part * i : Nat) b := ⟨_, rfl⟩
 have hB1 : Bg 1 A1.1 := hA1 ▸ QC hB
 obtain ⟨A2, hA2⟩ : ∃ A2, A2 = Ab A1.1 := ⟨_, rfl⟩
 have hB2 : Bg 1 A2.1 := hA2 ▸ WB hB1
 obtain ⟨A3, hA3⟩ : ∃ A3, A3 = jQ iA A2.1 s 2 i := ⟨_, rfl⟩
 have hB3 : Bg 0 A3.1 := hA3 ▸ Tx hB2
 obtain ⟨A4, hA4⟩ : ∃ A4, A4 = Ab A3.1 := ⟨_, rfl⟩
 have hch : kC iA S s i b = if A1.2 ≠ 0 then (A1.1, s, A1.2) else if A2.2 ≠ 0 then (A2.1, s, A2.2) else if A3.2.2 ≠ 0 then (A3.1, A3.2.1, A3.2.2) else (A4.1, A3.2.1, A4.2) := by
  unfold kC
  simp only [<- hA1, <- hA2, <- hA3, <- hA4]
 obtain ⟨C, hC⟩ : ∃ C, C = kC iA S s i b := ⟨_, rfl⟩
 rw [<- hC] at hch hR
 let J : Nat -> ahA -> Prop := fun k w' => match k with
  | 0 => iW n0 w1 q p X D Y S s w'
  | 1 => A1.2 = 0 /\ iW n0 w1 q p X D Y A1.1 s w'
  | 2 => A1.2 = 0 /\ A2.2 = 0 /\ iW n0 w1 q p X D Y A2.1 s w'
  | 3 => A1.2 = 0 /\ A2.2 = 0 /\ A3.2.2 = 0 /\ iW n0 w1 q p X D Y A3.1 A3.2.1 w'
  | _ => C.2.2 = 0 /\ iW n0 w1 q p X D Y C.1 C.2.1 w'
 let E : Int -> ahA -> Prop := fun e w' => C.2.2 = e /\ iW n0 w1 q p X D Y C.1 C.2.1 w'
 have hJown : ∀ k w', J k w' -> ∃ S' s', iW n0 w1 q p X D Y S' s' w' := fun k w' hk => by
  match k, hk with
  | 0, hk => exact ⟨_, _, hk⟩
  | 1, hk => exact ⟨_, _, hk.2⟩
  | 2, hk => exact ⟨_, _, hk.2.2⟩
  | 3, hk => exact ⟨_, _, hk.2.2.2⟩
  | n + 4, hk => exact ⟨_, _, hk.2⟩
 have hmain := Uo (fs := fs) (b := bb) (c := 4) (w := w1) J E (by rw [hfs]; simp) (iW.refl h1) (fun k w' hk => by
  obtain ⟨_, _, hp⟩ := hJown k w' hk
  exact hp.keep o1 mb) ?hs
 case hs =>
  intro k w' f hf hk
  rw [hfs] at hf
  match k, hf, hk with
  | 0, hf, hk =>
    simp only [acI, adT] at hf
    rw [<- hf, Ka Tryd.func33 (by kernel_rfl) (by kernel_rfl)]
    show gT pg oC #[.pointer (some ⟨s3, 0, none⟩), .pointer (some ⟨a7, 0, none⟩), .pointer (some ⟨b5, 0, none⟩)] w' _
    have hk : iW n0 w1 q p X D Y S s w' := hk
    refine GX ?_
    unfold Fb uT
    have e3 := (kR (hk.keep o3 m3)).cell (off := 0)
    have e7 := (kR (hk.keep o7 m7)).cell (off := 0)
    have e5 := (kR (hk.keep o5 m5)).cell (off := 0)
    simp only [acI] at e3 e7 e5
    obtain ⟨X', D', Y', lv', hv', g1, hX, hD, hY, gx⟩ := hk
    have g1d := g1.new (gV.dr w' jN)
    obtain ⟨d0, d1, d2, d3, d4, d5, d6, d7, d8, d9⟩ := g1d.cells
    have ct := O6 h.nl
    have ew : IntKind.i64.wrap ((s.man.part * i : Nat) : Int) = ((s.man.part * i : Nat) : Int) := fI (by omega) (by omega)
    have hbw : Bs (dr w') bv b := (hb1.ext gx hbn).ext (gV.dr _ jN) (jG _)
    generalize s.man.part * i = at' at *
    obtain ⟨ba, bc, rfl, _⟩ := hbw.len
    simp (disch := omega) only [eY, gN, dX, stepR_skip, fO, fW, fN, fZ, fX, fY, gQ, gG, eT, fT, fS, gE, fR, fL, fV, fQ, fU, gB, gC, fP, fC, gI, gA, fK, iR, iO, iP, iU, iM, iS, iQ, iT, iN, eP, Result.ok.injEq, Next.value.injEq, true_and, and_true, fI, fJ, gH, fM, gD, gR, acM, fE, fF, fG, fD, eZ, eU, fB, eX, eQ, eH, if_true, if_false, acK, acQ, acL, acN, acP, acO, acJ, acI, eA, dV, aB, dM, dO, cB, eB, eS, eE, dK, eF, fA, dJ, eJ, bP, dS, bE, dN, aL, aH, eL, aX, cI, eM, aE, eN, dE, aR, bF, eD, bB, bC, bJ, aO, aI, cF, fH, dY, cJ, cC, dA, cH, dT, bD, eK, bT, dF, bR, aT, bV, aC, bY, bQ, cA, bX, aY, aU, bA, bU, dL, cP, bO, aV, aJ, aM, bG, aF, dC, dW, aK, aN, aZ, aG, cY, aD, cL, bW, bH, aP, cM, bZ, aA, dD, cO, cU, cG, dI, cD, dG, dU, cQ, eC, eI, bN, aS, dZ, bS, aQ, bL, dH, cZ, cV, cN, cS, bK, bM, cX, dR, cR, dQ, dB, e3, e7, e5, d0, d1, ct, ew]
    refine (MR (name := gZ s.nm) (a := (at' : Nat)) g1d.dsk hB.bd hbw (by omega) (by omega) (by omega)).mono ?_
    rintro r w2 ⟨rfl, hp⟩
    obtain ⟨X2, D2, g2, hX2, hD2, gx2⟩ := g1d.disk hp
    rw [<- hA1] at g2 ⊢
    have hpost : iW n0 w1 q p X D Y A1.1 s w2 := iW.step (gx.seq (gV.dr _ _)) hX hD hY ⟨X2, D2, Y', _, _, g2, hX2, hD2, fun _ h => .inl h, gx2.mono fun _ _ h => .inl h⟩
    refine ⟨_, rfl, ?_⟩
    split
    .rename_i he; exact ⟨he, hpost⟩
    .rename_i he
     rw [if_pos he] at hch
     show C.2.2 = _ /\ iW n0 w1 q p X D Y C.1 C.2.1 w2
     rw [hch]
     exact ⟨rfl, hpost⟩
  | 1, hf, hk =>
    simp only [acI, acJ, adT] at hf
    rw [<- hf, Ka Tryd.func19 (by kernel_rfl) (by kernel_rfl)]
    show gT pg jJ #[dP p] w' _
    have hk : A1.2 = 0 /\ iW n0 w1 q p X D Y A1.1 s w' := hk
    refine (Q7 hk.2 (hB1.le (by omega))).mono ?_
    rintro r w2 ⟨rfl, hp⟩
    rw [<- hA2] at hp ⊢
    refine ⟨_, rfl, ?_⟩
    split
    .rename_i he; exact ⟨hk.1, he, hp⟩
    .rename_i he
     rw [if_neg (by rw [hk.1]; decide), if_pos he] at hch
     show C.2.2 = _ /\ iW n0 w1 q p X D Y C.1 C.2.1 w2
     rw [hch]
     exact ⟨rfl, hp⟩
  | 2, hf, hk =>
    simp only [acI, acJ, adT] at hf
    rw [<- hf, Ka Tryd.func34 (by kernel_rfl) (by kernel_rfl)]
    show gT pg oH #[.pointer (some ⟨s3, 0, none⟩), .pointer (some ⟨i4, 0, none⟩)] w' _
    have hk : A1.2 = 0 /\ A2.2 = 0 /\ iW n0 w1 q p X D Y A2.1 s w' := hk
    refine Hq ?_
    unfold Fj vL
    have e3 := (hk.2.2.keep o3 m3).cell (off := 0)
    have e4 := (hk.2.2.keep o4 m4).cell (off := 0)
    simp only [acI] at e3 e4
    have hi' := h.hl
    have ew : IntKind.u64.wrap (i : Int) = (i : Int) := fJ (by omega) (by omega)
    simp (disch := omega) only [eY, gN, dX, stepR_skip, fO, fW, fN, fZ, fX, fY, gQ, gG, eT, fT, fS, gE, fR, fL, fV, fQ, fU, gB, gC, fP, fC, gI, gA, fK, iR, iO, iP, iU, iM, iS, iQ, iT, iN, eP, Result.ok.injEq, Next.value.injEq, true_and, and_true, fI, fJ, gH, fM, gD, gR, acM, fE, fF, fG, fD, eZ, eU, fB, eX, eQ, eH, if_true, if_false, acK, acQ, acL, acN, acP, acO, acJ, acI, eA, dV, aB, dM, dO, cB, eB, eS, eE, dK, eF, fA, dJ, eJ, bP, dS, bE, dN, aL, aH, eL, aX, cI, eM, aE, eN, dE, aR, bF, eD, bB, bC, bJ, aO, aI, cF, fH, dY, cJ, cC, dA, cH, dT, bD, eK, bT, dF, bR, aT, bV, aC, bY, bQ, cA, bX, aY, aU, bA, bU, dL, cP, bO, aV, aJ, aM, bG, aF, dC, dW, aK, aN, aZ, aG, cY, aD, cL, bW, bH, aP, cM, bZ, aA, dD, cO, cU, cG, dI, cD, dG, dU, cQ, eC, eI, bN, aS, dZ, bS, aQ, bL, dH, cZ, cV, cN, cS, bK, bM, cX, dR, cR, dQ, dB, e3, e4, ew]
    obtain ⟨X', D', Y', lv', hv', g1, hX, hD, hY, gx⟩ := hk.2.2
    refine (SB (k := 2) (v := i) g1 hB2 (.inr rfl) (by omega) hlg).mono ?_
    rintro r w2 ⟨rfl, hp⟩
    rw [<- hA3] at hp ⊢
    have hpost := iW.step gx hX hD hY hp
    refine ⟨_, rfl, ?_⟩
    split
    .rename_i he; exact ⟨hk.1, hk.2.1, he, hpost⟩
    .rename_i he
     rw [if_neg (by rw [hk.1]; decide), if_neg (by rw [hk.2.1]; decide), if_pos he] at hch
     show C.2.2 = _ /\ iW n0 w1 q p X D Y C.1 C.2.1 w2
     rw [hch]
     exact ⟨rfl, hpost⟩
  | 3, hf, hk =>
    simp only [acI, acJ, adT] at hf
    rw [<- hf, Ka Tryd.func19 (by kernel_rfl) (by kernel_rfl)]
    show gT pg jJ #[dP p] w' _
    have hk : A1.2 = 0 /\ A2.2 = 0 /\ A3.2.2 = 0 /\ iW n0 w1 q p X D Y A3.1 A3.2.1 w' := hk
    refine (Q7 hk.2.2.2 hB3).mono ?_
    rintro r w2 ⟨rfl, hp⟩
    rw [<- hA4] at hp ⊢
    rw [if_neg (by rw [hk.1]; decide), if_neg (by rw [hk.2.1]; decide), if_neg (by rw [hk.2.2.1]; decide)] at hch
    refine ⟨_, rfl, ?_⟩
    have hE : C.2.2 = A4.2 /\ iW n0 w1 q p X D Y C.1 C.2.1 w2 := by rw [hch]; exact ⟨rfl, hp⟩
    split
    .rename_i he; exact ⟨hE.1.trans he, hE.2⟩
    .exact hE
  | n + 4, hf, hk => simp at hf
 rw [show fs.length = 4 from by rw [hfs] <;> rfl] at hmain
 have k3' := (o3).cell (off := 0)
 simp only [acI] at k3'
 simp (disch := omega) only [eY, gN, dX, stepR_skip, fO, fW, fN, fZ, fX, fY, gQ, gG, eT, fT, fS, gE, fR, fL, fV, fQ, fU, gB, gC, fP, fC, gI, gA, fK, iR, iO, iP, iU, iM, iS, iQ, iT, iN, eP, Result.ok.injEq, Next.value.injEq, true_and, and_true, fI, fJ, gH, fM, gD, gR, acM, fE, fF, fG, fD, eZ, eU, fB, eX, eQ, eH, if_true, if_false, acK, acQ, acL, acN, acP, acO, acJ, acI, eA, dV, aB, dM, dO, cB, eB, eS, eE, dK, eF, fA, dJ, eJ, bP, dS, bE, dN, aL, aH, eL, aX, cI, eM, aE, eN, dE, aR, bF, eD, bB, bC, bJ, aO, aI, cF, fH, dY, cJ, cC, dA, cH, dT, bD, eK, bT, dF, bR, aT, bV, aC, bY, bQ, cA, bX, aY, aU, bA, bU, dL, cP, bO, aV, aJ, aM, bG, aF, dC, dW, aK, aN, aZ, aG, cY, aD, cL, bW, bH, aP, cM, bZ, aA, dD, cO, cU, cG, dI, cD, dG, dU, cQ, eC, eI, bN, aS, dZ, bS, aQ, bL, dH, cZ, cV, cN, cS, bK, bM, cX, dR, cR, dQ, dB, k3']
 refine hmain.mono ?_
 rintro r w2 ⟨e, rfl, he⟩
 have hfin : C.2.2 = e /\ iW n0 w1 q p X D Y C.1 C.2.1 w2 := by
  split at he
  .rename_i h0; rw [h0]; exact he
  .exact he
 clear he hmain
 obtain ⟨rfl, hp⟩ := hfin
 have q3 := (hp.keep o3 m3).cell (off := 0)
 simp only [acI] at q3
 obtain ⟨X2, D2, Y2, lv2, hv2, h2, hX2, hD2, hY2, x2⟩ := id hp
 have hChv : C.2.1.hv = s.hv := by rw [hC]; exact Ww
 have l1 : w.heap.size <= w1.heap.size := x01.size
 have notin : ∀ {y : Nat}, y < w1.heap.size -> ¬ (X y ∨ Y y) -> ¬ (X2 y ∨ Y2 y) := fun {y} hy hn h => by
  rcases h with h | h
  .rcases hX2 y h with h | h
   .exact hn (.inl h)
   .omega
  .rcases hY2 y h with h | h
   .exact hn (.inr h)
   .omega
 simp (disch := omega) only [eY, gN, dX, stepR_skip, fO, fW, fN, fZ, fX, fY, gQ, gG, eT, fT, fS, gE, fR, fL, fV, fQ, fU, gB, gC, fP, fC, gI, gA, fK, iR, iO, iP, iU, iM, iS, iQ, iT, iN, eP, Result.ok.injEq, Next.value.injEq, true_and, and_true, fI, fJ, gH, fM, gD, gR, acM, fE, fF, fG, fD, eZ, eU, fB, eX, eQ, eH, if_true, if_false, acK, acQ, acL, acN, acP, acO, acJ, acI, eA, dV, aB, dM, dO, cB, eB, eS, eE, dK, eF, fA, dJ, eJ, bP, dS, bE, dN, aL, aH, eL, aX, cI, eM, aE, eN, dE, aR, bF, eD, bB, bC, bJ, aO, aI, cF, fH, dY, cJ, cC, dA, cH, dT, bD, eK, bT, dF, bR, aT, bV, aC, bY, bQ, cA, bX, aY, aU, bA, bU, dL, cP, bO, aV, aJ, aM, bG, aF, dC, dW, aK, aN, aZ, aG, cY, aD, cL, bW, bH, aP, cM, bZ, aA, dD, cO, cU, cG, dI, cD, dG, dU, cQ, eC, eI, bN, aS, dZ, bS, aQ, bL, dH, cZ, cV, cN, cS, bK, bM, cX, dR, cR, dQ, dB, q3]
 refine Df h2.own rfl (by simp) fun w3 q3' x3 zz3 => ?_
 have h3 := h2.set (s' := { C.2.1 with err := C.2.2 }) x3 q3' rfl rfl rfl h2.ep h2.lg
 have x3Y : gV w2 w3 (fun b => X2 b ∨ Y2 b) := x3.mono fun y _ hy => .inr (hy ▸ h2.yq)
 have h3d := h3.new (gV.dr w3 jN)
 obtain ⟨d0, d1, d2, d3, d4, d5, d6, d7, d8, d9⟩ := h3d.cells
 obtain ⟨hb, c, rest, hhv, hbY, hbq, oh, hset⟩ := h3d.setHv (i := i) (by show i < C.2.1.hv.length; rw [hChv]; exact hi)
 have hlen : ({ C.2.1 with err := C.2.2 } : nG).hv.length = s.hv.length := by show C.2.1.hv.length = _; rw [hChv]
 rw [hlen] at hhv
 subst hhv
 have e3 : w3.cell? ⟨s3, 0, none⟩ = some (dP q) := (((hp.keep o3 m3).ext x3Y (notin o3.lt m3))).cell (off := 0)
 have e4 : w3.cell? ⟨i4, 0, none⟩ = some (.int .i64 (i : Nat)) := (((hp.keep o4 m4).ext x3Y (notin o4.lt m4))).cell (off := 0)
 have e3d : (dr w3).cell? ⟨s3, 0, none⟩ = some (dP q) := e3
 have e4d : (dr w3).cell? ⟨i4, 0, none⟩ = some (.int .i64 (i : Nat)) := e4
 simp (disch := omega) only [eY, gN, dX, stepR_skip, fO, fW, fN, fZ, fX, fY, gQ, gG, eT, fT, fS, gE, fR, fL, fV, fQ, fU, gB, gC, fP, fC, gI, gA, fK, iR, iO, iP, iU, iM, iS, iQ, iT, iN, eP, Result.ok.injEq, Next.value.injEq, true_and, and_true, fI, fJ, gH, fM, gD, gR, acM, fE, fF, fG, fD, eZ, eU, fB, eX, eQ, eH, if_true, if_false, acK, acQ, acL, acN, acP, acO, acJ, acI, eA, dV, aB, dM, dO, cB, eB, eS, eE, dK, eF, fA, dJ, eJ, bP, dS, bE, dN, aL, aH, eL, aX, cI, eM, aE, eN, dE, aR, bF, eD, bB, bC, bJ, aO, aI, cF, fH, dY, cJ, cC, dA, cH, dT, bD, eK, bT, dF, bR, aT, bV, aC, bY, bQ, cA, bX, aY, aU, bA, bU, dL, cP, bO, aV, aJ, aM, bG, aF, dC, dW, aK, aN, aZ, aG, cY, aD, cL, bW, bH, aP, cM, bZ, aA, dD, cO, cU, cG, dI, cD, dG, dU, cQ, eC, eI, bN, aS, dZ, bS, aQ, bL, dH, cZ, cV, cN, cS, bK, bM, cX, dR, cR, dQ, dB, e3d, e4d, d6, d9]
 refine Dc oh rfl (by rw [acT, acR, hlen]; omega) fun w4 o4' x4 zz4 => ?_
 have h4 := hset o4' x4
 obtain ⟨g0, g1, g2, g3, g4, g5, g6, g7, g8, g9⟩ := h4.cells
 have e34 : w4.cell? ⟨s3, 0, none⟩ = some (dP q) := by
  have hk := ((kR ((hp.keep o3 m3).ext x3Y (notin o3.lt m3))).ext x4 (fun e => (notin o3.lt m3) (.inr (e ▸ hbY))))
  exact hk.cell (off := 0)
 simp (disch := omega) only [eY, gN, dX, stepR_skip, fO, fW, fN, fZ, fX, fY, gQ, gG, eT, fT, fS, gE, fR, fL, fV, fQ, fU, gB, gC, fP, fC, gI, gA, fK, iR, iO, iP, iU, iM, iS, iQ, iT, iN, eP, Result.ok.injEq, Next.value.injEq, true_and, and_true, fI, fJ, gH, fM, gD, gR, acM, fE, fF, fG, fD, eZ, eU, fB, eX, eQ, eH, if_true, if_false, acK, acQ, acL, acN, acP, acO, acJ, acI, eA, dV, aB, dM, dO, cB, eB, eS, eE, dK, eF, fA, dJ, eJ, bP, dS, bE, dN, aL, aH, eL, aX, cI, eM, aE, eN, dE, aR, bF, eD, bB, bC, bJ, aO, aI, cF, fH, dY, cJ, cC, dA, cH, dT, bD, eK, bT, dF, bR, aT, bV, aC, bY, bQ, cA, bX, aY, aU, bA, bU, dL, cP, bO, aV, aJ, aM, bG, aF, dC, dW, aK, aN, aZ, aG, cY, aD, cL, bW, bH, aP, cM, bZ, aA, dD, cO, cU, cG, dI, cD, dG, dU, cQ, eC, eI, bN, aS, dZ, bS, aQ, bL, dH, cZ, cV, cN, cS, bK, bM, cX, dR, cR, dQ, dB, e34, g9]
 refine hR w4 (iW.step (x01.mono fun _ _ h => h.elim) (fun _ h => .inl h) (fun _ h => h) (fun _ h => .inl h) ⟨X2, D2, Y2, _, _, h4, hX2, hD2, hY2, ?_⟩)
 refine (x2.trans x3Y fun y hy h => ?_).trans ((gV.dr w3 _).seq x4) fun y hy h => ?_
 .rcases h with h | h
  .rcases hX2 y h with h | h
   .exact .inl h
   .omega
  .rcases hY2 y h with h | h
   .exact .inr h
   .omega
 .rcases hY2 y (h ▸ hbY) with h | h
  .exact .inr h
  .omega
theorem Wm {n0 q p : Nat} {i : Int} {X D Y : Nat -> Prop} {S : jL} {s : nG} {lv hv bv : ahB} {b : List UInt8} {w : ahA} (h : kP n0 w q p X D Y S s lv hv) (hB : Bg 2 S) (hlen : s.hv.length = s.man.leaves.length) (hb : Bs w bv b) (hbl : b.length <= 1000000)
 (hbn : ¬ vO bv (fun y => X y ∨ Y y)) (hlg : s.log + 13 <= 1000000000) (hi64 : -9223372036854775808 <= i /\ i <= 9223372036854775807) :
 gT pg kI #[dP q, .int .i64 i, bv] w (fun r w' => r = .int .i64 (pU gU iA S s i b).2.2 /\ iW n0 w q p X D Y (pU gU iA S s i b).1 (pU gU iA S s i b).2.1 w') := by
 refine I2 ?_
 obtain ⟨RR, hRR⟩ : ∃ RR : ahB -> ahA -> Prop, RR = fun r w' => r = .int .i64 (pU gU iA S s i b).2.2 /\ iW n0 w q p X D Y (pU gU iA S s i b).1 (pU gU iA S s i b).2.1 w' := ⟨_, rfl⟩
 rw [<- hRR]
 unfold HV yM xW
 refine oM fun w1 o1 x1 s1 => ?_
 refine oM fun w2 o2 x2 s2 => ?_
 refine oM fun w3 o3 x3 s3 => ?_
 have hlt0 := fun y hy => kP.lt h y hy
 generalize hn : w.heap.size = n at *
 rw [s1] at o2
 rw [show w2.heap.size = n + 2 from by omega] at o3 ⊢
 rw [s1]
 have o1 : jI w3 n [dP q] := ((jI.ext (cs := [dP q]) o1 x2 (fun h => h)).ext x3 (fun h => h))
 have o2 : jI w3 (n + 1) [.int .i64 i] := jI.ext (cs := [.int .i64 i]) o2 x3 (fun h => h)
 have o3 : jI w3 (n + 2) [bv] := by
  obtain ⟨ba, bc, rfl, _⟩ := hb.len
  exact o3
 have x03 : gV w w3 jN := (x1.seq x2).seq x3
 have h3 := h.new x03
 have hb3 := hb.ext x03 (jG _)
 have z3 : w3.heap.size = n + 3 := by omega
 clear x1 x2 x3
 have c1 := o1.cell (off := 0)
 have c2 := o2.cell (off := 0)
 have c3 := o3.cell (off := 0)
 simp only [acI] at c1 c2 c3
 have x03' : gV w w3 (fun y => X y ∨ Y y) := x03.mono fun _ _ h => h.elim
 have stay : ∀ {w' : ahA} {e : Int}, gV w3 w' jN -> pU gU iA S s i b = (S, s, e) -> RR (.int .i64 e) w' := fun {w' e} x he => by
  rw [hRR, he]
  exact ⟨rfl, iW.step x03' (fun _ h => .inl h) (fun _ h => h) (fun _ h => .inl h) (iW.step (x.mono fun _ _ h => h.elim) (fun _ h => .inl h) (fun _ h => h) (fun _ h => .inl h) (iW.refl (h3.new x)))⟩
 simp (disch := omega) only [eY, gN, dX, stepR_skip, fO, fW, fN, fZ, fX, fY, gQ, gG, eT, fT, fS, gE, fR, fL, fV, fQ, fU, gB, gC, fP, fC, gI, gA, fK, iR, iO, iP, iU, iM, iS, iQ, iT, iN, eP, Result.ok.injEq, Next.value.injEq, true_and, and_true, fI, fJ, gH, fM, gD, gR, acM, fE, fF, fG, fD, eZ, eU, fB, eX, eQ, eH, if_true, if_false, acK, acQ, acL, acN, acP, acO, acJ, acI, eA, dV, aB, dM, dO, cB, eB, eS, eE, dK, eF, fA, dJ, eJ, bP, dS, bE, dN, aL, aH, eL, aX, cI, eM, aE, eN, dE, aR, bF, eD, bB, bC, bJ, aO, aI, cF, fH, dY, cJ, cC, dA, cH, dT, bD, eK, bT, dF, bR, aT, bV, aC, bY, bQ, cA, bX, aY, aU, bA, bU, dL, cP, bO, aV, aJ, aM, bG, aF, dC, dW, aK, aN, aZ, aG, cY, aD, cL, bW, bH, aP, cM, bZ, aA, dD, cO, cU, cG, dI, cD, dG, dU, cQ, eC, eI, bN, aS, dZ, bS, aQ, bL, dH, cZ, cV, cN, cS, bK, bM, cX, dR, cR, dQ, dB, c1]
 refine (LN h3).mono ?_
 rintro r w4 ⟨rfl, hw⟩
 rw [hw]; clear hw w4
 by_cases he : s.err = 0
 rotate_left
 .have n1 : (s.err != 0) = true := bne_iff_ne.2 he
  simp (disch := omega) only [eY, gN, dX, stepR_skip, fO, fW, fN, fZ, fX, fY, gQ, gG, eT, fT, fS, gE, fR, fL, fV, fQ, fU, gB, gC, fP, fC, gI, gA, fK, iR, iO, iP, iU, iM, iS, iQ, iT, iN, eP, Result.ok.injEq, Next.value.injEq, true_and, and_true, fI, fJ, gH, fM, gD, gR, acM, fE, fF, fG, fD, eZ, eU, fB, eX, eQ, eH, if_true, if_false, acK, acQ, acL, acN, acP, acO, acJ, acI, eA, dV, aB, dM, dO, cB, eB, eS, eE, dK, eF, fA, dJ, eJ, bP, dS, bE, dN, aL, aH, eL, aX, cI, eM, aE, eN, dE, aR, bF, eD, bB, bC, bJ, aO, aI, cF, fH, dY, cJ, cC, dA, cH, dT, bD, eK, bT, dF, bR, aT, bV, aC, bY, bQ, cA, bX, aY, aU, bA, bU, dL, cP, bO, aV, aJ, aM, bG, aF, dC, dW, aK, aN, aZ, aG, cY, aD, cL, bW, bH, aP, cM, bZ, aA, dD, cO, cU, cG, dI, cD, dG, dU, cQ, eC, eI, bN, aS, dZ, bS, aQ, bL, dH, cZ, cV, cN, cS, bK, bM, cX, dR, cR, dQ, dB, n1, c1]
  refine (LN h3).mono ?_
  rintro r w4 ⟨rfl, hw⟩
  rw [hw]; clear hw w4
  exact stay (gV.refl _ _) (by unfold pU; rw [if_pos he])
 have n1 : (s.err != 0) = false := bne_eq_false_iff_eq.2 he
 have P1 : pU gU iA S s i b = if i < 0 ∨ (s.hv.length : Int) <= i then (S, s, 17) else if s.fin || s.hv.getD i.toNat false then (S, s, 0) else if BR gU s.man i.toNat b = false then (S, s, 13) else ((kC iA S s i.toNat b).1, { (kC iA S s i.toNat b).2.1 with err := (kC iA S s i.toNat b).2.2, hv := (kC iA S s i.toNat b).2.1.hv.set i.toNat ((kC iA S s i.toNat b).2.2 == 0) }, (kC iA S s i.toNat b).2.2) := by
  unfold pU
  rw [if_neg (by rw [he]; decide)]
 have h3d := h3.new (gV.dr w3 jN)
 obtain ⟨d0, d1, d2, d3, d4, d5, d6, d7, d8, d9⟩ := h3d.cells
 obtain ⟨ha, hc, hhv⟩ := Ez h3.hv
 rw [hhv] at d6
 have c1d : (dr w3).cell? ⟨n, 0, none⟩ = some (dP q) := c1
 have c2d : (dr w3).cell? ⟨n + 1, 0, none⟩ = some (.int .i64 i) := c2
 have hx1 : gV w3 (dr w3) jN := gV.dr _ _
 by_cases hneg : i < 0
 .have q1 : decide (i < 0) = true := decide_eq_true hneg
  rw [if_pos (.inl hneg)] at P1
  simp (disch := omega) only [eY, gN, dX, stepR_skip, fO, fW, fN, fZ, fX, fY, gQ, gG, eT, fT, fS, gE, fR, fL, fV, fQ, fU, gB, gC, fP, fC, gI, gA, fK, iR, iO, iP, iU, iM, iS, iQ, iT, iN, eP, Result.ok.injEq, Next.value.injEq, true_and, and_true, fI, fJ, gH, fM, gD, gR, acM, fE, fF, fG, fD, eZ, eU, fB, eX, eQ, eH, if_true, if_false, acK, acQ, acL, acN, acP, acO, acJ, acI, eA, dV, aB, dM, dO, cB, eB, eS, eE, dK, eF, fA, dJ, eJ, bP, dS, bE, dN, aL, aH, eL, aX, cI, eM, aE, eN, dE, aR, bF, eD, bB, bC, bJ, aO, aI, cF, fH, dY, cJ, cC, dA, cH, dT, bD, eK, bT, dF, bR, aT, bV, aC, bY, bQ, cA, bX, aY, aU, bA, bU, dL, cP, bO, aV, aJ, aM, bG, aF, dC, dW, aK, aN, aZ, aG, cY, aD, cL, bW, bH, aP, cM, bZ, aA, dD, cO, cU, cG, dI, cD, dG, dU, cQ, eC, eI, bN, aS, dZ, bS, aQ, bL, dH, cZ, cV, cN, cS, bK, bM, cX, dR, cR, dQ, dB, n1, c2d, q1]
  exact stay hx1 P1
 have q1 : decide (i < 0) = false := decide_eq_false hneg
 obtain ⟨j, rfl⟩ : ∃ j : Nat, i = j := ⟨i.toNat, by omega⟩
 rw [acM] at P1
 by_cases hge : s.hv.length <= j
 .have q2 : decide (((s.hv.length : Nat) : Int) <= (j : Int)) = true := by simp; omega
  rw [if_pos (.inr (by omega))] at P1
  simp (disch := omega) only [eY, gN, dX, stepR_skip, fO, fW, fN, fZ, fX, fY, gQ, gG, eT, fT, fS, gE, fR, fL, fV, fQ, fU, gB, gC, fP, fC, gI, gA, fK, iR, iO, iP, iU, iM, iS, iQ, iT, iN, eP, Result.ok.injEq, Next.value.injEq, true_and, and_true, fI, fJ, gH, fM, gD, gR, acM, fE, fF, fG, fD, eZ, eU, fB, eX, eQ, eH, if_true, if_false, acK, acQ, acL, acN, acP, acO, acJ, acI, eA, dV, aB, dM, dO, cB, eB, eS, eE, dK, eF, fA, dJ, eJ, bP, dS, bE, dN, aL, aH, eL, aX, cI, eM, aE, eN, dE, aR, bF, eD, bB, bC, bJ, aO, aI, cF, fH, dY, cJ, cC, dA, cH, dT, bD, eK, bT, dF, bR, aT, bV, aC, bY, bQ, cA, bX, aY, aU, bA, bU, dL, cP, bO, aV, aJ, aM, bG, aF, dC, dW, aK, aN, aZ, aG, cY, aD, cL, bW, bH, aP, cM, bZ, aA, dD, cO, cU, cG, dI, cD, dG, dU, cQ, eC, eI, bN, aS, dZ, bS, aQ, bL, dH, cZ, cV, cN, cS, bK, bM, cX, dR, cR, dQ, dB, n1, c2d, q1, c1d, d6, q2]
  exact stay hx1 P1
 have q2 : decide (((s.hv.length : Nat) : Int) <= (j : Int)) = false := by simp; omega
 rw [if_neg (by omega)] at P1
 have hj : j < s.hv.length := by omega
 have hx2 : gV w3 (dr (dr w3)) jN := hx1.seq (gV.dr _ _)
 have h3e := h3.new hx2
 obtain ⟨e0, e1, e2, e3, e4, e5, e6, e7, e8, e9⟩ := h3e.cells
 rw [hhv] at e6
 have c1e : (dr (dr w3)).cell? ⟨n, 0, none⟩ = some (dP q) := c1
 have c2e : (dr (dr w3)).cell? ⟨n + 1, 0, none⟩ = some (.int .i64 (j : Nat)) := c2
 have c3e : (dr (dr w3)).cell? ⟨n + 2, 0, none⟩ = some bv := c3
 cases hfin : s.fin with
 | true =>
   rw [hfin] at e8 P1
   rw [Bool.true_or, if_pos rfl] at P1
   simp (disch := omega) only [eY, gN, dX, stepR_skip, fO, fW, fN, fZ, fX, fY, gQ, gG, eT, fT, fS, gE, fR, fL, fV, fQ, fU, gB, gC, fP, fC, gI, gA, fK, iR, iO, iP, iU, iM, iS, iQ, iT, iN, eP, Result.ok.injEq, Next.value.injEq, true_and, and_true, fI, fJ, gH, fM, gD, gR, acM, fE, fF, fG, fD, eZ, eU, fB, eX, eQ, eH, if_true, if_false, acK, acQ, acL, acN, acP, acO, acJ, acI, eA, dV, aB, dM, dO, cB, eB, eS, eE, dK, eF, fA, dJ, eJ, bP, dS, bE, dN, aL, aH, eL, aX, cI, eM, aE, eN, dE, aR, bF, eD, bB, bC, bJ, aO, aI, cF, fH, dY, cJ, cC, dA, cH, dT, bD, eK, bT, dF, bR, aT, bV, aC, bY, bQ, cA, bX, aY, aU, bA, bU, dL, cP, bO, aV, aJ, aM, bG, aF, dC, dW, aK, aN, aZ, aG, cY, aD, cL, bW, bH, aP, cM, bZ, aA, dD, cO, cU, cG, dI, cD, dG, dU, cQ, eC, eI, bN, aS, dZ, bS, aQ, bL, dH, cZ, cV, cN, cS, bK, bM, cX, dR, cR, dQ, dB, n1, c2d, q1, c1d, d6, q2, c1e, e8]
   exact stay hx2 P1
 | false =>
   rw [hfin] at e8 P1
   rw [agN] at P1
   obtain ⟨sa, so, sc, hsv, hcell⟩ := SL (show Sl (dr (dr w3)) hv (s.hv.map Value.bool) from NB h3e.hv) hj
   rw [hhv] at hsv
   cases hsv
   cases hvj : s.hv.getD j false with
   | true =>
     rw [hvj] at hcell P1
     rw [if_pos rfl] at P1
     simp (disch := omega) only [eY, gN, dX, stepR_skip, fO, fW, fN, fZ, fX, fY, gQ, gG, eT, fT, fS, gE, fR, fL, fV, fQ, fU, gB, gC, fP, fC, gI, gA, fK, iR, iO, iP, iU, iM, iS, iQ, iT, iN, eP, Result.ok.injEq, Next.value.injEq, true_and, and_true, fI, fJ, gH, fM, gD, gR, acM, fE, fF, fG, fD, eZ, eU, fB, eX, eQ, eH, if_true, if_false, acK, acQ, acL, acN, acP, acO, acJ, acI, eA, dV, aB, dM, dO, cB, eB, eS, eE, dK, eF, fA, dJ, eJ, bP, dS, bE, dN, aL, aH, eL, aX, cI, eM, aE, eN, dE, aR, bF, eD, bB, bC, bJ, aO, aI, cF, fH, dY, cJ, cC, dA, cH, dT, bD, eK, bT, dF, bR, aT, bV, aC, bY, bQ, cA, bX, aY, aU, bA, bU, dL, cP, bO, aV, aJ, aM, bG, aF, dC, dW, aK, aN, aZ, aG, cY, aD, cL, bW, bH, aP, cM, bZ, aA, dD, cO, cU, cG, dI, cD, dG, dU, cQ, eC, eI, bN, aS, dZ, bS, aQ, bL, dH, cZ, cV, cN, cS, bK, bM, cX, dR, cR, dQ, dB, n1, c2d, q1, c1d, d6, q2, c1e, e8, e6, c2e, hcell]
     exact stay hx2 P1
   | false =>
     rw [hvj] at hcell P1
     rw [if_neg (by decide)] at P1
     simp (disch := omega) only [eY, gN, dX, stepR_skip, fO, fW, fN, fZ, fX, fY, gQ, gG, eT, fT, fS, gE, fR, fL, fV, fQ, fU, gB, gC, fP, fC, gI, gA, fK, iR, iO, iP, iU, iM, iS, iQ, iT, iN, eP, Result.ok.injEq, Next.value.injEq, true_and, and_true, fI, fJ, gH, fM, gD, gR, acM, fE, fF, fG, fD, eZ, eU, fB, eX, eQ, eH, if_true, if_false, acK, acQ, acL, acN, acP, acO, acJ, acI, eA, dV, aB, dM, dO, cB, eB, eS, eE, dK, eF, fA, dJ, eJ, bP, dS, bE, dN, aL, aH, eL, aX, cI, eM, aE, eN, dE, aR, bF, eD, bB, bC, bJ, aO, aI, cF, fH, dY, cJ, cC, dA, cH, dT, bD, eK, bT, dF, bR, aT, bV, aC, bY, bQ, cA, bX, aY, aU, bA, bU, dL, cP, bO, aV, aJ, aM, bG, aF, dC, dW, aK, aN, aZ, aG, cY, aD, cL, bW, bH, aP, cM, bZ, aA, dD, cO, cU, cG, dI, cD, dG, dU, cQ, eC, eI, bN, aS, dZ, bS, aQ, bL, dH, cZ, cV, cN, cS, bK, bM, cX, dR, cR, dQ, dB, n1, c2d, q1, c1d, d6, q2, c1e, e8, e6, c2e, hcell, c3e]
     refine (UH h3e (by omega) (hb3.ext hx2 (jG _)) hbl).mono ?_
     rintro r w4 ⟨rfl, x4⟩
     cases hwh : BR gU s.man j b with
     | false =>
       rw [hwh] at P1
       rw [if_pos rfl] at P1
       simp (disch := omega) only [eY, gN, dX, stepR_skip, fO, fW, fN, fZ, fX, fY, gQ, gG, eT, fT, fS, gE, fR, fL, fV, fQ, fU, gB, gC, fP, fC, gI, gA, fK, iR, iO, iP, iU, iM, iS, iQ, iT, iN, eP, Result.ok.injEq, Next.value.injEq, true_and, and_true, fI, fJ, gH, fM, gD, gR, acM, fE, fF, fG, fD, eZ, eU, fB, eX, eQ, eH, if_true, if_false, acK, acQ, acL, acN, acP, acO, acJ, acI, eA, dV, aB, dM, dO, cB, eB, eS, eE, dK, eF, fA, dJ, eJ, bP, dS, bE, dN, aL, aH, eL, aX, cI, eM, aE, eN, dE, aR, bF, eD, bB, bC, bJ, aO, aI, cF, fH, dY, cJ, cC, dA, cH, dT, bD, eK, bT, dF, bR, aT, bV, aC, bY, bQ, cA, bX, aY, aU, bA, bU, dL, cP, bO, aV, aJ, aM, bG, aF, dC, dW, aK, aN, aZ, aG, cY, aD, cL, bW, bH, aP, cM, bZ, aA, dD, cO, cU, cG, dI, cD, dG, dU, cQ, eC, eI, bN, aS, dZ, bS, aQ, bL, dH, cZ, cV, cN, cS, bK, bM, cX, dR, cR, dQ, dB]
       exact stay (hx2.seq x4) P1
     | true =>
       rw [hwh] at P1
       rw [if_neg (by decide)] at P1
       have x34 := hx2.seq x4
       have h4 := h3.new x34
       have hm := h.man
       have hm1 := hm.cnt
       have hm2 := hm.max
       have hm3 := hm.part
       have hm4 := hm.size
       have hpj : s.man.part * j < s.man.size := (Av (by omega)).1 (by omega)
       have o14 := o1.ext x34 (fun h => h)
       have o24 := o2.ext x34 (fun h => h)
       have o34 := o3.ext x34 (fun h => h)
       have z4 := x34.size
       have ew : IntKind.i64.wrap ((s.man.part : Nat) : Int) = ((s.man.part : Nat) : Int) := fI (by omega) (by omega)
       have tail : ∀ {w5 : ahA} {a7 : Nat}, gV w4 w5 jN -> w4.heap.size <= a7 -> jI w5 a7 [.int .u64 ((s.man.part * j : Nat) : Int)] -> nC RR (.pointer (some ⟨n, 0, none⟩)) (.pointer (some ⟨n + 1, 0, none⟩)) (.pointer (some ⟨n + 2, 0, none⟩)) (.pointer (some ⟨a7, 0, none⟩)) w5 := fun {w5 a7} x ha o7 => by
        have x05 := x34.seq x
        have nin : ∀ y, n <= y -> ¬ (X y ∨ Y y) := fun y hy hm => by have := hlt0 y hm; omega
        refine U3 (i := j) (h3.new x05) hB hj ((hb3.ext x34 (jG _)).ext x (jG _)) hbl hbn hlg (by omega) (o14.ext x (fun h => h)) (o24.ext x (fun h => h)) (o34.ext x (fun h => h)) o7 (nin _ (by omega)) (nin _ (by omega)) (nin _ (by omega)) (nin _ (by omega)) fun w' hp => ?_
        rw [hRR, P1]
        exact ⟨rfl, iW.step (x03'.seq (x05.mono fun _ _ h => h.elim)) (fun _ h => .inl h) (fun _ h => h) (fun _ h => .inl h) hp⟩
       obtain ⟨f0, f1, f2, f3, f4, f5, f6, f7, f8, f9⟩ := (h4.new (gV.dr w4 jN)).cells
       have k1 : (dr w4).cell? ⟨n, 0, none⟩ = some (dP q) := o14.cell (off := 0)
       have k2 : (dr w4).cell? ⟨n + 1, 0, none⟩ = some (.int .i64 (j : Nat)) := o24.cell (off := 0)
       obtain ⟨pj, hpj'⟩ : ∃ pj, pj = s.man.part * j := ⟨_, rfl⟩
       rw [<- hpj'] at tail
       have zd : (dr w4).heap.size = w4.heap.size := rfl
       simp (disch := omega) only [eY, gN, dX, stepR_skip, fO, fW, fN, fZ, fX, fY, gQ, gG, eT, fT, fS, gE, fR, fL, fV, fQ, fU, gB, gC, fP, fC, gI, gA, fK, iR, iO, iP, iU, iM, iS, iQ, iT, iN, eP, Result.ok.injEq, Next.value.injEq, true_and, and_true, fI, fJ, gH, fM, gD, gR, acM, fE, fF, fG, fD, eZ, eU, fB, eX, eQ, eH, if_true, if_false, acK, acQ, acL, acN, acP, acO, acJ, acI, eA, dV, aB, dM, dO, cB, eB, eS, eE, dK, eF, fA, dJ, eJ, bP, dS, bE, dN, aL, aH, eL, aX, cI, eM, aE, eN, dE, aR, bF, eD, bB, bC, bJ, aO, aI, cF, fH, dY, cJ, cC, dA, cH, dT, bD, eK, bT, dF, bR, aT, bV, aC, bY, bQ, cA, bX, aY, aU, bA, bU, dL, cP, bO, aV, aJ, aM, bG, aF, dC, dW, aK, aN, aZ, aG, cY, aD, cL, bW, bH, aP, cM, bZ, aA, dD, cO, cU, cG, dI, cD, dG, dU, cQ, eC, eI, bN, aS, dZ, bS, aQ, bL, dH, cZ, cV, cN, cS, bK, bM, cX, dR, cR, dQ, dB]
       refine Wk ?_ ?_
       .simp (disch := omega) only [eY, gN, dX, stepR_skip, fO, fW, fN, fZ, fX, fY, gQ, gG, eT, fT, fS, gE, fR, fL, fV, fQ, fU, gB, gC, fP, fC, gI, gA, fK, iR, iO, iP, iU, iM, iS, iQ, iT, iN, eP, Result.ok.injEq, Next.value.injEq, true_and, and_true, fI, fJ, gH, fM, gD, gR, acM, fE, fF, fG, fD, eZ, eU, fB, eX, eQ, eH, if_true, if_false, acK, acQ, acL, acN, acP, acO, acJ, acI, eA, dV, aB, dM, dO, cB, eB, eS, eE, dK, eF, fA, dJ, eJ, bP, dS, bE, dN, aL, aH, eL, aX, cI, eM, aE, eN, dE, aR, bF, eD, bB, bC, bJ, aO, aI, cF, fH, dY, cJ, cC, dA, cH, dT, bD, eK, bT, dF, bR, aT, bV, aC, bY, bQ, cA, bX, aY, aU, bA, bU, dL, cP, bO, aV, aJ, aM, bG, aF, dC, dW, aK, aN, aZ, aG, cY, aD, cL, bW, bH, aP, cM, bZ, aA, dD, cO, cU, cG, dI, cD, dG, dU, cQ, eC, eI, bN, aS, dZ, bS, aQ, bL, dH, cZ, cV, cN, cS, bK, bM, cX, dR, cR, dQ, dB, k1, k2, f2, f3, ew]
        refine (Ph (by omega) hm3.1 hm3.2 hm2 (by omega)).mono ?_
        rintro r w5 ⟨rfl, hw⟩
        rw [hw]; clear hw w5
        rw [<- hpj']
        simp (disch := omega) only [eY, gN, dX, stepR_skip, fO, fW, fN, fZ, fX, fY, gQ, gG, eT, fT, fS, gE, fR, fL, fV, fQ, fU, gB, gC, fP, fC, gI, gA, fK, iR, iO, iP, iU, iM, iS, iQ, iT, iN, eP, Result.ok.injEq, Next.value.injEq, true_and, and_true, fI, fJ, gH, fM, gD, gR, acM, fE, fF, fG, fD, eZ, eU, fB, eX, eQ, eH, if_true, if_false, acK, acQ, acL, acN, acP, acO, acJ, acI, eA, dV, aB, dM, dO, cB, eB, eS, eE, dK, eF, fA, dJ, eJ, bP, dS, bE, dN, aL, aH, eL, aX, cI, eM, aE, eN, dE, aR, bF, eD, bB, bC, bJ, aO, aI, cF, fH, dY, cJ, cC, dA, cH, dT, bD, eK, bT, dF, bR, aT, bV, aC, bY, bQ, cA, bX, aY, aU, bA, bU, dL, cP, bO, aV, aJ, aM, bG, aF, dC, dW, aK, aN, aZ, aG, cY, aD, cL, bW, bH, aP, cM, bZ, aA, dD, cO, cU, cG, dI, cD, dG, dU, cQ, eC, eI, bN, aS, dZ, bS, aQ, bL, dH, cZ, cV, cN, cS, bK, bM, cX, dR, cR, dQ, dB]
        refine QL fun w5 o5 x5 s5 => ?_
        refine J5 o5 rfl (by simp) fun w6 o6 x6 s6 => ?_
        simp only [adA] at o6
        exact tail (((gV.dr w4 _).seq x5).trans x6 fun y hy h => by omega) (acY _) o6
       .simp (disch := omega) only [eY, gN, dX, stepR_skip, fO, fW, fN, fZ, fX, fY, gQ, gG, eT, fT, fS, gE, fR, fL, fV, fQ, fU, gB, gC, fP, fC, gI, gA, fK, iR, iO, iP, iU, iM, iS, iQ, iT, iN, eP, Result.ok.injEq, Next.value.injEq, true_and, and_true, fI, fJ, gH, fM, gD, gR, acM, fE, fF, fG, fD, eZ, eU, fB, eX, eQ, eH, if_true, if_false, acK, acQ, acL, acN, acP, acO, acJ, acI, eA, dV, aB, dM, dO, cB, eB, eS, eE, dK, eF, fA, dJ, eJ, bP, dS, bE, dN, aL, aH, eL, aX, cI, eM, aE, eN, dE, aR, bF, eD, bB, bC, bJ, aO, aI, cF, fH, dY, cJ, cC, dA, cH, dT, bD, eK, bT, dF, bR, aT, bV, aC, bY, bQ, cA, bX, aY, aU, bA, bU, dL, cP, bO, aV, aJ, aM, bG, aF, dC, dW, aK, aN, aZ, aG, cY, aD, cL, bW, bH, aP, cM, bZ, aA, dD, cO, cU, cG, dI, cD, dG, dU, cQ, eC, eI, bN, aS, dZ, bS, aQ, bL, dH, cZ, cV, cN, cS, bK, bM, cX, dR, cR, dQ, dB, k1, k2, f2, f3, ew]
        refine QL fun w5 o5 x5 s5 => ?_
        obtain ⟨g0, g1, g2, g3, g4, g5, g6, g7, g8, g9⟩ := (h4.new ((gV.dr w4 jN).seq x5)).cells
        have k1' : w5.cell? ⟨n, 0, none⟩ = some (dP q) := (o14.ext ((gV.dr w4 jN).seq x5) (fun h => h)).cell (off := 0)
        have k2' : w5.cell? ⟨n + 1, 0, none⟩ = some (.int .i64 (j : Nat)) := (o24.ext ((gV.dr w4 jN).seq x5) (fun h => h)).cell (off := 0)
        simp (disch := omega) only [eY, gN, dX, stepR_skip, fO, fW, fN, fZ, fX, fY, gQ, gG, eT, fT, fS, gE, fR, fL, fV, fQ, fU, gB, gC, fP, fC, gI, gA, fK, iR, iO, iP, iU, iM, iS, iQ, iT, iN, eP, Result.ok.injEq, Next.value.injEq, true_and, and_true, fI, fJ, gH, fM, gD, gR, acM, fE, fF, fG, fD, eZ, eU, fB, eX, eQ, eH, if_true, if_false, acK, acQ, acL, acN, acP, acO, acJ, acI, eA, dV, aB, dM, dO, cB, eB, eS, eE, dK, eF, fA, dJ, eJ, bP, dS, bE, dN, aL, aH, eL, aX, cI, eM, aE, eN, dE, aR, bF, eD, bB, bC, bJ, aO, aI, cF, fH, dY, cJ, cC, dA, cH, dT, bD, eK, bT, dF, bR, aT, bV, aC, bY, bQ, cA, bX, aY, aU, bA, bU, dL, cP, bO, aV, aJ, aM, bG, aF, dC, dW, aK, aN, aZ, aG, cY, aD, cL, bW, bH, aP, cM, bZ, aA, dD, cO, cU, cG, dI, cD, dG, dU, cQ, eC, eI, bN, aS, dZ, bS, aQ, bL, dH, cZ, cV, cN, cS, bK, bM, cX, dR, cR, dQ, dB, k1', k2', g2, g3, ew]
        refine (Ph (by omega) hm3.1 hm3.2 hm2 (by omega)).mono ?_
        rintro r w6 ⟨rfl, hw⟩
        rw [hw]; clear hw w6
        rw [<- hpj']
        simp (disch := omega) only [eY, gN, dX, stepR_skip, fO, fW, fN, fZ, fX, fY, gQ, gG, eT, fT, fS, gE, fR, fL, fV, fQ, fU, gB, gC, fP, fC, gI, gA, fK, iR, iO, iP, iU, iM, iS, iQ, iT, iN, eP, Result.ok.injEq, Next.value.injEq, true_and, and_true, fI, fJ, gH, fM, gD, gR, acM, fE, fF, fG, fD, eZ, eU, fB, eX, eQ, eH, if_true, if_false, acK, acQ, acL, acN, acP, acO, acJ, acI, eA, dV, aB, dM, dO, cB, eB, eS, eE, dK, eF, fA, dJ, eJ, bP, dS, bE, dN, aL, aH, eL, aX, cI, eM, aE, eN, dE, aR, bF, eD, bB, bC, bJ, aO, aI, cF, fH, dY, cJ, cC, dA, cH, dT, bD, eK, bT, dF, bR, aT, bV, aC, bY, bQ, cA, bX, aY, aU, bA, bU, dL, cP, bO, aV, aJ, aM, bG, aF, dC, dW, aK, aN, aZ, aG, cY, aD, cL, bW, bH, aP, cM, bZ, aA, dD, cO, cU, cG, dI, cD, dG, dU, cQ, eC, eI, bN, aS, dZ, bS, aQ, bL, dH, cZ, cV, cN, cS, bK, bM, cX, dR, cR, dQ, dB]
        refine J5 o5 rfl (by simp) fun w6 o6 x6 s6 => ?_
        simp only [adA] at o6
        exact tail (((gV.dr w4 _).seq x5).trans x6 fun y hy h => by omega) (acY _) o6
theorem kP.newHv {n0 : Nat} {w w1 w2 : ahA} {q p ob : Nat} {X D Y : Nat -> Prop} {S : jL} {s s' : nG} {lv hv : ahB} {l : List Bool} (h : kP n0 w q p X D Y S s lv hv) (x1 : gV w w1 jN) (hob : w.heap.size <= ob) (o1 : jI w1 ob (l.map Value.bool)) (hl : l.length <= 1024)
 (x2 : gV w1 w2 (fun y => y = q)) (o2 : jI w2 q (stC p s' lv (.slice (some ⟨ob, 0, none⟩) l.length l.length))) (hm : s'.man = s.man) (hh : s'.hv = l) (hn : s'.nm = s.nm) (he : s'.epoch < 18446744073709551616) (hlg : s'.log <= 1000000000) :
 kP n0 w2 q p X (fun b => D b ∨ b = ob) (fun b => Y b ∨ b = ob) S s' lv (.slice (some ⟨ob, 0, none⟩) l.length l.length) := by
 have hlt := kP.lt h
 have hqY := hlt q (.inr h.yq)
 have hq := h.yd q h.yq
 have hqn := h.lo q (.inr h.yq)
 have hg := h.g0
 have hhi := h.hi
 have hol := o1.lt
 have z1 := x1.size
 have z2 := x2.size
 have hd1 := h.dsk.more x1 hob hol
 refine ⟨(h.glob.ext x1).extM x2 (by omega) (by omega), h.g0, fun b hb => ?_, by omega, hd1.ext x2 fun b hb => ⟨.inl (hb ▸ hq.1), hb ▸ hq.2⟩, .inl h.yq, fun b hb => ?_, o2, hm ▸ h.man, ?_, ?_, he, hlg, hh ▸ hl, hn ▸ h.nl⟩
 .rcases hb with hb | hb | hb
  .exact h.lo b (.inl hb)
  .exact h.lo b (.inr hb)
  .omega
 .rcases hb with hb | hb
  .exact ⟨.inl (h.yd b hb).1, (h.yd b hb).2⟩
  .exact ⟨.inr hb, fun hx => by have := hlt b (.inl hx); omega⟩
 .rw [hm]
  have k1 : VN w1 (fun b => X b ∨ Y b) lv s.man.leaves := h.lv.keep (x1.mono fun _ _ h => h.elim) fun b hb => .inl hb
  have k2 : VN w1 (fun b => X b ∨ Y b ∨ b = ob) lv s.man.leaves := h.lv.keep (x1.mono fun _ _ h => h.elim) fun b hb => by
   rcases hb with hb | hb | hb
   .exact .inl (.inl hb)
   .exact .inl (.inr hb)
   .exact .inr (by omega)
  exact k2.keep (x2.mono fun b _ hb => .inr (.inl (hb ▸ h.yq))) fun b hb => .inl hb
 .rw [hh]
  refine ⟨by rw [acR]; simp, .inr ⟨ob, l.length, [], rfl, ⟨.inr rfl, by omega⟩, ?_, by simp, acY _⟩⟩
  rw [aeJ]
  exact o1.ext x2 (by omega)
theorem VX {n0 q p : Nat} {X D Y : Nat -> Prop} {S : jL} {s : nG} {lv hv : ahB} {w : ahA} (h : kP n0 w q p X D Y S s lv hv) (hB : Bg 2 S) (hbp : ∀ b, jC (gZ s.nm) S.seen = some b -> b.length <= 1000000) :
 gT pg lO #[dP q] w (fun r w' => r = .int .i64 (jK gU S s).2.2 /\ iW n0 w q p X D Y (jK gU S s).1 (jK gU S s).2.1 w') := by
 refine F4 ?_
 obtain ⟨RR, hRR⟩ : ∃ RR : ahB -> ahA -> Prop, RR = fun r w' => r = .int .i64 (jK gU S s).2.2 /\ iW n0 w q p X D Y (jK gU S s).1 (jK gU S s).2.1 w' := ⟨_, rfl⟩
 rw [<- hRR]
 unfold DH tF
 refine oM fun w1 o1 x1 s1 => ?_
 have hlt0 := fun y hy => kP.lt h y hy
 generalize hn : w.heap.size = n at *
 have o1 : jI w1 n [dP q] := o1
 have h1 := h.new x1
 have c1 := o1.cell (off := 0)
 simp only [acI] at c1
 have x01 : gV w w1 (fun y => X y ∨ Y y) := x1.mono fun _ _ h => h.elim
 have stay : ∀ {w' : ahA} {e : Int}, gV w1 w' jN -> jK gU S s = (S, s, e) -> RR (.int .i64 e) w' := fun {w' e} x he => by
  rw [hRR, he]
  exact ⟨rfl, iW.step x01 (fun _ h => .inl h) (fun _ h => h) (fun _ h => .inl h) (iW.step (x.mono fun _ _ h => h.elim) (fun _ h => .inl h) (fun _ h => h) (fun _ h => .inl h) (iW.refl (h1.new x)))⟩
 obtain ⟨d0, d1, d2, d3, d4, d5, d6, d7, d8, d9⟩ := h1.cells
 simp (disch := omega) only [eY, gN, dX, stepR_skip, fO, fW, fN, fZ, fX, fY, gQ, gG, eT, fT, fS, gE, fR, fL, fV, fQ, fU, gB, gC, fP, fC, gI, gA, fK, iR, iO, iP, iU, iM, iS, iQ, iT, iN, eP, Result.ok.injEq, Next.value.injEq, true_and, and_true, fI, fJ, gH, fM, gD, gR, acM, fE, fF, fG, fD, eZ, eU, fB, eX, eQ, eH, if_true, if_false, acK, acQ, acL, acN, acP, acO, acJ, acI, eA, dV, aB, dM, dO, cB, eB, eS, eE, dK, eF, fA, dJ, eJ, bP, dS, bE, dN, aL, aH, eL, aX, cI, eM, aE, eN, dE, aR, bF, eD, bB, bC, bJ, aO, aI, cF, fH, dY, cJ, cC, dA, cH, dT, bD, eK, bT, dF, bR, aT, bV, aC, bY, bQ, cA, bX, aY, aU, bA, bU, dL, cP, bO, aV, aJ, aM, bG, aF, dC, dW, aK, aN, aZ, aG, cY, aD, cL, bW, bH, aP, cM, bZ, aA, dD, cO, cU, cG, dI, cD, dG, dU, cQ, eC, eI, bN, aS, dZ, bS, aQ, bL, dH, cZ, cV, cN, cS, bK, bM, cX, dR, cR, dQ, dB, c1]
 refine (LN h1).mono ?_
 rintro r w2 ⟨rfl, hw⟩
 rw [hw]; clear hw w2
 by_cases he : s.err = 0
 rotate_left
 .have n1 : (s.err != 0) = true := bne_iff_ne.2 he
  simp (disch := omega) only [eY, gN, dX, stepR_skip, fO, fW, fN, fZ, fX, fY, gQ, gG, eT, fT, fS, gE, fR, fL, fV, fQ, fU, gB, gC, fP, fC, gI, gA, fK, iR, iO, iP, iU, iM, iS, iQ, iT, iN, eP, Result.ok.injEq, Next.value.injEq, true_and, and_true, fI, fJ, gH, fM, gD, gR, acM, fE, fF, fG, fD, eZ, eU, fB, eX, eQ, eH, if_true, if_false, acK, acQ, acL, acN, acP, acO, acJ, acI, eA, dV, aB, dM, dO, cB, eB, eS, eE, dK, eF, fA, dJ, eJ, bP, dS, bE, dN, aL, aH, eL, aX, cI, eM, aE, eN, dE, aR, bF, eD, bB, bC, bJ, aO, aI, cF, fH, dY, cJ, cC, dA, cH, dT, bD, eK, bT, dF, bR, aT, bV, aC, bY, bQ, cA, bX, aY, aU, bA, bU, dL, cP, bO, aV, aJ, aM, bG, aF, dC, dW, aK, aN, aZ, aG, cY, aD, cL, bW, bH, aP, cM, bZ, aA, dD, cO, cU, cG, dI, cD, dG, dU, cQ, eC, eI, bN, aS, dZ, bS, aQ, bL, dH, cZ, cV, cN, cS, bK, bM, cX, dR, cR, dQ, dB, n1, c1]
  refine (LN h1).mono ?_
  rintro r w2 ⟨rfl, hw⟩
  rw [hw]; clear hw w2
  exact stay (gV.refl _ _) (by unfold jK; rw [if_pos he])
 have n1 : (s.err != 0) = false := bne_eq_false_iff_eq.2 he
 cases hfin : s.fin with
 | true =>
   rw [hfin] at d8
   simp (disch := omega) only [eY, gN, dX, stepR_skip, fO, fW, fN, fZ, fX, fY, gQ, gG, eT, fT, fS, gE, fR, fL, fV, fQ, fU, gB, gC, fP, fC, gI, gA, fK, iR, iO, iP, iU, iM, iS, iQ, iT, iN, eP, Result.ok.injEq, Next.value.injEq, true_and, and_true, fI, fJ, gH, fM, gD, gR, acM, fE, fF, fG, fD, eZ, eU, fB, eX, eQ, eH, if_true, if_false, acK, acQ, acL, acN, acP, acO, acJ, acI, eA, dV, aB, dM, dO, cB, eB, eS, eE, dK, eF, fA, dJ, eJ, bP, dS, bE, dN, aL, aH, eL, aX, cI, eM, aE, eN, dE, aR, bF, eD, bB, bC, bJ, aO, aI, cF, fH, dY, cJ, cC, dA, cH, dT, bD, eK, bT, dF, bR, aT, bV, aC, bY, bQ, cA, bX, aY, aU, bA, bU, dL, cP, bO, aV, aJ, aM, bG, aF, dC, dW, aK, aN, aZ, aG, cY, aD, cL, bW, bH, aP, cM, bZ, aA, dD, cO, cU, cG, dI, cD, dG, dU, cQ, eC, eI, bN, aS, dZ, bS, aQ, bL, dH, cZ, cV, cN, cS, bK, bM, cX, dR, cR, dQ, dB, n1, c1, d8]
   exact stay (gV.refl _ _) (by unfold jK; rw [if_neg (by rw [he]; decide), hfin, if_pos rfl])
 | false =>
   rw [hfin] at d8
   have C1 : jK gU S s = if Ct s.hv = false then (S, s, 30) else if S.down then (S, { s with err := 20 }, 20) else match jC (gZ s.nm) S.seen with
    | none => (S, { s with err := 21 }, 21)
    | some b => if Ct (iV gU s.man b) = false then (S, { s with hv := iV gU s.man b }, 13) else
      (if (MX S (gZ s.nm) s.nm).2 ≠ 0 then ((MX S (gZ s.nm) s.nm).1, { s with hv := iV gU s.man b, err := (MX S (gZ s.nm) s.nm).2, fin := false }, (MX S (gZ s.nm) s.nm).2) else
       ((Ab (MX S (gZ s.nm) s.nm).1).1, { s with hv := iV gU s.man b, err := (Ab (MX S (gZ s.nm) s.nm).1).2, fin := (Ab (MX S (gZ s.nm) s.nm).1).2 == 0 }, (Ab (MX S (gZ s.nm) s.nm).1).2)) := by
    unfold jK
    exact (if_neg (by rw [he]; decide)).trans ((if_neg (by rw [hfin]; decide)).trans rfl)
   simp (disch := omega) only [eY, gN, dX, stepR_skip, fO, fW, fN, fZ, fX, fY, gQ, gG, eT, fT, fS, gE, fR, fL, fV, fQ, fU, gB, gC, fP, fC, gI, gA, fK, iR, iO, iP, iU, iM, iS, iQ, iT, iN, eP, Result.ok.injEq, Next.value.injEq, true_and, and_true, fI, fJ, gH, fM, gD, gR, acM, fE, fF, fG, fD, eZ, eU, fB, eX, eQ, eH, if_true, if_false, acK, acQ, acL, acN, acP, acO, acJ, acI, eA, dV, aB, dM, dO, cB, eB, eS, eE, dK, eF, fA, dJ, eJ, bP, dS, bE, dN, aL, aH, eL, aX, cI, eM, aE, eN, dE, aR, bF, eD, bB, bC, bJ, aO, aI, cF, fH, dY, cJ, cC, dA, cH, dT, bD, eK, bT, dF, bR, aT, bV, aC, bY, bQ, cA, bX, aY, aU, bA, bU, dL, cP, bO, aV, aJ, aM, bG, aF, dC, dW, aK, aN, aZ, aG, cY, aD, cL, bW, bH, aP, cM, bZ, aA, dD, cO, cU, cG, dI, cD, dG, dU, cQ, eC, eI, bN, aS, dZ, bS, aQ, bL, dH, cZ, cV, cN, cS, bK, bM, cX, dR, cR, dQ, dB, n1, c1, d8, d6]
   refine (PH (NB h1.hv) (by have := h.hl; omega)).mono ?_
   rintro r w2 ⟨rfl, hw⟩
   rw [hw]; clear hw w2
   have hall : (!s.hv.contains false) = Ct s.hv := rfl
   rw [hall]
   cases hab : Ct s.hv with
   | false =>
     rw [if_pos hab] at C1
     simp (disch := omega) only [eY, gN, dX, stepR_skip, fO, fW, fN, fZ, fX, fY, gQ, gG, eT, fT, fS, gE, fR, fL, fV, fQ, fU, gB, gC, fP, fC, gI, gA, fK, iR, iO, iP, iU, iM, iS, iQ, iT, iN, eP, Result.ok.injEq, Next.value.injEq, true_and, and_true, fI, fJ, gH, fM, gD, gR, acM, fE, fF, fG, fD, eZ, eU, fB, eX, eQ, eH, if_true, if_false, acK, acQ, acL, acN, acP, acO, acJ, acI, eA, dV, aB, dM, dO, cB, eB, eS, eE, dK, eF, fA, dJ, eJ, bP, dS, bE, dN, aL, aH, eL, aX, cI, eM, aE, eN, dE, aR, bF, eD, bB, bC, bJ, aO, aI, cF, fH, dY, cJ, cC, dA, cH, dT, bD, eK, bT, dF, bR, aT, bV, aC, bY, bQ, cA, bX, aY, aU, bA, bU, dL, cP, bO, aV, aJ, aM, bG, aF, dC, dW, aK, aN, aZ, aG, cY, aD, cL, bW, bH, aP, cM, bZ, aA, dD, cO, cU, cG, dI, cD, dG, dU, cQ, eC, eI, bN, aS, dZ, bS, aQ, bL, dH, cZ, cV, cN, cS, bK, bM, cX, dR, cR, dQ, dB]
     exact stay (gV.refl _ _) C1
   | true =>
     rw [if_neg (by rw [hab]; decide)] at C1
     have hd := h1.new (gV.dr w1 jN)
     obtain ⟨e0, e1, e2, e3, e4, e5, e6, e7, e8, e9⟩ := hd.cells
     have c1d : (dr w1).cell? ⟨n, 0, none⟩ = some (dP q) := c1
     have ct := O6 h.nl
     simp (disch := omega) only [eY, gN, dX, stepR_skip, fO, fW, fN, fZ, fX, fY, gQ, gG, eT, fT, fS, gE, fR, fL, fV, fQ, fU, gB, gC, fP, fC, gI, gA, fK, iR, iO, iP, iU, iM, iS, iQ, iT, iN, eP, Result.ok.injEq, Next.value.injEq, true_and, and_true, fI, fJ, gH, fM, gD, gR, acM, fE, fF, fG, fD, eZ, eU, fB, eX, eQ, eH, if_true, if_false, acK, acQ, acL, acN, acP, acO, acJ, acI, eA, dV, aB, dM, dO, cB, eB, eS, eE, dK, eF, fA, dJ, eJ, bP, dS, bE, dN, aL, aH, eL, aX, cI, eM, aE, eN, dE, aR, bF, eD, bB, bC, bJ, aO, aI, cF, fH, dY, cJ, cC, dA, cH, dT, bD, eK, bT, dF, bR, aT, bV, aC, bY, bQ, cA, bX, aY, aU, bA, bU, dL, cP, bO, aV, aJ, aM, bG, aF, dC, dW, aK, aN, aZ, aG, cY, aD, cL, bW, bH, aP, cM, bZ, aA, dD, cO, cU, cG, dI, cD, dG, dU, cQ, eC, eI, bN, aS, dZ, bS, aQ, bL, dH, cZ, cV, cN, cS, bK, bM, cX, dR, cR, dQ, dB, c1d, e0, e1, ct]
     refine (Rq (name := gZ s.nm) hd.dsk hB.bd (fun b hb => hB.file hb)).mono ?_
     rintro r w2 ⟨hr, x2⟩
     have x12 : gV w1 w2 jN := (gV.dr w1 _).seq x2
     have h2 := h1.new x12
     have c2 : w2.cell? ⟨n, 0, none⟩ = some (dP q) := (o1.ext x12 (fun h => h)).cell (off := 0)
     have x02 : gV w w2 (fun y => X y ∨ Y y) := x01.seq (x12.mono fun _ _ h => h.elim)
     have bad : ∀ {e : Int}, jK gU S s = (S, { s with err := e }, e) -> eY pg (iG 29 (.pointer (some ⟨q, 9, none⟩)) (.int .i64 e)) w2 fun _u w => RR (.int .i64 e) w := fun {e} hC => by
      refine Df h2.own rfl (by simp) fun w3 o3 x3 z3 => ?_
      have h3 := h2.set (s' := { s with err := e }) x3 o3 rfl rfl rfl h.ep h.lg
      rw [hRR, hC]
      exact ⟨rfl, iW.step x02 (fun _ h => .inl h) (fun _ h => h) (fun _ h => .inl h) ⟨X, D, Y, _, _, h3, fun _ h => .inl h, fun _ h => h, fun _ h => .inl h, x3.mono fun y _ hy => .inr (hy ▸ h.yq)⟩⟩
     rcases hr with ⟨hdn, rfl⟩ | ⟨hdn, hg, rfl⟩ | ⟨hdn, b, v, hg, rfl, ho⟩
     .rw [if_pos hdn] at C1
      have n2 : ((20 : Int) != 0) = true := rfl
      have := bad C1
      simp (disch := omega) only [eY, gN, dX, stepR_skip, fO, fW, fN, fZ, fX, fY, gQ, gG, eT, fT, fS, gE, fR, fL, fV, fQ, fU, gB, gC, fP, fC, gI, gA, fK, iR, iO, iP, iU, iM, iS, iQ, iT, iN, eP, Result.ok.injEq, Next.value.injEq, true_and, and_true, fI, fJ, gH, fM, gD, gR, acM, fE, fF, fG, fD, eZ, eU, fB, eX, eQ, eH, if_true, if_false, acK, acQ, acL, acN, acP, acO, acJ, acI, eA, dV, aB, dM, dO, cB, eB, eS, eE, dK, eF, fA, dJ, eJ, bP, dS, bE, dN, aL, aH, eL, aX, cI, eM, aE, eN, dE, aR, bF, eD, bB, bC, bJ, aO, aI, cF, fH, dY, cJ, cC, dA, cH, dT, bD, eK, bT, dF, bR, aT, bV, aC, bY, bQ, cA, bX, aY, aU, bA, bU, dL, cP, bO, aV, aJ, aM, bG, aF, dC, dW, aK, aN, aZ, aG, cY, aD, cL, bW, bH, aP, cM, bZ, aA, dD, cO, cU, cG, dI, cD, dG, dU, cQ, eC, eI, bN, aS, dZ, bS, aQ, bL, dH, cZ, cV, cN, cS, bK, bM, cX, dR, cR, dQ, dB, n2, c2]
      exact this
     .rw [if_neg (by rw [hdn]; decide), hg] at C1
      have n2 : ((21 : Int) != 0) = true := rfl
      have := bad C1
      simp (disch := omega) only [eY, gN, dX, stepR_skip, fO, fW, fN, fZ, fX, fY, gQ, gG, eT, fT, fS, gE, fR, fL, fV, fQ, fU, gB, gC, fP, fC, gI, gA, fK, iR, iO, iP, iU, iM, iS, iQ, iT, iN, eP, Result.ok.injEq, Next.value.injEq, true_and, and_true, fI, fJ, gH, fM, gD, gR, acM, fE, fF, fG, fD, eZ, eU, fB, eX, eQ, eH, if_true, if_false, acK, acQ, acL, acN, acP, acO, acJ, acI, eA, dV, aB, dM, dO, cB, eB, eS, eE, dK, eF, fA, dJ, eJ, bP, dS, bE, dN, aL, aH, eL, aX, cI, eM, aE, eN, dE, aR, bF, eD, bB, bC, bJ, aO, aI, cF, fH, dY, cJ, cC, dA, cH, dT, bD, eK, bT, dF, bR, aT, bV, aC, bY, bQ, cA, bX, aY, aU, bA, bU, dL, cP, bO, aV, aJ, aM, bG, aF, dC, dW, aK, aN, aZ, aG, cY, aD, cL, bW, bH, aP, cM, bZ, aA, dD, cO, cU, cG, dI, cD, dG, dU, cQ, eC, eI, bN, aS, dZ, bS, aQ, bL, dH, cZ, cV, cN, cS, bK, bM, cX, dR, cR, dQ, dB, n2, c2]
      exact this
     rw [if_neg (by rw [hdn]; decide), hg] at C1
     have C1 : jK gU S s = if Ct (iV gU s.man b) = false then (S, { s with hv := iV gU s.man b }, 13) else
      (if (MX S (gZ s.nm) s.nm).2 ≠ 0 then ((MX S (gZ s.nm) s.nm).1, { s with hv := iV gU s.man b, err := (MX S (gZ s.nm) s.nm).2, fin := false }, (MX S (gZ s.nm) s.nm).2) else
       ((Ab (MX S (gZ s.nm) s.nm).1).1, { s with hv := iV gU s.man b, err := (Ab (MX S (gZ s.nm) s.nm).1).2, fin := (Ab (MX S (gZ s.nm) s.nm).1).2 == 0 }, (Ab (MX S (gZ s.nm) s.nm).1).2)) := C1
     have n2 : ((0 : Int) != 0) = false := rfl
     have h2d := h2.new (gV.dr w2 jN)
     have c2d : (dr w2).cell? ⟨n, 0, none⟩ = some (dP q) := c2
     have hvb : Bs (dr w2) v b := (show Bs w2 v b from ho.sl).ext (gV.dr w2 jN) (jG _)
     simp (disch := omega) only [eY, gN, dX, stepR_skip, fO, fW, fN, fZ, fX, fY, gQ, gG, eT, fT, fS, gE, fR, fL, fV, fQ, fU, gB, gC, fP, fC, gI, gA, fK, iR, iO, iP, iU, iM, iS, iQ, iT, iN, eP, Result.ok.injEq, Next.value.injEq, true_and, and_true, fI, fJ, gH, fM, gD, gR, acM, fE, fF, fG, fD, eZ, eU, fB, eX, eQ, eH, if_true, if_false, acK, acQ, acL, acN, acP, acO, acJ, acI, eA, dV, aB, dM, dO, cB, eB, eS, eE, dK, eF, fA, dJ, eJ, bP, dS, bE, dN, aL, aH, eL, aX, cI, eM, aE, eN, dE, aR, bF, eD, bB, bC, bJ, aO, aI, cF, fH, dY, cJ, cC, dA, cH, dT, bD, eK, bT, dF, bR, aT, bV, aC, bY, bQ, cA, bX, aY, aU, bA, bU, dL, cP, bO, aV, aJ, aM, bG, aF, dC, dW, aK, aN, aZ, aG, cY, aD, cL, bW, bH, aP, cM, bZ, aA, dD, cO, cU, cG, dI, cD, dG, dU, cQ, eC, eI, bN, aS, dZ, bS, aQ, bL, dH, cZ, cV, cN, cS, bK, bM, cX, dR, cR, dQ, dB, n2, c2d]
     refine (Pg h2d hvb (hbp b hg)).mono ?_
     rintro r w3 ⟨ob, rfl, hob, oo, x3⟩
     have x23 : gV w2 w3 jN := (gV.dr w2 _).seq x3
     have c3 : w3.cell? ⟨n, 0, none⟩ = some (dP q) := ((o1.ext x12 (fun h => h)).ext x23 (fun h => h)).cell (off := 0)
     obtain ⟨W, hW⟩ : ∃ W, W = iV gU s.man b := ⟨_, rfl⟩
     have hWl : W.length = s.man.leaves.length := by rw [hW]; unfold iV; simp
     rw [<- hW] at oo C1
     rw [<- hWl]
     have hob2 : w2.heap.size <= ob := hob
     have hmx := h.man.max
     have hmc := h.man.cnt
     simp (disch := omega) only [eY, gN, dX, stepR_skip, fO, fW, fN, fZ, fX, fY, gQ, gG, eT, fT, fS, gE, fR, fL, fV, fQ, fU, gB, gC, fP, fC, gI, gA, fK, iR, iO, iP, iU, iM, iS, iQ, iT, iN, eP, Result.ok.injEq, Next.value.injEq, true_and, and_true, fI, fJ, gH, fM, gD, gR, acM, fE, fF, fG, fD, eZ, eU, fB, eX, eQ, eH, if_true, if_false, acK, acQ, acL, acN, acP, acO, acJ, acI, eA, dV, aB, dM, dO, cB, eB, eS, eE, dK, eF, fA, dJ, eJ, bP, dS, bE, dN, aL, aH, eL, aX, cI, eM, aE, eN, dE, aR, bF, eD, bB, bC, bJ, aO, aI, cF, fH, dY, cJ, cC, dA, cH, dT, bD, eK, bT, dF, bR, aT, bV, aC, bY, bQ, cA, bX, aY, aU, bA, bU, dL, cP, bO, aV, aJ, aM, bG, aF, dC, dW, aK, aN, aZ, aG, cY, aD, cL, bW, bH, aP, cM, bZ, aA, dD, cO, cU, cG, dI, cD, dG, dU, cQ, eC, eI, bN, aS, dZ, bS, aQ, bL, dH, cZ, cV, cN, cS, bK, bM, cX, dR, cR, dQ, dB, c3]
     refine Le ((h2.new x23).own) rfl (by simp) fun w4 o4 x4 z4 => ?_
     have h4 := h2.newHv (s' := { s with hv := W }) x23 hob2 oo (by omega) x4 o4 rfl rfl rfl h.ep h.lg
     have x04 : gV w w4 (fun y => X y ∨ Y y) := x02.seq ((x23.mono fun _ _ h => h.elim).seq (x4.mono fun y _ hy => .inr (hy ▸ h.yq)))
     have nq : n ≠ q := fun e => by have := hlt0 q (.inr h.yq); omega
     have o14 := ((o1.ext x12 (fun h => h)).ext x23 (fun h => h)).ext x4 (fun e => nq e)
     have c4 : w4.cell? ⟨n, 0, none⟩ = some (dP q) := o14.cell (off := 0)
     have hz2 := (x1.seq x12).size
     have hYn : ∀ b, (Y b ∨ b = ob) -> Y b ∨ w.heap.size <= b := fun b hb => hb.imp id fun hb => by omega
     have hDn : ∀ b, D b -> (D b ∨ b = ob) := fun _ h => .inl h
     obtain ⟨g0, g1, g2, g3, g4, g5, g6, g7, g8, g9⟩ := h4.cells
     simp (disch := omega) only [eY, gN, dX, stepR_skip, fO, fW, fN, fZ, fX, fY, gQ, gG, eT, fT, fS, gE, fR, fL, fV, fQ, fU, gB, gC, fP, fC, gI, gA, fK, iR, iO, iP, iU, iM, iS, iQ, iT, iN, eP, Result.ok.injEq, Next.value.injEq, true_and, and_true, fI, fJ, gH, fM, gD, gR, acM, fE, fF, fG, fD, eZ, eU, fB, eX, eQ, eH, if_true, if_false, acK, acQ, acL, acN, acP, acO, acJ, acI, eA, dV, aB, dM, dO, cB, eB, eS, eE, dK, eF, fA, dJ, eJ, bP, dS, bE, dN, aL, aH, eL, aX, cI, eM, aE, eN, dE, aR, bF, eD, bB, bC, bJ, aO, aI, cF, fH, dY, cJ, cC, dA, cH, dT, bD, eK, bT, dF, bR, aT, bV, aC, bY, bQ, cA, bX, aY, aU, bA, bU, dL, cP, bO, aV, aJ, aM, bG, aF, dC, dW, aK, aN, aZ, aG, cY, aD, cL, bW, bH, aP, cM, bZ, aA, dD, cO, cU, cG, dI, cD, dG, dU, cQ, eC, eI, bN, aS, dZ, bS, aQ, bL, dH, cZ, cV, cN, cS, bK, bM, cX, dR, cR, dQ, dB, c4, g6]
     refine (PH (NB h4.hv) (by show W.length <= _; omega)).mono ?_
     rintro r w5 ⟨rfl, hw⟩
     rw [hw]; clear hw w5
     have hall : (!({ s with hv := W } : nG).hv.contains false) = Ct W := rfl
     rw [hall]
     cases hab2 : Ct W with
     | false =>
       rw [if_pos hab2] at C1
       simp (disch := omega) only [eY, gN, dX, stepR_skip, fO, fW, fN, fZ, fX, fY, gQ, gG, eT, fT, fS, gE, fR, fL, fV, fQ, fU, gB, gC, fP, fC, gI, gA, fK, iR, iO, iP, iU, iM, iS, iQ, iT, iN, eP, Result.ok.injEq, Next.value.injEq, true_and, and_true, fI, fJ, gH, fM, gD, gR, acM, fE, fF, fG, fD, eZ, eU, fB, eX, eQ, eH, if_true, if_false, acK, acQ, acL, acN, acP, acO, acJ, acI, eA, dV, aB, dM, dO, cB, eB, eS, eE, dK, eF, fA, dJ, eJ, bP, dS, bE, dN, aL, aH, eL, aX, cI, eM, aE, eN, dE, aR, bF, eD, bB, bC, bJ, aO, aI, cF, fH, dY, cJ, cC, dA, cH, dT, bD, eK, bT, dF, bR, aT, bV, aC, bY, bQ, cA, bX, aY, aU, bA, bU, dL, cP, bO, aV, aJ, aM, bG, aF, dC, dW, aK, aN, aZ, aG, cY, aD, cL, bW, bH, aP, cM, bZ, aA, dD, cO, cU, cG, dI, cD, dG, dU, cQ, eC, eI, bN, aS, dZ, bS, aQ, bL, dH, cZ, cV, cN, cS, bK, bM, cX, dR, cR, dQ, dB]
       rw [hRR, C1]
       exact ⟨rfl, iW.step x04 (fun _ h => .inl h) hDn hYn (iW.refl h4)⟩
     | true =>
       rw [if_neg (by rw [hab2]; decide)] at C1
       have h4d := h4.new (gV.dr w4 jN)
       obtain ⟨f0, f1, f2, f3, f4, f5, f6, f7, f8, f9⟩ := h4d.cells
       have c4d : (dr w4).cell? ⟨n, 0, none⟩ = some (dP q) := c4
       have m1 := fun w => Np (P := pg) (f := mP) [] [.pointer (some ⟨n, 0, none⟩)] w
       have m2 := fun w => Np (P := pg) (f := jJ) [dP p] [] w
       simp (disch := omega) only [eY, gN, dX, stepR_skip, fO, fW, fN, fZ, fX, fY, gQ, gG, eT, fT, fS, gE, fR, fL, fV, fQ, fU, gB, gC, fP, fC, gI, gA, fK, iR, iO, iP, iU, iM, iS, iQ, iT, iN, eP, Result.ok.injEq, Next.value.injEq, true_and, and_true, fI, fJ, gH, fM, gD, gR, acM, fE, fF, fG, fD, eZ, eU, fB, eX, eQ, eH, if_true, if_false, acK, acQ, acL, acN, acP, acO, acJ, acI, eA, dV, aB, dM, dO, cB, eB, eS, eE, dK, eF, fA, dJ, eJ, bP, dS, bE, dN, aL, aH, eL, aX, cI, eM, aE, eN, dE, aR, bF, eD, bB, bC, bJ, aO, aI, cF, fH, dY, cJ, cC, dA, cH, dT, bD, eK, bT, dF, bR, aT, bV, aC, bY, bQ, cA, bX, aY, aU, bA, bU, dL, cP, bO, aV, aJ, aM, bG, aF, dC, dW, aK, aN, aZ, aG, cY, aD, cL, bW, bH, aP, cM, bZ, aA, dD, cO, cU, cG, dI, cD, dG, dU, cQ, eC, eI, bN, aS, dZ, bS, aQ, bL, dH, cZ, cV, cN, cS, bK, bM, cX, dR, cR, dQ, dB, c4d, f0, m1, m2]
       obtain ⟨fs, hfs⟩ : ∃ fs : List ahB, fs = [.func (.func mP) #[] #[.pointer (some ⟨n, 0, none⟩)], .func (.func jJ) #[dP p] #[]] := ⟨_, rfl⟩
       refine Ao (cells := fs.toArray) (by decide) (by decide) (by rw [hfs]; kernel_rfl) fun w5 o5 x5 z5 => ?_
       obtain ⟨bb, hbb⟩ : ∃ bb, bb = w4.heap.size := ⟨_, rfl⟩
       have o5 : jI w5 bb fs := by rw [hbb]; exact o5
       rw [show (dr w4).heap.size = bb from hbb.symm]
       have x45 : gV w4 w5 jN := (gV.dr w4 _).seq x5
       have h5 := h4.new x45
       have o15 := o14.ext x45 (fun h => h)
       have zz4 := x4.size
       have zz5 := x45.size
       have zz23 := x23.size
       have hlt4 := fun y hy => kP.lt h4 y hy
       have mb : ¬ (X bb ∨ (Y bb ∨ bb = ob)) := fun hx => by have := hlt4 bb hx; omega
       have mn : ¬ (X n ∨ (Y n ∨ n = ob)) := fun hx => by
        rcases hx with hx | hx | hx
        .have := hlt0 n (.inl hx); omega
        .have := hlt0 n (.inr hx); omega
        .have := x12.size; omega
       obtain ⟨A1, hA1⟩ : ∃ A1, A1 = MX S (gZ s.nm) s.nm := ⟨_, rfl⟩
       have hB1 : Bg 1 A1.1 := hA1 ▸ ZV hB
       obtain ⟨A2, hA2⟩ : ∃ A2, A2 = Ab A1.1 := ⟨_, rfl⟩
       rw [<- hA1, <- hA2] at C1
       obtain ⟨s', hs'⟩ : ∃ s' : nG, s' = { s with hv := W } := ⟨_, rfl⟩
       rw [<- hs'] at h4 h5
       obtain ⟨C, hC⟩ : ∃ C : jL × Int, C = if A1.2 ≠ 0 then (A1.1, A1.2) else (A2.1, A2.2) := ⟨_, rfl⟩
       have C2 : jK gU S s = (C.1, { s' with err := C.2, fin := C.2 == 0 }, C.2) := by
        rw [C1, hC, hs']
        split
        .rename_i hne
         have : (A1.2 == 0) = false := beq_eq_false_iff_ne.2 hne
         simp only [this]
        .rfl
       let J : Nat -> ahA -> Prop := fun k w' => match k with
        | 0 => iW n0 w5 q p X (fun b => D b ∨ b = ob) (fun b => Y b ∨ b = ob) S s' w'
        | 1 => A1.2 = 0 /\ iW n0 w5 q p X (fun b => D b ∨ b = ob) (fun b => Y b ∨ b = ob) A1.1 s' w'
        | _ => C.2 = 0 /\ iW n0 w5 q p X (fun b => D b ∨ b = ob) (fun b => Y b ∨ b = ob) C.1 s' w'
       let E : Int -> ahA -> Prop := fun e w' => C.2 = e /\ iW n0 w5 q p X (fun b => D b ∨ b = ob) (fun b => Y b ∨ b = ob) C.1 s' w'
       have hmain := Uo (fs := fs) (b := bb) (c := 2) (w := w5) J E (by rw [hfs]; simp) (iW.refl h5) (fun k w' hk => by
        match k, hk with
        | 0, hk => exact iW.keep hk o5 mb
        | 1, hk => exact iW.keep hk.2 o5 mb
        | n + 2, hk => exact iW.keep hk.2 o5 mb) ?hs
       case hs =>
        intro k w' f hf hk
        rw [hfs] at hf
        match k, hf, hk with
        | 0, hf, hk =>
          simp only [acI, adT] at hf
          rw [<- hf, Ka Tryd.func36 (by kernel_rfl) (by kernel_rfl)]
          show gT pg mP #[.pointer (some ⟨n, 0, none⟩)] w' _
          have hk : iW n0 w5 q p X (fun b => D b ∨ b = ob) (fun b => Y b ∨ b = ob) S s' w' := hk
          refine EK ?_
          unfold B4 rF
          have e1 := (kR (hk.keep o15 mn)).cell (off := 0)
          simp only [acI] at e1
          obtain ⟨X', D', Y', lv', hv', g1, hX, hD, hY, gx⟩ := hk
          have g1d := g1.new (gV.dr w' jN)
          obtain ⟨k0, k1, k2, k3, k4, k5, k6, k7, k8, k9⟩ := g1d.cells
          have hnm : s'.nm = s.nm := by rw [hs']
          rw [hnm] at k1
          simp (disch := omega) only [eY, gN, dX, stepR_skip, fO, fW, fN, fZ, fX, fY, gQ, gG, eT, fT, fS, gE, fR, fL, fV, fQ, fU, gB, gC, fP, fC, gI, gA, fK, iR, iO, iP, iU, iM, iS, iQ, iT, iN, eP, Result.ok.injEq, Next.value.injEq, true_and, and_true, fI, fJ, gH, fM, gD, gR, acM, fE, fF, fG, fD, eZ, eU, fB, eX, eQ, eH, if_true, if_false, acK, acQ, acL, acN, acP, acO, acJ, acI, eA, dV, aB, dM, dO, cB, eB, eS, eE, dK, eF, fA, dJ, eJ, bP, dS, bE, dN, aL, aH, eL, aX, cI, eM, aE, eN, dE, aR, bF, eD, bB, bC, bJ, aO, aI, cF, fH, dY, cJ, cC, dA, cH, dT, bD, eK, bT, dF, bR, aT, bV, aC, bY, bQ, cA, bX, aY, aU, bA, bU, dL, cP, bO, aV, aJ, aM, bG, aF, dC, dW, aK, aN, aZ, aG, cY, aD, cL, bW, bH, aP, cM, bZ, aA, dD, cO, cU, cG, dI, cD, dG, dU, cQ, eC, eI, bN, aS, dZ, bS, aQ, bL, dH, cZ, cV, cN, cS, bK, bM, cX, dR, cR, dQ, dB, e1, k0, k1, ct]
          refine (Vc (old := gZ s.nm) (name := s.nm) g1d.dsk hB.bd).mono ?_
          rintro r w6 ⟨rfl, hp⟩
          obtain ⟨X2, D2, q2, hX2, hD2, qx2⟩ := g1d.disk hp
          rw [<- hA1] at q2 ⊢
          have hpost : iW n0 w5 q p X (fun b => D b ∨ b = ob) (fun b => Y b ∨ b = ob) A1.1 s' w6 := iW.step (gx.seq (gV.dr _ _)) hX hD hY ⟨X2, D2, Y', _, _, q2, hX2, hD2, fun _ h => .inl h, qx2.mono fun _ _ h => .inl h⟩
          refine ⟨_, rfl, ?_⟩
          split
          .rename_i he; exact ⟨he, hpost⟩
          .rename_i he
           rw [if_pos he] at hC
           show C.2 = _ /\ iW n0 w5 q p X (fun b => D b ∨ b = ob) (fun b => Y b ∨ b = ob) C.1 s' w6
           rw [hC]
           exact ⟨rfl, hpost⟩
        | 1, hf, hk =>
          simp only [acI, acJ, adT] at hf
          rw [<- hf, Ka Tryd.func19 (by kernel_rfl) (by kernel_rfl)]
          show gT pg jJ #[dP p] w' _
          have hk : A1.2 = 0 /\ iW n0 w5 q p X (fun b => D b ∨ b = ob) (fun b => Y b ∨ b = ob) A1.1 s' w' := hk
          refine (Q7 hk.2 (hB1.le (by omega))).mono ?_
          rintro r w6 ⟨rfl, hp⟩
          rw [<- hA2] at hp ⊢
          rw [if_neg (by rw [hk.1]; decide)] at hC
          have hE : C.2 = A2.2 /\ iW n0 w5 q p X (fun b => D b ∨ b = ob) (fun b => Y b ∨ b = ob) C.1 s' w6 := by rw [hC]; exact ⟨rfl, hp⟩
          refine ⟨_, rfl, ?_⟩
          split
          .rename_i he; exact ⟨hE.1.trans he, hE.2⟩
          .exact hE
        | m + 2, hf, hk => simp at hf
       rw [show fs.length = 2 from by rw [hfs] <;> rfl] at hmain
       have c5 := o15.cell (off := 0)
       simp only [acI] at c5
       simp (disch := omega) only [eY, gN, dX, stepR_skip, fO, fW, fN, fZ, fX, fY, gQ, gG, eT, fT, fS, gE, fR, fL, fV, fQ, fU, gB, gC, fP, fC, gI, gA, fK, iR, iO, iP, iU, iM, iS, iQ, iT, iN, eP, Result.ok.injEq, Next.value.injEq, true_and, and_true, fI, fJ, gH, fM, gD, gR, acM, fE, fF, fG, fD, eZ, eU, fB, eX, eQ, eH, if_true, if_false, acK, acQ, acL, acN, acP, acO, acJ, acI, eA, dV, aB, dM, dO, cB, eB, eS, eE, dK, eF, fA, dJ, eJ, bP, dS, bE, dN, aL, aH, eL, aX, cI, eM, aE, eN, dE, aR, bF, eD, bB, bC, bJ, aO, aI, cF, fH, dY, cJ, cC, dA, cH, dT, bD, eK, bT, dF, bR, aT, bV, aC, bY, bQ, cA, bX, aY, aU, bA, bU, dL, cP, bO, aV, aJ, aM, bG, aF, dC, dW, aK, aN, aZ, aG, cY, aD, cL, bW, bH, aP, cM, bZ, aA, dD, cO, cU, cG, dI, cD, dG, dU, cQ, eC, eI, bN, aS, dZ, bS, aQ, bL, dH, cZ, cV, cN, cS, bK, bM, cX, dR, cR, dQ, dB, c5]
       refine hmain.mono ?_
       rintro r w6 ⟨e, rfl, he⟩
       have hfin' : C.2 = e /\ iW n0 w5 q p X (fun b => D b ∨ b = ob) (fun b => Y b ∨ b = ob) C.1 s' w6 := by
        split at he
        .rename_i h0; rw [h0]; exact he
        .exact he
       clear he hmain
       obtain ⟨rfl, hp⟩ := hfin'
       have c6 := (hp.keep o15 mn).cell (off := 0)
       simp only [acI] at c6
       have o16 := hp.keep o15 mn
       obtain ⟨X2, D2, Y2, lv2, hv2, h6, hX2, hD2, hY2, x6⟩ := id hp
       simp (disch := omega) only [eY, gN, dX, stepR_skip, fO, fW, fN, fZ, fX, fY, gQ, gG, eT, fT, fS, gE, fR, fL, fV, fQ, fU, gB, gC, fP, fC, gI, gA, fK, iR, iO, iP, iU, iM, iS, iQ, iT, iN, eP, Result.ok.injEq, Next.value.injEq, true_and, and_true, fI, fJ, gH, fM, gD, gR, acM, fE, fF, fG, fD, eZ, eU, fB, eX, eQ, eH, if_true, if_false, acK, acQ, acL, acN, acP, acO, acJ, acI, eA, dV, aB, dM, dO, cB, eB, eS, eE, dK, eF, fA, dJ, eJ, bP, dS, bE, dN, aL, aH, eL, aX, cI, eM, aE, eN, dE, aR, bF, eD, bB, bC, bJ, aO, aI, cF, fH, dY, cJ, cC, dA, cH, dT, bD, eK, bT, dF, bR, aT, bV, aC, bY, bQ, cA, bX, aY, aU, bA, bU, dL, cP, bO, aV, aJ, aM, bG, aF, dC, dW, aK, aN, aZ, aG, cY, aD, cL, bW, bH, aP, cM, bZ, aA, dD, cO, cU, cG, dI, cD, dG, dU, cQ, eC, eI, bN, aS, dZ, bS, aQ, bL, dH, cZ, cV, cN, cS, bK, bM, cX, dR, cR, dQ, dB, c6]
       refine Df h6.own rfl (by simp) fun w7 o7 x7 z7 => ?_
       have h7 := h6.set (s' := { s' with err := C.2 }) x7 o7 rfl rfl rfl h6.ep h6.lg
       have n2' : ¬ n = q := nq
       have o17 := o16.ext x7 n2'
       have h7d := h7.new (gV.dr w7 jN)
       obtain ⟨k0, k1, k2, k3, k4, k5, k6, k7, k8, k9⟩ := h7d.cells
       have c7d : (dr w7).cell? ⟨n, 0, none⟩ = some (dP q) := (kR o17).cell (off := 0)
       simp (disch := omega) only [eY, gN, dX, stepR_skip, fO, fW, fN, fZ, fX, fY, gQ, gG, eT, fT, fS, gE, fR, fL, fV, fQ, fU, gB, gC, fP, fC, gI, gA, fK, iR, iO, iP, iU, iM, iS, iQ, iT, iN, eP, Result.ok.injEq, Next.value.injEq, true_and, and_true, fI, fJ, gH, fM, gD, gR, acM, fE, fF, fG, fD, eZ, eU, fB, eX, eQ, eH, if_true, if_false, acK, acQ, acL, acN, acP, acO, acJ, acI, eA, dV, aB, dM, dO, cB, eB, eS, eE, dK, eF, fA, dJ, eJ, bP, dS, bE, dN, aL, aH, eL, aX, cI, eM, aE, eN, dE, aR, bF, eD, bB, bC, bJ, aO, aI, cF, fH, dY, cJ, cC, dA, cH, dT, bD, eK, bT, dF, bR, aT, bV, aC, bY, bQ, cA, bX, aY, aU, bA, bU, dL, cP, bO, aV, aJ, aM, bG, aF, dC, dW, aK, aN, aZ, aG, cY, aD, cL, bW, bH, aP, cM, bZ, aA, dD, cO, cU, cG, dI, cD, dG, dU, cQ, eC, eI, bN, aS, dZ, bS, aQ, bL, dH, cZ, cV, cN, cS, bK, bM, cX, dR, cR, dQ, dB, c7d, k9]
       refine Dc h7d.own rfl (by simp) fun w8 o8 x8 z8 => ?_
       have h8 := h7d.set (s' := { s' with err := C.2, fin := C.2 == 0 }) x8 o8 rfl rfl rfl h6.ep h6.lg
       have c8 : w8.cell? ⟨n, 0, none⟩ = some (dP q) := ((kR o17).ext x8 n2').cell (off := 0)
       obtain ⟨j0, j1, j2, j3, j4, j5, j6, j7, j8, j9⟩ := h8.cells
       simp (disch := omega) only [eY, gN, dX, stepR_skip, fO, fW, fN, fZ, fX, fY, gQ, gG, eT, fT, fS, gE, fR, fL, fV, fQ, fU, gB, gC, fP, fC, gI, gA, fK, iR, iO, iP, iU, iM, iS, iQ, iT, iN, eP, Result.ok.injEq, Next.value.injEq, true_and, and_true, fI, fJ, gH, fM, gD, gR, acM, fE, fF, fG, fD, eZ, eU, fB, eX, eQ, eH, if_true, if_false, acK, acQ, acL, acN, acP, acO, acJ, acI, eA, dV, aB, dM, dO, cB, eB, eS, eE, dK, eF, fA, dJ, eJ, bP, dS, bE, dN, aL, aH, eL, aX, cI, eM, aE, eN, dE, aR, bF, eD, bB, bC, bJ, aO, aI, cF, fH, dY, cJ, cC, dA, cH, dT, bD, eK, bT, dF, bR, aT, bV, aC, bY, bQ, cA, bX, aY, aU, bA, bU, dL, cP, bO, aV, aJ, aM, bG, aF, dC, dW, aK, aN, aZ, aG, cY, aD, cL, bW, bH, aP, cM, bZ, aA, dD, cO, cU, cG, dI, cD, dG, dU, cQ, eC, eI, bN, aS, dZ, bS, aQ, bL, dH, cZ, cV, cN, cS, bK, bM, cX, dR, cR, dQ, dB, c8, j9]
       rw [hRR, C2]
       refine ⟨rfl, iW.step x04 (fun _ h => .inl h) hDn hYn (iW.step (x45.mono fun _ _ h => h.elim) (fun _ h => .inl h) (fun _ h => h) (fun _ h => .inl h) ⟨X2, D2, Y2, _, _, h8, hX2, hD2, hY2, ?_⟩)⟩
       refine (x6.trans x7 fun y hy h => ?_).trans ((gV.dr w7 _).seq x8) fun y hy h => ?_
       .exact .inr (.inl (h ▸ h4.yq.elim id fun e => by rw [e] at nq; have := hlt0 q (.inr h1.yq); omega))
       .exact .inr (.inl (h ▸ h1.yq))
def qJ (S : jL) (s : nG) : jL × nG × Int × List (Nat × Nat) :=
 if (jA S (jH s.nm)).2.2 ≠ 0 then (S, s, (jA S (jH s.nm)).2.2, []) else
 if jY 1 (mZ iA (jA S (jH s.nm)).1) = 18446744073709551615 then (S, s, 23, []) else
 let q := jQ iA S { s with epoch := jY 1 (mZ iA (jA S (jH s.nm)).1) + 1, log := 13 * (mZ iA (jA S (jH s.nm)).1).length } 1 (jY 1 (mZ iA (jA S (jH s.nm)).1) + 1)
 (q.1, q.2.1, q.2.2, mZ iA (jA S (jH s.nm)).1)
theorem UF {w w' : ahA} {S : Nat -> Prop} {sz n : Nat} {v : ahB} {l : List ahB} {T : Nat -> Prop} (h : Jv w S sz v n l) (hT : ∀ b, S b -> b < w.heap.size -> ¬ T b) : ¬ vO v T := by
 intro hi
 rcases h.2 with ⟨rfl, _⟩ | ⟨b, c, rest, rfl, g2, g3, _⟩
 .exact hi
 .unfold vO at hi
  split at hi
  .rename_i e
   simp only [Value.slice.injEq, adT] at e
   obtain ⟨rfl, _⟩ := e
   exact hT _ g2 g3.lt hi
  .exact hi
theorem Ro {w : ahA} {S : Nat -> Prop} {sz n : Nat} {v : ahB} {l : List ahB} (h : Jv w S sz v n l) : Cl w sz v n l := by
 rcases h.2 with ⟨rfl, h0⟩ | ⟨b, c, rest, rfl, g2, g3, g4, g5⟩
 .exact ⟨_, _, by rw [h0], h.1, fun h => by omega⟩
 .refine ⟨_, _, rfl, h.1, fun _ => ⟨b, 0, rfl, fun i hi => ?_⟩⟩
  rw [acQ, g3.cell, adU hi]
theorem WI {n0 q p : Nat} {X D Y : Nat -> Prop} {S : jL} {s : nG} {lv hv : ahB} {w : ahA} (h : kP n0 w q p X D Y S s lv hv) (hB : Bg 1 S) (hbl : ∀ b, jC (jH s.nm) S.seen = some b -> b.length <= 1000000) :
 gT pg nK #[dP q] w (fun r w' => ∃ o X' D' Y' lv' hv', r = .tuple #[o, .int .i64 (qJ S s).2.2.1] /\ kP n0 w' q p X' D' Y' (qJ S s).1 (qJ S s).2.1 lv' hv' /\ (∀ b, X' b -> X b ∨ w.heap.size <= b) /\ (∀ b, D b -> D' b) /\ (∀ b, Y' b -> Y b ∨ w.heap.size <= b) /\ gV w w' (fun b => X b ∨ Y b) /\
  Cl w' 2 o (qJ S s).2.2.2.length ((qJ S s).2.2.2.flatMap BN) /\ ¬ vO o (fun b => X' b ∨ Y' b)) := by
 refine GK ?_
 obtain ⟨RR, hRR⟩ : ∃ RR : ahB -> ahA -> Prop, RR = fun r w' => ∃ o X' D' Y' lv' hv', r = .tuple #[o, .int .i64 (qJ S s).2.2.1] /\ kP n0 w' q p X' D' Y' (qJ S s).1 (qJ S s).2.1 lv' hv' /\ (∀ b, X' b -> X b ∨ w.heap.size <= b) /\ (∀ b, D b -> D' b) /\ (∀ b, Y' b -> Y b ∨ w.heap.size <= b) /\ gV w w' (fun b => X b ∨ Y b) /\
  Cl w' 2 o (qJ S s).2.2.2.length ((qJ S s).2.2.2.flatMap BN) /\ ¬ vO o (fun b => X' b ∨ Y' b) := ⟨_, rfl⟩
 rw [<- hRR]
 obtain ⟨c0, c1, c2, c3, c4, c5, c6, c7, c8, c9⟩ := h.cells
 have ct := Uz h.nl
 unfold Ea tJ
 simp (disch := omega) only [eY, gN, dX, stepR_skip, fO, fW, fN, fZ, fX, fY, gQ, gG, eT, fT, fS, gE, fR, fL, fV, fQ, fU, gB, gC, fP, fC, gI, gA, fK, iR, iO, iP, iU, iM, iS, iQ, iT, iN, eP, Result.ok.injEq, Next.value.injEq, true_and, and_true, fI, fJ, gH, fM, gD, gR, acM, fE, fF, fG, fD, eZ, eU, fB, eX, eQ, eH, if_true, if_false, acK, acQ, acL, acN, acP, acO, acJ, acI, eA, dV, aB, dM, dO, cB, eB, eS, eE, dK, eF, fA, dJ, eJ, bP, dS, bE, dN, aL, aH, eL, aX, cI, eM, aE, eN, dE, aR, bF, eD, bB, bC, bJ, aO, aI, cF, fH, dY, cJ, cC, dA, cH, dT, bD, eK, bT, dF, bR, aT, bV, aC, bY, bQ, cA, bX, aY, aU, bA, bU, dL, cP, bO, aV, aJ, aM, bG, aF, dC, dW, aK, aN, aZ, aG, cY, aD, cL, bW, bH, aP, cM, bZ, aA, dD, cO, cU, cG, dI, cD, dG, dU, cQ, eC, eI, bN, aS, dZ, bS, aQ, bL, dH, cZ, cV, cN, cS, bK, bM, cX, dR, cR, dQ, dB, c1, ct]
 refine (Pv (n := jH s.nm) h.dsk (hB.le (by omega)) c0).mono ?_
 rintro r w1 ⟨v, rfl, ho, x1⟩
 have h1 := h.new x1
 have hlt0 := fun y hy => kP.lt h y hy
 have hB0 : qJ S s = if (jA S (jH s.nm)).2.2 ≠ 0 then (S, s, (jA S (jH s.nm)).2.2, []) else
  if jY 1 (mZ iA (jA S (jH s.nm)).1) = 18446744073709551615 then (S, s, 23, []) else
  ((jQ iA S { s with epoch := jY 1 (mZ iA (jA S (jH s.nm)).1) + 1, log := 13 * (mZ iA (jA S (jH s.nm)).1).length } 1 (jY 1 (mZ iA (jA S (jH s.nm)).1) + 1)).1,
   (jQ iA S { s with epoch := jY 1 (mZ iA (jA S (jH s.nm)).1) + 1, log := 13 * (mZ iA (jA S (jH s.nm)).1).length } 1 (jY 1 (mZ iA (jA S (jH s.nm)).1) + 1)).2.1,
   (jQ iA S { s with epoch := jY 1 (mZ iA (jA S (jH s.nm)).1) + 1, log := 13 * (mZ iA (jA S (jH s.nm)).1).length } 1 (jY 1 (mZ iA (jA S (jH s.nm)).1) + 1)).2.2, mZ iA (jA S (jH s.nm)).1) := rfl
 have hbl' : (jA S (jH s.nm)).1.length <= 1000000 := by
  unfold jA
  split
  .simp
  .cases hg : jC (jH s.nm) S.seen with
   | none => simp
   | some b => exact hbl b hg
 generalize jA S (jH s.nm) = rb at *
 obtain ⟨b, th, e⟩ := rb
 simp only at ho hB0 hbl' ⊢
 have nilc : ∀ w : ahA, Cl w 2 (.slice none 0 0) ([] : List (Nat × Nat)).length (([] : List (Nat × Nat)).flatMap BN) := fun w => ⟨_, _, rfl, rfl, fun h => by simp at h⟩
 have stay : ∀ {w' : ahA} {e : Int}, gV w w' jN -> qJ S s = (S, s, e, []) -> RR (.tuple #[.slice none 0 0, .int .i64 e]) w' := fun {w' e} x he => by
  rw [hRR, he]
  exact ⟨_, X, D, Y, _, _, rfl, h.new x, fun _ h => .inl h, fun _ h => h, fun _ h => .inl h, x.mono fun _ _ h => h.elim, nilc _, fun h => h⟩
 by_cases he : e = 0
 rotate_left
 .have n1 : (e != 0) = true := bne_iff_ne.2 he
  rw [if_pos he] at hB0
  simp (disch := omega) only [eY, gN, dX, stepR_skip, fO, fW, fN, fZ, fX, fY, gQ, gG, eT, fT, fS, gE, fR, fL, fV, fQ, fU, gB, gC, fP, fC, gI, gA, fK, iR, iO, iP, iU, iM, iS, iQ, iT, iN, eP, Result.ok.injEq, Next.value.injEq, true_and, and_true, fI, fJ, gH, fM, gD, gR, acM, fE, fF, fG, fD, eZ, eU, fB, eX, eQ, eH, if_true, if_false, acK, acQ, acL, acN, acP, acO, acJ, acI, eA, dV, aB, dM, dO, cB, eB, eS, eE, dK, eF, fA, dJ, eJ, bP, dS, bE, dN, aL, aH, eL, aX, cI, eM, aE, eN, dE, aR, bF, eD, bB, bC, bJ, aO, aI, cF, fH, dY, cJ, cC, dA, cH, dT, bD, eK, bT, dF, bR, aT, bV, aC, bY, bQ, cA, bX, aY, aU, bA, bU, dL, cP, bO, aV, aJ, aM, bG, aF, dC, dW, aK, aN, aZ, aG, cY, aD, cL, bW, bH, aP, cM, bZ, aA, dD, cO, cU, cG, dI, cD, dG, dU, cQ, eC, eI, bN, aS, dZ, bS, aQ, bL, dH, cZ, cV, cN, cS, bK, bM, cX, dR, cR, dQ, dB, n1]
  exact stay x1 hB0
 have n1 : (e != 0) = false := bne_eq_false_iff_eq.2 he
 rw [if_neg (by rw [he]; decide)] at hB0
 simp (disch := omega) only [eY, gN, dX, stepR_skip, fO, fW, fN, fZ, fX, fY, gQ, gG, eT, fT, fS, gE, fR, fL, fV, fQ, fU, gB, gC, fP, fC, gI, gA, fK, iR, iO, iP, iU, iM, iS, iQ, iT, iN, eP, Result.ok.injEq, Next.value.injEq, true_and, and_true, fI, fJ, gH, fM, gD, gR, acM, fE, fF, fG, fD, eZ, eU, fB, eX, eQ, eH, if_true, if_false, acK, acQ, acL, acN, acP, acO, acJ, acI, eA, dV, aB, dM, dO, cB, eB, eS, eE, dK, eF, fA, dJ, eJ, bP, dS, bE, dN, aL, aH, eL, aX, cI, eM, aE, eN, dE, aR, bF, eD, bB, bC, bJ, aO, aI, cF, fH, dY, cJ, cC, dA, cH, dT, bD, eK, bT, dF, bR, aT, bV, aC, bY, bQ, cA, bX, aY, aU, bA, bU, dL, cP, bO, aV, aJ, aM, bG, aF, dC, dW, aK, aN, aZ, aG, cY, aD, cL, bW, bH, aP, cM, bZ, aA, dD, cO, cU, cG, dI, cD, dG, dU, cQ, eC, eI, bN, aS, dZ, bS, aQ, bL, dH, cZ, cV, cN, cS, bK, bM, cX, dR, cR, dQ, dB, n1]
 refine (U4 h1.glob (show Bs w1 v b from ho.sl) (by omega)).mono ?_
 rintro r w2 ⟨o, rfl, hrv, x2⟩
 have h2 := h1.new x2
 obtain ⟨L, hL⟩ : ∃ L, L = mZ iA b := ⟨_, rfl⟩
 have hok : ∀ r ∈ L, S6 r := by rw [hL]; exact RB iA _ b
 have hLl : 13 * L.length <= b.length := by rw [hL]; exact Ps iA _ b
 rw [<- hL] at hrv hB0 ⊢
 simp (disch := omega) only [eY, gN, dX, stepR_skip, fO, fW, fN, fZ, fX, fY, gQ, gG, eT, fT, fS, gE, fR, fL, fV, fQ, fU, gB, gC, fP, fC, gI, gA, fK, iR, iO, iP, iU, iM, iS, iQ, iT, iN, eP, Result.ok.injEq, Next.value.injEq, true_and, and_true, fI, fJ, gH, fM, gD, gR, acM, fE, fF, fG, fD, eZ, eU, fB, eX, eQ, eH, if_true, if_false, acK, acQ, acL, acN, acP, acO, acJ, acI, eA, dV, aB, dM, dO, cB, eB, eS, eE, dK, eF, fA, dJ, eJ, bP, dS, bE, dN, aL, aH, eL, aX, cI, eM, aE, eN, dE, aR, bF, eD, bB, bC, bJ, aO, aI, cF, fH, dY, cJ, cC, dA, cH, dT, bD, eK, bT, dF, bR, aT, bV, aC, bY, bQ, cA, bX, aY, aU, bA, bU, dL, cP, bO, aV, aJ, aM, bG, aF, dC, dW, aK, aN, aZ, aG, cY, aD, cL, bW, bH, aP, cM, bZ, aA, dD, cO, cU, cG, dI, cD, dG, dU, cQ, eC, eI, bN, aS, dZ, bS, aQ, bL, dH, cZ, cV, cN, cS, bK, bM, cX, dR, cR, dQ, dB]
 refine (Vd (k := 1) ⟨_, hrv⟩ (by omega) (fun r hr => ⟨by have := (hok r hr).1; omega, (hok r hr).2⟩) (by omega)).mono ?_
 rintro r w3 ⟨⟨tb, rfl⟩, x3⟩
 have h3 := h2.new x3
 obtain ⟨M, hM⟩ : ∃ M, M = jY 1 L := ⟨_, rfl⟩
 have hM64 : M < 2 ^ 64 := by rw [hM]; exact RS hok
 rw [<- hM] at hB0 ⊢
 have x03 : gV w w3 jN := (x1.seq x2).seq x3
 by_cases hmx : M = 18446744073709551615
 .have q1 : (((M : Nat) : Int) == 18446744073709551615) = true := by rw [beq_iff_eq]; omega
  rw [if_pos hmx] at hB0
  simp (disch := omega) only [eY, gN, dX, stepR_skip, fO, fW, fN, fZ, fX, fY, gQ, gG, eT, fT, fS, gE, fR, fL, fV, fQ, fU, gB, gC, fP, fC, gI, gA, fK, iR, iO, iP, iU, iM, iS, iQ, iT, iN, eP, Result.ok.injEq, Next.value.injEq, true_and, and_true, fI, fJ, gH, fM, gD, gR, acM, fE, fF, fG, fD, eZ, eU, fB, eX, eQ, eH, if_true, if_false, acK, acQ, acL, acN, acP, acO, acJ, acI, eA, dV, aB, dM, dO, cB, eB, eS, eE, dK, eF, fA, dJ, eJ, bP, dS, bE, dN, aL, aH, eL, aX, cI, eM, aE, eN, dE, aR, bF, eD, bB, bC, bJ, aO, aI, cF, fH, dY, cJ, cC, dA, cH, dT, bD, eK, bT, dF, bR, aT, bV, aC, bY, bQ, cA, bX, aY, aU, bA, bU, dL, cP, bO, aV, aJ, aM, bG, aF, dC, dW, aK, aN, aZ, aG, cY, aD, cL, bW, bH, aP, cM, bZ, aA, dD, cO, cU, cG, dI, cD, dG, dU, cQ, eC, eI, bN, aS, dZ, bS, aQ, bL, dH, cZ, cV, cN, cS, bK, bM, cX, dR, cR, dQ, dB, q1]
  exact stay x03 hB0
 have q1 : (((M : Nat) : Int) == 18446744073709551615) = false := by rw [beq_eq_false_iff_ne]; omega
 rw [if_neg hmx] at hB0
 have e1 : (M : Int) + 1 = ((M + 1 : Nat) : Int) := by omega
 simp (disch := omega) only [eY, gN, dX, stepR_skip, fO, fW, fN, fZ, fX, fY, gQ, gG, eT, fT, fS, gE, fR, fL, fV, fQ, fU, gB, gC, fP, fC, gI, gA, fK, iR, iO, iP, iU, iM, iS, iQ, iT, iN, eP, Result.ok.injEq, Next.value.injEq, true_and, and_true, fI, fJ, gH, fM, gD, gR, acM, fE, fF, fG, fD, eZ, eU, fB, eX, eQ, eH, if_true, if_false, acK, acQ, acL, acN, acP, acO, acJ, acI, eA, dV, aB, dM, dO, cB, eB, eS, eE, dK, eF, fA, dJ, eJ, bP, dS, bE, dN, aL, aH, eL, aX, cI, eM, aE, eN, dE, aR, bF, eD, bB, bC, bJ, aO, aI, cF, fH, dY, cJ, cC, dA, cH, dT, bD, eK, bT, dF, bR, aT, bV, aC, bY, bQ, cA, bX, aY, aU, bA, bU, dL, cP, bO, aV, aJ, aM, bG, aF, dC, dW, aK, aN, aZ, aG, cY, aD, cL, bW, bH, aP, cM, bZ, aA, dD, cO, cU, cG, dI, cD, dG, dU, cQ, eC, eI, bN, aS, dZ, bS, aQ, bL, dH, cZ, cV, cN, cS, bK, bM, cX, dR, cR, dQ, dB, q1, e1]
 refine J5 h3.own rfl (by simp) fun w4 o4 x4 z4 => ?_
 have h4 := h3.set (s' := { s with epoch := M + 1 }) x4 o4 rfl rfl rfl (by show M + 1 < _; omega) h.lg
 refine HD h4.own rfl (by simp) fun w5 o5 x5 z5 => ?_
 obtain ⟨s1, hs1⟩ : ∃ s1 : nG, s1 = { s with epoch := M + 1, log := 13 * L.length } := ⟨_, rfl⟩
 have h5 := h4.set (s' := { s with epoch := M + 1, log := 13 * L.length }) x5 o5 rfl rfl rfl (by show M + 1 < _; omega) (by show 13 * L.length <= _; omega)
 rw [<- hs1] at h5 hB0
 obtain ⟨d0, d1, d2, d3, d4, d5, d6, d7, d8, d9⟩ := h5.cells
 have hep : s1.epoch = M + 1 := by rw [hs1]
 rw [hep] at d5
 have x35 : gV w3 w5 (fun y => X y ∨ Y y) := (x4.mono fun y _ hy => .inr (hy ▸ h.yq)).seq (x5.mono fun y _ hy => .inr (hy ▸ h.yq))
 have x05 : gV w w5 (fun y => X y ∨ Y y) := (x03.mono fun _ _ h => h.elim).seq x35
 simp (disch := omega) only [eY, gN, dX, stepR_skip, fO, fW, fN, fZ, fX, fY, gQ, gG, eT, fT, fS, gE, fR, fL, fV, fQ, fU, gB, gC, fP, fC, gI, gA, fK, iR, iO, iP, iU, iM, iS, iQ, iT, iN, eP, Result.ok.injEq, Next.value.injEq, true_and, and_true, fI, fJ, gH, fM, gD, gR, acM, fE, fF, fG, fD, eZ, eU, fB, eX, eQ, eH, if_true, if_false, acK, acQ, acL, acN, acP, acO, acJ, acI, eA, dV, aB, dM, dO, cB, eB, eS, eE, dK, eF, fA, dJ, eJ, bP, dS, bE, dN, aL, aH, eL, aX, cI, eM, aE, eN, dE, aR, bF, eD, bB, bC, bJ, aO, aI, cF, fH, dY, cJ, cC, dA, cH, dT, bD, eK, bT, dF, bR, aT, bV, aC, bY, bQ, cA, bX, aY, aU, bA, bU, dL, cP, bO, aV, aJ, aM, bG, aF, dC, dW, aK, aN, aZ, aG, cY, aD, cL, bW, bH, aP, cM, bZ, aA, dD, cO, cU, cG, dI, cD, dG, dU, cQ, eC, eI, bN, aS, dZ, bS, aQ, bL, dH, cZ, cV, cN, cS, bK, bM, cX, dR, cR, dQ, dB, d5]
 refine (SB (k := 1) (v := M + 1) h5 hB (.inl rfl) (by omega) (by rw [hs1]; show 13 * L.length + 13 <= _; omega)).mono ?_
 rintro r w6 ⟨rfl, X', D', Y', lv', hv', h6, hX, hD, hY, x6⟩
 rw [hRR, hB0]
 have zz1 := x1.size
 have zz5 := x05.size
 have zz35 := x35.size
 have zz3 := x3.size
 have ho3 : Jv w3 (fun b => w1.heap.size <= b) 2 o L.length (L.flatMap BN) := hrv.ext x3 fun _ _ h => h
 have ho5 : Jv w5 (fun b => w1.heap.size <= b) 2 o L.length (L.flatMap BN) := wM ho3 x35 fun b hb h => by have := hlt0 b h; omega
 have ho6 : Jv w6 (fun b => w1.heap.size <= b /\ b < w5.heap.size) 2 o L.length (L.flatMap BN) := wM (OL ho5) x6 fun b hb h => by have := hlt0 b h; omega
 refine ⟨o, X', D', Y', lv', hv', rfl, h6, fun b hb => ?_, hD, fun b hb => ?_, x05.trans x6 fun y hy h => h, Ro ho6, UF (w' := w6) ho6 fun b hb _ hx => ?_⟩
 .rcases hX b hb with h | h
  .exact .inl h
  .exact .inr (by omega)
 .rcases hY b hb with h | h
  .exact .inl h
  .exact .inr (by omega)
 .rcases hx with hx | hx
  .rcases hX b hx with h | h
   .have := hlt0 b (.inl h); omega
   .omega
  .rcases hY b hx with h | h
   .have := hlt0 b (.inr h); omega
   .omega
theorem Sk {v : ahB} {n : Nat} {l : List ahB} {w : ahA} (h : Cl w 32 v n l) (hone : ∀ y ∈ l, one y = true) (hl : n <= 100000) :
 gT pg qU #[v] w (fun r w' => Ac w' w.heap.size 32 r n l /\ gV w w' jN) := by
 refine Hx ?_
 have h1 := h
 obtain ⟨a, c, rfl, hn, hh⟩ := h
 unfold ES uQ
 cases a with
 | none =>
   have h0 : n = 0 := by
    cases n with
    | zero => rfl
    | succ n => obtain ⟨b, off, h, _⟩ := hh (by omega); cases h
   subst h0
   have : l = [] := adK.1 (by omega)
   subst this
   simp (disch := omega) only [eY, gN, dX, stepR_skip, fO, fW, fN, fZ, fX, fY, gQ, gG, eT, fT, fS, gE, fR, fL, fV, fQ, fU, gB, gC, fP, fC, gI, gA, fK, iR, iO, iP, iU, iM, iS, iQ, iT, iN, eP, Result.ok.injEq, Next.value.injEq, true_and, and_true, fI, fJ, gH, fM, gD, gR, acM, fE, fF, fG, fD, eZ, eU, fB, eX, eQ, eH, if_true, if_false, acK, acQ, acL, acN, acP, acO, acJ, acI, eA, dV, aB, dM, dO, cB, eB, eS, eE, dK, eF, fA, dJ, eJ, bP, dS, bE, dN, aL, aH, eL, aX, cI, eM, aE, eN, dE, aR, bF, eD, bB, bC, bJ, aO, aI, cF, fH, dY, cJ, cC, dA, cH, dT, bD, eK, bT, dF, bR, aT, bV, aC, bY, bQ, cA, bX, aY, aU, bA, bU, dL, cP, bO, aV, aJ, aM, bG, aF, dC, dW, aK, aN, aZ, aG, cY, aD, cL, bW, bH, aP, cM, bZ, aA, dD, cO, cU, cG, dI, cD, dG, dU, cQ, eC, eI, bN, aS, dZ, bS, aQ, bL, dH, cZ, cV, cN, cS, bK, bM, cX, dR, cR, dQ, dB]
   exact ⟨Ac.nil _ _ _, gV.refl _ _⟩
 | some x =>
   simp (disch := omega) only [eY, gN, dX, stepR_skip, fO, fW, fN, fZ, fX, fY, gQ, gG, eT, fT, fS, gE, fR, fL, fV, fQ, fU, gB, gC, fP, fC, gI, gA, fK, iR, iO, iP, iU, iM, iS, iQ, iT, iN, eP, Result.ok.injEq, Next.value.injEq, true_and, and_true, fI, fJ, gH, fM, gD, gR, acM, fE, fF, fG, fD, eZ, eU, fB, eX, eQ, eH, if_true, if_false, acK, acQ, acL, acN, acP, acO, acJ, acI, eA, dV, aB, dM, dO, cB, eB, eS, eE, dK, eF, fA, dJ, eJ, bP, dS, bE, dN, aL, aH, eL, aX, cI, eM, aE, eN, dE, aR, bF, eD, bB, bC, bJ, aO, aI, cF, fH, dY, cJ, cC, dA, cH, dT, bD, eK, bT, dF, bR, aT, bV, aC, bY, bQ, cA, bX, aY, aU, bA, bU, dL, cP, bO, aV, aJ, aM, bG, aF, dC, dW, aK, aN, aZ, aG, cY, aD, cL, bW, bH, aP, cM, bZ, aA, dD, cO, cU, cG, dI, cD, dG, dU, cQ, eC, eI, bN, aS, dZ, bS, aQ, bL, dH, cZ, cV, cN, cS, bK, bM, cX, dR, cR, dQ, dB]
   refine JP Tryd.underlying26 Mn fun w1 o1 x1 s1 => ?_
   have hcl1 := JQ h1 x1 (jG _)
   have hos : Ac w1 w.heap.size 32 (.slice (some ⟨w.heap.size, 0, none⟩) 0 0) 0 [] := ⟨rfl, .inr ⟨_, 0, [], rfl, acY _, o1, rfl, acY _⟩⟩
   refine xK hos hcl1 hone x1.size (by omega) fun v3 w3 o3 x3 => ?_
   rw [acQ, adJ] at o3
   exact ⟨o3, x1.trans x3 fun b hb h => Nat.not_le_of_lt hb h⟩
theorem Yh (l : List (List UInt8)) : ∀ y ∈ Vt l, one y = true := fun y hy => by
 obtain ⟨x, -, hy⟩ := List.mem_flatMap.1 hy
 exact Fq _ y hy
theorem US {l : List (Nat × Nat)} {W : List Bool} {n j : Nat} (hj : j < l.length) :
 oS (l.take (j + 1)) W n = if l[j].1 = 2 /\ l[j].2 < n then (oS (l.take j) W n).set l[j].2 (W.getD l[j].2 false) else oS (l.take j) W n := by
 unfold oS
 have ht : l.take (j + 1) = l.take j ++ [l[j]] := aeS hj
 generalize l[j] = r at *
 rw [ht]
 obtain ⟨a, v⟩ := r
 simp only
 split
 .rename_i h
  apply agO
  .simp
  .intro x h1 h2
   simp only [acR, agK] at h1
   rw [List.getElem_set]
   simp only [agP, List.getElem_range, List.any_append, List.any_cons, List.any_nil, afO]
   by_cases hx : v = x
   .rw [if_pos hx]; subst hx; simp [h.1]
   .rw [if_neg hx]
    have : (v == x) = false := beq_eq_false_iff_ne.2 hx
    rw [this, Bool.and_false, afO]
 .rename_i h
  apply aeL
  intro x hx
  have hx := adY.1 hx
  have : (a == 2 && v == x) = false := by
   rw [agS, beq_eq_false_iff_ne, beq_eq_false_iff_ne]
   by_cases ha : a = 2
   .exact .inr fun e => h ⟨ha, by omega⟩
   .exact .inl ha
  rw [List.any_append, List.any_cons, List.any_nil, afO, this, afO]
theorem R1 (l : List (Nat × Nat)) (W : List Bool) (n : Nat) : (oS l W n).length = n := by unfold oS; simp
theorem Vh (l : List (Nat × Nat)) (W : List Bool) (n : Nat) : oS (l.take 0) W n = List.replicate n false := by
 unfold oS
 rw [List.take_zero]
 apply agO
 .simp
 .intro i h1 h2; simp
def Kf (S : jL) (n : ByteArray) (m : UO) : nG := ⟨n, m, 0, iV gU m (jA S n).1, 0, (jA S n).2.1 && (jA S n).1.length == m.size && Ct (iV gU m (jA S n).1), 0⟩
def Oo (S : jL) (s : nG) (l : List (Nat × Nat)) : jL × Option nG × Int :=
 if s.fin then (if (Ab S).2 ≠ 0 then ((Ab S).1, none, (Ab S).2) else ((Ab S).1, some s, 0))
 else if (kH S s).2.2 ≠ 0 then ((kH S s).1, none, (kH S s).2.2)
 else if (Ab (kH S s).1).2 ≠ 0 then ((Ab (kH S s).1).1, none, (Ab (kH S s).1).2)
 else ((Ab (kH S s).1).1, some { s with hv := oS l (iV gU s.man (kH S s).2.1) s.man.leaves.length }, 0)
theorem UT (S : jL) (n : ByteArray) (m : UO) : DF gU iA S n m =
 if (jA S n).2.2 ≠ 0 then (S, none, (jA S n).2.2)
 else if (qJ S (Kf S n m)).2.2.1 ≠ 0 then ((qJ S (Kf S n m)).1, none, (qJ S (Kf S n m)).2.2.1)
 else Oo (qJ S (Kf S n m)).1 (qJ S (Kf S n m)).2.1 (qJ S (Kf S n m)).2.2.2 := by
 unfold DF
 simp only
 by_cases h1 : (jA S n).2.2 = 0
 .rw [if_neg (show ¬ (jA S n).2.2 ≠ 0 by rw [h1]; decide), if_neg (show ¬ (jA S n).2.2 ≠ 0 by rw [h1]; decide)]
  have hb : qJ S (Kf S n m) = if (jA S (jH n)).2.2 ≠ 0 then (S, Kf S n m, (jA S (jH n)).2.2, []) else
   if jY 1 (mZ iA (jA S (jH n)).1) = 18446744073709551615 then (S, Kf S n m, 23, []) else
   ((jQ iA S { Kf S n m with epoch := jY 1 (mZ iA (jA S (jH n)).1) + 1, log := 13 * (mZ iA (jA S (jH n)).1).length } 1 (jY 1 (mZ iA (jA S (jH n)).1) + 1)).1,
    (jQ iA S { Kf S n m with epoch := jY 1 (mZ iA (jA S (jH n)).1) + 1, log := 13 * (mZ iA (jA S (jH n)).1).length } 1 (jY 1 (mZ iA (jA S (jH n)).1) + 1)).2.1,
    (jQ iA S { Kf S n m with epoch := jY 1 (mZ iA (jA S (jH n)).1) + 1, log := 13 * (mZ iA (jA S (jH n)).1).length } 1 (jY 1 (mZ iA (jA S (jH n)).1) + 1)).2.2, mZ iA (jA S (jH n)).1) := rfl
  by_cases h2 : (jA S (jH n)).2.2 = 0
  .rw [if_neg (by rw [h2]; decide)] at hb
   rw [if_neg (show ¬ (jA S (jH n)).2.2 ≠ 0 by rw [h2]; decide)]
   by_cases h3 : jY 1 (mZ iA (jA S (jH n)).1) = 18446744073709551615
   .rw [if_pos h3] at hb
    rw [if_pos h3, hb]
    rfl
   .rw [if_neg h3] at hb
    rw [if_neg h3, hb]
    simp only
    have e : (⟨n, m, jY 1 (mZ iA (jA S (jH n)).1) + 1, iV gU m (jA S n).1, 13 * (mZ iA (jA S (jH n)).1).length, (jA S n).2.1 && (jA S n).1.length == m.size && Ct (iV gU m (jA S n).1), 0⟩ : nG) =
     { Kf S n m with epoch := jY 1 (mZ iA (jA S (jH n)).1) + 1, log := 13 * (mZ iA (jA S (jH n)).1).length } := rfl
    rw [e]
    obtain ⟨q, hq⟩ : ∃ q, q = jQ iA S { Kf S n m with epoch := jY 1 (mZ iA (jA S (jH n)).1) + 1, log := 13 * (mZ iA (jA S (jH n)).1).length } 1 (jY 1 (mZ iA (jA S (jH n)).1) + 1) := ⟨_, rfl⟩
    have hf : q.2.1.fin = ((jA S n).2.1 && (jA S n).1.length == m.size && Ct (iV gU m (jA S n).1)) /\ q.2.1.man = m := by
     rw [hq]
     unfold jQ
     simp only
     split <;> exact ⟨rfl, rfl⟩
    rw [<- hq]
    unfold Oo
    rw [hf.1, hf.2]
  .rw [if_pos h2] at hb
   rw [if_pos h2, hb]
   show _ = if (jA S (jH n)).2.2 ≠ 0 then (S, none, (jA S (jH n)).2.2) else _
   rw [if_pos h2]
 .rw [if_pos h1, if_pos h1]
def Ug (n0 : Nat) (w : ahA) (p : Nat) (X D : Nat -> Prop) (R : jL × Option nG × Int) (r : ahB) (w' : ahA) : Prop :=
 match R.2.1 with
 | some s => R.2.2 = 0 /\ ∃ q X' D' Y' lv hv, r = .tuple #[dP q, .int .i64 0] /\ kP n0 w' q p X' D' Y' R.1 s lv hv /\ (∀ b, X' b -> X b ∨ w.heap.size <= b) /\ (∀ b, D b -> D' b) /\ (∀ b, Y' b -> w.heap.size <= b) /\ gV w w' X
 | none => r = .tuple #[.pointer none, .int .i64 R.2.2] /\ A7 w p X D R.1 w'
theorem Vz {n0 n1 q p : Nat} {X D Y : Nat -> Prop} {S : jL} {s : nG} {l : List (Nat × Nat)} {lv hv o : ahB} {w : ahA} {RR : ahB -> ahA -> Prop} (h : kP n0 w q p X D Y S s lv hv) (hB : Bg 2 S)
 (hbp : ∀ b, jC (gZ s.nm) S.seen = some b -> b.length <= 1000000) (hn : n1 = s.man.leaves.length) (hcl : Cl w 2 o l.length (l.flatMap BN)) (hno : ¬ vO o (fun b => X b ∨ Y b)) (hlo : l.length <= 1000000) (hok : ∀ r ∈ l, S6 r)
 (hR : ∀ r w', (match (Oo S s l).2.1 with
  | some s' => (Oo S s l).2.2 = 0 /\ r = .tuple #[dP q, .int .i64 0] /\ iW n0 w q p X D Y (Oo S s l).1 s' w'
  | none => r = .tuple #[.pointer none, .int .i64 (Oo S s l).2.2] /\ ∃ s', iW n0 w q p X D Y (Oo S s l).1 s' w') -> RR r w') :
 vB RR (dP p) (.int .i64 (n1 : Nat)) (dP q) o w := by
 have fin : ∀ {w1 : ahA} {S1 : jL} {s1 : nG}, iW n0 w q p X D Y S1 s1 w1 -> Bg 0 S1 -> (Oo S s l = if (Ab S1).2 ≠ 0 then ((Ab S1).1, none, (Ab S1).2) else ((Ab S1).1, some s1, 0)) -> xJ RR (dP p) (dP q) w1 := fun {w1 S1 s1} hp hB1 hE => by
  unfold xJ
  refine (Q7 hp hB1).mono ?_
  rintro r w2 ⟨rfl, hp2⟩
  by_cases he : (Ab S1).2 = 0
  .rw [if_neg (by rw [he]; decide)] at hE
   rw [hE] at hR
   rw [he]
   have n1' : ((0 : Int) != 0) = false := rfl
   simp (disch := omega) only [eY, gN, dX, stepR_skip, fO, fW, fN, fZ, fX, fY, gQ, gG, eT, fT, fS, gE, fR, fL, fV, fQ, fU, gB, gC, fP, fC, gI, gA, fK, iR, iO, iP, iU, iM, iS, iQ, iT, iN, eP, Result.ok.injEq, Next.value.injEq, true_and, and_true, fI, fJ, gH, fM, gD, gR, acM, fE, fF, fG, fD, eZ, eU, fB, eX, eQ, eH, if_true, if_false, acK, acQ, acL, acN, acP, acO, acJ, acI, eA, dV, aB, dM, dO, cB, eB, eS, eE, dK, eF, fA, dJ, eJ, bP, dS, bE, dN, aL, aH, eL, aX, cI, eM, aE, eN, dE, aR, bF, eD, bB, bC, bJ, aO, aI, cF, fH, dY, cJ, cC, dA, cH, dT, bD, eK, bT, dF, bR, aT, bV, aC, bY, bQ, cA, bX, aY, aU, bA, bU, dL, cP, bO, aV, aJ, aM, bG, aF, dC, dW, aK, aN, aZ, aG, cY, aD, cL, bW, bH, aP, cM, bZ, aA, dD, cO, cU, cG, dI, cD, dG, dU, cQ, eC, eI, bN, aS, dZ, bS, aQ, bL, dH, cZ, cV, cN, cS, bK, bM, cX, dR, cR, dQ, dB, n1', he]
   exact hR _ _ ⟨rfl, rfl, hp2⟩
  .have n1' : ((Ab S1).2 != 0) = true := bne_iff_ne.2 he
   rw [if_pos he] at hE
   rw [hE] at hR
   simp (disch := omega) only [eY, gN, dX, stepR_skip, fO, fW, fN, fZ, fX, fY, gQ, gG, eT, fT, fS, gE, fR, fL, fV, fQ, fU, gB, gC, fP, fC, gI, gA, fK, iR, iO, iP, iU, iM, iS, iQ, iT, iN, eP, Result.ok.injEq, Next.value.injEq, true_and, and_true, fI, fJ, gH, fM, gD, gR, acM, fE, fF, fG, fD, eZ, eU, fB, eX, eQ, eH, if_true, if_false, acK, acQ, acL, acN, acP, acO, acJ, acI, eA, dV, aB, dM, dO, cB, eB, eS, eE, dK, eF, fA, dJ, eJ, bP, dS, bE, dN, aL, aH, eL, aX, cI, eM, aE, eN, dE, aR, bF, eD, bB, bC, bJ, aO, aI, cF, fH, dY, cJ, cC, dA, cH, dT, bD, eK, bT, dF, bR, aT, bV, aC, bY, bQ, cA, bX, aY, aU, bA, bU, dL, cP, bO, aV, aJ, aM, bG, aF, dC, dW, aK, aN, aZ, aG, cY, aD, cL, bW, bH, aP, cM, bZ, aA, dD, cO, cU, cG, dI, cD, dG, dU, cQ, eC, eI, bN, aS, dZ, bS, aQ, bL, dH, cZ, cV, cN, cS, bK, bM, cX, dR, cR, dQ, dB, n1']
   exact hR _ _ ⟨rfl, _, hp2⟩
 obtain ⟨c0, c1, c2, c3, c4, c5, c6, c7, c8, c9⟩ := h.cells
 have hmx := h.man.max
 have hmc := h.man.cnt
 unfold vB Ec Ef Dn
 cases hf : s.fin with
 | true =>
   rw [hf] at c8
   unfold FH
   simp (disch := omega) only [eY, gN, dX, stepR_skip, fO, fW, fN, fZ, fX, fY, gQ, gG, eT, fT, fS, gE, fR, fL, fV, fQ, fU, gB, gC, fP, fC, gI, gA, fK, iR, iO, iP, iU, iM, iS, iQ, iT, iN, eP, Result.ok.injEq, Next.value.injEq, true_and, and_true, fI, fJ, gH, fM, gD, gR, acM, fE, fF, fG, fD, eZ, eU, fB, eX, eQ, eH, if_true, if_false, acK, acQ, acL, acN, acP, acO, acJ, acI, eA, dV, aB, dM, dO, cB, eB, eS, eE, dK, eF, fA, dJ, eJ, bP, dS, bE, dN, aL, aH, eL, aX, cI, eM, aE, eN, dE, aR, bF, eD, bB, bC, bJ, aO, aI, cF, fH, dY, cJ, cC, dA, cH, dT, bD, eK, bT, dF, bR, aT, bV, aC, bY, bQ, cA, bX, aY, aU, bA, bU, dL, cP, bO, aV, aJ, aM, bG, aF, dC, dW, aK, aN, aZ, aG, cY, aD, cL, bW, bH, aP, cM, bZ, aA, dD, cO, cU, cG, dI, cD, dG, dU, cQ, eC, eI, bN, aS, dZ, bS, aQ, bL, dH, cZ, cV, cN, cS, bK, bM, cX, dR, cR, dQ, dB, c8]
   refine fin (iW.refl h) (hB.le (by omega)) ?_
   unfold Oo
   rw [if_pos hf]
 | false =>
   rw [hf] at c8
   have hE0 : Oo S s l = if (kH S s).2.2 ≠ 0 then ((kH S s).1, none, (kH S s).2.2)
    else if (Ab (kH S s).1).2 ≠ 0 then ((Ab (kH S s).1).1, none, (Ab (kH S s).1).2)
    else ((Ab (kH S s).1).1, some { s with hv := oS l (iV gU s.man (kH S s).2.1) s.man.leaves.length }, 0) := by
    unfold Oo
    rw [if_neg (by rw [hf]; decide)]
   unfold KJ Fs
   simp (disch := omega) only [eY, gN, dX, stepR_skip, fO, fW, fN, fZ, fX, fY, gQ, gG, eT, fT, fS, gE, fR, fL, fV, fQ, fU, gB, gC, fP, fC, gI, gA, fK, iR, iO, iP, iU, iM, iS, iQ, iT, iN, eP, Result.ok.injEq, Next.value.injEq, true_and, and_true, fI, fJ, gH, fM, gD, gR, acM, fE, fF, fG, fD, eZ, eU, fB, eX, eQ, eH, if_true, if_false, acK, acQ, acL, acN, acP, acO, acJ, acI, eA, dV, aB, dM, dO, cB, eB, eS, eE, dK, eF, fA, dJ, eJ, bP, dS, bE, dN, aL, aH, eL, aX, cI, eM, aE, eN, dE, aR, bF, eD, bB, bC, bJ, aO, aI, cF, fH, dY, cJ, cC, dA, cH, dT, bD, eK, bT, dF, bR, aT, bV, aC, bY, bQ, cA, bX, aY, aU, bA, bU, dL, cP, bO, aV, aJ, aM, bG, aF, dC, dW, aK, aN, aZ, aG, cY, aD, cL, bW, bH, aP, cM, bZ, aA, dD, cO, cU, cG, dI, cD, dG, dU, cQ, eC, eI, bN, aS, dZ, bS, aQ, bL, dH, cZ, cV, cN, cS, bK, bM, cX, dR, cR, dQ, dB, c8]
   refine (Xl h hB).mono ?_
   rintro r w1 ⟨bv, rfl, hbv, hbn, hp1⟩
   have hBf : Bg 0 (kH S s).1 := by
    unfold kH
    simp only
    split
    .exact hB.le (by omega)
    .split
     .split
      .exact Xi (n := 0) (hB.le (by omega))
      .exact QC (Xi hB)
     .split
      .exact QC (n := 0) (hB.le (by omega))
      .exact hB.le (by omega)
   have hbl : (kH S s).2.1.length <= 1000000 := by
    have hr : (jA S (gZ s.nm)).1.length <= 1000000 := by
     unfold jA
     split
     .simp
     .cases hg : jC (gZ s.nm) S.seen with
      | none => simp
      | some b => exact hbp b hg
    unfold kH
    simp only
    split
    .simp
    .split
     .split <;> simp
     .split
      .exact hr
      .exact hr
   generalize kH S s = F at *
   obtain ⟨S1, b, e⟩ := F
   simp only at hbv hp1 hE0 hBf hbl ⊢
   by_cases he : e = 0
   rotate_left
   .have n1' : (e != 0) = true := bne_iff_ne.2 he
    rw [if_pos he] at hE0
    rw [hE0] at hR
    simp (disch := omega) only [eY, gN, dX, stepR_skip, fO, fW, fN, fZ, fX, fY, gQ, gG, eT, fT, fS, gE, fR, fL, fV, fQ, fU, gB, gC, fP, fC, gI, gA, fK, iR, iO, iP, iU, iM, iS, iQ, iT, iN, eP, Result.ok.injEq, Next.value.injEq, true_and, and_true, fI, fJ, gH, fM, gD, gR, acM, fE, fF, fG, fD, eZ, eU, fB, eX, eQ, eH, if_true, if_false, acK, acQ, acL, acN, acP, acO, acJ, acI, eA, dV, aB, dM, dO, cB, eB, eS, eE, dK, eF, fA, dJ, eJ, bP, dS, bE, dN, aL, aH, eL, aX, cI, eM, aE, eN, dE, aR, bF, eD, bB, bC, bJ, aO, aI, cF, fH, dY, cJ, cC, dA, cH, dT, bD, eK, bT, dF, bR, aT, bV, aC, bY, bQ, cA, bX, aY, aU, bA, bU, dL, cP, bO, aV, aJ, aM, bG, aF, dC, dW, aK, aN, aZ, aG, cY, aD, cL, bW, bH, aP, cM, bZ, aA, dD, cO, cU, cG, dI, cD, dG, dU, cQ, eC, eI, bN, aS, dZ, bS, aQ, bL, dH, cZ, cV, cN, cS, bK, bM, cX, dR, cR, dQ, dB, n1']
    exact hR _ _ ⟨rfl, _, hp1⟩
   have n1' : (e != 0) = false := bne_eq_false_iff_eq.2 he
   rw [if_neg (by rw [he]; decide)] at hE0
   have hp1' := hp1
   obtain ⟨X1, D1, Y1, lv1, hv1, h1, hX1, hD1, hY1, x1⟩ := hp1
   simp (disch := omega) only [eY, gN, dX, stepR_skip, fO, fW, fN, fZ, fX, fY, gQ, gG, eT, fT, fS, gE, fR, fL, fV, fQ, fU, gB, gC, fP, fC, gI, gA, fK, iR, iO, iP, iU, iM, iS, iQ, iT, iN, eP, Result.ok.injEq, Next.value.injEq, true_and, and_true, fI, fJ, gH, fM, gD, gR, acM, fE, fF, fG, fD, eZ, eU, fB, eX, eQ, eH, if_true, if_false, acK, acQ, acL, acN, acP, acO, acJ, acI, eA, dV, aB, dM, dO, cB, eB, eS, eE, dK, eF, fA, dJ, eJ, bP, dS, bE, dN, aL, aH, eL, aX, cI, eM, aE, eN, dE, aR, bF, eD, bB, bC, bJ, aO, aI, cF, fH, dY, cJ, cC, dA, cH, dT, bD, eK, bT, dF, bR, aT, bV, aC, bY, bQ, cA, bX, aY, aU, bA, bU, dL, cP, bO, aV, aJ, aM, bG, aF, dC, dW, aK, aN, aZ, aG, cY, aD, cL, bW, bH, aP, cM, bZ, aA, dD, cO, cU, cG, dI, cD, dG, dU, cQ, eC, eI, bN, aS, dZ, bS, aQ, bL, dH, cZ, cV, cN, cS, bK, bM, cX, dR, cR, dQ, dB, n1']
   refine Lt (by omega) (by omega) fun w2 o2 x2 s2 => ?_
   rw [acM] at o2 ⊢
   obtain ⟨hb, hhb⟩ : ∃ hb, hb = w1.heap.size := ⟨_, rfl⟩
   rw [<- hhb] at o2 ⊢
   have h2 := h1.new x2
   refine Le h2.own rfl (by simp) fun w3 o3 x3 s3 => ?_
   have hrl : (List.replicate n1 false).length = n1 := adI
   have o2' : jI w2 hb ((List.replicate n1 false).map Value.bool) := by rw [agH]; exact o2
   have h3 := h1.newHv (s' := { s with hv := List.replicate n1 false }) x2 (by omega) o2' (by omega) x3 (by rw [hrl]; exact o3) rfl rfl rfl h1.ep h1.lg
   rw [hrl] at h3
   have x13 : gV w1 w3 (fun y => y = q) := (x2.mono fun _ _ h => h.elim).seq x3
   have hlt1 := fun y hy => kP.lt h1 y hy
   have hlt0 := fun y hy => kP.lt h y hy
   have z1 := x1.size
   have hq1 : ¬ vO bv (fun y => y = q) := hbn q (.inr h.yq)
   refine (Pg h3 (hbv.ext x13 hq1) hbl).mono ?_
   rintro r w4 ⟨ob, rfl, hob, oo, x4⟩
   obtain ⟨W, hW⟩ : ∃ W, W = iV gU s.man b := ⟨_, rfl⟩
   have hWl : W.length = n1 := by rw [hW, hn]; unfold iV; simp
   have oo : jI w4 ob (W.map Value.bool) := by rw [hW]; exact oo
   rw [<- hW] at hE0
   have h4 := h3.new x4
   have hcl1 : Cl w1 2 o l.length (l.flatMap BN) := JQ hcl x1 hno
   have hno1 : ¬ vO o (fun y => X1 y ∨ Y1 y ∨ y = hb) := fun hi => by
    have hold := YM hcl (by decide)
    obtain ⟨a, c, rfl, hl, hh⟩ := hcl
    unfold vO at hi hno hold
    split at hi
    .rename_i e'
     simp only [Value.slice.injEq] at e'
     obtain ⟨rfl, e2, rfl⟩ := e'
     rw [e2] at hno hold
     rcases hi with hi | hi | hi
     .rcases hX1 _ hi with h | h
      .exact hno (.inl h)
      .exact hold h
     .rcases hY1 _ hi with h | h
      .exact hno (.inr h)
      .exact hold h
     .exact hold (show w.heap.size <= _ by omega)
    .exact hi
   have hcl4 : Cl w4 2 o l.length (l.flatMap BN) := JQ (JQ hcl1 x13 fun hi => hno1 (vG hi fun y hy => .inr (.inl (hy ▸ h1.yq)))) x4 (jG _)
   obtain ⟨oa, oc, hov, hol, hoh⟩ := id hcl4
   subst hov
   have z3 := x13.size
   have z4 := x4.size
   unfold FB FK
   simp (disch := omega) only [eY, gN, dX, stepR_skip, fO, fW, fN, fZ, fX, fY, gQ, gG, eT, fT, fS, gE, fR, fL, fV, fQ, fU, gB, gC, fP, fC, gI, gA, fK, iR, iO, iP, iU, iM, iS, iQ, iT, iN, eP, Result.ok.injEq, Next.value.injEq, true_and, and_true, fI, fJ, gH, fM, gD, gR, acM, fE, fF, fG, fD, eZ, eU, fB, eX, eQ, eH, if_true, if_false, acK, acQ, acL, acN, acP, acO, acJ, acI, eA, dV, aB, dM, dO, cB, eB, eS, eE, dK, eF, fA, dJ, eJ, bP, dS, bE, dN, aL, aH, eL, aX, cI, eM, aE, eN, dE, aR, bF, eD, bB, bC, bJ, aO, aI, cF, fH, dY, cJ, cC, dA, cH, dT, bD, eK, bT, dF, bR, aT, bV, aC, bY, bQ, cA, bX, aY, aU, bA, bU, dL, cP, bO, aV, aJ, aM, bG, aF, dC, dW, aK, aN, aZ, aG, cY, aD, cL, bW, bH, aP, cM, bZ, aA, dD, cO, cU, cG, dI, cD, dG, dU, cQ, eC, eI, bN, aS, dZ, bS, aQ, bL, dH, cZ, cV, cN, cS, bK, bM, cX, dR, cR, dQ, dB]
   have hobn : ¬ (X1 ob ∨ Y1 ob ∨ ob = hb) := fun hx => by
    rcases hx with hx | hx | hx
    .have := hlt1 ob (.inl hx); omega
    .have := hlt1 ob (.inr hx); omega
    .have := o2.lt; have := x3.size; omega
   refine kJ.rule (fun m (t : ahB) w' => ∃ (j : Nat), m = l.length - j /\ t = .int .i64 (j : Nat) /\ j <= l.length /\ kP n0 w' q p X1 (fun b => D1 b ∨ b = hb) (fun b => Y1 b ∨ b = hb) S1 { s with hv := oS (l.take j) W n1 } lv1 (.slice (some ⟨hb, 0, none⟩) n1 n1) /\ gV w4 w' (fun y => y = hb)) l.length
    ⟨0, rfl, rfl, by omega, by rw [Vh]; exact h4, gV.refl _ _⟩ ?_
   rintro m t w5 ⟨j, rfl, rfl, hj, h5, x5⟩
   unfold BX FP
   by_cases hlt : j < l.length
   .have d1 : decide ((j : Int) < (l.length : Int)) = true := by simp; omega
    obtain ⟨lb, lo, rfl, hcell⟩ := hoh (by omega)
    have hlbn : ¬ (X1 lb ∨ Y1 lb ∨ lb = hb) := fun hx => hno1 (by
     obtain ⟨l', hl'⟩ : ∃ l', l.length = l' + 1 := ⟨l.length - 1, by omega⟩
     rw [hl']
     exact hx)
    have rl := MU l
    have lrec : ∀ {w' : ahA}, gV w4 w' (fun y => y = hb) -> (gJ 77 (.pointer (some ⟨lb, lo + j * 2, none⟩))).run pg w' = .ok (.value (.agg (BN l[j]).toArray)) w' := fun {w'} x => by
     refine LV rfl fun k hk => ?_
     have hk : k < 2 := hk
     have hgc := hcell (j * 2 + k) (by omega)
     have hrc := congrArg (fun q => q[k]?) (QP hlt)
     simp only [List.getElem?_take, afQ, if_pos hk] at hrc
     rw [hrc] at hgc
     obtain ⟨v, hv⟩ : ∃ v, (BN l[j])[k]? = some v := ⟨_, acS hk⟩
     rw [hv] at hgc ⊢
     rw [afN]
     exact Br hgc x (fun e => hlbn (.inr (.inr e)))
    have l5 := lrec x5
    have hst := US (W := W) (n := n1) hlt
    obtain ⟨ho1, ho2⟩ := hok _ (aeX hlt)
    generalize l[j]'hlt = rec at *
    obtain ⟨k, v⟩ := rec
    simp only at ho1 ho2 hst
    simp (disch := omega) only [eY, gN, dX, stepR_skip, fO, fW, fN, fZ, fX, fY, gQ, gG, eT, fT, fS, gE, fR, fL, fV, fQ, fU, gB, gC, fP, fC, gI, gA, fK, iR, iO, iP, iU, iM, iS, iQ, iT, iN, eP, Result.ok.injEq, Next.value.injEq, true_and, and_true, fI, fJ, gH, fM, gD, gR, acM, fE, fF, fG, fD, eZ, eU, fB, eX, eQ, eH, if_true, if_false, acK, acQ, acL, acN, acP, acO, acJ, acI, eA, dV, aB, dM, dO, cB, eB, eS, eE, dK, eF, fA, dJ, eJ, bP, dS, bE, dN, aL, aH, eL, aX, cI, eM, aE, eN, dE, aR, bF, eD, bB, bC, bJ, aO, aI, cF, fH, dY, cJ, cC, dA, cH, dT, bD, eK, bT, dF, bR, aT, bV, aC, bY, bQ, cA, bX, aY, aU, bA, bU, dL, cP, bO, aV, aJ, aM, bG, aF, dC, dW, aK, aN, aZ, aG, cY, aD, cL, bW, bH, aP, cM, bZ, aA, dD, cO, cU, cG, dI, cD, dG, dU, cQ, eC, eI, bN, aS, dZ, bS, aQ, bL, dH, cZ, cV, cN, cS, bK, bM, cX, dR, cR, dQ, dB, d1, l5]
    refine BG fun w6 o6 x6 s6 => ?_
    refine AM o6 rfl (by simp [one]) (by simp) fun w7 o7 x7 s7 => ?_
    have o7 : jI w7 w5.heap.size (BN (k, v)) := o7
    have x57 : gV w5 w7 jN := x6.trans x7 fun y hy h => by omega
    have h7 := h5.new x57
    have k0 := o7.cell (off := 0)
    have k1 := o7.cell (off := 1)
    have k1d := (kR o7).cell (off := 1)
    simp only [acI, acJ] at k0 k1 k1d
    have e1 : IntKind.u64.wrap ((n1 : Nat) : Int) = ((n1 : Nat) : Int) := fJ (by omega) (by omega)
    have ej : (j : Int) + 1 = ((j + 1 : Nat) : Int) := by omega
    have skip : ¬ (k = 2 /\ v < n1) -> ∃ m, m < l.length - j /\ ∃ (j' : Nat), m = l.length - j' /\ (Value.int .i64 ((j + 1 : Nat) : Int)) = .int .i64 (j' : Nat) /\ j' <= l.length /\ kP n0 w7 q p X1 (fun b => D1 b ∨ b = hb) (fun b => Y1 b ∨ b = hb) S1 { s with hv := oS (l.take j') W n1 } lv1 (.slice (some ⟨hb, 0, none⟩) n1 n1) /\ gV w4 w7 (fun y => y = hb) := fun hc => by
     rw [if_neg hc] at hst
     exact ⟨l.length - (j + 1), by omega, j + 1, rfl, rfl, by omega, by rw [hst]; exact h7, x5.seq (x57.mono fun _ _ h => h.elim)⟩
    unfold BW
    by_cases hk2 : k = 2
    rotate_left
    .have q1 : (((k : Nat) : Int) == 2) = false := by rw [beq_eq_false_iff_ne]; omega
     simp (disch := omega) only [eY, gN, dX, stepR_skip, fO, fW, fN, fZ, fX, fY, gQ, gG, eT, fT, fS, gE, fR, fL, fV, fQ, fU, gB, gC, fP, fC, gI, gA, fK, iR, iO, iP, iU, iM, iS, iQ, iT, iN, eP, Result.ok.injEq, Next.value.injEq, true_and, and_true, fI, fJ, gH, fM, gD, gR, acM, fE, fF, fG, fD, eZ, eU, fB, eX, eQ, eH, if_true, if_false, acK, acQ, acL, acN, acP, acO, acJ, acI, eA, dV, aB, dM, dO, cB, eB, eS, eE, dK, eF, fA, dJ, eJ, bP, dS, bE, dN, aL, aH, eL, aX, cI, eM, aE, eN, dE, aR, bF, eD, bB, bC, bJ, aO, aI, cF, fH, dY, cJ, cC, dA, cH, dT, bD, eK, bT, dF, bR, aT, bV, aC, bY, bQ, cA, bX, aY, aU, bA, bU, dL, cP, bO, aV, aJ, aM, bG, aF, dC, dW, aK, aN, aZ, aG, cY, aD, cL, bW, bH, aP, cM, bZ, aA, dD, cO, cU, cG, dI, cD, dG, dU, cQ, eC, eI, bN, aS, dZ, bS, aQ, bL, dH, cZ, cV, cN, cS, bK, bM, cX, dR, cR, dQ, dB, k0, q1, ej]
     exact skip (fun h => hk2 h.1)
    have q1 : (((k : Nat) : Int) == 2) = true := by rw [beq_iff_eq]; omega
    by_cases hvn : v < n1
    rotate_left
    .have q2 : decide (((v : Nat) : Int) < ((n1 : Nat) : Int)) = false := by simp only [decide_eq_false_iff_not]; omega
     simp (disch := omega) only [eY, gN, dX, stepR_skip, fO, fW, fN, fZ, fX, fY, gQ, gG, eT, fT, fS, gE, fR, fL, fV, fQ, fU, gB, gC, fP, fC, gI, gA, fK, iR, iO, iP, iU, iM, iS, iQ, iT, iN, eP, Result.ok.injEq, Next.value.injEq, true_and, and_true, fI, fJ, gH, fM, gD, gR, acM, fE, fF, fG, fD, eZ, eU, fB, eX, eQ, eH, if_true, if_false, acK, acQ, acL, acN, acP, acO, acJ, acI, eA, dV, aB, dM, dO, cB, eB, eS, eE, dK, eF, fA, dJ, eJ, bP, dS, bE, dN, aL, aH, eL, aX, cI, eM, aE, eN, dE, aR, bF, eD, bB, bC, bJ, aO, aI, cF, fH, dY, cJ, cC, dA, cH, dT, bD, eK, bT, dF, bR, aT, bV, aC, bY, bQ, cA, bX, aY, aU, bA, bU, dL, cP, bO, aV, aJ, aM, bG, aF, dC, dW, aK, aN, aZ, aG, cY, aD, cL, bW, bH, aP, cM, bZ, aA, dD, cO, cU, cG, dI, cD, dG, dU, cQ, eC, eI, bN, aS, dZ, bS, aQ, bL, dH, cZ, cV, cN, cS, bK, bM, cX, dR, cR, dQ, dB, k0, k1, q1, e1, q2, ej]
     exact skip (fun h => hvn h.2)
    have q2 : decide (((v : Nat) : Int) < ((n1 : Nat) : Int)) = true := by simp only [decide_eq_true_eq]; omega
    rw [if_pos ⟨hk2, hvn⟩] at hst
    have h7d := h7.new (gV.dr w7 jN)
    obtain ⟨f0, f1, f2, f3, f4, f5, f6, f7, f8, f9⟩ := h7d.cells
    have ow : jI (dr w7) ob (W.map Value.bool) := ((oo.ext x5 (fun e => hobn (.inr (.inr e)))).ext x57 (fun h => h)).ext (gV.dr _ jN) (fun h => h)
    have hWv : W.getD v false = W[v]'(by omega) := by rw [acU, acS (by omega)] <;> rfl
    have cw : (dr w7).cell? ⟨ob, v, none⟩ = some (.bool (W.getD v false)) := by
     rw [ow.cell, adQ, acS (by omega), hWv] <;> rfl
    clear hWv
    obtain ⟨hb', c', rest, hhv, hbY, hbq, oh, hset⟩ := h7d.setHv (i := v) (by show v < (oS (l.take j) W n1).length; rw [R1]; omega)
    simp only [Value.slice.injEq, adT] at hhv
    obtain ⟨hbe, hlen', _⟩ := hhv
    have hbe : hb' = hb := by have := congrArg Addr.block hbe; exact this.symm
    subst hbe
    have hWn : s.man.leaves.length = n1 := hn.symm
    simp (disch := omega) only [eY, gN, dX, stepR_skip, fO, fW, fN, fZ, fX, fY, gQ, gG, eT, fT, fS, gE, fR, fL, fV, fQ, fU, gB, gC, fP, fC, gI, gA, fK, iR, iO, iP, iU, iM, iS, iQ, iT, iN, eP, Result.ok.injEq, Next.value.injEq, true_and, and_true, fI, fJ, gH, fM, gD, gR, acM, fE, fF, fG, fD, eZ, eU, fB, eX, eQ, eH, if_true, if_false, acK, acQ, acL, acN, acP, acO, acJ, acI, eA, dV, aB, dM, dO, cB, eB, eS, eE, dK, eF, fA, dJ, eJ, bP, dS, bE, dN, aL, aH, eL, aX, cI, eM, aE, eN, dE, aR, bF, eD, bB, bC, bJ, aO, aI, cF, fH, dY, cJ, cC, dA, cH, dT, bD, eK, bT, dF, bR, aT, bV, aC, bY, bQ, cA, bX, aY, aU, bA, bU, dL, cP, bO, aV, aJ, aM, bG, aF, dC, dW, aK, aN, aZ, aG, cY, aD, cL, bW, bH, aP, cM, bZ, aA, dD, cO, cU, cG, dI, cD, dG, dU, cQ, eC, eI, bN, aS, dZ, bS, aQ, bL, dH, cZ, cV, cN, cS, bK, bM, cX, dR, cR, dQ, dB, k0, k1, q1, e1, q2, f6, k1d, cw, hWn]
    refine Dc oh rfl (by rw [acT, acR]; show v < (oS (l.take j) W n1).length + _; rw [R1]; omega) fun w8 o8 x8 s8 => ?_
    have h8 := hset o8 x8
    simp (disch := omega) only [eY, gN, dX, stepR_skip, fO, fW, fN, fZ, fX, fY, gQ, gG, eT, fT, fS, gE, fR, fL, fV, fQ, fU, gB, gC, fP, fC, gI, gA, fK, iR, iO, iP, iU, iM, iS, iQ, iT, iN, eP, Result.ok.injEq, Next.value.injEq, true_and, and_true, fI, fJ, gH, fM, gD, gR, acM, fE, fF, fG, fD, eZ, eU, fB, eX, eQ, eH, if_true, if_false, acK, acQ, acL, acN, acP, acO, acJ, acI, eA, dV, aB, dM, dO, cB, eB, eS, eE, dK, eF, fA, dJ, eJ, bP, dS, bE, dN, aL, aH, eL, aX, cI, eM, aE, eN, dE, aR, bF, eD, bB, bC, bJ, aO, aI, cF, fH, dY, cJ, cC, dA, cH, dT, bD, eK, bT, dF, bR, aT, bV, aC, bY, bQ, cA, bX, aY, aU, bA, bU, dL, cP, bO, aV, aJ, aM, bG, aF, dC, dW, aK, aN, aZ, aG, cY, aD, cL, bW, bH, aP, cM, bZ, aA, dD, cO, cU, cG, dI, cD, dG, dU, cQ, eC, eI, bN, aS, dZ, bS, aQ, bL, dH, cZ, cV, cN, cS, bK, bM, cX, dR, cR, dQ, dB, ej]
    refine ⟨l.length - (j + 1), by omega, j + 1, rfl, rfl, by omega, ?_, (x5.seq (x57.mono fun _ _ h => h.elim)).seq ((gV.dr w7 _).seq x8)⟩
    rw [hst]
    exact h8
   .have d1 : decide ((j : Int) < (l.length : Int)) = false := by simp; omega
    obtain rfl : j = l.length := by omega
    rw [acX (acY _)] at h5
    simp (disch := omega) only [eY, gN, dX, stepR_skip, fO, fW, fN, fZ, fX, fY, gQ, gG, eT, fT, fS, gE, fR, fL, fV, fQ, fU, gB, gC, fP, fC, gI, gA, fK, iR, iO, iP, iU, iM, iS, iQ, iT, iN, eP, Result.ok.injEq, Next.value.injEq, true_and, and_true, fI, fJ, gH, fM, gD, gR, acM, fE, fF, fG, fD, eZ, eU, fB, eX, eQ, eH, if_true, if_false, acK, acQ, acL, acN, acP, acO, acJ, acI, eA, dV, aB, dM, dO, cB, eB, eS, eE, dK, eF, fA, dJ, eJ, bP, dS, bE, dN, aL, aH, eL, aX, cI, eM, aE, eN, dE, aR, bF, eD, bB, bC, bJ, aO, aI, cF, fH, dY, cJ, cC, dA, cH, dT, bD, eK, bT, dF, bR, aT, bV, aC, bY, bQ, cA, bX, aY, aU, bA, bU, dL, cP, bO, aV, aJ, aM, bG, aF, dC, dW, aK, aN, aZ, aG, cY, aD, cL, bW, bH, aP, cM, bZ, aA, dD, cO, cU, cG, dI, cD, dG, dU, cQ, eC, eI, bN, aS, dZ, bS, aQ, bL, dH, cZ, cV, cN, cS, bK, bM, cX, dR, cR, dQ, dB, d1]
    refine fin (iW.step x1 hX1 hD1 hY1 ⟨X1, _, _, _, _, h5, fun _ h => .inl h, fun _ h => .inl h, fun b hb' => hb'.imp id fun e => by omega, ?_⟩) hBf (by rw [hE0, hn])
    have xx : gV w1 w4 (fun b => X1 b ∨ Y1 b) := (x13.seq (x4.mono fun _ _ h => h.elim)).mono fun y _ hy => .inr (hy ▸ h1.yq)
    exact xx.trans x5 fun y hy h => by omega
theorem aaD (n : ByteArray) : gZ n ≠ jH n := fun h => by
 have := congrArg ByteArray.size h
 unfold gZ jH at this
 rw [ByteArray.size_append, ByteArray.size_append] at this
 have h5 : (⟨#[46, 112, 97, 114, 116]⟩ : ByteArray).size = 5 := rfl
 have h4 : (⟨#[46, 108, 111, 103]⟩ : ByteArray).size = 4 := rfl
 omega
theorem Vs {S : jL} {o : NT} : (pW S o).1.seen = S.seen ∨ (pW S o).1.seen = CV o S.seen := by
 unfold pW
 split
 .exact .inl rfl
 .exact .inr rfl
theorem Yc {S : jL} {k : ByteArray} {a : Int} {l : List UInt8} : (Da S k a l).1.seen = S.seen ∨ ∃ v, (Da S k a l).1.seen = nB k v S.seen := by
 unfold Da
 split
 .rcases Vs (S := S) (o := ⟨0, k, ⟨#[]⟩, a.toNat, l⟩) with h | h
  .exact .inl h
  .exact .inr ⟨_, h⟩
 .exact .inl rfl
theorem V2 {S : jL} {s : nG} {k v : Nat} : (jQ iA S s k v).1.seen = S.seen ∨ ∃ u, (jQ iA S s k v).1.seen = nB (jH s.nm) u S.seen := by
 have := Yc (S := S) (k := jH s.nm) (a := s.log) (l := rT iA k v)
 unfold jQ
 simp only
 split <;> exact this
theorem Ty {S : jL} {s : nG} : (qJ S s).2.1.man = s.man /\ (qJ S s).2.1.nm = s.nm /\ jC (gZ s.nm) (qJ S s).1.seen = jC (gZ s.nm) S.seen /\ (∀ r ∈ (qJ S s).2.2.2, S6 r) /\ 13 * (qJ S s).2.2.2.length <= (jA S (jH s.nm)).1.length := by
 unfold qJ
 split
 .exact ⟨rfl, rfl, rfl, by simp, by simp⟩
 .split
  .exact ⟨rfl, rfl, rfl, by simp, by simp⟩
  .simp only
   refine ⟨Rb.2.1, Rb.2.2.1, ?_, RB iA _ _, Ps iA _ _⟩
   rcases V2 (S := S) (s := { s with epoch := jY 1 (mZ iA (jA S (jH s.nm)).1) + 1, log := 13 * (mZ iA (jA S (jH s.nm)).1).length }) (k := 1) (v := jY 1 (mZ iA (jA S (jH s.nm)).1) + 1) with h | ⟨u, h⟩
   .rw [h]
   .rw [h, PM, if_neg (aaD _)]
theorem X6 {n : Nat} {S : jL} {s : nG} (h : Bg (n + 1) S) : Bg n (qJ S s).1 := by
 unfold qJ
 split
 .exact h.le (by omega)
 .split
  .exact h.le (by omega)
  .exact Tx h
theorem Zh {n0 p : Nat} {X D : Nat -> Prop} {S : jL} {nm : ByteArray} {m : UO} {lv : ahB} {w : ahA} (hd : mE w p X D S) (hg : qK w) (g0 : 0 < n0 /\ 1 < n0) (hX : ∀ b, X b -> n0 <= b) (hn0 : n0 <= w.heap.size) (hB : Bg 3 S) (hm : Uq m) (hlv : Cl w 32 lv m.leaves.length (Vt m.leaves))
 (hnm : 1 <= nm.size /\ nm.size <= 27) (hb1 : ∀ b, jC nm S.seen = some b -> b.length <= 1000000) (hb2 : ∀ b, jC (jH nm) S.seen = some b -> b.length <= 1000000) (hb3 : ∀ b, jC (gZ nm) S.seen = some b -> b.length <= 1000000) :
 gT pg rY #[dP p, .string nm, .agg (O3 m lv).toArray] w (Ug n0 w p X D (DF gU iA S nm m)) := by
 refine Oy ?_
 obtain ⟨RR, hRR⟩ : ∃ RR : ahB -> ahA -> Prop, RR = Ug n0 w p X D (DF gU iA S nm m) := ⟨_, rfl⟩
 rw [<- hRR]
 have hO := UT S nm m
 have hm1 := hm.size
 have hm2 := hm.part
 have hm3 := hm.cnt
 have hm4 := hm.max
 unfold PB Ei Ep
 refine oM fun w1 o1 x1 s1 => ?_
 have o1 : jI w1 w.heap.size (O3 m lv) := o1
 obtain ⟨mb, hmb⟩ : ∃ mb, mb = w.heap.size := ⟨_, rfl⟩
 rw [<- hmb] at o1 ⊢
 have c0 := o1.cell (off := 0)
 have c1 := o1.cell (off := 1)
 have c2 := o1.cell (off := 2)
 simp only [acI, acJ] at c0 c1 c2
 have d1 : decide ((nm.size : Int) < 1) = false := by simp; omega
 have d2 : decide ((27 : Int) < (nm.size : Int)) = false := by simp; omega
 have e1 : IntKind.i64.wrap ((m.part : Nat) : Int) = ((m.part : Nat) : Int) := fI (by omega) (by omega)
 simp (disch := omega) only [eY, gN, dX, stepR_skip, fO, fW, fN, fZ, fX, fY, gQ, gG, eT, fT, fS, gE, fR, fL, fV, fQ, fU, gB, gC, fP, fC, gI, gA, fK, iR, iO, iP, iU, iM, iS, iQ, iT, iN, eP, Result.ok.injEq, Next.value.injEq, true_and, and_true, fI, fJ, gH, fM, gD, gR, acM, fE, fF, fG, fD, eZ, eU, fB, eX, eQ, eH, if_true, if_false, acK, acQ, acL, acN, acP, acO, acJ, acI, eA, dV, aB, dM, dO, cB, eB, eS, eE, dK, eF, fA, dJ, eJ, bP, dS, bE, dN, aL, aH, eL, aX, cI, eM, aE, eN, dE, aR, bF, eD, bB, bC, bJ, aO, aI, cF, fH, dY, cJ, cC, dA, cH, dT, bD, eK, bT, dF, bR, aT, bV, aC, bY, bQ, cA, bX, aY, aU, bA, bU, dL, cP, bO, aV, aJ, aM, bG, aF, dC, dW, aK, aN, aZ, aG, cY, aD, cL, bW, bH, aP, cM, bZ, aA, dD, cO, cU, cG, dI, cD, dG, dU, cQ, eC, eI, bN, aS, dZ, bS, aQ, bL, dH, cZ, cV, cN, cS, bK, bM, cX, dR, cR, dQ, dB, d1, d2, c0, c1, e1]
 refine (Rr (by omega) hm2.1 hm2.2).mono ?_
 rintro r w2 ⟨rfl, hw⟩
 rw [hw]; clear hw w2
 rw [if_neg (by omega)]
 have n1 : ((0 : Int) != 0) = false := rfl
 obtain ⟨la, lc, hlve, hln, -⟩ := id hlv
 subst hlve
 have q1 : (((mA m.size m.part : Nat) : Int) != ((m.leaves.length : Nat) : Int)) = false := by rw [bne_eq_false_iff_eq]; omega
 simp (disch := omega) only [eY, gN, dX, stepR_skip, fO, fW, fN, fZ, fX, fY, gQ, gG, eT, fT, fS, gE, fR, fL, fV, fQ, fU, gB, gC, fP, fC, gI, gA, fK, iR, iO, iP, iU, iM, iS, iQ, iT, iN, eP, Result.ok.injEq, Next.value.injEq, true_and, and_true, fI, fJ, gH, fM, gD, gR, acM, fE, fF, fG, fD, eZ, eU, fB, eX, eQ, eH, if_true, if_false, acK, acQ, acL, acN, acP, acO, acJ, acI, eA, dV, aB, dM, dO, cB, eB, eS, eE, dK, eF, fA, dJ, eJ, bP, dS, bE, dN, aL, aH, eL, aX, cI, eM, aE, eN, dE, aR, bF, eD, bB, bC, bJ, aO, aI, cF, fH, dY, cJ, cC, dA, cH, dT, bD, eK, bT, dF, bR, aT, bV, aC, bY, bQ, cA, bX, aY, aU, bA, bU, dL, cP, bO, aV, aJ, aM, bG, aF, dC, dW, aK, aN, aZ, aG, cY, aD, cL, bW, bH, aP, cM, bZ, aA, dD, cO, cU, cG, dI, cD, dG, dU, cQ, eC, eI, bN, aS, dZ, bS, aQ, bL, dH, cZ, cV, cN, cS, bK, bM, cX, dR, cR, dQ, dB, n1, c2, q1]
 refine (Sk (JQ hlv x1 (jG _)) (Yh _) (by omega)).mono ?_
 rintro r w2 ⟨hcl, x2⟩
 have o2 := o1.ext x2 (fun h => h)
 obtain ⟨ca, cc, rfl⟩ := hcl.len
 refine KR o2 rfl (by simp) fun w3 o3 x3 s3 => ?_
 simp only [adA, adN] at o3
 have z1 := x1.size
 have z2 := x2.size
 have hcl3 : Ac w3 w1.heap.size 32 (.slice ca m.leaves.length cc) m.leaves.length (Vt m.leaves) := hcl.ext x3 fun b hb h => by omega
 obtain ⟨lv', hlv'⟩ : ∃ lv', lv' = Value.slice ca m.leaves.length cc := ⟨_, rfl⟩
 rw [<- hlv'] at hcl3 o3
 have x03 : gV w w3 jN := (x1.seq x2).trans x3 fun y hy h => by omega
 have lm := qR (off := 0) o3 (by simp)
 have lm : (gJ 28 (.pointer (some ⟨mb, 0, none⟩))).run pg w3 = .ok (.value (.agg (O3 m lv').toArray)) w3 := lm
 have bd := aR (some ⟨p, 0, none⟩) nm (.int .u64 (m.size : Nat)) (.int .u32 (m.part : Nat)) lv' w3
 simp (disch := omega) only [eY, gN, dX, stepR_skip, fO, fW, fN, fZ, fX, fY, gQ, gG, eT, fT, fS, gE, fR, fL, fV, fQ, fU, gB, gC, fP, fC, gI, gA, fK, iR, iO, iP, iU, iM, iS, iQ, iT, iN, eP, Result.ok.injEq, Next.value.injEq, true_and, and_true, fI, fJ, gH, fM, gD, gR, acM, fE, fF, fG, fD, eZ, eU, fB, eX, eQ, eH, if_true, if_false, acK, acQ, acL, acN, acP, acO, acJ, acI, eA, dV, aB, dM, dO, cB, eB, eS, eE, dK, eF, fA, dJ, eJ, bP, dS, bE, dN, aL, aH, eL, aX, cI, eM, aE, eN, dE, aR, bF, eD, bB, bC, bJ, aO, aI, cF, fH, dY, cJ, cC, dA, cH, dT, bD, eK, bT, dF, bR, aT, bV, aC, bY, bQ, cA, bX, aY, aU, bA, bU, dL, cP, bO, aV, aJ, aM, bG, aF, dC, dW, aK, aN, aZ, aG, cY, aD, cL, bW, bH, aP, cM, bZ, aA, dD, cO, cU, cG, dI, cD, dG, dU, cQ, eC, eI, bN, aS, dZ, bS, aQ, bL, dH, cZ, cV, cN, cS, bK, bM, cX, dR, cR, dQ, dB, lm, bd]
 refine oM fun w4 o4 x4 s4 => ?_
 obtain ⟨q, hq⟩ : ∃ q, q = w3.heap.size := ⟨_, rfl⟩
 rw [<- hq] at o4 ⊢
 have x04 := x03.seq x4
 have z3 := x3.size
 have h4 : kP n0 w4 q p X (fun b => D b ∨ b = q) (fun b => b = q) S ⟨nm, m, 0, [], 0, false, 0⟩ lv' (.slice none 0 0) := by
  have hlt := mE.lt hd
  have hxd := mE.xd' hd
  refine ⟨hg.ext x04, g0, fun b hb => ?_, by have := x04.size; omega, hd.more x04 (by omega) o4.lt, rfl, fun b hb => ⟨.inr hb, fun hx => by have := hlt b (hxd b hx); omega⟩, o4, hm, ⟨?_, ?_⟩, ⟨rfl, .inl ⟨rfl, rfl⟩⟩, (by show 0 < _; omega), (by show 0 <= _; omega), (by show 0 <= _; omega), hnm.2⟩
  .rcases hb with hb | hb
   .exact hX b hb
   .omega
  .exact JQ (Ro hcl3) x4 (jG _)
  .refine UF (w' := w3) hcl3 fun b hb hl hx => ?_
   rcases hx with hx | hx
   .have := hlt b (hxd b hx); omega
   .omega
 have o34 := o3.ext x4 (fun h => h)
 obtain ⟨f0, f1, f2, f3, f4, f5, f6, f7, f8, f9⟩ := h4.cells
 refine (Pv (n := nm) h4.dsk (hB.le (by omega)) f0).mono ?_
 rintro r w5 ⟨v, rfl, ho, x5⟩
 have h5 := h4.new x5
 have z4 := x04.size
 have toPost : ∀ {w' : ahA} {S' : jL} {s' : nG}, iW n0 w4 q p X (fun b => D b ∨ b = q) (fun b => b = q) S' s' w' -> A7 w p X D S' w' := fun {w' S' s'} ⟨X', D', Y', _, _, h, h1, h2, h3, hx⟩ => by
  refine ⟨X', D', h.dsk, fun b hb => ?_, fun b hb => h2 b (.inl hb), (x04.mono fun _ _ h => h.elim).trans hx fun y hy h => ?_⟩
  .rcases h1 b hb with h | h
   .exact .inl h
   .exact .inr (by omega)
  .rcases h with h | h
   .exact h
   .omega
 have toOpen : ∀ {r : ahB} {w' : ahA} {R : jL × Option nG × Int}, DF gU iA S nm m = R -> (match R.2.1 with
     | some s' => R.2.2 = 0 /\ r = .tuple #[dP q, .int .i64 0] /\ iW n0 w4 q p X (fun b => D b ∨ b = q) (fun b => b = q) R.1 s' w'
     | none => r = .tuple #[.pointer none, .int .i64 R.2.2] /\ ∃ s', iW n0 w4 q p X (fun b => D b ∨ b = q) (fun b => b = q) R.1 s' w') -> RR r w' := fun {r w' R} hR hm => by
  rw [hRR, hR]
  unfold Ug
  obtain ⟨S', so, e⟩ := R
  cases so with
  | none =>
    obtain ⟨h1, s', h2⟩ := hm
    exact ⟨h1, toPost h2⟩
  | some s' =>
    obtain ⟨h0, h1, h2⟩ := hm
    have hp := toPost h2
    obtain ⟨X', D', Y', lv2, hv2, h, k1, k2, k3, hx⟩ := h2
    refine ⟨h0, q, X', D', Y', lv2, hv2, h1, h, fun b hb => ?_, fun b hb => k2 b (.inl hb), fun b hb => ?_, (x04.mono fun _ _ h => h.elim).trans hx fun y hy h => ?_⟩
    .rcases k1 b hb with h | h
     .exact .inl h
     .exact .inr (by omega)
    .rcases k3 b hb with h | h
     .omega
     .omega
    .rcases h with h | h
     .exact h
     .omega
 have hini : Kf S nm m = ⟨nm, m, 0, iV gU m (jA S nm).1, 0, (jA S nm).2.1 && (jA S nm).1.length == m.size && Ct (iV gU m (jA S nm).1), 0⟩ := rfl
 have hbl : (jA S nm).1.length <= 1000000 := by
  unfold jA
  split
  .simp
  .cases hg : jC nm S.seen with
   | none => simp
   | some b => exact hb1 b hg
 generalize jA S nm = rb at *
 obtain ⟨b, th, e⟩ := rb
 simp only at ho hO hini hbl ⊢
 by_cases he : e = 0
 rotate_left
 .have n2 : (e != 0) = true := bne_iff_ne.2 he
  rw [if_pos he] at hO
  simp (disch := omega) only [eY, gN, dX, stepR_skip, fO, fW, fN, fZ, fX, fY, gQ, gG, eT, fT, fS, gE, fR, fL, fV, fQ, fU, gB, gC, fP, fC, gI, gA, fK, iR, iO, iP, iU, iM, iS, iQ, iT, iN, eP, Result.ok.injEq, Next.value.injEq, true_and, and_true, fI, fJ, gH, fM, gD, gR, acM, fE, fF, fG, fD, eZ, eU, fB, eX, eQ, eH, if_true, if_false, acK, acQ, acL, acN, acP, acO, acJ, acI, eA, dV, aB, dM, dO, cB, eB, eS, eE, dK, eF, fA, dJ, eJ, bP, dS, bE, dN, aL, aH, eL, aX, cI, eM, aE, eN, dE, aR, bF, eD, bB, bC, bJ, aO, aI, cF, fH, dY, cJ, cC, dA, cH, dT, bD, eK, bT, dF, bR, aT, bV, aC, bY, bQ, cA, bX, aY, aU, bA, bU, dL, cP, bO, aV, aJ, aM, bG, aF, dC, dW, aK, aN, aZ, aG, cY, aD, cL, bW, bH, aP, cM, bZ, aA, dD, cO, cU, cG, dI, cD, dG, dU, cQ, eC, eI, bN, aS, dZ, bS, aQ, bL, dH, cZ, cV, cN, cS, bK, bM, cX, dR, cR, dQ, dB, n2]
  exact toOpen hO ⟨rfl, _, iW.step (x5.mono fun _ _ h => h.elim) (fun _ h => .inl h) (fun _ h => h) (fun _ h => .inl h) (iW.refl h5)⟩
 have n2 : (e != 0) = false := bne_eq_false_iff_eq.2 he
 rw [if_neg (by rw [he]; decide)] at hO
 have hbv : Bs w5 v b := ho.sl
 obtain ⟨va, vc, rfl, _⟩ := hbv.len
 rw [acR] at hbv ho ⊢
 simp (disch := omega) only [eY, gN, dX, stepR_skip, fO, fW, fN, fZ, fX, fY, gQ, gG, eT, fT, fS, gE, fR, fL, fV, fQ, fU, gB, gC, fP, fC, gI, gA, fK, iR, iO, iP, iU, iM, iS, iQ, iT, iN, eP, Result.ok.injEq, Next.value.injEq, true_and, and_true, fI, fJ, gH, fM, gD, gR, acM, fE, fF, fG, fD, eZ, eU, fB, eX, eQ, eH, if_true, if_false, acK, acQ, acL, acN, acP, acO, acJ, acI, eA, dV, aB, dM, dO, cB, eB, eS, eE, dK, eF, fA, dJ, eJ, bP, dS, bE, dN, aL, aH, eL, aX, cI, eM, aE, eN, dE, aR, bF, eD, bB, bC, bJ, aO, aI, cF, fH, dY, cJ, cC, dA, cH, dT, bD, eK, bT, dF, bR, aT, bV, aC, bY, bQ, cA, bX, aY, aU, bA, bU, dL, cP, bO, aV, aJ, aM, bG, aF, dC, dW, aK, aN, aZ, aG, cY, aD, cL, bW, bH, aP, cM, bZ, aA, dD, cO, cU, cG, dI, cD, dG, dU, cQ, eC, eI, bN, aS, dZ, bS, aQ, bL, dH, cZ, cV, cN, cS, bK, bM, cX, dR, cR, dQ, dB, n2]
 refine (Pg h5 hbv hbl).mono ?_
 rintro r w6 ⟨ob, rfl, hob, oo, x6⟩
 obtain ⟨W, hW⟩ : ∃ W, W = iV gU m b := ⟨_, rfl⟩
 have hWl : W.length = m.leaves.length := by rw [hW]; unfold iV; simp
 have oo : jI w6 ob (W.map Value.bool) := by rw [hW]; exact oo
 rw [<- hW] at hini
 have hml : (⟨nm, m, 0, [], 0, false, 0⟩ : nG).man.leaves.length = W.length := hWl.symm
 rw [hml]
 have h6 := h5.new x6
 refine Le h6.own rfl (by simp) fun w7 o7 x7 s7 => ?_
 have h7 := h5.newHv (s' := ⟨nm, m, 0, W, 0, false, 0⟩) x6 hob oo (by omega) x7 o7 rfl rfl rfl (by show 0 < _; omega) (by show 0 <= _; omega)
 have x47 : gV w4 w7 (fun y => X y ∨ y = q) := ((x5.seq x6).mono fun _ _ h => h.elim).seq (x7.mono fun _ _ h => .inr h)
 have o37 := ((o34.ext x5 (fun h => h)).ext x6 (fun h => h)).ext x7 (show ¬ mb = q by have := x2.size; have := x1.size; omega)
 have k0 := o37.cell (off := 0)
 simp only [acI] at k0
 obtain ⟨f0, f1, f2, f3, f4, f5, f6, f7, f8, f9⟩ := h7.cells
 have z5 := x5.size
 have hYn : ∀ y, (y = q ∨ y = ob) -> y = q ∨ w4.heap.size <= y := fun y hy => hy.imp id fun h => by omega
 have tail : ∀ {w8 : ahA} {fn : Bool}, fn = (th && b.length == m.size && Ct W) -> gV w7 w8 jN →
     eY pg (iG 4 (.pointer (some ⟨q, 8, none⟩)) (.bool fn)) w8 fun _u w => gT pg nK #[dP q] w fun t97 w => eY pg (iZ t97 0) w fun t98 w => eY pg (iZ t97 1) w fun t99 w => eY pg (gO .neq 29 (.tmp 100) (.const (.int .i64 0)) t99 (.int .i64 0)) w fun t101 w => mC t101 (RR (.tuple #[.pointer none, t99]) w) (vB RR (dP p) (.int .i64 (mA m.size m.part : Nat)) (dP q) t98 w) := fun {w8 fn} hfn x8 => by
  have h8 := h7.new x8
  refine Dc h8.own rfl (by simp) fun w9 o9 x9 s9 => ?_
  obtain ⟨s0, hs0⟩ : ∃ s0 : nG, s0 = ⟨nm, m, 0, W, 0, fn, 0⟩ := ⟨_, rfl⟩
  have hs0' : s0 = Kf S nm m := by rw [hini, hs0, hfn]
  have h9 := h8.set (s' := s0) x9 (by rw [hs0]; exact o9) (by rw [hs0]) (by rw [hs0]) (by rw [hs0]) (by rw [hs0]; show 0 < _; omega) (by rw [hs0]; show 0 <= _; omega)
  have hnm0 : s0.nm = nm := by rw [hs0]
  have hman0 : s0.man = m := by rw [hs0]
  have x49 : gV w4 w9 (fun y => X y ∨ y = q) := (x47.seq (x8.mono fun _ _ h => h.elim)).seq (x9.mono fun _ _ h => .inr h)
  refine (WI h9 (hB.le (by omega)) (by rw [hnm0]; exact hb2)).mono ?_
  rintro r w10 ⟨o, X', D', Y', lv2, hv2, rfl, h10, hX', hD', hY', x10, hocl, hon⟩
  obtain ⟨bf1, bf2, bf3, bf4, bf5⟩ := Ty (S := S) (s := s0)
  rw [hnm0] at bf2 bf3 bf5
  rw [hman0] at bf1
  have hBk := X6 (n := 2) (s := s0) hB
  rw [<- hs0'] at hO
  have hlogl : (jA S (jH nm)).1.length <= 1000000 := by
   unfold jA
   split
   .simp
   .cases hg : jC (jH nm) S.seen with
    | none => simp
    | some b => exact hb2 b hg
  generalize qJ S s0 = B at *
  obtain ⟨S2, s2', e2, L⟩ := B
  simp only at h10 hO bf1 bf2 bf3 bf4 bf5 hBk hocl ⊢
  have pst : iW n0 w4 q p X (fun b => D b ∨ b = q) (fun b => b = q) S2 s2' w10 := iW.step x49 (fun _ h => .inl h) (fun _ h => .inl h) hYn ⟨X', D', Y', _, _, h10, hX', hD', hY', x10⟩
  by_cases he2 : e2 = 0
  .subst he2
   rw [if_neg (by decide)] at hO
   have n3 : ((0 : Int) != 0) = false := rfl
   simp (disch := omega) only [eY, gN, dX, stepR_skip, fO, fW, fN, fZ, fX, fY, gQ, gG, eT, fT, fS, gE, fR, fL, fV, fQ, fU, gB, gC, fP, fC, gI, gA, fK, iR, iO, iP, iU, iM, iS, iQ, iT, iN, eP, Result.ok.injEq, Next.value.injEq, true_and, and_true, fI, fJ, gH, fM, gD, gR, acM, fE, fF, fG, fD, eZ, eU, fB, eX, eQ, eH, if_true, if_false, acK, acQ, acL, acN, acP, acO, acJ, acI, eA, dV, aB, dM, dO, cB, eB, eS, eE, dK, eF, fA, dJ, eJ, bP, dS, bE, dN, aL, aH, eL, aX, cI, eM, aE, eN, dE, aR, bF, eD, bB, bC, bJ, aO, aI, cF, fH, dY, cJ, cC, dA, cH, dT, bD, eK, bT, dF, bR, aT, bV, aC, bY, bQ, cA, bX, aY, aU, bA, bU, dL, cP, bO, aV, aJ, aM, bG, aF, dC, dW, aK, aN, aZ, aG, cY, aD, cL, bW, bH, aP, cM, bZ, aA, dD, cO, cU, cG, dI, cD, dG, dU, cQ, eC, eI, bN, aS, dZ, bS, aQ, bL, dH, cZ, cV, cN, cS, bK, bM, cX, dR, cR, dQ, dB, n3]
   refine Vz h10 hBk (by rw [bf2, bf3]; exact hb3) (by rw [bf1]; exact hm3.symm) hocl hon (by omega) bf4 fun r w' hm => toOpen hO ?_
   generalize Oo S2 s2' L = R at *
   obtain ⟨S3, so, e3⟩ := R
   cases so with
   | none =>
     obtain ⟨k1, s', k2⟩ := hm
     exact ⟨k1, s', iW.step x49 (fun _ h => .inl h) (fun _ h => .inl h) hYn (iW.step x10 hX' hD' hY' k2)⟩
   | some s' =>
     obtain ⟨k0, k1, k2⟩ := hm
     exact ⟨k0, k1, iW.step x49 (fun _ h => .inl h) (fun _ h => .inl h) hYn (iW.step x10 hX' hD' hY' k2)⟩
  .have n3 : (e2 != 0) = true := bne_iff_ne.2 he2
   rw [if_pos he2] at hO
   simp (disch := omega) only [eY, gN, dX, stepR_skip, fO, fW, fN, fZ, fX, fY, gQ, gG, eT, fT, fS, gE, fR, fL, fV, fQ, fU, gB, gC, fP, fC, gI, gA, fK, iR, iO, iP, iU, iM, iS, iQ, iT, iN, eP, Result.ok.injEq, Next.value.injEq, true_and, and_true, fI, fJ, gH, fM, gD, gR, acM, fE, fF, fG, fD, eZ, eU, fB, eX, eQ, eH, if_true, if_false, acK, acQ, acL, acN, acP, acO, acJ, acI, eA, dV, aB, dM, dO, cB, eB, eS, eE, dK, eF, fA, dJ, eJ, bP, dS, bE, dN, aL, aH, eL, aX, cI, eM, aE, eN, dE, aR, bF, eD, bB, bC, bJ, aO, aI, cF, fH, dY, cJ, cC, dA, cH, dT, bD, eK, bT, dF, bR, aT, bV, aC, bY, bQ, cA, bX, aY, aU, bA, bU, dL, cP, bO, aV, aJ, aM, bG, aF, dC, dW, aK, aN, aZ, aG, cY, aD, cL, bW, bH, aP, cM, bZ, aA, dD, cO, cU, cG, dI, cD, dG, dU, cQ, eC, eI, bN, aS, dZ, bS, aQ, bL, dH, cZ, cV, cN, cS, bK, bM, cX, dR, cR, dQ, dB, n3]
   exact toOpen hO ⟨rfl, _, pst⟩
 cases th with
 | false =>
   have := tail (w8 := w7) (fn := false) (by simp) (gV.refl _ _)
   simp (disch := omega) only [eY, gN, dX, stepR_skip, fO, fW, fN, fZ, fX, fY, gQ, gG, eT, fT, fS, gE, fR, fL, fV, fQ, fU, gB, gC, fP, fC, gI, gA, fK, iR, iO, iP, iU, iM, iS, iQ, iT, iN, eP, Result.ok.injEq, Next.value.injEq, true_and, and_true, fI, fJ, gH, fM, gD, gR, acM, fE, fF, fG, fD, eZ, eU, fB, eX, eQ, eH, if_true, if_false, acK, acQ, acL, acN, acP, acO, acJ, acI, eA, dV, aB, dM, dO, cB, eB, eS, eE, dK, eF, fA, dJ, eJ, bP, dS, bE, dN, aL, aH, eL, aX, cI, eM, aE, eN, dE, aR, bF, eD, bB, bC, bJ, aO, aI, cF, fH, dY, cJ, cC, dA, cH, dT, bD, eK, bT, dF, bR, aT, bV, aC, bY, bQ, cA, bX, aY, aU, bA, bU, dL, cP, bO, aV, aJ, aM, bG, aF, dC, dW, aK, aN, aZ, aG, cY, aD, cL, bW, bH, aP, cM, bZ, aA, dD, cO, cU, cG, dI, cD, dG, dU, cQ, eC, eI, bN, aS, dZ, bS, aQ, bL, dH, cZ, cV, cN, cS, bK, bM, cX, dR, cR, dQ, dB]
   exact this
 | true =>
   have e3 : IntKind.u64.wrap ((b.length : Nat) : Int) = ((b.length : Nat) : Int) := fJ (by omega) (by omega)
   by_cases hle : b.length = m.size
   .have q2 : (((b.length : Nat) : Int) == ((m.size : Nat) : Int)) = true := by rw [beq_iff_eq]; omega
    simp (disch := omega) only [eY, gN, dX, stepR_skip, fO, fW, fN, fZ, fX, fY, gQ, gG, eT, fT, fS, gE, fR, fL, fV, fQ, fU, gB, gC, fP, fC, gI, gA, fK, iR, iO, iP, iU, iM, iS, iQ, iT, iN, eP, Result.ok.injEq, Next.value.injEq, true_and, and_true, fI, fJ, gH, fM, gD, gR, acM, fE, fF, fG, fD, eZ, eU, fB, eX, eQ, eH, if_true, if_false, acK, acQ, acL, acN, acP, acO, acJ, acI, eA, dV, aB, dM, dO, cB, eB, eS, eE, dK, eF, fA, dJ, eJ, bP, dS, bE, dN, aL, aH, eL, aX, cI, eM, aE, eN, dE, aR, bF, eD, bB, bC, bJ, aO, aI, cF, fH, dY, cJ, cC, dA, cH, dT, bD, eK, bT, dF, bR, aT, bV, aC, bY, bQ, cA, bX, aY, aU, bA, bU, dL, cP, bO, aV, aJ, aM, bG, aF, dC, dW, aK, aN, aZ, aG, cY, aD, cL, bW, bH, aP, cM, bZ, aA, dD, cO, cU, cG, dI, cD, dG, dU, cQ, eC, eI, bN, aS, dZ, bS, aQ, bL, dH, cZ, cV, cN, cS, bK, bM, cX, dR, cR, dQ, dB, e3, k0, q2, f6]
    refine (PH (NB h7.hv) (by show W.length <= _; omega)).mono ?_
    rintro r w8 ⟨rfl, hw⟩
    rw [hw]; clear hw w8
    have := tail (w8 := w7) (fn := Ct W) (by have : (b.length == m.size) = true := by rw [beq_iff_eq]; exact hle
                                             rw [this]; simp) (gV.refl _ _)
    simp (disch := omega) only [eY, gN, dX, stepR_skip, fO, fW, fN, fZ, fX, fY, gQ, gG, eT, fT, fS, gE, fR, fL, fV, fQ, fU, gB, gC, fP, fC, gI, gA, fK, iR, iO, iP, iU, iM, iS, iQ, iT, iN, eP, Result.ok.injEq, Next.value.injEq, true_and, and_true, fI, fJ, gH, fM, gD, gR, acM, fE, fF, fG, fD, eZ, eU, fB, eX, eQ, eH, if_true, if_false, acK, acQ, acL, acN, acP, acO, acJ, acI, eA, dV, aB, dM, dO, cB, eB, eS, eE, dK, eF, fA, dJ, eJ, bP, dS, bE, dN, aL, aH, eL, aX, cI, eM, aE, eN, dE, aR, bF, eD, bB, bC, bJ, aO, aI, cF, fH, dY, cJ, cC, dA, cH, dT, bD, eK, bT, dF, bR, aT, bV, aC, bY, bQ, cA, bX, aY, aU, bA, bU, dL, cP, bO, aV, aJ, aM, bG, aF, dC, dW, aK, aN, aZ, aG, cY, aD, cL, bW, bH, aP, cM, bZ, aA, dD, cO, cU, cG, dI, cD, dG, dU, cQ, eC, eI, bN, aS, dZ, bS, aQ, bL, dH, cZ, cV, cN, cS, bK, bM, cX, dR, cR, dQ, dB]
    exact this
   .have q2 : (((b.length : Nat) : Int) == ((m.size : Nat) : Int)) = false := by rw [beq_eq_false_iff_ne]; omega
    have := tail (w8 := w7) (fn := false) (by have : (b.length == m.size) = false := by rw [beq_eq_false_iff_ne]; exact hle
                                              rw [this]; simp) (gV.refl _ _)
    simp (disch := omega) only [eY, gN, dX, stepR_skip, fO, fW, fN, fZ, fX, fY, gQ, gG, eT, fT, fS, gE, fR, fL, fV, fQ, fU, gB, gC, fP, fC, gI, gA, fK, iR, iO, iP, iU, iM, iS, iQ, iT, iN, eP, Result.ok.injEq, Next.value.injEq, true_and, and_true, fI, fJ, gH, fM, gD, gR, acM, fE, fF, fG, fD, eZ, eU, fB, eX, eQ, eH, if_true, if_false, acK, acQ, acL, acN, acP, acO, acJ, acI, eA, dV, aB, dM, dO, cB, eB, eS, eE, dK, eF, fA, dJ, eJ, bP, dS, bE, dN, aL, aH, eL, aX, cI, eM, aE, eN, dE, aR, bF, eD, bB, bC, bJ, aO, aI, cF, fH, dY, cJ, cC, dA, cH, dT, bD, eK, bT, dF, bR, aT, bV, aC, bY, bQ, cA, bX, aY, aU, bA, bU, dL, cP, bO, aV, aJ, aM, bG, aF, dC, dW, aK, aN, aZ, aG, cY, aD, cL, bW, bH, aP, cM, bZ, aA, dD, cO, cU, cG, dI, cD, dG, dU, cQ, eC, eI, bN, aS, dZ, bS, aQ, bL, dH, cZ, cV, cN, cS, bK, bM, cX, dR, cR, dQ, dB, e3, k0, q2]
    exact this
end Go.Proofs.YteelnmpbnaohpaaDoor
namespace Go.Proofs.YteelnmpbnaohpaaDoor
open Go Go.En Go.Pu
def sF : ByteArray := ⟨#[102]⟩
theorem Re : sF ≠ gZ sF := by decide
theorem UZ : sF ≠ jH sF := by decide
theorem RH : gZ sF ≠ jH sF := by decide
theorem WD : Lw sF = true := by decide
theorem SI : Lw (gZ sF) = true := by decide
theorem YN : Lw (jH sF) = true := by decide
section
variable (lf : List UInt8 -> List UInt8) (cf : List UInt8 -> Nat)
theorem PJ {α : Type} (n : Nat) (g : Nat -> α) (d : α) {i : Nat} (h : i < n) : ((List.range n).map g).getD i d = g i := by
 rw [acU, adQ, List.getElem?_range h] <;> rfl
theorem F3 {l : List Bool} : Ct l = true ↔ ∀ i, i < l.length -> l.getD i false = true := by
 unfold Ct
 constructor
 .intro h i hi
  have h1 : ¬ false ∈ l := by simpa using h
  rw [acU, acS hi]
  have := aeX hi
  cases hq : l[i] with
  | true => rfl
  | false => rw [hq] at this; exact absurd this h1
 .intro h
  have h1 : ¬ false ∈ l := fun hm => by
   obtain ⟨i, hi, e⟩ := agF hm
   have := h i hi
   rw [acU, acS hi, e] at this
   cases this
  simpa using h1
theorem Bt (m : UO) (b : List UInt8) : (iV lf m b).length = m.leaves.length := by unfold iV; simp
theorem vR (f : List UInt8) (k : Nat) : (kO lf f k).leaves.length = mA f.length k := by unfold kO; simp
theorem Sg {f : List UInt8} {k i : Nat} (h : i < mA f.length k) : (kO lf f k).leaves.getD i [] = lf (nW f.length k i f) := by
 unfold kO
 exact PJ _ _ _ h
theorem NA {f : List UInt8} {k i : Nat} (h : i < mA f.length k) : BR lf (kO lf f k) i (nW f.length k i f) = true := by
 unfold BR
 rw [Sg lf h]
 show ((nW f.length k i f).length == Kq f.length k i && _) = true
 rw [BF rfl]
 simp
theorem Oc {f b : List UInt8} {k : Nat} (hk : 0 < k) (hb : b.length = f.length) {i : Nat} (h : i < mA f.length k) (hp : nW f.length k i b = nW f.length k i f) : (iV lf (kO lf f k) b).getD i false = true := by
 unfold iV
 rw [vR, PJ _ _ _ h]
 unfold wholeAt
 show (decide (k * i + Kq f.length k i <= b.length) && BR lf (kO lf f k) i (nW f.length k i b)) = true
 rw [hp, NA lf h, hb]
 have := Db ((Av hk).1 h)
 simpa using this
theorem G2 {f : List UInt8} {k : Nat} (hk : 0 < k) : Ct (iV lf (kO lf f k) f) = true := by
 rw [F3, Bt, vR]
 exact fun i hi => Oc lf hk rfl hi rfl
theorem Ol {S : jL} {s : nG} {recs : List (Nat × Nat)} {k v : Nat} (h : Calm S) (hnm : s.nm = sF) (hl : (jC (jH sF) S.seen).getD [] = mS cf recs) (hs : s.log = 13 * recs.length) :
 jQ cf S s k v = if S.room < ((iJ S.seen + 13 : Nat) : Int) then (S, s, 22) else ({ S with under := S.under ++ [⟨0, jH sF, ⟨#[]⟩, 13 * recs.length, rT cf k v⟩], seen := nB (jH sF) (mS cf (recs ++ [(k, v)])) S.seen }, { s with log := s.log + 13 }, 0) := by
 have hlen : (oD S (jH sF)).length = 13 * recs.length := by unfold oD; rw [hl, lM]
 have e := ON (k := jH sF) (a := 13 * recs.length) (l := rT cf k v) h YN (by omega)
 rw [hlen, nJ, show iJ S.seen + (13 * recs.length + 13 - 13 * recs.length) = iJ S.seen + 13 from by omega] at e
 have eo : over (oD S (jH sF)) (13 * recs.length) (rT cf k v) = mS cf (recs ++ [(k, v)]) := by
  rw [PD, <- hlen, Pf]
  unfold oD
  rw [hl]
 rw [eo] at e
 unfold jQ
 rw [hnm, hs, e]
 split
 .rfl
 .rfl
structure Xc (f : List UInt8) (k : Nat) (F0 : Option (List UInt8)) (recs : List (Nat × Nat)) (P : List UInt8) (S : jL) (s : nG) : Prop where
 calm : Calm S
 nm : s.nm = sF
 man : s.man = kO lf f k
 err : s.err = 0
 fin : s.fin = false
 hvl : s.hv.length = mA f.length k
 log : s.log = 13 * recs.length
 gF : jC sF S.seen = F0
 gP : jC (gZ sF) S.seen = some P
 gL : jC (jH sF) S.seen = some (mS cf recs)
 Pl : P.length = f.length
 ok : ∀ r ∈ recs, S6 r
 part : ∀ i, i < mA f.length k -> s.hv.getD i false = true -> nW f.length k i P = nW f.length k i f
 told : ∀ i, i < mA f.length k -> (s.hv.getD i false = true ↔ (2, i) ∈ recs)
 cnt : recs.length = 1 + s.hv.count true
 sz : iJ S.seen = (F0.getD []).length + f.length + 13 * recs.length
 rm : (iJ S.seen : Int) <= S.room
 nd : (S.seen.map (·.1)).Nodup
 un : S.under = []
 rb : 0 <= S.room /\ S.room <= 16777216
variable {lf cf}
theorem kG {k j : ByteArray} {v : List UInt8} {l : oR} (h : j ≠ k) : jC j (nB k v l) = jC j l := by rw [PM, if_neg h]
theorem qD {k : ByteArray} {v : List UInt8} {l : oR} : jC k (nB k v l) = some v := by rw [PM, if_pos rfl]
theorem RE {f : List UInt8} {k : Nat} {F0 : Option (List UInt8)} {recs : List (Nat × Nat)} {P : List UInt8} {S : jL} {s : nG} (h : Xc lf cf f k F0 recs P S s) (hk : 0 < k) (hL : f.length <= 1000000) {i : Nat} (hi : i < mA f.length k) (hv : s.hv.getD i false = false) :
 (¬ S.room < ((iJ S.seen + 13 : Nat) : Int) -> ∃ S' s', pU lf cf S s i (nW f.length k i f) = (S', s', 0) /\ Xc lf cf f k F0 (recs ++ [(2, i)]) (over P (k * i) (nW f.length k i f)) S' s' /\ S'.room = S.room /\ s'.epoch = s.epoch /\ s'.hv = s.hv.set i true) /\
 (S.room < ((iJ S.seen + 13 : Nat) : Int) -> ∃ S' s', pU lf cf S s i (nW f.length k i f) = (S', s', 22) /\ s'.err = 22 /\ Calm S' /\ jC sF S'.seen = F0) := by
 have hki := (Av hk).1 hi
 have hpl : (nW f.length k i f).length = Kq f.length k i := BF rfl
 have hse := Db hki
 have hPB : oD S (gZ sF) = P := by unfold oD; rw [h.gP] <;> rfl
 have e0 := ON (k := gZ sF) (a := k * i) (l := nW f.length k i f) h.calm SI (by rw [hPB, h.Pl]; omega)
 have hrm := h.rm
 rw [hPB, h.Pl, hpl, show iJ S.seen + (k * i + Kq f.length k i - f.length) = iJ S.seen from by omega, if_neg (by omega)] at e0
 obtain ⟨P', hP'⟩ : ∃ P', P' = over P (k * i) (nW f.length k i f) := ⟨_, rfl⟩
 have hP'l : P'.length = f.length := by rw [hP', B2, h.Pl, hpl]; omega
 rw [<- hP'] at e0 ⊢
 obtain ⟨S1, hS1⟩ : ∃ S1 : jL, S1 = { S with under := S.under ++ [⟨0, gZ sF, ⟨#[]⟩, k * i, nW f.length k i f⟩], seen := nB (gZ sF) P' S.seen } := ⟨_, rfl⟩
 rw [<- hS1] at e0
 have c1 : Calm S1 := by rw [hS1]; exact ⟨h.calm.up, h.calm.left⟩
 have e1 := Hd c1
 obtain ⟨S2, hS2⟩ : ∃ S2 : jL, S2 = { S1 with sure := S1.seen, under := [] } := ⟨_, rfl⟩
 rw [<- hS2] at e1
 have c2 : Calm S2 := by rw [hS2]; exact ⟨c1.up, c1.left⟩
 have s2 : S2.seen = nB (gZ sF) P' S.seen := by rw [hS2, hS1]
 have r2 : S2.room = S.room := by rw [hS2, hS1]
 have g2L : jC (jH sF) S2.seen = some (mS cf recs) := by rw [s2, kG (Ne.symm RH), h.gL]
 have z2 : iJ S2.seen = iJ S.seen := by
  have := nR (gZ sF) P' S.seen
  rw [h.gP, adH, h.Pl, hP'l] at this
  rw [s2]; omega
 have e2 := Ol cf (s := s) (k := 2) (v := i) c2 h.nm (recs := recs) (by rw [g2L] <;> rfl) h.log
 have hput : pU lf cf S s i (nW f.length k i f) = ((kC cf S s i (nW f.length k i f)).1, { (kC cf S s i (nW f.length k i f)).2.1 with err := (kC cf S s i (nW f.length k i f)).2.2, hv := (kC cf S s i (nW f.length k i f)).2.1.hv.set i ((kC cf S s i (nW f.length k i f)).2.2 == 0) }, (kC cf S s i (nW f.length k i f)).2.2) := by
  unfold pU
  rw [h.err, h.hvl, if_neg (by decide), if_neg (by omega), acM, h.fin, hv, afO, if_neg (by decide), h.man, NA lf hi, if_neg (by decide)]
 have hpart : s.man.part = k := by rw [h.man] <;> rfl
 refine ⟨fun hr => ?_, fun hr => ?_⟩
 .rw [if_neg (by rw [z2, r2]; exact hr)] at e2
  obtain ⟨S3, hS3⟩ : ∃ S3 : jL, S3 = { S2 with under := S2.under ++ [⟨0, jH sF, ⟨#[]⟩, 13 * recs.length, rT cf 2 i⟩], seen := nB (jH sF) (mS cf (recs ++ [(2, i)])) S2.seen } := ⟨_, rfl⟩
  rw [<- hS3] at e2
  have c3 : Calm S3 := by rw [hS3]; exact ⟨c2.up, c2.left⟩
  have e3 := Hd c3
  have hch : kC cf S s i (nW f.length k i f) = ({ S3 with sure := S3.seen, under := [] }, { s with log := s.log + 13 }, 0) := by
   unfold kC
   simp only [hpart, h.nm, e0, ne_eq, not_true_eq_false, if_false, e1, e2, e3]
  rw [hch] at hput
  have s3 : S3.seen = nB (jH sF) (mS cf (recs ++ [(2, i)])) (nB (gZ sF) P' S.seen) := by rw [hS3, s2]
  have hset : ∀ j, (s.hv.set i true).getD j false = if j = i then true else s.hv.getD j false := fun j => by
   rw [acU, List.getElem?_set]
   by_cases hj : i = j
   .rw [if_pos hj, if_pos hj.symm, if_pos (by have := h.hvl; omega)] <;> rfl
   .rw [if_neg hj, if_neg (fun e => hj e.symm), <- acU]
  refine ⟨_, _, hput, ⟨⟨c3.up, c3.left⟩, h.nm, h.man, rfl, h.fin, ?_, ?_, ?_, ?_, ?_, hP'l, ?_, ?_, ?_, ?_, ?_, ?_, ?_, rfl, ?_⟩, ?_, rfl, rfl⟩
  .show (s.hv.set i true).length = _
   rw [afH]; exact h.hvl
  .show s.log + 13 = _
   rw [h.log, acT]; simp; omega
  .show jC sF S3.seen = F0
   rw [s3, kG UZ, kG Re]; exact h.gF
  .show jC (gZ sF) S3.seen = _
   rw [s3, kG RH, qD]
  .show jC (jH sF) S3.seen = _
   rw [s3, qD]
  .intro r hr
   rcases adV.1 hr with hr | hr
   .exact h.ok r hr
   .rw [aeK] at hr
    subst hr
    have := Hk (L := f.length) hk
    exact ⟨.inr rfl, by show i < _; omega⟩
  .intro j hj hjv
   have hjv : (s.hv.set i true).getD j false = true := hjv
   rw [hset] at hjv
   by_cases hji : j = i
   .rw [hji, hP']
    exact KW h.Pl rfl hki
   .rw [if_neg hji] at hjv
    rw [hP', Jx h.Pl rfl hki hji]
    exact h.part j hj hjv
  .intro j hj
   show (s.hv.set i true).getD j false = true ↔ _
   rw [hset, adV, aeK]
   by_cases hji : j = i
   .rw [if_pos hji, hji]; exact ⟨fun _ => .inr rfl, fun _ => rfl⟩
   .rw [if_neg hji, h.told j hj]
    exact ⟨.inl, fun hh => hh.elim id fun e => absurd (congrArg Prod.snd e) hji⟩
  .show _ = 1 + (s.hv.set i true).count true
   have hlt : i < s.hv.length := by rw [h.hvl]; exact hi
   have hvi : s.hv[i] = false := by
    rw [acU, acS hlt] at hv; exact hv
   rw [List.count_set hlt, hvi, acT, h.cnt]
   simp; omega
  .have h1 := nR (jH sF) (mS cf (recs ++ [(2, i)])) S2.seen
   rw [g2L, adH, lM, lM, z2, h.sz, acT] at h1
   show iJ S3.seen = _
   rw [s3, <- s2, acT]
   simp only [aeB] at h1 ⊢
   omega
  .have h1 := nR (jH sF) (mS cf (recs ++ [(2, i)])) S2.seen
   rw [g2L, adH, lM, lM, z2, acT] at h1
   show (iJ S3.seen : Int) <= S3.room
   have r3 : S3.room = S.room := by rw [hS3]; exact r2
   rw [s3, <- s2, r3]
   simp only [aeB] at h1
   omega
  .show (S3.seen.map (·.1)).Nodup
   rw [s3]; exact sC (sC h.nd)
  .show 0 <= S3.room /\ S3.room <= 16777216
   rw [hS3]
   show 0 <= S2.room /\ S2.room <= 16777216
   rw [r2]; exact h.rb
  .show S3.room = S.room
   rw [hS3]; exact r2
 .rw [if_pos (by rw [z2, r2]; exact hr)] at e2
  have hch : kC cf S s i (nW f.length k i f) = (S2, s, 22) := by
   unfold kC
   simp only [hpart, h.nm, e0, ne_eq, not_true_eq_false, if_false, e1, e2]
   rfl
  rw [hch] at hput
  refine ⟨_, _, hput, rfl, c2, ?_⟩
  show jC sF S2.seen = F0
  rw [s2, kG Re]; exact h.gF
theorem Tj {f : List UInt8} {k : Nat} {F0 : Option (List UInt8)} {recs : List (Nat × Nat)} {P : List UInt8} {S : jL} {s : nG} (h : Xc lf cf f k F0 recs P S s) (hk : 0 < k) (ha : ∀ i, i < mA f.length k -> s.hv.getD i false = true) :
 ∃ S' s', jK lf S s = (S', s', 0) /\ s'.fin = true /\ s'.err = 0 /\ s'.epoch = s.epoch /\ s'.nm = sF /\ s'.man = s.man /\ Calm S' /\ S'.room = S.room /\ jC sF S'.seen = some f /\ jC (jH sF) S'.seen = some (mS cf recs) /\ jC (gZ sF) S'.seen = none /\ iJ S'.seen <= iJ S.seen /\ S'.under = [] /\ s'.hv.length = mA f.length k /\ s'.log = s.log := by
 have hPf : P = f := QB hk h.Pl rfl fun i hi => h.part i hi (ha i hi)
 subst hPf
 have hall : Ct s.hv = true := F3.2 fun i hi => ha i (by rw [<- h.hvl]; exact hi)
 have hw := G2 lf (f := P) hk
 have e1 : MX S (gZ sF) sF = ({ S with under := S.under ++ [⟨1, gZ sF, sF, 0, []⟩], seen := nB sF P (zB (gZ sF) S.seen) }, 0) := by
  have e0 : MX S (gZ sF) sF = pW S ⟨1, gZ sF, sF, 0, []⟩ := by
   unfold MX
   rw [if_neg (by rw [h.calm.up]; decide), if_neg (by rw [SI, WD]; decide), if_neg (by rw [h.gP]; simp)]
  have e1 : CV ⟨1, gZ sF, sF, 0, []⟩ S.seen = nB sF P (zB (gZ sF) S.seen) := by
   unfold CV
   rw [if_neg (show ¬ (1 : Nat) = 0 by decide), if_pos (show (1 : Nat) = 1 from rfl)]
   simp only [h.gP]
  rw [e0, Qz h.calm, e1]
 obtain ⟨S1, hS1⟩ : ∃ S1 : jL, S1 = { S with under := S.under ++ [⟨1, gZ sF, sF, 0, []⟩], seen := nB sF P (zB (gZ sF) S.seen) } := ⟨_, rfl⟩
 rw [<- hS1] at e1
 have c1 : Calm S1 := by rw [hS1]; exact ⟨h.calm.up, h.calm.left⟩
 have hc : jK lf S s = ({ S1 with sure := S1.seen, under := [] }, { s with hv := iV lf s.man P, err := 0, fin := (0 : Int) == 0 }, 0) := by
  unfold jK
  rw [h.err, if_neg (by decide), h.fin, if_neg (by decide), hall, if_neg (by decide), h.calm.up, if_neg (by decide), h.nm, h.gP]
  simp only [h.man, hw, if_neg (show ¬ true = false by decide), e1, ne_eq, not_true_eq_false, if_false, Hd c1]
 have hd : ∀ j, jC j (zB (gZ sF) S.seen) = if j = gZ sF then none else jC j S.seen := fun j => OU h.nd
 have s1 : S1.seen = nB sF P (zB (gZ sF) S.seen) := by rw [hS1]
 have hz1 := nR sF P (zB (gZ sF) S.seen)
 have hz2 := Di (gZ sF) S.seen
 rw [h.gP, adH] at hz2
 refine ⟨_, _, hc, rfl, rfl, rfl, h.nm, rfl, ⟨c1.up, c1.left⟩, ?_, ?_, ?_, ?_, ?_, rfl, ?_, rfl⟩
 .show S1.room = S.room
  rw [hS1]
 .show jC sF S1.seen = _
  rw [s1, qD]
 .show jC (jH sF) S1.seen = _
  rw [s1, kG (Ne.symm UZ), hd, if_neg (Ne.symm RH), h.gL]
 .show jC (gZ sF) S1.seen = _
  rw [s1, kG (Ne.symm Re), hd, if_pos rfl]
 .show iJ S1.seen <= _
  rw [s1]; omega
 .show (iV lf s.man P).length = _
  rw [Bt, h.man, vR]
end
section
variable (lf : List UInt8 -> List UInt8) (cf : List UInt8 -> Nat)
theorem J7 {S : jL} (h : Calm S) (n : ByteArray) : jA S n = ((jC n S.seen).getD [], (jC n S.seen).isSome, 0) := by
 unfold jA
 rw [h.up, if_neg (by decide)]
 cases jC n S.seen <;> rfl
def MC (f : List UInt8) (k : Nat) (S : jL) : Bool := (jC sF S.seen).isSome && ((jC sF S.seen).getD []).length == f.length && Ct (iV lf (kO lf f k) ((jC sF S.seen).getD []))
def KH (recs : List (Nat × Nat)) (S : jL) : jL := { S with under := S.under ++ [⟨0, jH sF, ⟨#[]⟩, 13 * recs.length, rT cf 1 (jY 1 recs + 1)⟩], seen := nB (jH sF) (mS cf (recs ++ [(1, jY 1 recs + 1)])) S.seen }
def Vf (f : List UInt8) (k : Nat) (recs : List (Nat × Nat)) (S : jL) : nG := ⟨sF, kO lf f k, jY 1 recs + 1, iV lf (kO lf f k) ((jC sF S.seen).getD []), 13 * recs.length + 13, MC lf f k S, 0⟩
variable {lf cf}
theorem Pj {f : List UInt8} {k : Nat} {S : jL} {recs : List (Nat × Nat)} (h : Calm S) (hL : (jC (jH sF) S.seen).getD [] = mS cf recs) (ok : ∀ r ∈ recs, S6 r) (hlast : jY 1 recs < 18446744073709551615) :
 (S.room < ((iJ S.seen + 13 : Nat) : Int) -> DF lf cf S sF (kO lf f k) = (S, none, 22)) /\
 (¬ S.room < ((iJ S.seen + 13 : Nat) : Int) -> DF lf cf S sF (kO lf f k) =
   if MC lf f k S then ({ KH cf recs S with sure := (KH cf recs S).seen, under := [] }, some (Vf lf f k recs S), 0)
   else
    let q := kH (KH cf recs S) (Vf lf f k recs S)
    if q.2.2 ≠ 0 then (q.1, none, q.2.2) else
    let y := Ab q.1
    if y.2 ≠ 0 then (y.1, none, y.2) else (y.1, some { Vf lf f k recs S with hv := oS recs (iV lf (kO lf f k) q.2.1) (kO lf f k).leaves.length }, 0)) := by
 have e2 := Ol cf (s := ⟨sF, kO lf f k, jY 1 recs + 1, iV lf (kO lf f k) ((jC sF S.seen).getD []), 13 * recs.length, MC lf f k S, 0⟩) (k := 1) (v := jY 1 recs + 1) h rfl hL rfl
 have hled : mZ cf (mS cf recs) = recs := U5 cf ok
 have hfin : ((jC sF S.seen).isSome && ((jC sF S.seen).getD []).length == (kO lf f k).size && Ct (iV lf (kO lf f k) ((jC sF S.seen).getD []))) = MC lf f k S := rfl
 refine ⟨fun hr => ?_, fun hr => ?_⟩
 .rw [if_pos hr] at e2
  unfold DF
  simp only [J7 h, hL, hled, hfin, ne_eq, not_true_eq_false, if_false, if_neg (afT hlast), e2]
  rfl
 .rw [if_neg hr] at e2
  have c1 : Calm (KH cf recs S) := ⟨h.up, h.left⟩
  have e3 := Hd c1
  unfold DF
  simp only [J7 h, hL, hled, hfin, ne_eq, not_true_eq_false, if_false, if_neg (afT hlast), e2]
  have : ({ room := S.room, sure := S.sure, seen := nB (jH sF) (mS cf (recs ++ [(1, jY 1 recs + 1)])) S.seen, under := S.under ++ [⟨0, jH sF, ⟨#[]⟩, 13 * recs.length, rT cf 1 (jY 1 recs + 1)⟩], left := S.left, down := S.down } : jL) = KH cf recs S := rfl
  rw [this]
  cases hf : MC lf f k S with
  | true =>
    simp only [if_true, e3, not_true_eq_false, if_false]
    unfold Vf
    rw [hf]
  | false =>
    simp only [acK, if_false]
    unfold Vf
    rw [hf]
theorem MT {recs : List (Nat × Nat)} {S : jL} : jC (gZ sF) (KH cf recs S).seen = jC (gZ sF) S.seen := kG RH
theorem SG {recs : List (Nat × Nat)} {S : jL} (hL : (jC (jH sF) S.seen).getD [] = mS cf recs) : iJ (KH cf recs S).seen = iJ S.seen + 13 := by
 have h1 := nR (jH sF) (mS cf (recs ++ [(1, jY 1 recs + 1)])) S.seen
 rw [hL, lM, lM, acT] at h1
 show iJ (nB _ _ _) = _
 simp only [aeB] at h1
 omega
theorem U9 {f P : List UInt8} {k : Nat} {S : jL} {recs : List (Nat × Nat)} (h : Calm S) (hL : (jC (jH sF) S.seen).getD [] = mS cf recs) (ok : ∀ r ∈ recs, S6 r) (hlast : jY 1 recs < 18446744073709551615)
 (hr : ¬ S.room < ((iJ S.seen + 13 : Nat) : Int)) (hf : MC lf f k S = false) (hP : jC (gZ sF) S.seen = some P) (hPl : P.length = f.length) :
 DF lf cf S sF (kO lf f k) = ({ KH cf recs S with sure := (KH cf recs S).seen, under := [] }, some { Vf lf f k recs S with hv := oS recs (iV lf (kO lf f k) P) (mA f.length k) }, 0) := by
 have c1 : Calm (KH cf recs S) := ⟨h.up, h.left⟩
 have hq : kH (KH cf recs S) (Vf lf f k recs S) = (KH cf recs S, P, 0) := by
  unfold kH
  have e : gZ (Vf lf f k recs S).nm = gZ sF := rfl
  have e2 : (Vf lf f k recs S).man.size = f.length := rfl
  simp only [e, e2, J7 c1, MT, hP, adH, Option.isSome_some, ne_eq, not_true_eq_false, if_false, hPl, Nat.lt_irrefl, Bool.true_eq_false, or_self]
 rw [(Pj h hL ok hlast).2 hr, hf]
 simp only [acK, if_false, hq, ne_eq, not_true_eq_false, Hd c1, vR]
theorem QW {f : List UInt8} {k : Nat} {S : jL} {recs : List (Nat × Nat)} (h : Calm S) (hL : (jC (jH sF) S.seen).getD [] = mS cf recs) (ok : ∀ r ∈ recs, S6 r) (hlast : jY 1 recs < 18446744073709551615)
 (hr : ¬ S.room < ((iJ S.seen + 13 : Nat) : Int)) (hf : MC lf f k S = false) (hP : jC (gZ sF) S.seen = none) :
 (S.room < ((iJ S.seen + 13 + f.length : Nat) : Int) -> DF lf cf S sF (kO lf f k) = (KH cf recs S, none, 22)) /\
 (¬ S.room < ((iJ S.seen + 13 + f.length : Nat) : Int) -> ∃ S', DF lf cf S sF (kO lf f k) = ({ S' with sure := S'.seen, under := [] }, some { Vf lf f k recs S with hv := oS recs (iV lf (kO lf f k) []) (mA f.length k) }, 0) /\
   S' = ({ KH cf recs S with under := (KH cf recs S).under ++ [⟨0, gZ sF, ⟨#[]⟩, 0, List.replicate f.length 0⟩], seen := nB (gZ sF) (List.replicate f.length 0) (KH cf recs S).seen } : jL)) := by
 have c1 : Calm (KH cf recs S) := ⟨h.up, h.left⟩
 have e : gZ (Vf lf f k recs S).nm = gZ sF := rfl
 have e2 : (Vf lf f k recs S).man.size = f.length := rfl
 have hsb : oD (KH cf recs S) (gZ sF) = [] := by unfold oD; rw [MT, hP] <;> rfl
 have hw := ON (k := gZ sF) (a := 0) (l := List.replicate f.length 0) c1 SI (by omega)
 rw [hsb, SG hL, adI, Xr] at hw
 have hrm : (KH cf recs S).room = S.room := rfl
 have hz : iJ S.seen + 13 + (0 + f.length - ([] : List UInt8).length) = iJ S.seen + 13 + f.length := by simp
 rw [hrm, hz] at hw
 have hw0 : Da (KH cf recs S) (gZ sF) ((([] : List UInt8).length : Nat) : Int) (List.replicate (f.length - ([] : List UInt8).length) 0) = Da (KH cf recs S) (gZ sF) ((0 : Nat) : Int) (List.replicate f.length 0) := rfl
 have hq : kH (KH cf recs S) (Vf lf f k recs S) = ((Da (KH cf recs S) (gZ sF) ((0 : Nat) : Int) (List.replicate f.length 0)).1, [], (Da (KH cf recs S) (gZ sF) ((0 : Nat) : Int) (List.replicate f.length 0)).2) := by
  unfold kH
  simp only [e, e2, J7 c1, MT, hP, afZ, Option.isSome_none, ne_eq, not_true_eq_false, if_false, hw0, if_neg (show ¬ f.length < ([] : List UInt8).length by simp), or_true, if_true]
 rw [(Pj h hL ok hlast).2 hr, hf]
 refine ⟨fun hr2 => ?_, fun hr2 => ?_⟩
 .rw [if_pos hr2] at hw
  rw [hw] at hq
  simp only [acK, if_false, hq]
  rfl
 .rw [if_neg hr2] at hw
  rw [hw] at hq
  refine ⟨_, ?_, rfl⟩
  have c2 : Calm ({ KH cf recs S with room := S.room, under := (KH cf recs S).under ++ [⟨0, gZ sF, ⟨#[]⟩, 0, List.replicate f.length 0⟩], seen := nB (gZ sF) (List.replicate f.length 0) (KH cf recs S).seen } : jL) := ⟨h.up, h.left⟩
  simp only [acK, if_false, hq, ne_eq, not_true_eq_false, Hd c2, vR]
  rfl
end
end Go.Proofs.YteelnmpbnaohpaaDoor
namespace Go.Proofs.YteelnmpbnaohpaaDoor
open Go Go.En Go.Pu
set_option maxRecDepth 4000
def RX (f : List UInt8) (k i : Nat) : List (List UInt8) := (List.range i).map fun j => gU (nW f.length k j f)
theorem Vi (f : List UInt8) (k i : Nat) : RX f k (i + 1) = RX f k i ++ [gU (nW f.length k i f)] := by simp [RX, agX]
theorem XE (f : List UInt8) (k i : Nat) : (RX f k i).length = i := by simp [RX]
theorem XB (f : List UInt8) (k : Nat) : (kO gU f k).leaves = RX f k (mA f.length k) := rfl
theorem Tp {f : List UInt8} {k : Nat} (hk : 1 <= k /\ k <= 65536) (hf : f.length <= 1000) : Uq (kO gU f k) := by
 have := Hk (L := f.length) (show 0 < k by omega)
 refine ⟨by show f.length <= _; omega, hk, vR gU f k, by show mA f.length k <= _; omega, fun x hx => ?_⟩
 obtain ⟨j, -, rfl⟩ := aeE.1 hx
 exact Aw _
theorem WT {h : List UInt8} (hl : h.length = 32) : Go.Instr.fill (fun j => some (j * 32, 32)) ((Array.range (1 * 32)).map ((Tryd.t49.zero.get!).cells[· % (Tryd.t49.zero.get!).cells.size]!)) [(0, .agg (h.map pG).toArray)] = some (h.map pG).toArray :=
 match h, hl with
 | [a0, a1, a2, a3, a4, a5, a6, a7, a8, a9, a10, a11, a12, a13, a14, a15, a16, a17, a18, a19, a20, a21, a22, a23, a24, a25, a26, a27, a28, a29, a30, a31], _ => by kernel_rfl
theorem Po {f : List UInt8} {bv : ahB} {k : Nat} {w : ahA} (hg : qK w) (hb : Bs w bv f) (hf : f.length <= 1000) (hk : 1 <= k /\ k <= 65536) :
 gT pg Cj #[bv, .int .i64 (k : Nat)] w (fun r w' => ∃ lv, r = .tuple #[.agg (O3 (kO gU f k) lv).toArray, .int .i64 0] /\ Ac w' w.heap.size 32 lv (kO gU f k).leaves.length (Vt (kO gU f k).leaves) /\ gV w w' jN) := by
 refine PE ?_
 obtain ⟨RR, hRR⟩ : ∃ RR : ahB -> ahA -> Prop, RR = fun r w' => ∃ lv, r = .tuple #[.agg (O3 (kO gU f k) lv).toArray, .int .i64 0] /\ Ac w' w.heap.size 32 lv (kO gU f k).leaves.length (Vt (kO gU f k).leaves) /\ gV w w' jN := ⟨_, rfl⟩
 rw [<- hRR]
 obtain ⟨g0, g1⟩ := hg.lt
 have hcn := Hk (L := f.length) (show 0 < k by omega)
 unfold QZ Hc Ht
 obtain ⟨ba, bc, rfl, hbc⟩ := hb.len
 rw [acR] at hb hbc ⊢
 refine sK fun w1 o1 x1 s1 => ?_
 have e1 : IntKind.u64.wrap ((f.length : Nat) : Int) = ((f.length : Nat) : Int) := fJ (by omega) (by omega)
 have e2 : IntKind.u32.wrap ((k : Nat) : Int) = ((k : Nat) : Int) := fM (by omega) (by omega)
 have n1 : ((0 : Int) != 0) = false := rfl
 simp (disch := omega) only [eY, gN, dX, stepR_skip, fO, fW, fN, fZ, fX, fY, gQ, gG, eT, fT, fS, gE, fR, fL, fV, fQ, fU, gB, gC, fP, fC, gI, gA, fK, iR, iO, iP, iU, iM, iS, iQ, iT, iN, eP, Result.ok.injEq, Next.value.injEq, true_and, and_true, fI, fJ, gH, fM, gD, gR, acM, fE, fF, fG, fD, eZ, eU, fB, eX, eQ, eH, if_true, if_false, acK, acQ, acL, acN, acP, acO, acJ, acI, eA, dV, aB, dM, dO, cB, eB, eS, eE, dK, eF, fA, dJ, eJ, bP, dS, bE, dN, aL, aH, eL, aX, cI, eM, aE, eN, dE, aR, bF, eD, bB, bC, bJ, aO, aI, cF, fH, dY, cJ, cC, dA, cH, dT, bD, eK, bT, dF, bR, aT, bV, aC, bY, bQ, cA, bX, aY, aU, bA, bU, dL, cP, bO, aV, aJ, aM, bG, aF, dC, dW, aK, aN, aZ, aG, cY, aD, cL, bW, bH, aP, cM, bZ, aA, dD, cO, cU, cG, dI, cD, dG, dU, cQ, eC, eI, bN, aS, dZ, bS, aQ, bL, dH, cZ, cV, cN, cS, bK, bM, cX, dR, cR, dQ, dB, e1]
 refine (Rr (by omega) hk.1 hk.2).mono ?_
 rintro r w2 ⟨rfl, hw⟩
 rw [hw]; clear hw w2
 rw [if_neg (by omega)]
 simp (disch := omega) only [eY, gN, dX, stepR_skip, fO, fW, fN, fZ, fX, fY, gQ, gG, eT, fT, fS, gE, fR, fL, fV, fQ, fU, gB, gC, fP, fC, gI, gA, fK, iR, iO, iP, iU, iM, iS, iQ, iT, iN, eP, Result.ok.injEq, Next.value.injEq, true_and, and_true, fI, fJ, gH, fM, gD, gR, acM, fE, fF, fG, fD, eZ, eU, fB, eX, eQ, eH, if_true, if_false, acK, acQ, acL, acN, acP, acO, acJ, acI, eA, dV, aB, dM, dO, cB, eB, eS, eE, dK, eF, fA, dJ, eJ, bP, dS, bE, dN, aL, aH, eL, aX, cI, eM, aE, eN, dE, aR, bF, eD, bB, bC, bJ, aO, aI, cF, fH, dY, cJ, cC, dA, cH, dT, bD, eK, bT, dF, bR, aT, bV, aC, bY, bQ, cA, bX, aY, aU, bA, bU, dL, cP, bO, aV, aJ, aM, bG, aF, dC, dW, aK, aN, aZ, aG, cY, aD, cL, bW, bH, aP, cM, bZ, aA, dD, cO, cU, cG, dI, cD, dG, dU, cQ, eC, eI, bN, aS, dZ, bS, aQ, bL, dH, cZ, cV, cN, cS, bK, bM, cX, dR, cR, dQ, dB, n1, e1, e2]
 refine sK fun w2 o2 x2 s2 => ?_
 obtain ⟨p, hp⟩ : ∃ p, p = w.heap.size := ⟨_, rfl⟩
 obtain ⟨q, hq⟩ : ∃ q, q = w1.heap.size := ⟨_, rfl⟩
 rw [<- hp] at o1 ⊢
 rw [<- hq] at o2 ⊢
 refine qQ o2 rfl (by simp [one]) (by simp) fun w3 o3 x3 s3 => ?_
 have o3 : jI w3 q [.int .u64 (f.length : Nat), .int .u32 (k : Nat), .slice none 0 0] := o3
 have o13 := (o1.ext x2 (fun h => h)).ext x3 (show ¬ p = q by omega)
 have x03 : gV w w3 jN := (x1.seq x2).trans x3 fun y hy h => by omega
 have z3 : w3.heap.size = q + 1 := by omega
 unfold G1 Hj He HA G8
 simp (disch := omega) only [eY, gN, dX, stepR_skip, fO, fW, fN, fZ, fX, fY, gQ, gG, eT, fT, fS, gE, fR, fL, fV, fQ, fU, gB, gC, fP, fC, gI, gA, fK, iR, iO, iP, iU, iM, iS, iQ, iT, iN, eP, Result.ok.injEq, Next.value.injEq, true_and, and_true, fI, fJ, gH, fM, gD, gR, acM, fE, fF, fG, fD, eZ, eU, fB, eX, eQ, eH, if_true, if_false, acK, acQ, acL, acN, acP, acO, acJ, acI, eA, dV, aB, dM, dO, cB, eB, eS, eE, dK, eF, fA, dJ, eJ, bP, dS, bE, dN, aL, aH, eL, aX, cI, eM, aE, eN, dE, aR, bF, eD, bB, bC, bJ, aO, aI, cF, fH, dY, cJ, cC, dA, cH, dT, bD, eK, bT, dF, bR, aT, bV, aC, bY, bQ, cA, bX, aY, aU, bA, bU, dL, cP, bO, aV, aJ, aM, bG, aF, dC, dW, aK, aN, aZ, aG, cY, aD, cL, bW, bH, aP, cM, bZ, aA, dD, cO, cU, cG, dI, cD, dG, dU, cQ, eC, eI, bN, aS, dZ, bS, aQ, bL, dH, cZ, cV, cN, cS, bK, bM, cX, dR, cR, dQ, dB]
 refine kJ.rule (fun m (t : ahB) w' => ∃ (i : Nat) (lv : ahB), m = mA f.length k - i /\ i <= mA f.length k /\ t = .int .i64 (i : Nat) /\ jI w' q [.int .u64 (f.length : Nat), .int .u32 (k : Nat), lv] /\ Ac w' (q + 1) 32 lv i (Vt (RX f k i)) /\ gV w3 w' (fun y => y = q ∨ q < y)) (mA f.length k)
  ⟨0, _, rfl, by omega, rfl, o3, Ac.nil _ _ _, gV.refl _ _⟩ ?_
 clear o3
 rintro m t w4 ⟨i, lv, rfl, hi, rfl, o4, hs, x4⟩
 unfold De
 have x04 : gV w w4 jN := x03.trans x4 fun y hy h => by omega
 have z4 := x4.size
 by_cases hlt : i < mA f.length k
 .have d1 : decide ((i : Int) < ((mA f.length k : Nat) : Int)) = true := by simp; omega
  have c0 := o4.cell (off := 0)
  simp only [acI] at c0
  simp (disch := omega) only [eY, gN, dX, stepR_skip, fO, fW, fN, fZ, fX, fY, gQ, gG, eT, fT, fS, gE, fR, fL, fV, fQ, fU, gB, gC, fP, fC, gI, gA, fK, iR, iO, iP, iU, iM, iS, iQ, iT, iN, eP, Result.ok.injEq, Next.value.injEq, true_and, and_true, fI, fJ, gH, fM, gD, gR, acM, fE, fF, fG, fD, eZ, eU, fB, eX, eQ, eH, if_true, if_false, acK, acQ, acL, acN, acP, acO, acJ, acI, eA, dV, aB, dM, dO, cB, eB, eS, eE, dK, eF, fA, dJ, eJ, bP, dS, bE, dN, aL, aH, eL, aX, cI, eM, aE, eN, dE, aR, bF, eD, bB, bC, bJ, aO, aI, cF, fH, dY, cJ, cC, dA, cH, dT, bD, eK, bT, dF, bR, aT, bV, aC, bY, bQ, cA, bX, aY, aU, bA, bU, dL, cP, bO, aV, aJ, aM, bG, aF, dC, dW, aK, aN, aZ, aG, cY, aD, cL, bW, bH, aP, cM, bZ, aA, dD, cO, cU, cG, dI, cD, dG, dU, cQ, eC, eI, bN, aS, dZ, bS, aQ, bL, dH, cZ, cV, cN, cS, bK, bM, cX, dR, cR, dQ, dB, d1, c0]
  refine (Ph (by omega) hk.1 hk.2 (by omega) hlt).mono ?_
  rintro r w5 ⟨rfl, hw⟩
  rw [hw]; clear hw w5
  have hki := (Av (show 0 < k by omega)).1 hlt
  have hse := Db hki
  obtain ⟨P, hP⟩ : ∃ P, P = k * i := ⟨_, rfl⟩
  obtain ⟨N, hN⟩ : ∃ N, N = Kq f.length k i := ⟨_, rfl⟩
  rw [<- hP, <- hN] at hse ⊢
  have e3 : IntKind.u64.wrap ((N : Nat) : Int) = ((N : Nat) : Int) := fJ (by omega) (by omega)
  have e4 : (P : Int) + (N : Int) = ((P + N : Nat) : Int) := by omega
  have od := kR o4
  have c2 := od.cell (off := 2)
  simp only [acI, acJ] at c2
  have x04d : gV w (dr w4) jN := x04.seq (gV.dr _ _)
  simp (disch := omega) only [eY, gN, dX, stepR_skip, fO, fW, fN, fZ, fX, fY, gQ, gG, eT, fT, fS, gE, fR, fL, fV, fQ, fU, gB, gC, fP, fC, gI, gA, fK, iR, iO, iP, iU, iM, iS, iQ, iT, iN, eP, Result.ok.injEq, Next.value.injEq, true_and, and_true, fI, fJ, gH, fM, gD, gR, acM, fE, fF, fG, fD, eZ, eU, fB, eX, eQ, eH, if_true, if_false, acK, acQ, acL, acN, acP, acO, acJ, acI, eA, dV, aB, dM, dO, cB, eB, eS, eE, dK, eF, fA, dJ, eJ, bP, dS, bE, dN, aL, aH, eL, aX, cI, eM, aE, eN, dE, aR, bF, eD, bB, bC, bJ, aO, aI, cF, fH, dY, cJ, cC, dA, cH, dT, bD, eK, bT, dF, bR, aT, bV, aC, bY, bQ, cA, bX, aY, aU, bA, bU, dL, cP, bO, aV, aJ, aM, bG, aF, dC, dW, aK, aN, aZ, aG, cY, aD, cL, bW, bH, aP, cM, bZ, aA, dD, cO, cU, cG, dI, cD, dG, dU, cQ, eC, eI, bN, aS, dZ, bS, aQ, bL, dH, cZ, cV, cN, cS, bK, bM, cX, dR, cR, dQ, dB, n1, c2, e3, e4]
  have hbd : Bs (dr w4) (.slice (kA ba bc P 1) (P + N - P) (bc - P)) (nW f.length k i f) := by
   have := Sl.mid (hb.ext x04d (jG _)) (i := P) (j := P + N) (by omega) (by omega)
   rw [<- afM, <- agB, aeR] at this
   rw [aeR]
   unfold nW
   rw [<- hP, <- hN]
   exact this
  refine (Xy (hg.ext x04d) hbd (by have := Lh f.length k i f; omega)).mono ?_
  rintro r w5 ⟨rfl, x5⟩
  have o5 := od.ext x5 (fun h => h)
  have c5 := o5.cell (off := 2)
  simp only [acI, acJ] at c5
  have hll : (gU (nW f.length k i f)).length = 32 := Aw _
  simp (disch := omega) only [eY, gN, dX, stepR_skip, fO, fW, fN, fZ, fX, fY, gQ, gG, eT, fT, fS, gE, fR, fL, fV, fQ, fU, gB, gC, fP, fC, gI, gA, fK, iR, iO, iP, iU, iM, iS, iQ, iT, iN, eP, Result.ok.injEq, Next.value.injEq, true_and, and_true, fI, fJ, gH, fM, gD, gR, acM, fE, fF, fG, fD, eZ, eU, fB, eX, eQ, eH, if_true, if_false, acK, acQ, acL, acN, acP, acO, acJ, acI, eA, dV, aB, dM, dO, cB, eB, eS, eE, dK, eF, fA, dJ, eJ, bP, dS, bE, dN, aL, aH, eL, aX, cI, eM, aE, eN, dE, aR, bF, eD, bB, bC, bJ, aO, aI, cF, fH, dY, cJ, cC, dA, cH, dT, bD, eK, bT, dF, bR, aT, bV, aC, bY, bQ, cA, bX, aY, aU, bA, bU, dL, cP, bO, aV, aJ, aM, bG, aF, dC, dW, aK, aN, aZ, aG, cY, aD, cL, bW, bH, aP, cM, bZ, aA, dD, cO, cU, cG, dI, cD, dG, dU, cQ, eC, eI, bN, aS, dZ, bS, aQ, bL, dH, cZ, cV, cN, cS, bK, bM, cX, dR, cR, dQ, dB, c5]
  refine Qk (cells := ((gU (nW f.length k i f)).map pG).toArray) (by decide) (by decide) ?_ fun w6 o6 x6 s6 => ?_
  .exact WT hll
  rw [aeC] at o6
  have o65 := o5.ext x6 (fun h => h)
  have c6 := o65.cell (off := 2)
  simp only [acI, acJ] at c6
  simp (disch := omega) only [eY, gN, dX, stepR_skip, fO, fW, fN, fZ, fX, fY, gQ, gG, eT, fT, fS, gE, fR, fL, fV, fQ, fU, gB, gC, fP, fC, gI, gA, fK, iR, iO, iP, iU, iM, iS, iQ, iT, iN, eP, Result.ok.injEq, Next.value.injEq, true_and, and_true, fI, fJ, gH, fM, gD, gR, acM, fE, fF, fG, fD, eZ, eU, fB, eX, eQ, eH, if_true, if_false, acK, acQ, acL, acN, acP, acO, acJ, acI, eA, dV, aB, dM, dO, cB, eB, eS, eE, dK, eF, fA, dJ, eJ, bP, dS, bE, dN, aL, aH, eL, aX, cI, eM, aE, eN, dE, aR, bF, eD, bB, bC, bJ, aO, aI, cF, fH, dY, cJ, cC, dA, cH, dT, bD, eK, bT, dF, bR, aT, bV, aC, bY, bQ, cA, bX, aY, aU, bA, bU, dL, cP, bO, aV, aJ, aM, bG, aF, dC, dW, aK, aN, aZ, aG, cY, aD, cL, bW, bH, aP, cM, bZ, aA, dD, cO, cU, cG, dI, cD, dG, dU, cQ, eC, eI, bN, aS, dZ, bS, aQ, bL, dH, cZ, cV, cN, cS, bK, bM, cX, dR, cR, dQ, dB, c6]
  have z5 := x5.size
  have z6 := x6.size
  have zd : (dr w4).heap.size = w4.heap.size := rfl
  refine xK ((hs.ext ((gV.dr w4 jN).seq x5) (fun _ _ h => h)).ext x6 (fun _ _ h => h)) (o6.cl (off := 0) (n := 1) (by rw [acR, hll]) (fun j hj => by rw [acQ])) (Fq _) (by omega) (by omega) fun v7 w7 o7 x7 => ?_
  have o75 := o65.ext x7 (by omega)
  refine KR o75 (by rcases o7.2 with ⟨rfl, _⟩ | ⟨_, _, _, rfl, _⟩ <;> rfl) (by simp) fun w8 o8 x8 s8 => ?_
  simp only [adA, adN] at o8
  have o78 := o7.ext x8 (fun b hb h => by omega)
  refine ⟨mA f.length k - (i + 1), by omega, i + 1, v7, rfl, by omega, rfl, o8, ?_, ?_⟩
  .rw [Vi]
   show Ac w8 (q + 1) 32 v7 (i + 1) (List.flatMap _ (RX f k i ++ [gU (nW f.length k i f)]))
   rw [List.flatMap_append, List.flatMap_singleton]
   exact o78
  .refine (((x4.seq (gV.dr _ _)).seq (x5.mono fun _ _ h => h.elim)).seq (x6.mono fun _ _ h => h.elim)).seq (x7.mono fun y _ h => .inr (by omega)) |>.seq (x8.mono fun y _ h => .inl h)
 .have d1 : decide ((i : Int) < ((mA f.length k : Nat) : Int)) = false := by simp; omega
  obtain rfl : i = mA f.length k := by omega
  unfold C9
  have lm := qR (off := 0) o4 (by simp)
  have lm : (gJ 28 (.pointer (some ⟨q, 0, none⟩))).run pg w4 = .ok (.value (.agg #[.int .u64 (f.length : Nat), .int .u32 (k : Nat), lv])) w4 := lm
  simp (disch := omega) only [eY, gN, dX, stepR_skip, fO, fW, fN, fZ, fX, fY, gQ, gG, eT, fT, fS, gE, fR, fL, fV, fQ, fU, gB, gC, fP, fC, gI, gA, fK, iR, iO, iP, iU, iM, iS, iQ, iT, iN, eP, Result.ok.injEq, Next.value.injEq, true_and, and_true, fI, fJ, gH, fM, gD, gR, acM, fE, fF, fG, fD, eZ, eU, fB, eX, eQ, eH, if_true, if_false, acK, acQ, acL, acN, acP, acO, acJ, acI, eA, dV, aB, dM, dO, cB, eB, eS, eE, dK, eF, fA, dJ, eJ, bP, dS, bE, dN, aL, aH, eL, aX, cI, eM, aE, eN, dE, aR, bF, eD, bB, bC, bJ, aO, aI, cF, fH, dY, cJ, cC, dA, cH, dT, bD, eK, bT, dF, bR, aT, bV, aC, bY, bQ, cA, bX, aY, aU, bA, bU, dL, cP, bO, aV, aJ, aM, bG, aF, dC, dW, aK, aN, aZ, aG, cY, aD, cL, bW, bH, aP, cM, bZ, aA, dD, cO, cU, cG, dI, cD, dG, dU, cQ, eC, eI, bN, aS, dZ, bS, aQ, bL, dH, cZ, cV, cN, cS, bK, bM, cX, dR, cR, dQ, dB, d1, lm]
  have lv1 : one lv = true := by rcases hs.2 with ⟨rfl, _⟩ | ⟨_, _, _, rfl, _⟩ <;> rfl
  refine qQ (o13.ext x4 (by omega)) rfl (by simp [one]; exact lv1) (by simp) fun w5 o5 x5 s5 => ?_
  refine Kl o5 (by simp [nA]) ?_
  rw [hRR]
  refine ⟨lv, rfl, ?_, x04.trans x5 fun y hy h => by omega⟩
  rw [XB, XE]
  have o' := hs.ext x5 (fun b hb h => by omega)
  refine ⟨o'.1, ?_⟩
  rcases o'.2 with h | ⟨b, c, rest, h1, h2, h3⟩
  .exact .inl h
  .exact .inr ⟨b, c, rest, h1, by omega, h3⟩
end Go.Proofs.YteelnmpbnaohpaaDoor
namespace Go.Proofs.YteelnmpbnaohpaaDoor
open Go Go.En Go.Pu
section
variable {lf : List UInt8 -> List UInt8} {cf : List UInt8 -> Nat}
theorem Xc.bk {f : List UInt8} {k : Nat} {F0 : Option (List UInt8)} {recs : List (Nat × Nat)} {P : List UInt8} {S : jL} {s : nG} (h : Xc lf cf f k F0 recs P S s) {n : Nat} (hn : n <= 100) : Bg n S := by
 have h1 := h.rm
 have h2 := h.rb
 refine ⟨⟨by rw [h.calm.left]; omega, by omega, by rw [h.un]; simp, h2⟩, by omega, by rw [h.un]; simp; omega⟩
theorem Xc.file {f : List UInt8} {k : Nat} {F0 : Option (List UInt8)} {recs : List (Nat × Nat)} {P : List UInt8} {S : jL} {s : nG} (h : Xc lf cf f k F0 recs P S s) {n : ByteArray} {b : List UInt8} (hb : jC n S.seen = some b) (hs : iJ S.seen <= 1000000) : b.length <= 1000000 := by
 have h1 := BJ (k := n) (c := S.seen)
 rw [hb] at h1
 have h1 : b.length <= iJ S.seen := h1
 omega
theorem MP (W : List Bool) (n i : Nat) : (oS [] W n).getD i false = false := by
 unfold oS
 rw [acU, adQ]
 by_cases h : i < n
 .rw [List.getElem?_range h] <;> rfl
 .rw [adZ (by simp; omega)] <;> rfl
theorem Wy {f : List UInt8} {k : Nat} {F0 : Option (List UInt8)} {S : jL} (h : Calm S) (hk : 0 < k) (gL : jC (jH sF) S.seen = none) (gP : jC (gZ sF) S.seen = none) (gF : jC sF S.seen = F0) (nd : (S.seen.map (·.1)).Nodup) (sz : iJ S.seen = (F0.getD []).length)
 (rb : 0 <= S.room /\ S.room <= 16777216) (hf : MC lf f k S = false) (hr : ¬ S.room < ((iJ S.seen + 13 + f.length : Nat) : Int)) :
 ∃ S' s', DF lf cf S sF (kO lf f k) = (S', some s', 0) /\ Xc lf cf f k F0 [(1, 1)] (List.replicate f.length 0) S' s' /\ S'.room = S.room /\ s'.epoch = 1 /\ ∀ i, s'.hv.getD i false = false := by
 have hL : (jC (jH sF) S.seen).getD [] = mS cf [] := by rw [gL] <;> rfl
 obtain ⟨S1, he, hS1⟩ := (QW (f := f) (k := k) h hL (by simp) (by show (0 : Nat) < _; omega) (by omega) hf gP).2 hr
 have hsd := SG (S := S) hL
 have s1 : S1.seen = nB (gZ sF) (List.replicate f.length 0) (KH cf [] S).seen := by rw [hS1]
 have sD : (KH cf [] S).seen = nB (jH sF) (mS cf [(1, 1)]) S.seen := rfl
 have r1 : S1.room = S.room := by rw [hS1] <;> rfl
 have hz := nR (gZ sF) (List.replicate f.length (0 : UInt8)) (KH cf [] S).seen
 rw [MT, gP, afZ, aeN, adI, hsd] at hz
 refine ⟨_, _, he, ⟨⟨?_, ?_⟩, rfl, rfl, rfl, hf, ?_, rfl, ?_, ?_, ?_, ?_, ?_, ?_, ?_, ?_, ?_, ?_, ?_, rfl, ?_⟩, r1, rfl, fun i => ?_⟩
 .show S1.down = false
  rw [hS1]; exact h.up
 .show S1.left = -1
  rw [hS1]; exact h.left
 .show (oS [] _ _).length = _
  unfold oS; simp
 .show jC sF S1.seen = F0
  rw [s1, kG Re, sD, kG UZ, gF]
 .show jC (gZ sF) S1.seen = _
  rw [s1, qD]
 .show jC (jH sF) S1.seen = _
  rw [s1, kG (Ne.symm RH), sD, qD]
 .simp
 .intro r hr
  rw [aeK] at hr
  subst hr
  exact ⟨.inl rfl, by show 1 < _; omega⟩
 .intro i hi hv
  have hv : (oS [] _ _).getD i false = true := hv
  rw [MP] at hv
  cases hv
 .intro i hi
  show (oS [] _ _).getD i false = true ↔ _
  rw [MP]
  constructor
  .intro h; cases h
  .intro h
   rw [aeK] at h
   exact absurd (congrArg Prod.fst h) (show ¬ (2 : Nat) = 1 by decide)
 .show [((1 : Nat), (1 : Nat))].length = 1 + (oS [] _ _).count true
  have : (oS [] (iV lf (kO lf f k) []) (mA f.length k)).count true = 0 := by
   rw [List.count_eq_zero]
   intro hm
   obtain ⟨i, hi, e⟩ := agF hm
   have := MP (iV lf (kO lf f k) []) (mA f.length k) i
   rw [acU, acS hi, e] at this
   cases this
  rw [this] <;> rfl
 .show iJ S1.seen = _
  rw [s1]
  simp only [aeB]
  omega
 .show (iJ S1.seen : Int) <= S1.room
  rw [s1, r1]
  omega
 .show (S1.seen.map (·.1)).Nodup
  rw [s1, sD]; exact sC (sC nd)
 .show 0 <= S1.room /\ _
  rw [r1]; exact rb
 .exact MP _ _ i
end
end Go.Proofs.YteelnmpbnaohpaaDoor
namespace Go.Proofs.YteelnmpbnaohpaaDoor
open Go Go.En Go.Pu
set_option maxRecDepth 4000
def VY (w0 : ahA) (N : Nat -> Prop) : Nat -> Prop := fun y => w0.heap.size <= y /\ ¬ N y
def wG (w0 : ahA) (N : Nat -> Prop) (w : ahA) (p : Nat) (S : jL) : Prop := ∃ X D, mE w p X D S /\ (∀ b, X b -> w0.heap.size <= b /\ ¬ N b) /\ gV w0 w jN /\ ∀ b, N b -> D b
def Ey (w0 : ahA) (N : Nat -> Prop) (w : ahA) (q p : Nat) (S : jL) (s : nG) : Prop := ∃ X D Y lv hv, kP w0.heap.size w q p X D Y S s lv hv /\ gV w0 w jN /\ ∀ b, N b -> D b /\ ¬ (X b ∨ Y b)
theorem Ey.new {w0 : ahA} {N : Nat -> Prop} {w w' : ahA} {q p : Nat} {S : jL} {s : nG} (h : Ey w0 N w q p S s) (x : gV w w' jN) : Ey w0 N w' q p S s := by
 obtain ⟨X, D, Y, lv, hv, h, x0, hN⟩ := h
 exact ⟨X, D, Y, lv, hv, h.new x, x0.seq x, hN⟩
theorem wG.new {w0 : ahA} {N : Nat -> Prop} {w w' : ahA} {p : Nat} {S : jL} (h : wG w0 N w p S) (x : gV w w' jN) : wG w0 N w' p S := by
 obtain ⟨X, D, h, hX, x0, hN⟩ := h
 exact ⟨X, D, h.new x, hX, x0.seq x, hN⟩
theorem Ey.x {w0 : ahA} {N : Nat -> Prop} {w : ahA} {q p : Nat} {S : jL} {s : nG} (h : Ey w0 N w q p S s) : gV w0 w jN := by
 obtain ⟨_, _, _, _, _, _, x0, _⟩ := h; exact x0
theorem wG.x {w0 : ahA} {N : Nat -> Prop} {w : ahA} {p : Nat} {S : jL} (h : wG w0 N w p S) : gV w0 w jN := by
 obtain ⟨_, _, _, _, x0, _⟩ := h; exact x0
theorem Ey.lt {w0 : ahA} {N : Nat -> Prop} {w : ahA} {q p : Nat} {S : jL} {s : nG} (h : Ey w0 N w q p S s) : ∀ b, N b -> b < w.heap.size := by
 obtain ⟨X, D, Y, lv, hv, h, x0, hN⟩ := h
 exact fun b hb => mE.lt h.dsk b (hN b hb).1
theorem wG.lt {w0 : ahA} {N : Nat -> Prop} {w : ahA} {p : Nat} {S : jL} (h : wG w0 N w p S) : ∀ b, N b -> b < w.heap.size := by
 obtain ⟨X, D, h, hX, x0, hN⟩ := h
 exact fun b hb => mE.lt h b (hN b hb)
theorem Ey.add {w0 : ahA} {N : Nat -> Prop} {w w' : ahA} {q p b : Nat} {S : jL} {s : nG} (h : Ey w0 N w q p S s) (x : gV w w' jN) (hb : w.heap.size <= b) (hb' : b < w'.heap.size) : Ey w0 (fun y => N y ∨ y = b) w' q p S s := by
 obtain ⟨X, D, Y, lv, hv, h, x0, hN⟩ := h
 have hlt := kP.lt h
 have h1 := h.new x
 have z := x.size
 refine ⟨X, fun y => D y ∨ y = b, Y, lv, hv, ⟨h1.glob, h1.g0, h1.lo, h1.hi, h.dsk.more x hb hb', h1.yq, fun y hy => ⟨.inl (h.yd y hy).1, (h.yd y hy).2⟩, h1.own, h1.man, h1.lv, h1.hv, h1.ep, h1.lg, h1.hl, h1.nl⟩, x0.seq x, fun y hy => ?_⟩
 rcases hy with hy | hy
 .exact ⟨.inl (hN y hy).1, (hN y hy).2⟩
 .exact ⟨.inr hy, fun hx => by have := hlt y hx; omega⟩
theorem wG.add {w0 : ahA} {N : Nat -> Prop} {w w' : ahA} {p b : Nat} {S : jL} (h : wG w0 N w p S) (x : gV w w' jN) (hb : w.heap.size <= b) (hb' : b < w'.heap.size) : wG w0 (fun y => N y ∨ y = b) w' p S := by
 obtain ⟨X, D, h, hX, x0, hN⟩ := h
 refine ⟨X, fun y => D y ∨ y = b, h.more x hb hb', fun y hy => ⟨(hX y hy).1, fun hn => hn.elim (hX y hy).2 fun e => ?_⟩, x0.seq x, fun y hy => hy.imp (hN y) id⟩
 have := mE.lt h y (mE.xd' h y hy)
 omega
theorem Ey.turn {w0 : ahA} {N : Nat -> Prop} {w w' : ahA} {q p b : Nat} {S : jL} {s : nG} {l : List Bool} (h : Ey w0 N w q p S s) (o : jI w b (l.map Value.bool)) (hb : N b) (hb0 : w0.heap.size <= b) (x : gV w w' (fun y => y = b)) : Ey w0 N w' q p S s := by
 obtain ⟨X, D, Y, lv, hv, h, x0, hN⟩ := h
 refine ⟨X, D, Y, lv, hv, h.ext x (fun y hy => ?_) (fun hi => ?_), x0.trans x fun y hy hm => by omega, hN⟩
 .subst hy
  exact ⟨(hN _ hb).1, fun hx => (hN _ hb).2 (.inl hx), fun hx => (hN _ hb).2 (.inr hx), hb0⟩
 .obtain ⟨a, c, hlv, hl, hh⟩ := h.lv.1
  subst hlv
  unfold vO at hi
  split at hi
  .rename_i e
   simp only [Value.slice.injEq] at e
   obtain ⟨rfl, e2, rfl⟩ := e
   obtain ⟨b', off, he, h2⟩ := hh (by omega)
   cases he
   have hi : b' = b := hi
   subst hi
   have h3 := h2 0 (by rw [hl]; omega)
   rw [o.cell] at h3
   have h4 : (Vt s.man.leaves)[0]? = (((s.man.leaves.getD 0 []).map pG))[0]? := TL (i := 0) (j := 0) h.man.len (by omega) (by omega)
   rw [h4, adQ, adQ] at h3
   have hm0 : (s.man.leaves.getD 0 []).length = 32 := h.man.len _ (by rw [acU, acS (by omega)]; exact aeX _)
   rw [acS (show 0 < (s.man.leaves.getD 0 []).length by omega)] at h3
   cases hq : l[off + 0]? with
   | none => rw [hq] at h3; cases h3
   | some z => rw [hq] at h3; simp [pG] at h3
  .exact hi
theorem wG.post {w0 : ahA} {N : Nat -> Prop} {w w' : ahA} {p : Nat} {X D : Nat -> Prop} {S S' : jL} (h : mE w p X D S) (hX : ∀ b, X b -> w0.heap.size <= b /\ ¬ N b) (x0 : gV w0 w jN) (hN : ∀ b, N b -> D b) (hp : A7 w p X D S' w') : wG w0 N w' p S' /\ gV w w' (VY w0 N) := by
 obtain ⟨X', D', h1, h2, h3, x⟩ := hp
 have z := x0.size
 refine ⟨⟨X', D', h1, fun b hb => ?_, x0.trans x fun y hy hm => by have := (hX y hm).1; omega, fun b hb => h3 b (hN b hb)⟩, x.mono fun b _ hb => hX b hb⟩
 rcases h2 b hb with h4 | h4
 .exact hX b h4
 .exact ⟨by omega, fun hn => by have := mE.lt h b (hN b hn); omega⟩
theorem Ey.post {w0 : ahA} {N : Nat -> Prop} {w w' : ahA} {q p : Nat} {X D Y : Nat -> Prop} {S S' : jL} {s s' : nG} {lv hv : ahB} (h : kP w0.heap.size w q p X D Y S s lv hv) (x0 : gV w0 w jN) (hN : ∀ b, N b -> D b /\ ¬ (X b ∨ Y b)) (hp : iW w0.heap.size w q p X D Y S' s' w') : Ey w0 N w' q p S' s' /\ gV w w' (VY w0 N) := by
 obtain ⟨X', D', Y', lv', hv', h', h1, h2, h3, x⟩ := hp
 have z := x0.size
 refine ⟨⟨X', D', Y', lv', hv', h', x0.trans x fun y hy hm => by have := h.lo y hm; omega, fun b hb => ⟨h2 b (hN b hb).1, fun hx => ?_⟩⟩, x.mono fun b _ hb => ⟨h.lo b hb, fun hn => (hN b hn).2 hb⟩⟩
 have hlt := mE.lt h.dsk b (hN b hb).1
 rcases hx with hx | hx
 .rcases h1 b hx with h | h
  .exact (hN b hb).2 (.inl h)
  .omega
 .rcases h3 b hx with h | h
  .exact (hN b hb).2 (.inr h)
  .omega
theorem UE {w0 : ahA} {N : Nat -> Prop} {w w1 : ahA} {q p : Nat} {S : jL} {s : nG} {i : Int} {bv : ahB} {b : List UInt8} (h : Ey w0 N w q p S s) (x : gV w w1 jN) (hB : Bg 2 S) (hlen : s.hv.length = s.man.leaves.length) (hb : Bs w1 bv b) (hbl : b.length <= 1000000)
 (hbn : ¬ vO bv (fun y => w0.heap.size <= y /\ y < w.heap.size)) (hlg : s.log + 13 <= 1000000000) (hi : -9223372036854775808 <= i /\ i <= 9223372036854775807) :
 gT pg kI #[dP q, .int .i64 i, bv] w1 (fun r w' => r = .int .i64 (pU gU iA S s i b).2.2 /\ Ey w0 N w' q p (pU gU iA S s i b).1 (pU gU iA S s i b).2.1 /\ gV w1 w' (VY w0 N)) := by
 obtain ⟨X, D, Y, lv, hv, h, x0, hN⟩ := h
 have hlt := kP.lt h
 refine (Wm (h.new x) hB hlen hb hbl (fun hi => hbn (vG hi fun y hy => ⟨h.lo y hy, hlt y hy⟩)) hlg hi).mono ?_
 rintro r w' ⟨rfl, hp⟩
 exact ⟨rfl, Ey.post (h.new x) (x0.seq x) hN hp⟩
theorem Ld {w0 : ahA} {N : Nat -> Prop} {w : ahA} {q p : Nat} {S : jL} {s : nG} (h : Ey w0 N w q p S s) (hB : Bg 2 S) (hbp : ∀ b, jC (gZ s.nm) S.seen = some b -> b.length <= 1000000) :
 gT pg lO #[dP q] w (fun r w' => r = .int .i64 (jK gU S s).2.2 /\ Ey w0 N w' q p (jK gU S s).1 (jK gU S s).2.1 /\ gV w w' (VY w0 N)) := by
 obtain ⟨X, D, Y, lv, hv, h, x0, hN⟩ := h
 refine (VX h hB hbp).mono ?_
 rintro r w' ⟨rfl, hp⟩
 exact ⟨rfl, Ey.post h x0 hN hp⟩
theorem UQ {w0 : ahA} {N : Nat -> Prop} {w : ahA} {p : Nat} {S : jL} {n : ByteArray} (h : wG w0 N w p S) (hB : Bg 0 S) (hd : S.down = false) :
 gT pg lU #[dP p, .string n] w (fun r w' => ((jC n S.seen = none /\ r = .tuple #[.slice none 0 0, .int .i64 21]) ∨ ∃ b v, jC n S.seen = some b /\ r = .tuple #[v, .int .i64 0] /\ Ac w' w.heap.size 1 v b.length (b.map pG)) /\ gV w w' jN) := by
 obtain ⟨X, D, h, hX, x0, hN⟩ := h
 refine (Rq h hB.bd (fun b hb => hB.file hb)).mono ?_
 rintro r w' ⟨hr, x⟩
 refine ⟨?_, x⟩
 rcases hr with ⟨h1, _⟩ | ⟨_, h2, h3⟩ | ⟨_, b, v, h2, h3, h4⟩
 .rw [hd] at h1; cases h1
 .exact .inl ⟨h2, h3⟩
 .exact .inr ⟨b, v, h2, h3, h4⟩
theorem Ey.dses {w0 : ahA} {N : Nat -> Prop} {w : ahA} {q p : Nat} {S : jL} {s : nG} (h : Ey w0 N w q p S s) : wG w0 N w p S := by
 obtain ⟨X, D, Y, lv, hv, h, x0, hN⟩ := h
 exact ⟨X, D, h.dsk, fun b hb => ⟨h.lo b (.inl hb), fun hn => (hN b hn).2 (.inl hb)⟩, x0, fun b hb => (hN b hb).1⟩
theorem St {w0 : ahA} {N : Nat -> Prop} {w : ahA} {q p : Nat} {S : jL} {s : nG} {n : ByteArray} (h : Ey w0 N w q p S s) (hB : Bg 0 S) (hd : S.down = false) :
 gT pg lU #[dP p, .string n] w (fun r w' => ((jC n S.seen = none /\ r = .tuple #[.slice none 0 0, .int .i64 21]) ∨ ∃ b v, jC n S.seen = some b /\ r = .tuple #[v, .int .i64 0] /\ Ac w' w.heap.size 1 v b.length (b.map pG)) /\ Ey w0 N w' q p S s /\ gV w w' jN) := by
 refine (UQ h.dses hB hd).mono ?_
 rintro r w' ⟨hr, x⟩
 exact ⟨hr, h.new x, x⟩
theorem Xt {w0 : ahA} {N : Nat -> Prop} {w : ahA} {q p : Nat} {S : jL} {s : nG} (h : Ey w0 N w q p S s) : gT pg oU #[dP q] w (fun r w' => r = .bool s.fin /\ w' = w) := by
 obtain ⟨X, D, Y, lv, hv, h, x0⟩ := h
 exact XI h
theorem Kc {w0 : ahA} {N : Nat -> Prop} {w : ahA} {q p : Nat} {S : jL} {s : nG} (h : Ey w0 N w q p S s) : gT pg lH #[dP q] w (fun r w' => r = .int .u64 (s.epoch : Nat) /\ w' = w) := by
 obtain ⟨X, D, Y, lv, hv, h, x0⟩ := h
 exact Vg h
theorem Ue {w0 : ahA} {N : Nat -> Prop} {w : ahA} {q p : Nat} {S : jL} {s : nG} (h : Ey w0 N w q p S s) : gT pg lK #[dP q] w (fun r w' => r = .int .i64 s.err /\ w' = w) := by
 obtain ⟨X, D, Y, lv, hv, h, x0⟩ := h
 exact LN h
theorem Ra {v : ahB} {l : List Bool} {w : ahA} (h : Sl w v (l.map Value.bool)) (hl : l.length <= 1000000) :
 gT pg oL #[v] w (fun r w' => Ac w' w.heap.size 1 r l.length (l.map Value.bool) /\ gV w w' jN) := by
 refine EH ?_
 have h1 := h
 obtain ⟨a, n, c, rfl, hn, hc, hh⟩ := h
 rw [acR] at hn
 unfold Co rA
 cases a with
 | none =>
   have h0 : l = [] := by
    cases l with
    | nil => rfl
    | cons x l => obtain ⟨b, off, h, _⟩ := hh (by simp at hn; omega); cases h
   subst h0
   simp (disch := omega) only [eY, gN, dX, stepR_skip, fO, fW, fN, fZ, fX, fY, gQ, gG, eT, fT, fS, gE, fR, fL, fV, fQ, fU, gB, gC, fP, fC, gI, gA, fK, iR, iO, iP, iU, iM, iS, iQ, iT, iN, eP, Result.ok.injEq, Next.value.injEq, true_and, and_true, fI, fJ, gH, fM, gD, gR, acM, fE, fF, fG, fD, eZ, eU, fB, eX, eQ, eH, if_true, if_false, acK, acQ, acL, acN, acP, acO, acJ, acI, eA, dV, aB, dM, dO, cB, eB, eS, eE, dK, eF, fA, dJ, eJ, bP, dS, bE, dN, aL, aH, eL, aX, cI, eM, aE, eN, dE, aR, bF, eD, bB, bC, bJ, aO, aI, cF, fH, dY, cJ, cC, dA, cH, dT, bD, eK, bT, dF, bR, aT, bV, aC, bY, bQ, cA, bX, aY, aU, bA, bU, dL, cP, bO, aV, aJ, aM, bG, aF, dC, dW, aK, aN, aZ, aG, cY, aD, cL, bW, bH, aP, cM, bZ, aA, dD, cO, cU, cG, dI, cD, dG, dU, cQ, eC, eI, bN, aS, dZ, bS, aQ, bL, dH, cZ, cV, cN, cS, bK, bM, cX, dR, cR, dQ, dB]
   exact ⟨Ac.nil _ _ _, gV.refl _ _⟩
 | some x =>
   simp (disch := omega) only [eY, gN, dX, stepR_skip, fO, fW, fN, fZ, fX, fY, gQ, gG, eT, fT, fS, gE, fR, fL, fV, fQ, fU, gB, gC, fP, fC, gI, gA, fK, iR, iO, iP, iU, iM, iS, iQ, iT, iN, eP, Result.ok.injEq, Next.value.injEq, true_and, and_true, fI, fJ, gH, fM, gD, gR, acM, fE, fF, fG, fD, eZ, eU, fB, eX, eQ, eH, if_true, if_false, acK, acQ, acL, acN, acP, acO, acJ, acI, eA, dV, aB, dM, dO, cB, eB, eS, eE, dK, eF, fA, dJ, eJ, bP, dS, bE, dN, aL, aH, eL, aX, cI, eM, aE, eN, dE, aR, bF, eD, bB, bC, bJ, aO, aI, cF, fH, dY, cJ, cC, dA, cH, dT, bD, eK, bT, dF, bR, aT, bV, aC, bY, bQ, cA, bX, aY, aU, bA, bU, dL, cP, bO, aV, aJ, aM, bG, aF, dC, dW, aK, aN, aZ, aG, cY, aD, cL, bW, bH, aP, cM, bZ, aA, dD, cO, cU, cG, dI, cD, dG, dU, cQ, eC, eI, bN, aS, dZ, bS, aQ, bL, dH, cZ, cV, cN, cS, bK, bM, cX, dR, cR, dQ, dB]
   refine JP Tryd.underlying45 Tz fun w1 o1 x1 s1 => ?_
   have hcl1 := (h1.ext x1 (jG _)).cl
   rw [acR] at hcl1
   have hos : Ac w1 w.heap.size 1 (.slice (some ⟨w.heap.size, 0, none⟩) 0 0) 0 [] := ⟨rfl, .inr ⟨_, 0, [], rfl, acY _, o1, rfl, acY _⟩⟩
   refine Lq hos hcl1 (fun y hy => by obtain ⟨z, -, rfl⟩ := aeE.1 hy; rfl) x1.size (by omega) fun v3 w3 o3 x3 => ?_
   rw [acQ, adJ] at o3
   exact ⟨o3, x1.trans x3 fun b hb h => Nat.not_le_of_lt hb h⟩
theorem SJ {w0 : ahA} {N : Nat -> Prop} {w : ahA} {q p : Nat} {S : jL} {s : nG} (h : Ey w0 N w q p S s) : gT pg oY #[dP q] w (fun r w' => Ac w' w.heap.size 1 r s.hv.length (s.hv.map Value.bool) /\ Ey w0 N w' q p S s /\ gV w w' jN) := by
 have h' := h
 obtain ⟨X, D, Y, lv, hv, h, x0⟩ := h
 refine IC ?_
 obtain ⟨c0, c1, c2, c3, c4, c5, c6, c7, c8, c9⟩ := h.cells
 unfold Gp wI
 simp (disch := omega) only [eY, gN, dX, stepR_skip, fO, fW, fN, fZ, fX, fY, gQ, gG, eT, fT, fS, gE, fR, fL, fV, fQ, fU, gB, gC, fP, fC, gI, gA, fK, iR, iO, iP, iU, iM, iS, iQ, iT, iN, eP, Result.ok.injEq, Next.value.injEq, true_and, and_true, fI, fJ, gH, fM, gD, gR, acM, fE, fF, fG, fD, eZ, eU, fB, eX, eQ, eH, if_true, if_false, acK, acQ, acL, acN, acP, acO, acJ, acI, eA, dV, aB, dM, dO, cB, eB, eS, eE, dK, eF, fA, dJ, eJ, bP, dS, bE, dN, aL, aH, eL, aX, cI, eM, aE, eN, dE, aR, bF, eD, bB, bC, bJ, aO, aI, cF, fH, dY, cJ, cC, dA, cH, dT, bD, eK, bT, dF, bR, aT, bV, aC, bY, bQ, cA, bX, aY, aU, bA, bU, dL, cP, bO, aV, aJ, aM, bG, aF, dC, dW, aK, aN, aZ, aG, cY, aD, cL, bW, bH, aP, cM, bZ, aA, dD, cO, cU, cG, dI, cD, dG, dU, cQ, eC, eI, bN, aS, dZ, bS, aQ, bL, dH, cZ, cV, cN, cS, bK, bM, cX, dR, cR, dQ, dB, c6]
 refine (Ra (NB h.hv) (by have := h.hl; omega)).mono ?_
 rintro r w' ⟨ho, x⟩
 exact ⟨ho, h'.new x, x⟩
def Z7 (w0 : ahA) (N : Nat -> Prop) (w : ahA) (p : Nat) (S' : jL) (so : Option nG) (e : Int) (r : ahB) (w' : ahA) : Prop := (match so with
 | some s => ∃ q, r = .tuple #[dP q, .int .i64 0] /\ e = 0 /\ Ey w0 N w' q p S' s
 | none => r = .tuple #[.pointer none, .int .i64 e] /\ wG w0 N w' p S') /\ gV w w' (VY w0 N)
theorem Nw {w0 : ahA} {N : Nat -> Prop} {w : ahA} {p : Nat} {S S' : jL} {so : Option nG} {e : Int} {nm : ByteArray} {m : UO} {lv : ahB} (h : wG w0 N w p S) (hg : qK w0) (hB : Bg 3 S) (hm : Uq m) (hlv : Cl w 32 lv m.leaves.length (Vt m.leaves)) (hnm : 1 <= nm.size /\ nm.size <= 27) (hs : iJ S.seen <= 1000000) (hO : DF gU iA S nm m = (S', so, e)) :
 gT pg rY #[dP p, .string nm, .agg (O3 m lv).toArray] w (Z7 w0 N w p S' so e) := by
 obtain ⟨X, D, h, hX, x0, hN⟩ := h
 have hf : ∀ {n : ByteArray}, ∀ b, jC n S.seen = some b -> b.length <= 1000000 := fun {n} b hb => by
  have h1 := BJ (k := n) (c := S.seen)
  rw [hb] at h1
  have h1 : b.length <= iJ S.seen := h1
  omega
 refine (Zh (n0 := w0.heap.size) h (hg.ext x0) hg.lt (fun b hb => (hX b hb).1) x0.size hB hm hlv hnm hf hf hf).mono ?_
 rw [hO]
 intro r w' hr
 unfold Ug at hr
 have z := x0.size
 cases so with
 | none =>
   obtain ⟨h1, hp⟩ := hr
   obtain ⟨a, b⟩ := wG.post h hX x0 hN hp
   exact ⟨⟨h1, a⟩, b⟩
 | some s =>
   obtain ⟨h0, q, X', D', Y', lv', hv', h1, h2, h3, h4, h5, h6⟩ := hr
   refine ⟨⟨q, h1, h0, X', D', Y', lv', hv', h2, x0.trans h6 fun y hy hm => by have := (hX y hm).1; omega, fun b hb => ⟨h4 b (hN b hb), fun hx => ?_⟩⟩, h6.mono fun b _ hb => hX b hb⟩
   have hlt := mE.lt h b (hN b hb)
   rcases hx with hx | hx
   .rcases h3 b hx with h | h
    .exact (hX b h).2 hb
    .omega
   .have := h5 b hx; omega
end Go.Proofs.YteelnmpbnaohpaaDoor
