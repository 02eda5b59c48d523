/- Parts of the proof of StoreClaims: merged and given short names by a program of ours. -/
import Derived.Test.YteelnmpbnaohpaaDoorZyD
set_option linter.unusedVariables false
set_option linter.unusedSimpArgs false
open Bool renaming false_eq_true → ZM, not_false → ZQ, not_true → ZR
open Int renaming toNat_natCast → ZO, natCast_mul → adQ
open List renaming getElem?_cons_zero → ZK, getElem?_cons_succ → ZL, length_map → ZT, getElem?_eq_getElem → ZU, length_append → ZV, getD_eq_getElem?_getD → ZW, getElem?_append_left → aaA, getElem?_map → aaD, getElem?_eq_none → aaK, getElem_mem → abG, length_nil → abR, ext_getElem? → abW, length_set → acC, map_replicate → acW, map_set → acX
open Nat renaming zero_add → ZS, mul_one → abO, add_assoc → acD, mod_lt → acG, mul_add → acJ
open Option renaming isNone_some → ZN, isNone_none → ZP
open Option.some renaming injEq → aaH
namespace Go.Proofs.YteelnmpbnaohpaaDoor
open Go Go.En Go.Pu
set_option maxRecDepth 4000
set_option maxHeartbeats 4000000
theorem Pq {v vc : adS} {f cl : List UInt8} {part broken x : Nat} {w : adR} (hg : rF w) (hb : Bs w v f) (hl : f.length <= 9223372036854775807) (hp : part < 256) (hbc : Bs w vc cl) (hlc : cl.length <= 9223372036854775807) (hbr : broken < 65536) (hx : x < 256) :
 gS pg wF #[v, .int .u8 (part : Nat), vc, .int .u16 (broken : Nat), .int .u8 (x : Nat)] w (fun r w' => r = .bool true /\ gT w w' jL) := by
 refine Hn ?_
 obtain ⟨RR, hRR⟩ : ∃ RR : adS -> adR -> Prop, RR = fun r w' => r = .bool true /\ gT w w' jL := ⟨_, rfl⟩
 rw [<- hRR]
 have hR : ∀ w', gT w w' jL -> RR (.bool true) w' := fun w' x => by rw [hRR]; exact ⟨rfl, x⟩
 obtain ⟨a, c, rfl, hc⟩ := hb.len
 obtain ⟨ac, cc, rfl, hcc⟩ := hbc.len
 rw [ZT] at hb hc hbc hcc ⊢
 rw [ZT]
 unfold Eo sN tB
 refine (UF hg).mono ?_
 rintro r w1 ⟨rfl, x1⟩
 have e0 : ((part : Nat) : Int).tmod 30 = ((part % 30 : Nat) : Int) := rfl
 have e1 : IntKind.i64.wrap ((part % 30 : Nat) : Int) = ((part % 30 : Nat) : Int) := fI (by omega) (by omega)
 have e2 : ((part % 30 : Nat) : Int) + 1 = ((part % 30 + 1 : Nat) : Int) := by omega
 by_cases h0 : f.length = 0
 .have d1 : (((f.length : Nat) : Int) == 0) = true := by rw [h0] <;> rfl
  simp (disch := omega) only [eY, gN, dX, stepR_skip, fO, gI, fP, gJ, gC, gE, gR, fZ, eU, fX, fU, gD, fR, fN, fW, fS, fV, gK, gG, fQ, fC, fY, gA, fL, iP, iS, iL, iT, iR, iM, iN, iQ, iO, eP, Result.ok.injEq, Next.value.injEq, true_and, and_true, fI, fJ, gB, fM, gH, gQ, ZO, fD, fF, fG, fE, eZ, eT, fB, eX, eQ, eH, if_true, if_false, ZM, ZS, ZN, ZP, ZR, ZQ, ZL, ZK, eA, dV, aB, dE, dJ, cB, eB, eS, eD, dN, eE, fA, dG, eI, bR, dL, bC, dR, aL, aH, eK, aZ, cI, eJ, aG, eL, dQ, aR, bD, eC, bG, bF, bJ, aP, aM, cG, fH, dY, cJ, cA, dB, cH, dT, bB, eM, bX, dS, bQ, bA, bT, aC, bU, bP, cF, bY, aU, aV, aX, bV, dD, cP, bO, aY, aN, aK, bH, aD, dC, dW, aJ, aI, aT, aF, cY, aE, cL, bW, bE, aO, cM, bZ, aA, dF, cU, cV, cC, dK, cD, dM, dU, cN, eF, eN, bN, aS, dZ, bS, aQ, bM, dI, dA, cS, cO, cR, bK, bL, cX, dO, cQ, dH, cZ, e0, e1, e2, d1]
  exact hR _ x1
 have d1 : (((f.length : Nat) : Int) == 0) = false := by rw [beq_eq_false_iff_ne]; omega
 by_cases h300 : 300 < f.length
 .have d2 : decide ((300 : Int) < (f.length : Int)) = true := by simp; omega
  simp (disch := omega) only [eY, gN, dX, stepR_skip, fO, gI, fP, gJ, gC, gE, gR, fZ, eU, fX, fU, gD, fR, fN, fW, fS, fV, gK, gG, fQ, fC, fY, gA, fL, iP, iS, iL, iT, iR, iM, iN, iQ, iO, eP, Result.ok.injEq, Next.value.injEq, true_and, and_true, fI, fJ, gB, fM, gH, gQ, ZO, fD, fF, fG, fE, eZ, eT, fB, eX, eQ, eH, if_true, if_false, ZM, ZS, ZN, ZP, ZR, ZQ, ZL, ZK, eA, dV, aB, dE, dJ, cB, eB, eS, eD, dN, eE, fA, dG, eI, bR, dL, bC, dR, aL, aH, eK, aZ, cI, eJ, aG, eL, dQ, aR, bD, eC, bG, bF, bJ, aP, aM, cG, fH, dY, cJ, cA, dB, cH, dT, bB, eM, bX, dS, bQ, bA, bT, aC, bU, bP, cF, bY, aU, aV, aX, bV, dD, cP, bO, aY, aN, aK, bH, aD, dC, dW, aJ, aI, aT, aF, cY, aE, cL, bW, bE, aO, cM, bZ, aA, dF, cU, cV, cC, dK, cD, dM, dU, cN, eF, eN, bN, aS, dZ, bS, aQ, bM, dI, dA, cS, cO, cR, bK, bL, cX, dO, cQ, dH, cZ, e0, e1, e2, d1, d2]
  exact hR _ x1
 have d2 : decide ((300 : Int) < (f.length : Int)) = false := by simp; omega
 by_cases h20 : 20 < cl.length
 .have d3 : decide ((20 : Int) < (cl.length : Int)) = true := by simp; omega
  simp (disch := omega) only [eY, gN, dX, stepR_skip, fO, gI, fP, gJ, gC, gE, gR, fZ, eU, fX, fU, gD, fR, fN, fW, fS, fV, gK, gG, fQ, fC, fY, gA, fL, iP, iS, iL, iT, iR, iM, iN, iQ, iO, eP, Result.ok.injEq, Next.value.injEq, true_and, and_true, fI, fJ, gB, fM, gH, gQ, ZO, fD, fF, fG, fE, eZ, eT, fB, eX, eQ, eH, if_true, if_false, ZM, ZS, ZN, ZP, ZR, ZQ, ZL, ZK, eA, dV, aB, dE, dJ, cB, eB, eS, eD, dN, eE, fA, dG, eI, bR, dL, bC, dR, aL, aH, eK, aZ, cI, eJ, aG, eL, dQ, aR, bD, eC, bG, bF, bJ, aP, aM, cG, fH, dY, cJ, cA, dB, cH, dT, bB, eM, bX, dS, bQ, bA, bT, aC, bU, bP, cF, bY, aU, aV, aX, bV, dD, cP, bO, aY, aN, aK, bH, aD, dC, dW, aJ, aI, aT, aF, cY, aE, cL, bW, bE, aO, cM, bZ, aA, dF, cU, cV, cC, dK, cD, dM, dU, cN, eF, eN, bN, aS, dZ, bS, aQ, bM, dI, dA, cS, cO, cR, bK, bL, cX, dO, cQ, dH, cZ, e0, e1, e2, d1, d2, d3]
  exact hR _ x1
 have d3 : decide ((20 : Int) < (cl.length : Int)) = false := by simp; omega
 simp (disch := omega) only [eY, gN, dX, stepR_skip, fO, gI, fP, gJ, gC, gE, gR, fZ, eU, fX, fU, gD, fR, fN, fW, fS, fV, gK, gG, fQ, fC, fY, gA, fL, iP, iS, iL, iT, iR, iM, iN, iQ, iO, eP, Result.ok.injEq, Next.value.injEq, true_and, and_true, fI, fJ, gB, fM, gH, gQ, ZO, fD, fF, fG, fE, eZ, eT, fB, eX, eQ, eH, if_true, if_false, ZM, ZS, ZN, ZP, ZR, ZQ, ZL, ZK, eA, dV, aB, dE, dJ, cB, eB, eS, eD, dN, eE, fA, dG, eI, bR, dL, bC, dR, aL, aH, eK, aZ, cI, eJ, aG, eL, dQ, aR, bD, eC, bG, bF, bJ, aP, aM, cG, fH, dY, cJ, cA, dB, cH, dT, bB, eM, bX, dS, bQ, bA, bT, aC, bU, bP, cF, bY, aU, aV, aX, bV, dD, cP, bO, aY, aN, aK, bH, aD, dC, dW, aJ, aI, aT, aF, cY, aE, cL, bW, bE, aO, cM, bZ, aA, dF, cU, cV, cC, dK, cD, dM, dU, cN, eF, eN, bN, aS, dZ, bS, aQ, bM, dI, dA, cS, cO, cR, bK, bL, cX, dO, cQ, dH, cZ, e0, e1, e2, d1, d2, d3]
 obtain ⟨k, hk⟩ : ∃ k, k = part % 30 + 1 := ⟨_, rfl⟩
 rw [<- hk]
 have hk0 : 0 < k := by omega
 refine (Oa (k := k) (hg.ext x1) (hb.ext x1 (jI _)) (by omega) ⟨by omega, by omega⟩).mono ?_
 rintro r w2 ⟨lv, rfl, hlv, x2⟩
 simp (disch := omega) only [eY, gN, dX, stepR_skip, fO, gI, fP, gJ, gC, gE, gR, fZ, eU, fX, fU, gD, fR, fN, fW, fS, fV, gK, gG, fQ, fC, fY, gA, fL, iP, iS, iL, iT, iR, iM, iN, iQ, iO, eP, Result.ok.injEq, Next.value.injEq, true_and, and_true, fI, fJ, gB, fM, gH, gQ, ZO, fD, fF, fG, fE, eZ, eT, fB, eX, eQ, eH, if_true, if_false, ZM, ZS, ZN, ZP, ZR, ZQ, ZL, ZK, eA, dV, aB, dE, dJ, cB, eB, eS, eD, dN, eE, fA, dG, eI, bR, dL, bC, dR, aL, aH, eK, aZ, cI, eJ, aG, eL, dQ, aR, bD, eC, bG, bF, bJ, aP, aM, cG, fH, dY, cJ, cA, dB, cH, dT, bB, eM, bX, dS, bQ, bA, bT, aC, bU, bP, cF, bY, aU, aV, aX, bV, dD, cP, bO, aY, aN, aK, bH, aD, dC, dW, aJ, aI, aT, aF, cY, aE, cL, bW, bE, aO, cM, bZ, aA, dF, cU, cV, cC, dK, cD, dM, dU, cN, eF, eN, bN, aS, dZ, bS, aQ, bM, dI, dA, cS, cO, cR, bK, bL, cX, dO, cQ, dH, cZ]
 refine rS fun w3 o3 x3 s3 => ?_
 have lv1 : one lv = true := by rcases hlv.2 with ⟨rfl, _⟩ | ⟨_, _, _, rfl, _⟩ <;> rfl
 obtain ⟨mb, hmb⟩ : ∃ mb, mb = w2.heap.size := ⟨_, rfl⟩
 rw [<- hmb] at o3 ⊢
 refine qD o3 rfl (by simp [one]; exact lv1) (by simp) fun w4 o4 x4 s4 => ?_
 have o4 : jH w4 mb (O4 (kL gZ f k) lv) := o4
 have z1 := x1.size
 have z2 := x2.size
 have hlv4 : Cl w4 32 lv (kL gZ f k).leaves.length (UY (kL gZ f k).leaves) := QJ (wI (wI (NA (show IQ w2 (fun b => w1.heap.size <= b) 32 lv _ _ from hlv)) x3 (fun _ _ h => h)) x4 (fun b hb h => by omega))
 have x04 : gT w w4 jL := ((x1.seq x2).seq x3).trans x4 fun y hy h => by omega
 have hb4 := hb.ext x04 (jI _)
 have hbc4 := hbc.ext x04 (jI _)
 have hg4 := hg.ext x04
 clear x3 s3 o3 s4 x4 hlv
 refine (RT (w0 := w4) (gT.refl _ _) (room := 100000) (by decide) (by decide)).mono ?_
 rintro r w5 ⟨p, rfl, h5, x5⟩
 have lm : ∀ {w'}, gT w4 w' jL -> (fK 28 (.pointer (some ⟨mb, 0, none⟩))).run pg w' = .ok (.value (.agg (O4 (kL gZ f k) lv).toArray)) w' := fun x => qI (off := 0) (o4.ext x (fun h => h)) (by simp)
 have lm5 := lm h5.x
 simp (disch := omega) only [eY, gN, dX, stepR_skip, fO, gI, fP, gJ, gC, gE, gR, fZ, eU, fX, fU, gD, fR, fN, fW, fS, fV, gK, gG, fQ, fC, fY, gA, fL, iP, iS, iL, iT, iR, iM, iN, iQ, iO, eP, Result.ok.injEq, Next.value.injEq, true_and, and_true, fI, fJ, gB, fM, gH, gQ, ZO, fD, fF, fG, fE, eZ, eT, fB, eX, eQ, eH, if_true, if_false, ZM, ZS, ZN, ZP, ZR, ZQ, ZL, ZK, eA, dV, aB, dE, dJ, cB, eB, eS, eD, dN, eE, fA, dG, eI, bR, dL, bC, dR, aL, aH, eK, aZ, cI, eJ, aG, eL, dQ, aR, bD, eC, bG, bF, bJ, aP, aM, cG, fH, dY, cJ, cA, dB, cH, dT, bB, eM, bX, dS, bQ, bA, bT, aC, bU, bP, cF, bY, aU, aV, aX, bV, dD, cP, bO, aY, aN, aK, bH, aD, dC, dW, aJ, aI, aT, aF, cY, aE, cL, bW, bE, aO, cM, bZ, aA, dF, cU, cV, cC, dK, cD, dM, dU, cN, eF, eN, bN, aS, dZ, bS, aQ, bM, dI, dA, cS, cO, cR, bK, bL, cX, dO, cQ, dH, cZ, lm5]
 obtain ⟨S1, s1, hO, g1, r1, p1, v1⟩ := RZ (lf := gZ) (cf := iI) (f := f) (k := k) (F0 := none) (S := Qw 100000) (PY _) hk0 rfl rfl rfl (by simp [Qw]) rfl ⟨by show (0 : Int) <= 100000; decide, by show (100000 : Int) <= _; decide⟩ (Ow rfl) (by show ¬ (100000 : Int) < ((0 + 13 + f.length : Nat) : Int); omega)
 refine (Ms h5 hg4 (TK ⟨by decide, by decide⟩ (by decide)) (Ok ⟨hk0, by omega⟩ (by omega)) (HF hlv4 x5 (jI _)) (nm := sF) ⟨by decide, by decide⟩ (by show 0 <= _; omega) hO).mono ?_
 rintro r w6 ⟨⟨q, rfl, _, h6⟩, -⟩
 have n1 : ((0 : Int) != 0) = false := rfl
 have n3 : ((0 : Int) == 0) = true := rfl
 have hmn : (kL gZ f k).leaves.length = mF f.length k := Br gZ f k
 have hcn := NK (L := f.length) hk0
 have hn0 : 0 < mF f.length k := (vQ hk0).2 (by omega)
 obtain ⟨la, loff, lc, hlve, hlcell⟩ : ∃ la loff lc, lv = .slice (some ⟨la, loff, none⟩) (mF f.length k) lc /\ ∀ w', gT w4 w' jL -> ∀ i, i < mF f.length k -> (fK 49 (.pointer (some ⟨la, loff + i * 32, none⟩))).run pg w' = .ok (.value (.agg (((kL gZ f k).leaves.getD i []).map nU).toArray)) w' := by
  have hml := (Ok (f := f) (k := k) ⟨hk0, by omega⟩ (by omega)).len
  have hlv5 := hlv4
  obtain ⟨la, lc, h, hln, hh⟩ := hlv5
  rw [hmn] at h
  obtain ⟨ba, off, rfl, h2⟩ := hh (by omega)
  refine ⟨ba, off, lc, h, fun w' xw i hi => ?_⟩
  obtain ⟨la', lc', h', hln', hh'⟩ := HF hlv4 xw (jI _)
  rw [h] at h'
  simp only [Value.slice.injEq] at h'
  obtain ⟨ba', off', he, h2'⟩ := hh' (by omega)
  rw [he] at h'
  simp only [aaH, Addr.mk.injEq] at h'
  obtain ⟨⟨rfl, rfl, -⟩, -⟩ := h'
  have hmem : (kL gZ f k).leaves.getD i [] ∈ (kL gZ f k).leaves := by
   rw [ZW, ZU (by omega)]; exact abG _
  refine MO (by rw [ZT, hml _ hmem]) fun j hj => ?_
  rw [ZT, hml _ hmem] at hj
  rw [acD, h2' _ (by rw [hln]; omega), Qy hml (by omega) hj]
 obtain ⟨n, hn⟩ : ∃ n, n = mF f.length k := ⟨_, rfl⟩
 have c6 : ∀ {w'}, gT w4 w' jL -> w'.cell? ⟨mb, 2, none⟩ = some lv := fun x => by
  have := (o4.ext x (fun h => h)).cell (off := 2)
  simp only [ZK, ZL] at this
  exact this
 have c66 := c6 h6.x
 rw [<- hn] at hlve hlcell hmn hcn hn0
 rw [hlve] at c66
 simp (disch := omega) only [eY, gN, dX, stepR_skip, fO, gI, fP, gJ, gC, gE, gR, fZ, eU, fX, fU, gD, fR, fN, fW, fS, fV, gK, gG, fQ, fC, fY, gA, fL, iP, iS, iL, iT, iR, iM, iN, iQ, iO, eP, Result.ok.injEq, Next.value.injEq, true_and, and_true, fI, fJ, gB, fM, gH, gQ, ZO, fD, fF, fG, fE, eZ, eT, fB, eX, eQ, eH, if_true, if_false, ZM, ZS, ZN, ZP, ZR, ZQ, ZL, ZK, eA, dV, aB, dE, dJ, cB, eB, eS, eD, dN, eE, fA, dG, eI, bR, dL, bC, dR, aL, aH, eK, aZ, cI, eJ, aG, eL, dQ, aR, bD, eC, bG, bF, bJ, aP, aM, cG, fH, dY, cJ, cA, dB, cH, dT, bB, eM, bX, dS, bQ, bA, bT, aC, bU, bP, cF, bY, aU, aV, aX, bV, dD, cP, bO, aY, aN, aK, bH, aD, dC, dW, aJ, aI, aT, aF, cY, aE, cL, bW, bE, aO, cM, bZ, aA, dF, cU, cV, cC, dK, cD, dM, dU, cN, eF, eN, bN, aS, dZ, bS, aQ, bM, dI, dA, cS, cO, cR, bK, bL, cX, dO, cQ, dH, cZ, n1, c66]
 refine Kv (by omega) (by omega) fun w7 o7 x7 s7 => ?_
 rw [ZO] at o7 ⊢
 obtain ⟨pb, hpb⟩ : ∃ pb, pb = w6.heap.size := ⟨_, rfl⟩
 rw [<- hpb] at o7 ⊢
 have h7 := h6.add (b := pb) x7 (by omega) (by omega)
 have hs1 : s1.hv = List.replicate n false := by
  refine abW fun j => ?_
  have hl := g1.hvl
  by_cases hj : j < n
  .have := v1 j
   rw [ZW, ZU (by omega)] at this
   rw [ZU (by omega), List.getElem?_replicate, if_pos hj]
   exact congrArg some this
  .rw [aaK (by omega), aaK (by simp; omega)]
 have start : WU w4 q p pb f k w7 S1 s1 [(1, 1)] (List.replicate f.length 0) := ⟨h7, g1, r1, rfl, by rw [hs1, acW]; exact o7⟩
 have hpb0 : w4.heap.size <= pb := by have := h6.x.size; omega
 clear h5 lm5 x5 h6 c66 hO g1 r1 p1 v1 hs1 o7 x7 s7 h7 hpb
 unfold sR sM sK tE sZ
 refine kC.rule (fun m (t : adS) w' => ∃ (j : Nat) (S : kD) (s : oQ) (recs : List (Nat × Nat)) (P : List UInt8), m = cl.length - j /\ j <= cl.length /\ t = .int .i64 (j : Nat) /\ WU w4 q p pb f k w' S s recs P) cl.length
  ⟨0, _, _, _, _, rfl, by omega, rfl, start⟩ ?_
 clear start s1 S1
 rintro m t w8 ⟨j, S, s, recs, P, rfl, hj, rfl, h8⟩
 have hz := h8.got.sz
 have hrb := Ov h8.got
 rw [Option.getD_none, abR] at hz
 have hroom : ¬ S.room < ((iY S.seen + 13 : Nat) : Int) := by rw [h8.rm, hz]; omega
 have hvl := h8.got.hvl
 have h8d : WU w4 q p pb f k (dr w8) S s recs P := ⟨h8.ses.new (gT.dr _ _), h8.got, h8.rm, h8.la, kI h8.own⟩
 unfold pG sC
 by_cases hlt : j < cl.length
 .have d4 : decide ((j : Int) < (cl.length : Int)) = true := by simp; omega
  unfold tG tM AN sO
  obtain ⟨ca, coff, hca, hccell⟩ : ∃ ca coff, ac = some ⟨ca, coff, none⟩ /\ (dr w8).cell? ⟨ca, coff + j, none⟩ = some (.int .u8 ((cl[j]).toNat : Nat)) := by
   obtain ⟨ac', n', cc', he, hn', hc', hh⟩ := hbc4.ext h8d.ses.x (jI _)
   simp only [Value.slice.injEq] at he
   obtain ⟨rfl, rfl, rfl⟩ := he
   obtain ⟨ca, coff, rfl, h2⟩ := hh (by omega)
   refine ⟨ca, coff, rfl, ?_⟩
   rw [h2 j hlt, aaD, ZU hlt]
   rfl
  subst hca
  obtain ⟨z, hz'⟩ : ∃ z, z = (cl[j]).toNat := ⟨_, rfl⟩
  have hzl : z < 256 := by rw [hz']; exact (cl[j]).toNat_lt
  rw [<- hz'] at hccell
  have e3 : IntKind.i64.wrap ((z : Nat) : Int) = ((z : Nat) : Int) := fI (by omega) (by omega)
  have e4 : ((z : Nat) : Int).tmod (n : Int) = ((z % n : Nat) : Int) := rfl
  have hzn : z % n < n := acG _ hn0
  obtain ⟨i, hi⟩ : ∃ i, i = z % n := ⟨_, rfl⟩
  rw [<- hi] at e4 hzn
  have c8 := c6 h8d.ses.x
  rw [hlve] at c8
  have hkx := (vQ (L := f.length) hk0 (i := i)).1 (by omega)
  obtain ⟨pe1, pe2⟩ := Pz hkx
  have q1 : (i : Int) + 1 = ((i + 1 : Nat) : Int) := by omega
  have q2 : (k : Int) * ((i + 1 : Nat) : Int) = ((k * (i + 1) : Nat) : Int) := by rw [adQ]
  have q3 : (k : Int) * ((i : Nat) : Int) = ((k * i : Nat) : Int) := by rw [adQ]
  have hb' : k * (i + 1) <= 100000 := by rw [acJ, abO]; omega
  obtain ⟨T, hT⟩ : ∃ T, T = k * (i + 1) := ⟨_, rfl⟩
  rw [<- hT] at q2 hb' pe1 pe2
  have jn : (j : Int).toNat = j := ZO _
  have inn : (i : Int).toNat = i := ZO _
  have put2 : ∀ (to : Nat), to = k * i + Iq f.length k i -> mP (fun gU iG iD zD jG jE mG oJ gY oN w => mR (fun _ _ _ _ _ _ _ _ _ oN w => ∃ m, m < cl.length - j /\ ∃ (j' : Nat) (S : kD) (s : oQ) (recs : List (Nat × Nat)) (P : List UInt8), m = cl.length - j' /\ j' <= cl.length /\ oN = .int .i64 (j' : Nat) /\ WU w4 q p pb f k w S s recs P) gU iG iD zD jG jE mG oJ gY oN w) RR (.slice a f.length c) (.slice (some ⟨ca, coff, none⟩) cl.length cc) (.int .u16 (broken : Nat)) (.int .u8 (x : Nat)) (.int .i64 (k : Nat)) (.pointer (some ⟨mb, 0, none⟩)) (dP p) (dP q) (.slice (some ⟨pb, 0, none⟩) n n) (.int .i64 (j : Nat)) (.int .i64 (i : Nat)) (.int .i64 (to : Nat)) (dr w8) := by
   intro to hto
   unfold mP
   have hse := CI hkx
   have hput := Xe (a := a) (c := c) (i := i) h8d.ses h8.got hb4 hk0 (by omega) (by omega) (by omega)
   obtain ⟨S', s', recs', P', hp1, hg1, hr1, hv1, hl1⟩ := UQ h8.got hk0 (by omega) (i := i) (by omega) hroom
   rw [hp1] at hput
   rw [<- hto] at hput hse
   obtain ⟨P0, hP0⟩ : ∃ P0, P0 = k * i := ⟨_, rfl⟩
   rw [<- hP0] at hput q3 hto
   have hle : P0 <= to := by omega
   simp (disch := omega) only [eY, gN, dX, stepR_skip, fO, gI, fP, gJ, gC, gE, gR, fZ, eU, fX, fU, gD, fR, fN, fW, fS, fV, gK, gG, fQ, fC, fY, gA, fL, iP, iS, iL, iT, iR, iM, iN, iQ, iO, eP, Result.ok.injEq, Next.value.injEq, true_and, and_true, fI, fJ, gB, fM, gH, gQ, ZO, fD, fF, fG, fE, eZ, eT, fB, eX, eQ, eH, if_true, if_false, ZM, ZS, ZN, ZP, ZR, ZQ, ZL, ZK, eA, dV, aB, dE, dJ, cB, eB, eS, eD, dN, eE, fA, dG, eI, bR, dL, bC, dR, aL, aH, eK, aZ, cI, eJ, aG, eL, dQ, aR, bD, eC, bG, bF, bJ, aP, aM, cG, fH, dY, cJ, cA, dB, cH, dT, bB, eM, bX, dS, bQ, bA, bT, aC, bU, bP, cF, bY, aU, aV, aX, bV, dD, cP, bO, aY, aN, aK, bH, aD, dC, dW, aJ, aI, aT, aF, cY, aE, cL, bW, bE, aO, cM, bZ, aA, dF, cU, cV, cC, dK, cD, dM, dU, cN, eF, eN, bN, aS, dZ, bS, aQ, bM, dI, dA, cS, cO, cR, bK, bL, cX, dO, cQ, dH, cZ, q3]
   refine hput.mono ?_
   rintro r w9 ⟨rfl, h9, x9⟩
   have o9 : jH w9 pb (s.hv.map Value.bool) := h8d.own.ext x9 (fun hm => hm.2 (.inr rfl))
   have q4 : (j : Int) + 1 = ((j + 1 : Nat) : Int) := by omega
   simp (disch := omega) only [eY, gN, dX, stepR_skip, fO, gI, fP, gJ, gC, gE, gR, fZ, eU, fX, fU, gD, fR, fN, fW, fS, fV, gK, gG, fQ, fC, fY, gA, fL, iP, iS, iL, iT, iR, iM, iN, iQ, iO, eP, Result.ok.injEq, Next.value.injEq, true_and, and_true, fI, fJ, gB, fM, gH, gQ, ZO, fD, fF, fG, fE, eZ, eT, fB, eX, eQ, eH, if_true, if_false, ZM, ZS, ZN, ZP, ZR, ZQ, ZL, ZK, eA, dV, aB, dE, dJ, cB, eB, eS, eD, dN, eE, fA, dG, eI, bR, dL, bC, dR, aL, aH, eK, aZ, cI, eJ, aG, eL, dQ, aR, bD, eC, bG, bF, bJ, aP, aM, cG, fH, dY, cJ, cA, dB, cH, dT, bB, eM, bX, dS, bQ, bA, bT, aC, bU, bP, cF, bY, aU, aV, aX, bV, dD, cP, bO, aY, aN, aK, bH, aD, dC, dW, aJ, aI, aT, aF, cY, aE, cL, bW, bE, aO, cM, bZ, aA, dF, cU, cV, cC, dK, cD, dM, dU, cN, eF, eN, bN, aS, dZ, bS, aQ, bM, dI, dA, cS, cO, cR, bK, bL, cX, dO, cQ, dH, cZ, n1, inn]
   refine Er o9 rfl (by rw [ZT]; omega) fun wa oa xa sa => ?_
   have oset : (s.hv.map Value.bool).set i (.bool true) = s'.hv.map Value.bool := by rw [hv1, acX]
   rw [oset] at oa
   unfold mR
   simp (disch := omega) only [eY, gN, dX, stepR_skip, fO, gI, fP, gJ, gC, gE, gR, fZ, eU, fX, fU, gD, fR, fN, fW, fS, fV, gK, gG, fQ, fC, fY, gA, fL, iP, iS, iL, iT, iR, iM, iN, iQ, iO, eP, Result.ok.injEq, Next.value.injEq, true_and, and_true, fI, fJ, gB, fM, gH, gQ, ZO, fD, fF, fG, fE, eZ, eT, fB, eX, eQ, eH, if_true, if_false, ZM, ZS, ZN, ZP, ZR, ZQ, ZL, ZK, eA, dV, aB, dE, dJ, cB, eB, eS, eD, dN, eE, fA, dG, eI, bR, dL, bC, dR, aL, aH, eK, aZ, cI, eJ, aG, eL, dQ, aR, bD, eC, bG, bF, bJ, aP, aM, cG, fH, dY, cJ, cA, dB, cH, dT, bB, eM, bX, dS, bQ, bA, bT, aC, bU, bP, cF, bY, aU, aV, aX, bV, dD, cP, bO, aY, aN, aK, bH, aD, dC, dW, aJ, aI, aT, aF, cY, aE, cL, bW, bE, aO, cM, bZ, aA, dF, cU, cV, cC, dK, cD, dM, dU, cN, eF, eN, bN, aS, dZ, bS, aQ, bM, dI, dA, cS, cO, cR, bK, bL, cX, dO, cQ, dH, cZ, q4]
   exact ⟨cl.length - (j + 1), by omega, j + 1, S', s', recs', P', rfl, by omega, rfl, ⟨h9.turn o9 (.inr rfl) hpb0 xa, hg1, hr1.trans h8.rm, hl1.trans h8.la, oa⟩⟩
  by_cases hT2 : f.length < T
  .have d5 : decide ((f.length : Int) < (T : Int)) = true := by simp; omega
   have := put2 f.length (pe2 hT2).symm
   simp (disch := omega) only [eY, gN, dX, stepR_skip, fO, gI, fP, gJ, gC, gE, gR, fZ, eU, fX, fU, gD, fR, fN, fW, fS, fV, gK, gG, fQ, fC, fY, gA, fL, iP, iS, iL, iT, iR, iM, iN, iQ, iO, eP, Result.ok.injEq, Next.value.injEq, true_and, and_true, fI, fJ, gB, fM, gH, gQ, ZO, fD, fF, fG, fE, eZ, eT, fB, eX, eQ, eH, if_true, if_false, ZM, ZS, ZN, ZP, ZR, ZQ, ZL, ZK, eA, dV, aB, dE, dJ, cB, eB, eS, eD, dN, eE, fA, dG, eI, bR, dL, bC, dR, aL, aH, eK, aZ, cI, eJ, aG, eL, dQ, aR, bD, eC, bG, bF, bJ, aP, aM, cG, fH, dY, cJ, cA, dB, cH, dT, bB, eM, bX, dS, bQ, bA, bT, aC, bU, bP, cF, bY, aU, aV, aX, bV, dD, cP, bO, aY, aN, aK, bH, aD, dC, dW, aJ, aI, aT, aF, cY, aE, cL, bW, bE, aO, cM, bZ, aA, dF, cU, cV, cC, dK, cD, dM, dU, cN, eF, eN, bN, aS, dZ, bS, aQ, bM, dI, dA, cS, cO, cR, bK, bL, cX, dO, cQ, dH, cZ, d4, jn, hccell, e3, c8, e4, q1, q2, d5]
   exact this
  .have d5 : decide ((f.length : Int) < (T : Int)) = false := by simp; omega
   have := put2 T (pe1 (by omega)).symm
   simp (disch := omega) only [eY, gN, dX, stepR_skip, fO, gI, fP, gJ, gC, gE, gR, fZ, eU, fX, fU, gD, fR, fN, fW, fS, fV, gK, gG, fQ, fC, fY, gA, fL, iP, iS, iL, iT, iR, iM, iN, iQ, iO, eP, Result.ok.injEq, Next.value.injEq, true_and, and_true, fI, fJ, gB, fM, gH, gQ, ZO, fD, fF, fG, fE, eZ, eT, fB, eX, eQ, eH, if_true, if_false, ZM, ZS, ZN, ZP, ZR, ZQ, ZL, ZK, eA, dV, aB, dE, dJ, cB, eB, eS, eD, dN, eE, fA, dG, eI, bR, dL, bC, dR, aL, aH, eK, aZ, cI, eJ, aG, eL, dQ, aR, bD, eC, bG, bF, bJ, aP, aM, cG, fH, dY, cJ, cA, dB, cH, dT, bB, eM, bX, dS, bQ, bA, bT, aC, bU, bP, cF, bY, aU, aV, aX, bV, dD, cP, bO, aY, aN, aK, bH, aD, dC, dW, aJ, aI, aT, aF, cY, aE, cL, bW, bE, aO, cM, bZ, aA, dF, cU, cV, cC, dK, cD, dM, dU, cN, eF, eN, bN, aS, dZ, bS, aQ, bM, dI, dA, cS, cO, cR, bK, bL, cX, dO, cQ, dH, cZ, d4, jn, hccell, e3, c8, e4, q1, q2, d5]
   exact this
 have d4 : decide ((j : Int) < (cl.length : Int)) = false := by simp; omega
 simp (disch := omega) only [eY, gN, dX, stepR_skip, fO, gI, fP, gJ, gC, gE, gR, fZ, eU, fX, fU, gD, fR, fN, fW, fS, fV, gK, gG, fQ, fC, fY, gA, fL, iP, iS, iL, iT, iR, iM, iN, iQ, iO, eP, Result.ok.injEq, Next.value.injEq, true_and, and_true, fI, fJ, gB, fM, gH, gQ, ZO, fD, fF, fG, fE, eZ, eT, fB, eX, eQ, eH, if_true, if_false, ZM, ZS, ZN, ZP, ZR, ZQ, ZL, ZK, eA, dV, aB, dE, dJ, cB, eB, eS, eD, dN, eE, fA, dG, eI, bR, dL, bC, dR, aL, aH, eK, aZ, cI, eJ, aG, eL, dQ, aR, bD, eC, bG, bF, bJ, aP, aM, cG, fH, dY, cJ, cA, dB, cH, dT, bB, eM, bX, dS, bQ, bA, bT, aC, bU, bP, cF, bY, aU, aV, aX, bV, dD, cP, bO, aY, aN, aK, bH, aD, dC, dW, aJ, aI, aT, aF, cY, aE, cL, bW, bE, aO, cM, bZ, aA, dF, cU, cV, cC, dK, cD, dM, dU, cN, eF, eN, bN, aS, dZ, bS, aQ, bM, dI, dA, cS, cO, cR, bK, bL, cX, dO, cQ, dH, cZ, d4]
 clear hlt d4
 unfold sI tA
 refine (R6 (n := iC sF) h8.ses (h8.got.bk (by decide)) h8.got.calm.up).mono ?_
 rintro r w9 ⟨hr, h9, x9⟩
 rw [h8.got.gP] at hr
 rcases hr with ⟨h, _⟩ | ⟨b, vv, hbb, rfl, ho⟩
 .cases h
 cases hbb
 have hPl := h8.got.Pl
 obtain ⟨bb, bcap, rest, hvv, ob, hcap, hbbs, hbcl, hd9⟩ := h8.ses.dses.hold2 x9 ho (by omega)
 subst hvv
 have e3 : IntKind.i64.wrap ((broken : Nat) : Int) = ((broken : Nat) : Int) := fI (by omega) (by omega)
 have e4 : ((broken : Nat) : Int).tmod (f.length : Int) = ((broken % f.length : Nat) : Int) := rfl
 have hatl : broken % f.length < f.length := acG _ (by omega)
 obtain ⟨at', hat⟩ : ∃ at', at' = broken % f.length := ⟨_, rfl⟩
 rw [<- hat] at e4 hatl
 have d4 : (((f.length : Nat) : Int) != ((f.length : Nat) : Int)) = false := by simp
 have atn : (at' : Int).toNat = at' := ZO _
 obtain ⟨ch, hch⟩ : ∃ ch, ch = P[(at')]'(by omega) := ⟨_, rfl⟩
 have hcell := ob.cell (off := at')
 rw [aaA (by rw [ZT]; omega), aaD, ZU (by omega), <- hch] at hcell
 have hcell : w9.cell? ⟨bb, at', none⟩ = some (.int .u8 (ch.toNat : Nat)) := hcell
 obtain ⟨y, hy⟩ := VA (ch.toNat : Nat) (x : Nat)
 rw [hPl]
 simp (disch := omega) only [eY, gN, dX, stepR_skip, fO, gI, fP, gJ, gC, gE, gR, fZ, eU, fX, fU, gD, fR, fN, fW, fS, fV, gK, gG, fQ, fC, fY, gA, fL, iP, iS, iL, iT, iR, iM, iN, iQ, iO, eP, Result.ok.injEq, Next.value.injEq, true_and, and_true, fI, fJ, gB, fM, gH, gQ, ZO, fD, fF, fG, fE, eZ, eT, fB, eX, eQ, eH, if_true, if_false, ZM, ZS, ZN, ZP, ZR, ZQ, ZL, ZK, eA, dV, aB, dE, dJ, cB, eB, eS, eD, dN, eE, fA, dG, eI, bR, dL, bC, dR, aL, aH, eK, aZ, cI, eJ, aG, eL, dQ, aR, bD, eC, bG, bF, bJ, aP, aM, cG, fH, dY, cJ, cA, dB, cH, dT, bB, eM, bX, dS, bQ, bA, bT, aC, bU, bP, cF, bY, aU, aV, aX, bV, dD, cP, bO, aY, aN, aK, bH, aD, dC, dW, aJ, aI, aT, aF, cY, aE, cL, bW, bE, aO, cM, bZ, aA, dF, cU, cV, cC, dK, cD, dM, dU, cN, eF, eN, bN, aS, dZ, bS, aQ, bM, dI, dA, cS, cO, cR, bK, bL, cX, dO, cQ, dH, cZ, n1, d4, e3, e4, atn, hcell, hy, ZS]
 refine Rd (off := at') ob rfl (by rw [ZV, ZT]; omega) fun wa oa xa sa => ?_
 have hset : (P.map nU ++ rest).set at' (.int .u8 (y.toNat : Nat)) = (P.set at' y).map nU ++ rest := by
  rw [List.set_append_left _ _ (by rw [ZT]; omega), acX]
  rfl
 rw [hset] at oa
 obtain ⟨B, hB⟩ : ∃ B, B = P.set at' y := ⟨_, rfl⟩
 rw [<- hB] at oa
 have hBl : B.length = f.length := by rw [hB, acC]; exact hPl
 have hbB : ∀ {w'}, jH w' bb (B.map nU ++ rest) -> Bs w' (.slice (some ⟨bb, 0, none⟩) f.length bcap) B := fun o => by
  have := o.bs (off := 0) (c := bcap) (l := B) (by omega) (fun i hi => by
   rw [ZS, aaA (by rw [ZT]; exact hi), aaD, ZU hi] <;> rfl)
  rw [hBl] at this
  exact this
 have hda := hd9.turn (.inr rfl) (by have := h8.ses.x.size; omega) xa
 obtain ⟨T1, T2, t2, hw1, hz1, hO, hep, hhl, hhv⟩ := Rl h8.got hk0 hBl (by rw [h8.la]; omega) hroom
 have Bk := h8.got.bk (n := 8) (by decide)
 have Bk1 : Ec 7 T1 := by have := Q6 (n := 7) (k := iC sF) (a := ((0 : Nat) : Int)) (l := B) Bk; rw [hw1] at this; exact this
 refine (Sh (name := iC sF) (a := 0) hda Bk.bd (hbB oa) (by omega) (by decide)).mono ?_
 rintro r wb ⟨rfl, hdb, xb⟩
 rw [show GS S (iC sF) 0 B = (T1, 0) from hw1] at hdb
 have lmb := lm hdb.x
 simp (disch := omega) only [eY, gN, dX, stepR_skip, fO, gI, fP, gJ, gC, gE, gR, fZ, eU, fX, fU, gD, fR, fN, fW, fS, fV, gK, gG, fQ, fC, fY, gA, fL, iP, iS, iL, iT, iR, iM, iN, iQ, iO, eP, Result.ok.injEq, Next.value.injEq, true_and, and_true, fI, fJ, gB, fM, gH, gQ, ZO, fD, fF, fG, fE, eZ, eT, fB, eX, eQ, eH, if_true, if_false, ZM, ZS, ZN, ZP, ZR, ZQ, ZL, ZK, eA, dV, aB, dE, dJ, cB, eB, eS, eD, dN, eE, fA, dG, eI, bR, dL, bC, dR, aL, aH, eK, aZ, cI, eJ, aG, eL, dQ, aR, bD, eC, bG, bF, bJ, aP, aM, cG, fH, dY, cJ, cA, dB, cH, dT, bB, eM, bX, dS, bQ, bA, bT, aC, bU, bP, cF, bY, aU, aV, aX, bV, dD, cP, bO, aY, aN, aK, bH, aD, dC, dW, aJ, aI, aT, aF, cY, aE, cL, bW, bE, aO, cM, bZ, aA, dF, cU, cV, cC, dK, cD, dM, dU, cN, eF, eN, bN, aS, dZ, bS, aQ, bM, dI, dA, cS, cO, cR, bK, bL, cX, dO, cQ, dH, cZ, lmb]
 refine (Ms hdb hg4 (Bk1.le (by decide)) (Ok ⟨hk0, by omega⟩ (by omega)) (HF hlv4 hdb.x (jI _)) (nm := sF) ⟨by decide, by decide⟩ (by rw [hz1]; omega) hO).mono ?_
 rintro r wc ⟨⟨qq, rfl, _, hsc⟩, xc⟩
 simp (disch := omega) only [eY, gN, dX, stepR_skip, fO, gI, fP, gJ, gC, gE, gR, fZ, eU, fX, fU, gD, fR, fN, fW, fS, fV, gK, gG, fQ, fC, fY, gA, fL, iP, iS, iL, iT, iR, iM, iN, iQ, iO, eP, Result.ok.injEq, Next.value.injEq, true_and, and_true, fI, fJ, gB, fM, gH, gQ, ZO, fD, fF, fG, fE, eZ, eT, fB, eX, eQ, eH, if_true, if_false, ZM, ZS, ZN, ZP, ZR, ZQ, ZL, ZK, eA, dV, aB, dE, dJ, cB, eB, eS, eD, dN, eE, fA, dG, eI, bR, dL, bC, dR, aL, aH, eK, aZ, cI, eJ, aG, eL, dQ, aR, bD, eC, bG, bF, bJ, aP, aM, cG, fH, dY, cJ, cA, dB, cH, dT, bB, eM, bX, dS, bQ, bA, bT, aC, bU, bP, cF, bY, aU, aV, aX, bV, dD, cP, bO, aY, aN, aK, bH, aD, dC, dW, aJ, aI, aT, aF, cY, aE, cL, bW, bE, aO, cM, bZ, aA, dF, cU, cV, cC, dK, cD, dM, dU, cN, eF, eN, bN, aS, dZ, bS, aQ, bM, dI, dA, cS, cO, cR, bK, bL, cX, dO, cQ, dH, cZ, n1]
 refine (QZ hsc).mono ?_
 rintro r wd ⟨hho, hsd, xd⟩
 have od : jH wd bb (B.map nU ++ rest) := ((oa.ext xb (fun hm => hm.2 (.inr rfl))).ext xc (fun hm => hm.2 (.inr rfl))).ext xd (fun h => h)
 have opd : jH wd pb (s.hv.map Value.bool) := by
  have := h8.own.ext x9 (fun h => h)
  have := this.ext xa (fun h => by have := h8.own.lt; have := h8.ses.x.size; omega)
  exact ((this.ext xb (fun hm => hm.2 (.inl (.inr rfl)))).ext xc (fun hm => hm.2 (.inl (.inr rfl)))).ext xd (fun h => h)
 have hbd := hbB od
 obtain ⟨ha, hcp, rfl⟩ := hho.len
 have hhs := hho.sl
 rw [hhl, <- hn] at hhs ⊢
 have x4d := hsd.x
 clear ob oa hd9 hda xa sa xb xc hdb hsc hcell hO hw1 x9 ho h9
 unfold sS sG sP sQ sW
 refine kC.rule (fun m (t : adS) w' => ∃ (i : Nat), m = n - i /\ i <= n /\ t = .int .i64 (i : Nat) /\ gT wd w' jL) n
  ⟨0, rfl, by omega, rfl, gT.refl _ _⟩ ?_
 rintro m t we ⟨i, rfl, hi, rfl, xe⟩
 unfold pV vM
 by_cases hlt : i < n
 .have d5 : decide ((i : Int) < (n : Int)) = true := by simp; omega
  unfold uQ vG BK uY
  have hkx := (vQ (L := f.length) hk0 (i := i)).1 (by omega)
  obtain ⟨pe1, pe2⟩ := Pz hkx
  have q1 : (i : Int) + 1 = ((i + 1 : Nat) : Int) := by omega
  have q2 : (k : Int) * ((i + 1 : Nat) : Int) = ((k * (i + 1) : Nat) : Int) := by rw [adQ]
  have q3 : (k : Int) * ((i : Nat) : Int) = ((k * i : Nat) : Int) := by rw [adQ]
  have q4 : (i : Int) + 1 = ((i + 1 : Nat) : Int) := by omega
  have hb' : k * (i + 1) <= 100000 := by rw [acJ, abO]; omega
  obtain ⟨T, hT⟩ : ∃ T, T = k * (i + 1) := ⟨_, rfl⟩
  rw [<- hT] at q2 hb' pe1 pe2
  have inn : (i : Int).toNat = i := ZO _
  have fin : ∀ (to : Nat), to = k * i + Iq f.length k i -> mY (fun gU jG jE gY oI t26 jM nA w => lS (fun _ _ _ _ _ _ _ nA w => ∃ m, m < n - i /\ ∃ (i' : Nat), m = n - i' /\ i' <= n /\ nA = .int .i64 (i' : Nat) /\ gT wd w jL) gU jG jE gY oI t26 jM nA w) RR (.slice a f.length c) (.int .i64 (k : Nat)) (.pointer (some ⟨mb, 0, none⟩)) (.slice (some ⟨pb, 0, none⟩) n n) (.slice (some ⟨bb, 0, none⟩) f.length bcap) (dP qq) (.slice ha n hcp) (.int .i64 (i : Nat)) (.int .i64 (to : Nat)) we := by
   intro to hto
   have hse := CI hkx
   have hbi := Rp (k := k) (i := i) (f := B) (a := some ⟨bb, 0, none⟩) (c := bcap) (by rw [hBl]; exact hbd) (by rw [hBl]; exact hkx)
   rw [hBl] at hbi
   obtain ⟨hab, hoff, hha, hcl⟩ : ∃ hab hoff, ha = some ⟨hab, hoff, none⟩ /\ ∀ {w'}, gT wd w' jL -> w'.cell? ⟨hab, hoff + i, none⟩ = some (.bool (t2.hv.getD i false)) := by
    obtain ⟨a', n', c', he, hn', hc', hh⟩ := hhs
    simp only [Value.slice.injEq] at he
    obtain ⟨rfl, rfl, rfl⟩ := he
    obtain ⟨hab, hoff, rfl, h2⟩ := hh (by omega)
    refine ⟨hab, hoff, rfl, fun x => ?_⟩
    have := h2 i (by omega)
    rw [aaD, ZU (by omega)] at this
    rw [ZW, ZU (by omega)]
    exact CP this x (fun h => h)
   subst hha
   have hpc : ∀ {w'}, gT wd w' jL -> w'.cell? ⟨pb, i, none⟩ = some (.bool (s.hv.getD i false)) := fun x => by
    have := (opd.ext x (fun h => h)).cell (off := i)
    rw [aaD, ZU (by omega)] at this
    rw [ZW, ZU (by omega)]
    exact this
   have xed : gT wd (dr we) jL := xe.seq (gT.dr _ _)
   have hh1 := hcl xe
   have hp1 := hpc xe
   have hh2 := hcl xed
   have hp2 := hpc xed
   have hhi := hhv i (by omega)
   unfold mY
   rw [<- hto] at hse hbi
   obtain ⟨P0, hP0⟩ : ∃ P0, P0 = k * i := ⟨_, rfl⟩
   rw [<- hP0] at q3 hto hbi
   have hle : P0 <= to := by omega
   have hle2 : to <= bcap := by omega
   cases hv : s.hv.getD i false with
   | false =>
     rw [hv, Bool.false_and] at hhi
     rw [hhi] at hh1 hh2
     rw [hv] at hp1 hp2
     have bq : (!(false == false)) = false := rfl
     unfold lS
     simp (disch := omega) only [eY, gN, dX, stepR_skip, fO, gI, fP, gJ, gC, gE, gR, fZ, eU, fX, fU, gD, fR, fN, fW, fS, fV, gK, gG, fQ, fC, fY, gA, fL, iP, iS, iL, iT, iR, iM, iN, iQ, iO, eP, Result.ok.injEq, Next.value.injEq, true_and, and_true, fI, fJ, gB, fM, gH, gQ, ZO, fD, fF, fG, fE, eZ, eT, fB, eX, eQ, eH, if_true, if_false, ZM, ZS, ZN, ZP, ZR, ZQ, ZL, ZK, eA, dV, aB, dE, dJ, cB, eB, eS, eD, dN, eE, fA, dG, eI, bR, dL, bC, dR, aL, aH, eK, aZ, cI, eJ, aG, eL, dQ, aR, bD, eC, bG, bF, bJ, aP, aM, cG, fH, dY, cJ, cA, dB, cH, dT, bB, eM, bX, dS, bQ, bA, bT, aC, bU, bP, cF, bY, aU, aV, aX, bV, dD, cP, bO, aY, aN, aK, bH, aD, dC, dW, aJ, aI, aT, aF, cY, aE, cL, bW, bE, aO, cM, bZ, aA, dF, cU, cV, cC, dK, cD, dM, dU, cN, eF, eN, bN, aS, dZ, bS, aQ, bM, dI, dA, cS, cO, cR, bK, bL, cX, dO, cQ, dH, cZ, inn, hh1, hp1, hh2, hp2, eI, bq, q4, ZS]
     exact ⟨n - (i + 1), by omega, i + 1, rfl, by omega, rfl, xed⟩
   | true =>
     rw [hv, Bool.true_and] at hhi
     rw [hv] at hp1 hp2
     have c8 := c6 (x4d.seq xe)
     rw [hlve] at c8
     have l8 := hlcell we (x4d.seq xe) i hlt
     simp (disch := omega) only [eY, gN, dX, stepR_skip, fO, gI, fP, gJ, gC, gE, gR, fZ, eU, fX, fU, gD, fR, fN, fW, fS, fV, gK, gG, fQ, fC, fY, gA, fL, iP, iS, iL, iT, iR, iM, iN, iQ, iO, eP, Result.ok.injEq, Next.value.injEq, true_and, and_true, fI, fJ, gB, fM, gH, gQ, ZO, fD, fF, fG, fE, eZ, eT, fB, eX, eQ, eH, if_true, if_false, ZM, ZS, ZN, ZP, ZR, ZQ, ZL, ZK, eA, dV, aB, dE, dJ, cB, eB, eS, eD, dN, eE, fA, dG, eI, bR, dL, bC, dR, aL, aH, eK, aZ, cI, eJ, aG, eL, dQ, aR, bD, eC, bG, bF, bJ, aP, aM, cG, fH, dY, cJ, cA, dB, cH, dT, bB, eM, bX, dS, bQ, bA, bT, aC, bU, bP, cF, bY, aU, aV, aX, bV, dD, cP, bO, aY, aN, aK, bH, aD, dC, dW, aJ, aI, aT, aF, cY, aE, cL, bW, bE, aO, cM, bZ, aA, dF, cU, cV, cC, dK, cD, dM, dU, cN, eF, eN, bN, aS, dZ, bS, aQ, bM, dI, dA, cS, cO, cR, bK, bL, cX, dO, cQ, dH, cZ, inn, hh1, hp1, hh2, hp2, q3, ZS, c8, l8]
     have hml := (Ok (f := f) (k := k) ⟨hk0, by omega⟩ (by omega)).len
     have hllen : ((kL gZ f k).leaves.getD i []).length = 32 := hml _ (by rw [ZW, ZU (by omega)]; exact abG _)
     refine (SK (l := vV f.length k i B) (hg4.ext (x4d.seq xed)) (hbi.ext xed (jI _)) (by have := GR f.length k i B; omega)).mono ?_
     rintro r wl ⟨rfl, xl⟩
     have xdl := xed.seq xl
     have ca := c6 (x4d.seq xed)
     have cb := c6 (x4d.seq xdl)
     rw [hlve] at ca cb
     have la1 := hlcell _ (x4d.seq xed) i hlt
     have lb1 := hlcell wl (x4d.seq xdl) i hlt
     have hh3 := hcl xdl
     have hs := fun ox oy => Tk (ox := ox) (oy := oy) (a := gZ (vV f.length k i B)) (b := (kL gZ f k).leaves.getD i []) (wT _) hllen wl
     rw [<- hhi] at hs
     have bq : ∀ z : Bool, (!(z == z)) = false := fun z => by cases z <;> rfl
     unfold lS
     simp (disch := omega) only [eY, gN, dX, stepR_skip, fO, gI, fP, gJ, gC, gE, gR, fZ, eU, fX, fU, gD, fR, fN, fW, fS, fV, gK, gG, fQ, fC, fY, gA, fL, iP, iS, iL, iT, iR, iM, iN, iQ, iO, eP, Result.ok.injEq, Next.value.injEq, true_and, and_true, fI, fJ, gB, fM, gH, gQ, ZO, fD, fF, fG, fE, eZ, eT, fB, eX, eQ, eH, if_true, if_false, ZM, ZS, ZN, ZP, ZR, ZQ, ZL, ZK, eA, dV, aB, dE, dJ, cB, eB, eS, eD, dN, eE, fA, dG, eI, bR, dL, bC, dR, aL, aH, eK, aZ, cI, eJ, aG, eL, dQ, aR, bD, eC, bG, bF, bJ, aP, aM, cG, fH, dY, cJ, cA, dB, cH, dT, bB, eM, bX, dS, bQ, bA, bT, aC, bU, bP, cF, bY, aU, aV, aX, bV, dD, cP, bO, aY, aN, aK, bH, aD, dC, dW, aJ, aI, aT, aF, cY, aE, cL, bW, bE, aO, cM, bZ, aA, dF, cU, cV, cC, dK, cD, dM, dU, cN, eF, eN, bN, aS, dZ, bS, aQ, bM, dI, dA, cS, cO, cR, bK, bL, cX, dO, cQ, dH, cZ, ca, cb, la1, lb1, hs, hh3, eI, bq, q4, inn]
     exact ⟨n - (i + 1), by omega, i + 1, rfl, by omega, rfl, xdl⟩
  by_cases hT2 : f.length < T
  .have d6 : decide ((f.length : Int) < (T : Int)) = true := by simp; omega
   have := fin f.length (pe2 hT2).symm
   simp (disch := omega) only [eY, gN, dX, stepR_skip, fO, gI, fP, gJ, gC, gE, gR, fZ, eU, fX, fU, gD, fR, fN, fW, fS, fV, gK, gG, fQ, fC, fY, gA, fL, iP, iS, iL, iT, iR, iM, iN, iQ, iO, eP, Result.ok.injEq, Next.value.injEq, true_and, and_true, fI, fJ, gB, fM, gH, gQ, ZO, fD, fF, fG, fE, eZ, eT, fB, eX, eQ, eH, if_true, if_false, ZM, ZS, ZN, ZP, ZR, ZQ, ZL, ZK, eA, dV, aB, dE, dJ, cB, eB, eS, eD, dN, eE, fA, dG, eI, bR, dL, bC, dR, aL, aH, eK, aZ, cI, eJ, aG, eL, dQ, aR, bD, eC, bG, bF, bJ, aP, aM, cG, fH, dY, cJ, cA, dB, cH, dT, bB, eM, bX, dS, bQ, bA, bT, aC, bU, bP, cF, bY, aU, aV, aX, bV, dD, cP, bO, aY, aN, aK, bH, aD, dC, dW, aJ, aI, aT, aF, cY, aE, cL, bW, bE, aO, cM, bZ, aA, dF, cU, cV, cC, dK, cD, dM, dU, cN, eF, eN, bN, aS, dZ, bS, aQ, bM, dI, dA, cS, cO, cR, bK, bL, cX, dO, cQ, dH, cZ, d5, q1, q2, d6]
   exact this
  .have d6 : decide ((f.length : Int) < (T : Int)) = false := by simp; omega
   have := fin T (pe1 (by omega)).symm
   simp (disch := omega) only [eY, gN, dX, stepR_skip, fO, gI, fP, gJ, gC, gE, gR, fZ, eU, fX, fU, gD, fR, fN, fW, fS, fV, gK, gG, fQ, fC, fY, gA, fL, iP, iS, iL, iT, iR, iM, iN, iQ, iO, eP, Result.ok.injEq, Next.value.injEq, true_and, and_true, fI, fJ, gB, fM, gH, gQ, ZO, fD, fF, fG, fE, eZ, eT, fB, eX, eQ, eH, if_true, if_false, ZM, ZS, ZN, ZP, ZR, ZQ, ZL, ZK, eA, dV, aB, dE, dJ, cB, eB, eS, eD, dN, eE, fA, dG, eI, bR, dL, bC, dR, aL, aH, eK, aZ, cI, eJ, aG, eL, dQ, aR, bD, eC, bG, bF, bJ, aP, aM, cG, fH, dY, cJ, cA, dB, cH, dT, bB, eM, bX, dS, bQ, bA, bT, aC, bU, bP, cF, bY, aU, aV, aX, bV, dD, cP, bO, aY, aN, aK, bH, aD, dC, dW, aJ, aI, aT, aF, cY, aE, cL, bW, bE, aO, cM, bZ, aA, dF, cU, cV, cC, dK, cD, dM, dU, cN, eF, eN, bN, aS, dZ, bS, aQ, bM, dI, dA, cS, cO, cR, bK, bL, cX, dO, cQ, dH, cZ, d5, q1, q2, d6]
   exact this
 have d5 : decide ((i : Int) < (n : Int)) = false := by simp; omega
 simp (disch := omega) only [eY, gN, dX, stepR_skip, fO, gI, fP, gJ, gC, gE, gR, fZ, eU, fX, fU, gD, fR, fN, fW, fS, fV, gK, gG, fQ, fC, fY, gA, fL, iP, iS, iL, iT, iR, iM, iN, iQ, iO, eP, Result.ok.injEq, Next.value.injEq, true_and, and_true, fI, fJ, gB, fM, gH, gQ, ZO, fD, fF, fG, fE, eZ, eT, fB, eX, eQ, eH, if_true, if_false, ZM, ZS, ZN, ZP, ZR, ZQ, ZL, ZK, eA, dV, aB, dE, dJ, cB, eB, eS, eD, dN, eE, fA, dG, eI, bR, dL, bC, dR, aL, aH, eK, aZ, cI, eJ, aG, eL, dQ, aR, bD, eC, bG, bF, bJ, aP, aM, cG, fH, dY, cJ, cA, dB, cH, dT, bB, eM, bX, dS, bQ, bA, bT, aC, bU, bP, cF, bY, aU, aV, aX, bV, dD, cP, bO, aY, aN, aK, bH, aD, dC, dW, aJ, aI, aT, aF, cY, aE, cL, bW, bE, aO, cM, bZ, aA, dF, cU, cV, cC, dK, cD, dM, dU, cN, eF, eN, bN, aS, dZ, bS, aQ, bM, dI, dA, cS, cO, cR, bK, bL, cX, dO, cQ, dH, cZ, d5]
 unfold pZ
 refine (PK (hsd.new xe)).mono ?_
 rintro r wf ⟨rfl, hw⟩
 rw [hw]; clear hw wf
 rw [hep, h8.la]
 have k5 : (((1 + 1 : Nat) : Int) == 2) = true := rfl
 simp (disch := omega) only [eY, gN, dX, stepR_skip, fO, gI, fP, gJ, gC, gE, gR, fZ, eU, fX, fU, gD, fR, fN, fW, fS, fV, gK, gG, fQ, fC, fY, gA, fL, iP, iS, iL, iT, iR, iM, iN, iQ, iO, eP, Result.ok.injEq, Next.value.injEq, true_and, and_true, fI, fJ, gB, fM, gH, gQ, ZO, fD, fF, fG, fE, eZ, eT, fB, eX, eQ, eH, if_true, if_false, ZM, ZS, ZN, ZP, ZR, ZQ, ZL, ZK, eA, dV, aB, dE, dJ, cB, eB, eS, eD, dN, eE, fA, dG, eI, bR, dL, bC, dR, aL, aH, eK, aZ, cI, eJ, aG, eL, dQ, aR, bD, eC, bG, bF, bJ, aP, aM, cG, fH, dY, cJ, cA, dB, cH, dT, bB, eM, bX, dS, bQ, bA, bT, aC, bU, bP, cF, bY, aU, aV, aX, bV, dD, cP, bO, aY, aN, aK, bH, aD, dC, dW, aJ, aI, aT, aF, cY, aE, cL, bW, bE, aO, cM, bZ, aA, dF, cU, cV, cC, dK, cD, dM, dU, cN, eF, eN, bN, aS, dZ, bS, aQ, bM, dI, dA, cS, cO, cR, bK, bL, cX, dO, cQ, dH, cZ, k5]
 exact hR _ (x04.seq (x4d.seq xe))
end Go.Proofs.YteelnmpbnaohpaaDoor
