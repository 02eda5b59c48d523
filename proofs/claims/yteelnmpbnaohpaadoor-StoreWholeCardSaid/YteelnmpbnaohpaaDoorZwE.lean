/- Parts of the proof of StoreWhole: merged and given short names by a program of ours. -/
import Derived.Test.YteelnmpbnaohpaaDoorZwD
set_option linter.unusedVariables false
set_option linter.unusedSimpArgs false
open Bool renaming false_eq_true → ZS, not_false → ZW, not_true → ZX
open Int renaming toNat_natCast → ZV, natCast_mul → adU
open List renaming getElem?_cons_zero → ZQ, getElem?_cons_succ → ZR, length_map → ZZ, length_nil → abO
open Nat renaming zero_add → ZY, mul_one → abV, mul_add → acN, mod_lt → acU
open Option renaming isNone_some → ZT, isNone_none → ZU, getD_none → adK
namespace Go.Proofs.YteelnmpbnaohpaaDoor
open Go Go.En Go.Pu
set_option maxRecDepth 4000
structure Pe (w0 : adV) (q p mb : Nat) (f : List UInt8) (k : Nat) (lv : adW) (w : adV) (S : jZ) (s : nS) (recs : List (Nat × Nat)) (P : List UInt8) : Prop where
 ses : GS w0 Zh w q p S s
 got : Ro hU iE f k none recs P S s
 rm : S.room = 100000
 ep : s.epoch = 1
 la : kB 1 recs = 1
theorem Pe.put {w0 : adV} {q p mb : Nat} {f : List UInt8} {k : Nat} {lv : adW} {w : adV} {S : jZ} {s : nS} {recs : List (Nat × Nat)} {P : List UInt8} {a : Option Addr} {c i : Nat} (h : Pe w0 q p mb f k lv w S s recs P) (hb : Bs w0 (.slice a f.length c) f) (hk : 0 < k) (hL : f.length <= 300) (hi : i < mM f.length k) {K : adW -> adV -> Prop}
 (hK : ∀ w' S' s' recs' P', Pe w0 q p mb f k lv w' S' s' recs' P' -> s'.hv.getD i false = true -> (∀ j, s.hv.getD j false = true -> s'.hv.getD j false = true) -> K (.int .i64 0) w') :
 gU pg jF #[dP q, .int .i64 (i : Nat), .slice (jO a c (k * i) 1) (k * i + IX f.length k i - k * i) (c - k * i)] w K := by
 have hcn := Lq (L := f.length) hk
 have hrb := KB h.got
 have hz := h.got.sz
 have hroom : ¬ S.room < ((iY S.seen + 13 : Nat) : Int) := by
  rw [h.rm, hz, adK, abO]; omega
 obtain ⟨S', s', recs', P', hp, hg, hr, he, hv, hm, hl⟩ := WK h.got hk (by omega) hi hroom
 refine (WI h.ses h.got hb hk (by omega) hi (by omega)).mono ?_
 rintro r w' ⟨rfl, hs, -⟩
 rw [hp] at hs ⊢
 exact hK w' S' s' recs' P' ⟨hs, hg, hr.trans h.rm, he.trans h.ep, hl.trans h.la⟩ hv hm
theorem QU {v : adW} {f : List UInt8} {part turn : Nat} {w : adV} (hg : rD w) (hb : Bs w v f) (hl : f.length <= 9223372036854775807) (hp : part < 256) (ht : turn < 256) :
 gU pg yC #[v, .int .u8 (part : Nat), .int .u8 (turn : Nat)] w (fun r w' => r = .bool true /\ gX w w' jK) := by
 refine HU ?_
 obtain ⟨RR, hRR⟩ : ∃ RR : adW -> adV -> Prop, RR = fun r w' => r = .bool true /\ gX w w' jK := ⟨_, rfl⟩
 rw [<- hRR]
 have hR : ∀ w', gX w w' jK -> RR (.bool true) w' := fun w' x => by rw [hRR]; exact ⟨rfl, x⟩
 obtain ⟨a, c, rfl, hc⟩ := hb.len
 rw [ZZ] at hb hc ⊢
 unfold F4 uA uK
 refine (T5 hg).mono ?_
 rintro r w1 ⟨rfl, x1⟩
 by_cases h300 : 300 < f.length
 .have d1 : decide ((300 : Int) < (f.length : Int)) = true := by simp; omega
  simp (disch := omega) only [eY, gN, dX, stepR_skip, fP, fZ, fO, gK, gE, gC, gR, gA, eU, fV, fT, gG, fS, fM, fU, fR, fX, gH, fY, fQ, fC, gB, gI, fL, iS, iQ, iO, iR, iM, iN, iP, iU, iT, eP, Result.ok.injEq, Next.value.injEq, true_and, and_true, fK, fJ, gJ, fN, gD, gS, ZV, fE, fH, fF, fD, eZ, eX, fB, eT, eQ, eH, if_true, if_false, ZS, ZY, ZT, ZU, ZX, ZW, ZR, ZQ, eA, dV, aB, dI, dE, cJ, eB, eS, eE, dK, eD, fA, dQ, eN, bQ, dG, bJ, dL, aI, aH, eL, aV, bZ, eI, aF, eJ, dF, aR, bF, eF, bH, bE, bB, aO, aL, cD, fG, dY, cA, cI, dA, cH, dT, bC, eK, bX, dH, bP, aU, bU, aC, bY, bO, cF, bW, aY, bA, aX, bV, dM, cU, bR, aZ, aK, aJ, bG, aE, dC, dW, aN, aM, aT, aD, cY, aG, cL, bT, bD, aP, cM, cG, aA, dN, cQ, cV, cC, dO, cB, dJ, dU, cP, eC, eM, bN, aS, dZ, bS, aQ, bL, dS, dB, cO, cS, cN, bK, bM, cX, dR, cR, dD, cZ, d1]
  exact hR _ x1
 have d1 : decide ((300 : Int) < (f.length : Int)) = false := by simp; omega
 have e1 : IntKind.i64.wrap ((part : Nat) : Int) = ((part : Nat) : Int) := fK (by omega) (by omega)
 have e2 : (part : Int) + 1 = ((part + 1 : Nat) : Int) := by omega
 simp (disch := omega) only [eY, gN, dX, stepR_skip, fP, fZ, fO, gK, gE, gC, gR, gA, eU, fV, fT, gG, fS, fM, fU, fR, fX, gH, fY, fQ, fC, gB, gI, fL, iS, iQ, iO, iR, iM, iN, iP, iU, iT, eP, Result.ok.injEq, Next.value.injEq, true_and, and_true, fK, fJ, gJ, fN, gD, gS, ZV, fE, fH, fF, fD, eZ, eX, fB, eT, eQ, eH, if_true, if_false, ZS, ZY, ZT, ZU, ZX, ZW, ZR, ZQ, eA, dV, aB, dI, dE, cJ, eB, eS, eE, dK, eD, fA, dQ, eN, bQ, dG, bJ, dL, aI, aH, eL, aV, bZ, eI, aF, eJ, dF, aR, bF, eF, bH, bE, bB, aO, aL, cD, fG, dY, cA, cI, dA, cH, dT, bC, eK, bX, dH, bP, aU, bU, aC, bY, bO, cF, bW, aY, bA, aX, bV, dM, cU, bR, aZ, aK, aJ, bG, aE, dC, dW, aN, aM, aT, aD, cY, aG, cL, bT, bD, aP, cM, cG, aA, dN, cQ, cV, cC, dO, cB, dJ, dU, cP, eC, eM, bN, aS, dZ, bS, aQ, bL, dS, dB, cO, cS, cN, bK, bM, cX, dR, cR, dD, cZ, d1, e1, e2]
 obtain ⟨k, hk⟩ : ∃ k, k = part + 1 := ⟨_, rfl⟩
 rw [<- hk]
 have hk0 : 0 < k := by omega
 refine (Ol (k := k) (hg.ext x1) (hb.ext x1 (jJ _)) (by omega) ⟨by omega, by omega⟩).mono ?_
 rintro r w2 ⟨lv, rfl, hlv, x2⟩
 simp (disch := omega) only [eY, gN, dX, stepR_skip, fP, fZ, fO, gK, gE, gC, gR, gA, eU, fV, fT, gG, fS, fM, fU, fR, fX, gH, fY, fQ, fC, gB, gI, fL, iS, iQ, iO, iR, iM, iN, iP, iU, iT, eP, Result.ok.injEq, Next.value.injEq, true_and, and_true, fK, fJ, gJ, fN, gD, gS, ZV, fE, fH, fF, fD, eZ, eX, fB, eT, eQ, eH, if_true, if_false, ZS, ZY, ZT, ZU, ZX, ZW, ZR, ZQ, eA, dV, aB, dI, dE, cJ, eB, eS, eE, dK, eD, fA, dQ, eN, bQ, dG, bJ, dL, aI, aH, eL, aV, bZ, eI, aF, eJ, dF, aR, bF, eF, bH, bE, bB, aO, aL, cD, fG, dY, cA, cI, dA, cH, dT, bC, eK, bX, dH, bP, aU, bU, aC, bY, bO, cF, bW, aY, bA, aX, bV, dM, cU, bR, aZ, aK, aJ, bG, aE, dC, dW, aN, aM, aT, aD, cY, aG, cL, bT, bD, aP, cM, cG, aA, dN, cQ, cV, cC, dO, cB, dJ, dU, cP, eC, eM, bN, aS, dZ, bS, aQ, bL, dS, dB, cO, cS, cN, bK, bM, cX, dR, cR, dD, cZ]
 refine rP fun w3 o3 x3 s3 => ?_
 have lv1 : one lv = true := by rcases hlv.2 with ⟨rfl, _⟩ | ⟨_, _, _, rfl, _⟩ <;> rfl
 obtain ⟨mb, hmb⟩ : ∃ mb, mb = w2.heap.size := ⟨_, rfl⟩
 rw [<- hmb] at o3 ⊢
 refine qE o3 rfl (by simp [one]; exact lv1) (by simp) fun w4 o4 x4 s4 => ?_
 have o4 : jG w4 mb (Ns (kZ hU f k) lv) := o4
 have z1 := x1.size
 have z2 := x2.size
 have hlv4 : Cl w4 32 lv (kZ hU f k).leaves.length (U4 (kZ hU f k).leaves) := QV (wL (wL (NT (show IB w2 (fun b => w1.heap.size <= b) 32 lv _ _ from hlv)) x3 (fun _ _ h => h)) x4 (fun b hb h => by omega))
 have x04 : gX w w4 jK := ((x1.seq x2).seq x3).trans x4 fun y hy h => by omega
 have hb4 := hb.ext x04 (jJ _)
 have hg4 := hg.ext x04
 clear x3 s3 o3 s4 x4 hlv
 refine (Sc (w0 := w4) (gX.refl _ _) (room := 100000) (by decide) (by decide)).mono ?_
 rintro r w5 ⟨p, rfl, h5, x5⟩
 have lm := oD (off := 0) (o4.ext x5 (fun h => h)) (by simp)
 have lm : (fW 28 (.pointer (some ⟨mb, 0, none⟩))).run pg w5 = .ok (.value (.agg (Ns (kZ hU f k) lv).toArray)) w5 := lm
 simp (disch := omega) only [eY, gN, dX, stepR_skip, fP, fZ, fO, gK, gE, gC, gR, gA, eU, fV, fT, gG, fS, fM, fU, fR, fX, gH, fY, fQ, fC, gB, gI, fL, iS, iQ, iO, iR, iM, iN, iP, iU, iT, eP, Result.ok.injEq, Next.value.injEq, true_and, and_true, fK, fJ, gJ, fN, gD, gS, ZV, fE, fH, fF, fD, eZ, eX, fB, eT, eQ, eH, if_true, if_false, ZS, ZY, ZT, ZU, ZX, ZW, ZR, ZQ, eA, dV, aB, dI, dE, cJ, eB, eS, eE, dK, eD, fA, dQ, eN, bQ, dG, bJ, dL, aI, aH, eL, aV, bZ, eI, aF, eJ, dF, aR, bF, eF, bH, bE, bB, aO, aL, cD, fG, dY, cA, cI, dA, cH, dT, bC, eK, bX, dH, bP, aU, bU, aC, bY, bO, cF, bW, aY, bA, aX, bV, dM, cU, bR, aZ, aK, aJ, bG, aE, dC, dW, aN, aM, aT, aD, cY, aG, cL, bT, bD, aP, cM, cG, aA, dN, cQ, cV, cC, dO, cB, dJ, dU, cP, eC, eM, bN, aS, dZ, bS, aQ, bL, dS, dB, cO, cS, cN, bK, bM, cX, dR, cR, dD, cZ, lm]
 obtain ⟨S1, s1, hO, g1, r1, p1, v1⟩ := R7 (lf := hU) (cf := iE) (f := f) (k := k) (F0 := none) (S := QN 100000) (PI _) hk0 rfl rfl rfl (by simp [QN]) rfl ⟨by show (0 : Int) <= 100000; decide, by show (100000 : Int) <= _; decide⟩ (RK rfl) (by show ¬ (100000 : Int) < ((0 + 13 + f.length : Nat) : Int); omega)
 refine (Ml h5 hg4 (TC ⟨by decide, by decide⟩ (by decide)) (Tc ⟨hk0, by omega⟩ (by omega)) (JB hlv4 x5 (jJ _)) (nm := sF) ⟨by decide, by decide⟩ (by show 0 <= _; omega) hO).mono ?_
 rintro r w6 ⟨⟨q, rfl, _, h6⟩, -⟩
 have n1 : ((0 : Int) != 0) = false := rfl
 have o6 : ∀ {w'}, gX w4 w' jK -> jG w' mb (Ns (kZ hU f k) lv) := fun x => o4.ext x (fun h => h)
 have c6 := (o6 h6.x).cell (off := 2)
 simp only [ZQ, ZR] at c6
 have hmn : (kZ hU f k).leaves.length = mM f.length k := EG hU f k
 have hlvn : ∃ la lc, lv = .slice la (mM f.length k) lc := by
  obtain ⟨la, lc, h, _⟩ := hlv4
  rw [hmn] at h
  exact ⟨la, lc, h⟩
 obtain ⟨la, lc, hlve⟩ := hlvn
 subst hlve
 simp (disch := omega) only [eY, gN, dX, stepR_skip, fP, fZ, fO, gK, gE, gC, gR, gA, eU, fV, fT, gG, fS, fM, fU, fR, fX, gH, fY, fQ, fC, gB, gI, fL, iS, iQ, iO, iR, iM, iN, iP, iU, iT, eP, Result.ok.injEq, Next.value.injEq, true_and, and_true, fK, fJ, gJ, fN, gD, gS, ZV, fE, fH, fF, fD, eZ, eX, fB, eT, eQ, eH, if_true, if_false, ZS, ZY, ZT, ZU, ZX, ZW, ZR, ZQ, eA, dV, aB, dI, dE, cJ, eB, eS, eE, dK, eD, fA, dQ, eN, bQ, dG, bJ, dL, aI, aH, eL, aV, bZ, eI, aF, eJ, dF, aR, bF, eF, bH, bE, bB, aO, aL, cD, fG, dY, cA, cI, dA, cH, dT, bC, eK, bX, dH, bP, aU, bU, aC, bY, bO, cF, bW, aY, bA, aX, bV, dM, cU, bR, aZ, aK, aJ, bG, aE, dC, dW, aN, aM, aT, aD, cY, aG, cL, bT, bD, aP, cM, cG, aA, dN, cQ, cV, cC, dO, cB, dJ, dU, cP, eC, eM, bN, aS, dZ, bS, aQ, bL, dS, dB, cO, cS, cN, bK, bM, cX, dR, cR, dD, cZ, n1, c6]
 have hcn := Lq (L := f.length) hk0
 obtain ⟨n, hn⟩ : ∃ n, n = mM f.length k := ⟨_, rfl⟩
 have start : Pe w4 q p mb f k (.slice la (mM f.length k) lc) w6 S1 s1 [(1, 1)] (List.replicate f.length 0) := ⟨h6, g1, r1, p1, rfl⟩
 rw [<- hn] at start hmn hcn o6 o4 hlv4 ⊢
 clear h5 lm x5 h6 c6
 unfold tZ vE uO uG tU
 refine jW.rule (fun m (t : adW) w' => ∃ (j : Nat) (S : jZ) (s : nS) (recs : List (Nat × Nat)) (P : List UInt8), m = n - j /\ j <= n /\ t = .int .i64 (j : Nat) /\ Pe w4 q p mb f k (.slice la n lc) w' S s recs P) n
  ⟨0, _, _, _, _, rfl, by omega, rfl, start⟩ ?_
 clear start hO g1 r1 p1 v1 s1 S1
 rintro m t w7 ⟨j, S, s, recs, P, rfl, hj, rfl, h7⟩
 unfold pM tR
 by_cases hlt : j < n
 .have d2 : decide ((j : Int) < (n : Int)) = true := by simp; omega
  have e3 : IntKind.i64.wrap ((turn : Nat) : Int) = ((turn : Nat) : Int) := fK (by omega) (by omega)
  have e4 : (j : Int) + (turn : Int) = ((j + turn : Nat) : Int) := by omega
  have e5 : (((j + turn : Nat) : Int)).tmod (n : Int) = (((j + turn) % n : Nat) : Int) := rfl
  have e6 : (j : Int).tmod 2 = ((j % 2 : Nat) : Int) := rfl
  have hx : (j + turn) % n < n := acU _ (by omega)
  obtain ⟨x, hxx⟩ : ∃ x, x = (j + turn) % n := ⟨_, rfl⟩
  rw [<- hxx] at e5 hx
  have inner : ∀ (x0 : Nat), x0 < n -> pJ (fun gQ t2 kY kU iK iI iV jQ w => nB (fun _ _ _ _ _ _ _ jQ w => ∃ m, m < n - j /\ ∃ (j' : Nat) (S : jZ) (s : nS) (recs : List (Nat × Nat)) (P : List UInt8), m = n - j' /\ j' <= n /\ jQ = .int .i64 (j' : Nat) /\ Pe w4 q p mb f k (.slice la n lc) w S s recs P) gQ t2 kY kU iK iI iV jQ w) RR (.slice a f.length c) (.int .u8 (turn : Nat)) (.int .i64 (k : Nat)) (.pointer (some ⟨mb, 0, none⟩)) (dP p) (dP q) (.int .i64 (n : Nat)) (.int .i64 (j : Nat)) (.int .i64 (x0 : Nat)) w7 := by
   intro x0 hx0
   unfold pJ vK vL vB
   refine jW.rule (fun m (t : adW × adW) w' => ∃ (y x1 : Nat) (S : jZ) (s : nS) (recs : List (Nat × Nat)) (P : List UInt8), m = 2 - y /\ y <= 2 /\ x1 < n /\ t = (.int .i64 (x1 : Nat), .int .i64 (y : Nat)) /\ Pe w4 q p mb f k (.slice la n lc) w' S s recs P) 2
    ⟨0, x0, S, s, recs, P, rfl, by omega, hx0, rfl, h7⟩ ?_
   clear h7
   rintro m t w8 ⟨y, x1, S, s, recs, P, rfl, hy, hx1, rfl, h8⟩
   unfold pO tY
   by_cases hy2 : y < 2
   .have d3 : decide ((y : Int) < 2) = true := by simp; omega
    unfold tQ uU BV vN
    have hkx := (Au (L := f.length) hk0 (i := x1)).1 (by omega)
    obtain ⟨pe1, pe2⟩ := P9 hkx
    have q1 : (x1 : Int) + 1 = ((x1 + 1 : Nat) : Int) := by omega
    have q2 : (k : Int) * ((x1 + 1 : Nat) : Int) = ((k * (x1 + 1) : Nat) : Int) := by rw [adU]
    have q3 : (k : Int) * ((x1 : Nat) : Int) = ((k * x1 : Nat) : Int) := by rw [adU]
    have hb' : k * (x1 + 1) <= 100000 := by rw [acN, abV]; omega
    obtain ⟨T, hT⟩ : ∃ T, T = k * (x1 + 1) := ⟨_, rfl⟩
    rw [<- hT] at q2 hb' pe1 pe2
    have put2 : ∀ (to : Nat), to = k * x1 + IX f.length k x1 -> mY (fun gQ t2 kY kU iK iI iV jQ mN oR w => mW (fun _ _ _ _ _ _ _ _ mN oR w => ∃ m, m < 2 - y /\ ∃ (y' x1 : Nat) (S : jZ) (s : nS) (recs : List (Nat × Nat)) (P : List UInt8), m = 2 - y' /\ y' <= 2 /\ x1 < n /\ (mN, oR) = (Value.int .i64 (x1 : Nat), Value.int .i64 (y' : Nat)) /\ Pe w4 q p mb f k (.slice la n lc) w S s recs P) gQ t2 kY kU iK iI iV jQ mN oR w) RR (.slice a f.length c) (.int .u8 (turn : Nat)) (.int .i64 (k : Nat)) (.pointer (some ⟨mb, 0, none⟩)) (dP p) (dP q) (.int .i64 (n : Nat)) (.int .i64 (j : Nat)) (.int .i64 (x1 : Nat)) (.int .i64 (y : Nat)) (.int .i64 (to : Nat)) w8 := by
     intro to hto
     unfold mY
     have hse := EM hkx
     have hput := fun {K : adW -> adV -> Prop} hK => h8.put (a := a) (c := c) (i := x1) (K := K) hb4 hk0 (by omega) (by omega) hK
     rw [<- hto] at hput hse
     obtain ⟨P0, hP0⟩ : ∃ P0, P0 = k * x1 := ⟨_, rfl⟩
     rw [<- hP0] at hput q3 hto
     have hle : P0 <= to := by omega
     simp (disch := omega) only [eY, gN, dX, stepR_skip, fP, fZ, fO, gK, gE, gC, gR, gA, eU, fV, fT, gG, fS, fM, fU, fR, fX, gH, fY, fQ, fC, gB, gI, fL, iS, iQ, iO, iR, iM, iN, iP, iU, iT, eP, Result.ok.injEq, Next.value.injEq, true_and, and_true, fK, fJ, gJ, fN, gD, gS, ZV, fE, fH, fF, fD, eZ, eX, fB, eT, eQ, eH, if_true, if_false, ZS, ZY, ZT, ZU, ZX, ZW, ZR, ZQ, eA, dV, aB, dI, dE, cJ, eB, eS, eE, dK, eD, fA, dQ, eN, bQ, dG, bJ, dL, aI, aH, eL, aV, bZ, eI, aF, eJ, dF, aR, bF, eF, bH, bE, bB, aO, aL, cD, fG, dY, cA, cI, dA, cH, dT, bC, eK, bX, dH, bP, aU, bU, aC, bY, bO, cF, bW, aY, bA, aX, bV, dM, cU, bR, aZ, aK, aJ, bG, aE, dC, dW, aN, aM, aT, aD, cY, aG, cL, bT, bD, aP, cM, cG, aA, dN, cQ, cV, cC, dO, cB, dJ, dU, cP, eC, eM, bN, aS, dZ, bS, aQ, bL, dS, dB, cO, cS, cN, bK, bM, cX, dR, cR, dD, cZ, q3]
     refine hput fun w9 S' s' recs' P' h9 _ _ => ?_
     have q4 : (y : Int) + 1 = ((y + 1 : Nat) : Int) := by omega
     unfold mW
     simp (disch := omega) only [eY, gN, dX, stepR_skip, fP, fZ, fO, gK, gE, gC, gR, gA, eU, fV, fT, gG, fS, fM, fU, fR, fX, gH, fY, fQ, fC, gB, gI, fL, iS, iQ, iO, iR, iM, iN, iP, iU, iT, eP, Result.ok.injEq, Next.value.injEq, true_and, and_true, fK, fJ, gJ, fN, gD, gS, ZV, fE, fH, fF, fD, eZ, eX, fB, eT, eQ, eH, if_true, if_false, ZS, ZY, ZT, ZU, ZX, ZW, ZR, ZQ, eA, dV, aB, dI, dE, cJ, eB, eS, eE, dK, eD, fA, dQ, eN, bQ, dG, bJ, dL, aI, aH, eL, aV, bZ, eI, aF, eJ, dF, aR, bF, eF, bH, bE, bB, aO, aL, cD, fG, dY, cA, cI, dA, cH, dT, bC, eK, bX, dH, bP, aU, bU, aC, bY, bO, cF, bW, aY, bA, aX, bV, dM, cU, bR, aZ, aK, aJ, bG, aE, dC, dW, aN, aM, aT, aD, cY, aG, cL, bT, bD, aP, cM, cG, aA, dN, cQ, cV, cC, dO, cB, dJ, dU, cP, eC, eM, bN, aS, dZ, bS, aQ, bL, dS, dB, cO, cS, cN, bK, bM, cX, dR, cR, dD, cZ, n1, e3, e4, e5, q4]
     exact ⟨2 - (y + 1), by omega, y + 1, x, S', s', recs', P', rfl, by omega, hx, rfl, h9⟩
    by_cases hT2 : f.length < T
    .have d4 : decide ((f.length : Int) < (T : Int)) = true := by simp; omega
     have := put2 f.length (pe2 hT2).symm
     simp (disch := omega) only [eY, gN, dX, stepR_skip, fP, fZ, fO, gK, gE, gC, gR, gA, eU, fV, fT, gG, fS, fM, fU, fR, fX, gH, fY, fQ, fC, gB, gI, fL, iS, iQ, iO, iR, iM, iN, iP, iU, iT, eP, Result.ok.injEq, Next.value.injEq, true_and, and_true, fK, fJ, gJ, fN, gD, gS, ZV, fE, fH, fF, fD, eZ, eX, fB, eT, eQ, eH, if_true, if_false, ZS, ZY, ZT, ZU, ZX, ZW, ZR, ZQ, eA, dV, aB, dI, dE, cJ, eB, eS, eE, dK, eD, fA, dQ, eN, bQ, dG, bJ, dL, aI, aH, eL, aV, bZ, eI, aF, eJ, dF, aR, bF, eF, bH, bE, bB, aO, aL, cD, fG, dY, cA, cI, dA, cH, dT, bC, eK, bX, dH, bP, aU, bU, aC, bY, bO, cF, bW, aY, bA, aX, bV, dM, cU, bR, aZ, aK, aJ, bG, aE, dC, dW, aN, aM, aT, aD, cY, aG, cL, bT, bD, aP, cM, cG, aA, dN, cQ, cV, cC, dO, cB, dJ, dU, cP, eC, eM, bN, aS, dZ, bS, aQ, bL, dS, dB, cO, cS, cN, bK, bM, cX, dR, cR, dD, cZ, d3, q1, q2, d4]
     exact this
    .have d4 : decide ((f.length : Int) < (T : Int)) = false := by simp; omega
     have := put2 T (pe1 (by omega)).symm
     simp (disch := omega) only [eY, gN, dX, stepR_skip, fP, fZ, fO, gK, gE, gC, gR, gA, eU, fV, fT, gG, fS, fM, fU, fR, fX, gH, fY, fQ, fC, gB, gI, fL, iS, iQ, iO, iR, iM, iN, iP, iU, iT, eP, Result.ok.injEq, Next.value.injEq, true_and, and_true, fK, fJ, gJ, fN, gD, gS, ZV, fE, fH, fF, fD, eZ, eX, fB, eT, eQ, eH, if_true, if_false, ZS, ZY, ZT, ZU, ZX, ZW, ZR, ZQ, eA, dV, aB, dI, dE, cJ, eB, eS, eE, dK, eD, fA, dQ, eN, bQ, dG, bJ, dL, aI, aH, eL, aV, bZ, eI, aF, eJ, dF, aR, bF, eF, bH, bE, bB, aO, aL, cD, fG, dY, cA, cI, dA, cH, dT, bC, eK, bX, dH, bP, aU, bU, aC, bY, bO, cF, bW, aY, bA, aX, bV, dM, cU, bR, aZ, aK, aJ, bG, aE, dC, dW, aN, aM, aT, aD, cY, aG, cL, bT, bD, aP, cM, cG, aA, dN, cQ, cV, cC, dO, cB, dJ, dU, cP, eC, eM, bN, aS, dZ, bS, aQ, bL, dS, dB, cO, cS, cN, bK, bM, cX, dR, cR, dD, cZ, d3, q1, q2, d4]
     exact this
   .have d3 : decide ((y : Int) < 2) = false := by simp; omega
    have q5 : (j : Int) + 1 = ((j + 1 : Nat) : Int) := by omega
    unfold nB
    simp (disch := omega) only [eY, gN, dX, stepR_skip, fP, fZ, fO, gK, gE, gC, gR, gA, eU, fV, fT, gG, fS, fM, fU, fR, fX, gH, fY, fQ, fC, gB, gI, fL, iS, iQ, iO, iR, iM, iN, iP, iU, iT, eP, Result.ok.injEq, Next.value.injEq, true_and, and_true, fK, fJ, gJ, fN, gD, gS, ZV, fE, fH, fF, fD, eZ, eX, fB, eT, eQ, eH, if_true, if_false, ZS, ZY, ZT, ZU, ZX, ZW, ZR, ZQ, eA, dV, aB, dI, dE, cJ, eB, eS, eE, dK, eD, fA, dQ, eN, bQ, dG, bJ, dL, aI, aH, eL, aV, bZ, eI, aF, eJ, dF, aR, bF, eF, bH, bE, bB, aO, aL, cD, fG, dY, cA, cI, dA, cH, dT, bC, eK, bX, dH, bP, aU, bU, aC, bY, bO, cF, bW, aY, bA, aX, bV, dM, cU, bR, aZ, aK, aJ, bG, aE, dC, dW, aN, aM, aT, aD, cY, aG, cL, bT, bD, aP, cM, cG, aA, dN, cQ, cV, cC, dO, cB, dJ, dU, cP, eC, eM, bN, aS, dZ, bS, aQ, bL, dS, dB, cO, cS, cN, bK, bM, cX, dR, cR, dD, cZ, d3, q5]
    exact ⟨n - (j + 1), by omega, j + 1, S, s, recs, P, rfl, by omega, rfl, h8⟩
  unfold uH uY B8 tN
  by_cases hev : j % 2 = 0
  .have d3 : (((j % 2 : Nat) : Int) == 0) = true := by rw [hev] <;> rfl
   have q1 : (n : Int) - 1 - (x : Int) = ((n - 1 - x : Nat) : Int) := by omega
   have := inner (n - 1 - x) (by omega)
   simp (disch := omega) only [eY, gN, dX, stepR_skip, fP, fZ, fO, gK, gE, gC, gR, gA, eU, fV, fT, gG, fS, fM, fU, fR, fX, gH, fY, fQ, fC, gB, gI, fL, iS, iQ, iO, iR, iM, iN, iP, iU, iT, eP, Result.ok.injEq, Next.value.injEq, true_and, and_true, fK, fJ, gJ, fN, gD, gS, ZV, fE, fH, fF, fD, eZ, eX, fB, eT, eQ, eH, if_true, if_false, ZS, ZY, ZT, ZU, ZX, ZW, ZR, ZQ, eA, dV, aB, dI, dE, cJ, eB, eS, eE, dK, eD, fA, dQ, eN, bQ, dG, bJ, dL, aI, aH, eL, aV, bZ, eI, aF, eJ, dF, aR, bF, eF, bH, bE, bB, aO, aL, cD, fG, dY, cA, cI, dA, cH, dT, bC, eK, bX, dH, bP, aU, bU, aC, bY, bO, cF, bW, aY, bA, aX, bV, dM, cU, bR, aZ, aK, aJ, bG, aE, dC, dW, aN, aM, aT, aD, cY, aG, cL, bT, bD, aP, cM, cG, aA, dN, cQ, cV, cC, dO, cB, dJ, dU, cP, eC, eM, bN, aS, dZ, bS, aQ, bL, dS, dB, cO, cS, cN, bK, bM, cX, dR, cR, dD, cZ, d2, e3, e4, e5, e6, d3, q1]
   exact this
  .have d3 : (((j % 2 : Nat) : Int) == 0) = false := by rw [beq_eq_false_iff_ne]; omega
   have := inner x hx
   simp (disch := omega) only [eY, gN, dX, stepR_skip, fP, fZ, fO, gK, gE, gC, gR, gA, eU, fV, fT, gG, fS, fM, fU, fR, fX, gH, fY, fQ, fC, gB, gI, fL, iS, iQ, iO, iR, iM, iN, iP, iU, iT, eP, Result.ok.injEq, Next.value.injEq, true_and, and_true, fK, fJ, gJ, fN, gD, gS, ZV, fE, fH, fF, fD, eZ, eX, fB, eT, eQ, eH, if_true, if_false, ZS, ZY, ZT, ZU, ZX, ZW, ZR, ZQ, eA, dV, aB, dI, dE, cJ, eB, eS, eE, dK, eD, fA, dQ, eN, bQ, dG, bJ, dL, aI, aH, eL, aV, bZ, eI, aF, eJ, dF, aR, bF, eF, bH, bE, bB, aO, aL, cD, fG, dY, cA, cI, dA, cH, dT, bC, eK, bX, dH, bP, aU, bU, aC, bY, bO, cF, bW, aY, bA, aX, bV, dM, cU, bR, aZ, aK, aJ, bG, aE, dC, dW, aN, aM, aT, aD, cY, aG, cL, bT, bD, aP, cM, cG, aA, dN, cQ, cV, cC, dO, cB, dJ, dU, cP, eC, eM, bN, aS, dZ, bS, aQ, bL, dS, dB, cO, cS, cN, bK, bM, cX, dR, cR, dD, cZ, d2, e3, e4, e5, e6, d3]
   exact this
 have d2 : decide ((j : Int) < (n : Int)) = false := by simp; omega
 simp (disch := omega) only [eY, gN, dX, stepR_skip, fP, fZ, fO, gK, gE, gC, gR, gA, eU, fV, fT, gG, fS, fM, fU, fR, fX, gH, fY, fQ, fC, gB, gI, fL, iS, iQ, iO, iR, iM, iN, iP, iU, iT, eP, Result.ok.injEq, Next.value.injEq, true_and, and_true, fK, fJ, gJ, fN, gD, gS, ZV, fE, fH, fF, fD, eZ, eX, fB, eT, eQ, eH, if_true, if_false, ZS, ZY, ZT, ZU, ZX, ZW, ZR, ZQ, eA, dV, aB, dI, dE, cJ, eB, eS, eE, dK, eD, fA, dQ, eN, bQ, dG, bJ, dL, aI, aH, eL, aV, bZ, eI, aF, eJ, dF, aR, bF, eF, bH, bE, bB, aO, aL, cD, fG, dY, cA, cI, dA, cH, dT, bC, eK, bX, dH, bP, aU, bU, aC, bY, bO, cF, bW, aY, bA, aX, bV, dM, cU, bR, aZ, aK, aJ, bG, aE, dC, dW, aN, aM, aT, aD, cY, aG, cL, bT, bD, aP, cM, cG, aA, dN, cQ, cV, cC, dO, cB, dJ, dU, cP, eC, eM, bN, aS, dZ, bS, aQ, bL, dS, dB, cO, cS, cN, bK, bM, cX, dR, cR, dD, cZ, d2]
 unfold vI uX vH tX tO
 refine jW.rule (fun m (t : adW) w' => ∃ (i : Nat) (S : jZ) (s : nS) (recs : List (Nat × Nat)) (P : List UInt8), m = n - i /\ i <= n /\ t = .int .i64 (i : Nat) /\ Pe w4 q p mb f k (.slice la n lc) w' S s recs P /\ ∀ x, x < i -> s.hv.getD x false = true) n
  ⟨0, S, s, recs, P, rfl, by omega, rfl, h7, fun x hx => by omega⟩ ?_
 clear h7 hlt d2 hj
 rintro m t w8 ⟨i, S, s, recs, P, rfl, hi, rfl, h8, hall⟩
 unfold qH wI
 by_cases hlt : i < n
 .have d3 : decide ((i : Int) < (n : Int)) = true := by simp; omega
  unfold wN wC CJ wD
  have hkx := (Au (L := f.length) hk0 (i := i)).1 (by omega)
  obtain ⟨pe1, pe2⟩ := P9 hkx
  have q1 : (i : Int) + 1 = ((i + 1 : Nat) : Int) := by omega
  have q2 : (k : Int) * ((i + 1 : Nat) : Int) = ((k * (i + 1) : Nat) : Int) := by rw [adU]
  have q3 : (k : Int) * ((i : Nat) : Int) = ((k * i : Nat) : Int) := by rw [adU]
  have hb' : k * (i + 1) <= 100000 := by rw [acN, abV]; omega
  obtain ⟨T, hT⟩ : ∃ T, T = k * (i + 1) := ⟨_, rfl⟩
  rw [<- hT] at q2 hb' pe1 pe2
  have put2 : ∀ (to : Nat), to = k * i + IX f.length k i -> nT (fun gQ kY kU iK iI iV nV w => oB (fun _ _ _ _ _ _ nV w => ∃ m, m < n - i /\ ∃ (i' : Nat) (S : jZ) (s : nS) (recs : List (Nat × Nat)) (P : List UInt8), m = n - i' /\ i' <= n /\ nV = .int .i64 (i' : Nat) /\ Pe w4 q p mb f k (.slice la n lc) w S s recs P /\ ∀ x, x < i' -> s.hv.getD x false = true) gQ kY kU iK iI iV nV w) RR (.slice a f.length c) (.int .i64 (k : Nat)) (.pointer (some ⟨mb, 0, none⟩)) (dP p) (dP q) (.int .i64 (n : Nat)) (.int .i64 (i : Nat)) (.int .i64 (to : Nat)) w8 := by
   intro to hto
   unfold nT
   have hse := EM hkx
   have hput := fun {K : adW -> adV -> Prop} hK => h8.put (a := a) (c := c) (i := i) (K := K) hb4 hk0 (by omega) (by omega) hK
   rw [<- hto] at hput hse
   obtain ⟨P0, hP0⟩ : ∃ P0, P0 = k * i := ⟨_, rfl⟩
   rw [<- hP0] at hput q3 hto
   have hle : P0 <= to := by omega
   simp (disch := omega) only [eY, gN, dX, stepR_skip, fP, fZ, fO, gK, gE, gC, gR, gA, eU, fV, fT, gG, fS, fM, fU, fR, fX, gH, fY, fQ, fC, gB, gI, fL, iS, iQ, iO, iR, iM, iN, iP, iU, iT, eP, Result.ok.injEq, Next.value.injEq, true_and, and_true, fK, fJ, gJ, fN, gD, gS, ZV, fE, fH, fF, fD, eZ, eX, fB, eT, eQ, eH, if_true, if_false, ZS, ZY, ZT, ZU, ZX, ZW, ZR, ZQ, eA, dV, aB, dI, dE, cJ, eB, eS, eE, dK, eD, fA, dQ, eN, bQ, dG, bJ, dL, aI, aH, eL, aV, bZ, eI, aF, eJ, dF, aR, bF, eF, bH, bE, bB, aO, aL, cD, fG, dY, cA, cI, dA, cH, dT, bC, eK, bX, dH, bP, aU, bU, aC, bY, bO, cF, bW, aY, bA, aX, bV, dM, cU, bR, aZ, aK, aJ, bG, aE, dC, dW, aN, aM, aT, aD, cY, aG, cL, bT, bD, aP, cM, cG, aA, dN, cQ, cV, cC, dO, cB, dJ, dU, cP, eC, eM, bN, aS, dZ, bS, aQ, bL, dS, dB, cO, cS, cN, bK, bM, cX, dR, cR, dD, cZ, q3]
   refine hput fun w9 S' s' recs' P' h9 hv9 hm9 => ?_
   unfold oB
   simp (disch := omega) only [eY, gN, dX, stepR_skip, fP, fZ, fO, gK, gE, gC, gR, gA, eU, fV, fT, gG, fS, fM, fU, fR, fX, gH, fY, fQ, fC, gB, gI, fL, iS, iQ, iO, iR, iM, iN, iP, iU, iT, eP, Result.ok.injEq, Next.value.injEq, true_and, and_true, fK, fJ, gJ, fN, gD, gS, ZV, fE, fH, fF, fD, eZ, eX, fB, eT, eQ, eH, if_true, if_false, ZS, ZY, ZT, ZU, ZX, ZW, ZR, ZQ, eA, dV, aB, dI, dE, cJ, eB, eS, eE, dK, eD, fA, dQ, eN, bQ, dG, bJ, dL, aI, aH, eL, aV, bZ, eI, aF, eJ, dF, aR, bF, eF, bH, bE, bB, aO, aL, cD, fG, dY, cA, cI, dA, cH, dT, bC, eK, bX, dH, bP, aU, bU, aC, bY, bO, cF, bW, aY, bA, aX, bV, dM, cU, bR, aZ, aK, aJ, bG, aE, dC, dW, aN, aM, aT, aD, cY, aG, cL, bT, bD, aP, cM, cG, aA, dN, cQ, cV, cC, dO, cB, dJ, dU, cP, eC, eM, bN, aS, dZ, bS, aQ, bL, dS, dB, cO, cS, cN, bK, bM, cX, dR, cR, dD, cZ, n1, q1]
   refine ⟨n - (i + 1), by omega, i + 1, S', s', recs', P', rfl, by omega, rfl, h9, fun x hx => ?_⟩
   by_cases hxi : x = i
   .rw [hxi]; exact hv9
   .exact hm9 x (hall x (by omega))
  by_cases hT2 : f.length < T
  .have d4 : decide ((f.length : Int) < (T : Int)) = true := by simp; omega
   have := put2 f.length (pe2 hT2).symm
   simp (disch := omega) only [eY, gN, dX, stepR_skip, fP, fZ, fO, gK, gE, gC, gR, gA, eU, fV, fT, gG, fS, fM, fU, fR, fX, gH, fY, fQ, fC, gB, gI, fL, iS, iQ, iO, iR, iM, iN, iP, iU, iT, eP, Result.ok.injEq, Next.value.injEq, true_and, and_true, fK, fJ, gJ, fN, gD, gS, ZV, fE, fH, fF, fD, eZ, eX, fB, eT, eQ, eH, if_true, if_false, ZS, ZY, ZT, ZU, ZX, ZW, ZR, ZQ, eA, dV, aB, dI, dE, cJ, eB, eS, eE, dK, eD, fA, dQ, eN, bQ, dG, bJ, dL, aI, aH, eL, aV, bZ, eI, aF, eJ, dF, aR, bF, eF, bH, bE, bB, aO, aL, cD, fG, dY, cA, cI, dA, cH, dT, bC, eK, bX, dH, bP, aU, bU, aC, bY, bO, cF, bW, aY, bA, aX, bV, dM, cU, bR, aZ, aK, aJ, bG, aE, dC, dW, aN, aM, aT, aD, cY, aG, cL, bT, bD, aP, cM, cG, aA, dN, cQ, cV, cC, dO, cB, dJ, dU, cP, eC, eM, bN, aS, dZ, bS, aQ, bL, dS, dB, cO, cS, cN, bK, bM, cX, dR, cR, dD, cZ, d3, q1, q2, d4]
   exact this
  .have d4 : decide ((f.length : Int) < (T : Int)) = false := by simp; omega
   have := put2 T (pe1 (by omega)).symm
   simp (disch := omega) only [eY, gN, dX, stepR_skip, fP, fZ, fO, gK, gE, gC, gR, gA, eU, fV, fT, gG, fS, fM, fU, fR, fX, gH, fY, fQ, fC, gB, gI, fL, iS, iQ, iO, iR, iM, iN, iP, iU, iT, eP, Result.ok.injEq, Next.value.injEq, true_and, and_true, fK, fJ, gJ, fN, gD, gS, ZV, fE, fH, fF, fD, eZ, eX, fB, eT, eQ, eH, if_true, if_false, ZS, ZY, ZT, ZU, ZX, ZW, ZR, ZQ, eA, dV, aB, dI, dE, cJ, eB, eS, eE, dK, eD, fA, dQ, eN, bQ, dG, bJ, dL, aI, aH, eL, aV, bZ, eI, aF, eJ, dF, aR, bF, eF, bH, bE, bB, aO, aL, cD, fG, dY, cA, cI, dA, cH, dT, bC, eK, bX, dH, bP, aU, bU, aC, bY, bO, cF, bW, aY, bA, aX, bV, dM, cU, bR, aZ, aK, aJ, bG, aE, dC, dW, aN, aM, aT, aD, cY, aG, cL, bT, bD, aP, cM, cG, aA, dN, cQ, cV, cC, dO, cB, dJ, dU, cP, eC, eM, bN, aS, dZ, bS, aQ, bL, dS, dB, cO, cS, cN, bK, bM, cX, dR, cR, dD, cZ, d3, q1, q2, d4]
   exact this
 have d3 : decide ((i : Int) < (n : Int)) = false := by simp; omega
 simp (disch := omega) only [eY, gN, dX, stepR_skip, fP, fZ, fO, gK, gE, gC, gR, gA, eU, fV, fT, gG, fS, fM, fU, fR, fX, gH, fY, fQ, fC, gB, gI, fL, iS, iQ, iO, iR, iM, iN, iP, iU, iT, eP, Result.ok.injEq, Next.value.injEq, true_and, and_true, fK, fJ, gJ, fN, gD, gS, ZV, fE, fH, fF, fD, eZ, eX, fB, eT, eQ, eH, if_true, if_false, ZS, ZY, ZT, ZU, ZX, ZW, ZR, ZQ, eA, dV, aB, dI, dE, cJ, eB, eS, eE, dK, eD, fA, dQ, eN, bQ, dG, bJ, dL, aI, aH, eL, aV, bZ, eI, aF, eJ, dF, aR, bF, eF, bH, bE, bB, aO, aL, cD, fG, dY, cA, cI, dA, cH, dT, bC, eK, bX, dH, bP, aU, bU, aC, bY, bO, cF, bW, aY, bA, aX, bV, dM, cU, bR, aZ, aK, aJ, bG, aE, dC, dW, aN, aM, aT, aD, cY, aG, cL, bT, bD, aP, cM, cG, aA, dN, cQ, cV, cC, dO, cB, dJ, dU, cP, eC, eM, bN, aS, dZ, bS, aQ, bL, dS, dB, cO, cS, cN, bK, bM, cX, dR, cR, dD, cZ, d3]
 have hz := h8.got.sz
 have hrb := KB h8.got
 rw [adK, abO] at hz
 obtain ⟨S5, s5, hC2, f5, er5, ep5, nm5, mn5, c5, r5, gf5, gl5, gp5, fz5, un5, hl5, lg5⟩ := Oh h8.got hk0 (fun i hi => hall i (by omega))
 have B5 : ∀ n, n <= 100 -> Co n S5 := fun n hn => ⟨⟨by rw [c5.left]; omega, by omega, by rw [un5]; simp, by rw [r5, h8.rm]; decide⟩, by omega, by rw [un5]; simp; omega⟩
 have hroom5 : ¬ S5.room < ((iY S5.seen + 13 : Nat) : Int) := by rw [r5, h8.rm]; omega
 obtain ⟨S6, s6, hO6, f6, ep6, er6, fz6⟩ := Vc hk0 c5 gf5 gl5 h8.got.ok (by rw [h8.la]; omega) hroom5
 have B6 : Co 2 S6 := by have := Xj (n := 2) (nm := sF) (m := kZ hU f k) (B5 5 (by omega)); rw [hO6] at this; exact this
 unfold qF
 refine (Hv h8.ses (h8.got.bk (by decide)) (fun b hb => h8.got.file hb (by omega))).mono ?_
 rintro r w9 ⟨rfl, h9, -⟩
 rw [hC2] at h9 ⊢
 refine (RN (n := sF) h9 (B5 0 (by omega)) c5.up).mono ?_
 rintro r wa ⟨hr, ha, xa⟩
 rw [gf5] at hr
 rcases hr with ⟨h, _⟩ | ⟨b, vv, hbb, rfl, ho⟩
 .cases h
 cases hbb
 obtain ⟨hd9, hqlo, hq8, hql⟩ := h9.dsesQ
 obtain ⟨N', hda, hNN, hvb⟩ := hd9.hold xa ho
 have lm := oD (off := 0) (o6 ha.x) (by simp)
 have lm : (fW 28 (.pointer (some ⟨mb, 0, none⟩))).run pg wa = .ok (.value (.agg (Ns (kZ hU f k) (.slice la n lc)).toArray)) wa := lm
 have hfs : iY S5.seen <= 1000000 := by omega
 simp (disch := omega) only [eY, gN, dX, stepR_skip, fP, fZ, fO, gK, gE, gC, gR, gA, eU, fV, fT, gG, fS, fM, fU, fR, fX, gH, fY, fQ, fC, gB, gI, fL, iS, iQ, iO, iR, iM, iN, iP, iU, iT, eP, Result.ok.injEq, Next.value.injEq, true_and, and_true, fK, fJ, gJ, fN, gD, gS, ZV, fE, fH, fF, fD, eZ, eX, fB, eT, eQ, eH, if_true, if_false, ZS, ZY, ZT, ZU, ZX, ZW, ZR, ZQ, eA, dV, aB, dI, dE, cJ, eB, eS, eE, dK, eD, fA, dQ, eN, bQ, dG, bJ, dL, aI, aH, eL, aV, bZ, eI, aF, eJ, dF, aR, bF, eF, bH, bE, bB, aO, aL, cD, fG, dY, cA, cI, dA, cH, dT, bC, eK, bX, dH, bP, aU, bU, aC, bY, bO, cF, bW, aY, bA, aX, bV, dM, cU, bR, aZ, aK, aJ, bG, aE, dC, dW, aN, aM, aT, aD, cY, aG, cL, bT, bD, aP, cM, cG, aA, dN, cQ, cV, cC, dO, cB, dJ, dU, cP, eC, eM, bN, aS, dZ, bS, aQ, bL, dS, dB, cO, cS, cN, bK, bM, cX, dR, cR, dD, cZ, lm]
 refine (Ml hda hg4 (B5 3 (by omega)) (Tc ⟨hk0, by omega⟩ (by omega)) (by have := JB hlv4 ha.x (jJ _); exact this) (nm := sF) ⟨by decide, by decide⟩ hfs hO6).mono ?_
 rintro r wb ⟨⟨q2, rfl, _, hsb⟩, xb⟩
 have hq8b : wb.cell? ⟨q, 8, none⟩ = some (.bool s5.fin) := Bo (Bo hq8 xa (fun h => h)) xb (fun hm => hm.2 (hNN _ (.inr rfl)))
 rw [f5] at hq8b
 have n3 : ((0 : Int) == 0) = true := rfl
 obtain ⟨va, vc, rfl⟩ := ho.len
 have hv := xI (hvb wb xb)
 have hv0 := xI (hb4.ext hsb.x (jJ _))
 have hse := SJ (P := pg) (w := wb) (ox := .tmp 159) (oy := .tmp 161) (t := 9) ⟨f.toArray⟩ ⟨f.toArray⟩
 have k4 : ((⟨f.toArray⟩ : ByteArray).toList == (⟨f.toArray⟩ : ByteArray).toList) = true := by simp
 simp (disch := omega) only [eY, gN, dX, stepR_skip, fP, fZ, fO, gK, gE, gC, gR, gA, eU, fV, fT, gG, fS, fM, fU, fR, fX, gH, fY, fQ, fC, gB, gI, fL, iS, iQ, iO, iR, iM, iN, iP, iU, iT, eP, Result.ok.injEq, Next.value.injEq, true_and, and_true, fK, fJ, gJ, fN, gD, gS, ZV, fE, fH, fF, fD, eZ, eX, fB, eT, eQ, eH, if_true, if_false, ZS, ZY, ZT, ZU, ZX, ZW, ZR, ZQ, eA, dV, aB, dI, dE, cJ, eB, eS, eE, dK, eD, fA, dQ, eN, bQ, dG, bJ, dL, aI, aH, eL, aV, bZ, eI, aF, eJ, dF, aR, bF, eF, bH, bE, bB, aO, aL, cD, fG, dY, cA, cI, dA, cH, dT, bC, eK, bX, dH, bP, aU, bU, aC, bY, bO, cF, bW, aY, bA, aX, bV, dM, cU, bR, aZ, aK, aJ, bG, aE, dC, dW, aN, aM, aT, aD, cY, aG, cL, bT, bD, aP, cM, cG, aA, dN, cQ, cV, cC, dO, cB, dJ, dU, cP, eC, eM, bN, aS, dZ, bS, aQ, bL, dS, dB, cO, cS, cN, bK, bM, cX, dR, cR, dD, cZ, n3, hv, hv0, SJ, k4]
 refine (Xe hq8b).mono ?_
 rintro r wc ⟨rfl, hw⟩
 rw [hw]; clear hw wc
 simp (disch := omega) only [eY, gN, dX, stepR_skip, fP, fZ, fO, gK, gE, gC, gR, gA, eU, fV, fT, gG, fS, fM, fU, fR, fX, gH, fY, fQ, fC, gB, gI, fL, iS, iQ, iO, iR, iM, iN, iP, iU, iT, eP, Result.ok.injEq, Next.value.injEq, true_and, and_true, fK, fJ, gJ, fN, gD, gS, ZV, fE, fH, fF, fD, eZ, eX, fB, eT, eQ, eH, if_true, if_false, ZS, ZY, ZT, ZU, ZX, ZW, ZR, ZQ, eA, dV, aB, dI, dE, cJ, eB, eS, eE, dK, eD, fA, dQ, eN, bQ, dG, bJ, dL, aI, aH, eL, aV, bZ, eI, aF, eJ, dF, aR, bF, eF, bH, bE, bB, aO, aL, cD, fG, dY, cA, cI, dA, cH, dT, bC, eK, bX, dH, bP, aU, bU, aC, bY, bO, cF, bW, aY, bA, aX, bV, dM, cU, bR, aZ, aK, aJ, bG, aE, dC, dW, aN, aM, aT, aD, cY, aG, cL, bT, bD, aP, cM, cG, aA, dN, cQ, cV, cC, dO, cB, dJ, dU, cP, eC, eM, bN, aS, dZ, bS, aQ, bL, dS, dB, cO, cS, cN, bK, bM, cX, dR, cR, dD, cZ, n3]
 refine (R5 hsb).mono ?_
 rintro r wc ⟨rfl, hw⟩
 rw [hw]; clear hw wc
 rw [f6]
 simp (disch := omega) only [eY, gN, dX, stepR_skip, fP, fZ, fO, gK, gE, gC, gR, gA, eU, fV, fT, gG, fS, fM, fU, fR, fX, gH, fY, fQ, fC, gB, gI, fL, iS, iQ, iO, iR, iM, iN, iP, iU, iT, eP, Result.ok.injEq, Next.value.injEq, true_and, and_true, fK, fJ, gJ, fN, gD, gS, ZV, fE, fH, fF, fD, eZ, eX, fB, eT, eQ, eH, if_true, if_false, ZS, ZY, ZT, ZU, ZX, ZW, ZR, ZQ, eA, dV, aB, dI, dE, cJ, eB, eS, eE, dK, eD, fA, dQ, eN, bQ, dG, bJ, dL, aI, aH, eL, aV, bZ, eI, aF, eJ, dF, aR, bF, eF, bH, bE, bB, aO, aL, cD, fG, dY, cA, cI, dA, cH, dT, bC, eK, bX, dH, bP, aU, bU, aC, bY, bO, cF, bW, aY, bA, aX, bV, dM, cU, bR, aZ, aK, aJ, bG, aE, dC, dW, aN, aM, aT, aD, cY, aG, cL, bT, bD, aP, cM, cG, aA, dN, cQ, cV, cC, dO, cB, dJ, dU, cP, eC, eM, bN, aS, dZ, bS, aQ, bL, dS, dB, cO, cS, cN, bK, bM, cX, dR, cR, dD, cZ]
 refine (Qo hsb).mono ?_
 rintro r wc ⟨rfl, hw⟩
 rw [hw]; clear hw wc
 have pe : s6.epoch = 2 := by rw [ep6, h8.la]
 rw [pe]
 have k5 : (((2 : Nat) : Int) == 2) = true := rfl
 simp (disch := omega) only [eY, gN, dX, stepR_skip, fP, fZ, fO, gK, gE, gC, gR, gA, eU, fV, fT, gG, fS, fM, fU, fR, fX, gH, fY, fQ, fC, gB, gI, fL, iS, iQ, iO, iR, iM, iN, iP, iU, iT, eP, Result.ok.injEq, Next.value.injEq, true_and, and_true, fK, fJ, gJ, fN, gD, gS, ZV, fE, fH, fF, fD, eZ, eX, fB, eT, eQ, eH, if_true, if_false, ZS, ZY, ZT, ZU, ZX, ZW, ZR, ZQ, eA, dV, aB, dI, dE, cJ, eB, eS, eE, dK, eD, fA, dQ, eN, bQ, dG, bJ, dL, aI, aH, eL, aV, bZ, eI, aF, eJ, dF, aR, bF, eF, bH, bE, bB, aO, aL, cD, fG, dY, cA, cI, dA, cH, dT, bC, eK, bX, dH, bP, aU, bU, aC, bY, bO, cF, bW, aY, bA, aX, bV, dM, cU, bR, aZ, aK, aJ, bG, aE, dC, dW, aN, aM, aT, aD, cY, aG, cL, bT, bD, aP, cM, cG, aA, dN, cQ, cV, cC, dO, cB, dJ, dU, cP, eC, eM, bN, aS, dZ, bS, aQ, bL, dS, dB, cO, cS, cN, bK, bM, cX, dR, cR, dD, cZ, k5]
 have hC6 : lZ hU S6 s6 = (S6, s6, 0) := by
  unfold lZ
  rw [if_neg (by rw [er6]; decide), if_pos f6]
 refine (Hv hsb B6 (fun b hb => ?_)).mono ?_
 .have h1 := Br (k := iC s6.nm) (c := S6.seen)
  rw [hb] at h1
  have h1 : b.length <= iY S6.seen := h1
  omega
 rintro r wc ⟨rfl, hsc, -⟩
 rw [hC6]
 simp (disch := omega) only [eY, gN, dX, stepR_skip, fP, fZ, fO, gK, gE, gC, gR, gA, eU, fV, fT, gG, fS, fM, fU, fR, fX, gH, fY, fQ, fC, gB, gI, fL, iS, iQ, iO, iR, iM, iN, iP, iU, iT, eP, Result.ok.injEq, Next.value.injEq, true_and, and_true, fK, fJ, gJ, fN, gD, gS, ZV, fE, fH, fF, fD, eZ, eX, fB, eT, eQ, eH, if_true, if_false, ZS, ZY, ZT, ZU, ZX, ZW, ZR, ZQ, eA, dV, aB, dI, dE, cJ, eB, eS, eE, dK, eD, fA, dQ, eN, bQ, dG, bJ, dL, aI, aH, eL, aV, bZ, eI, aF, eJ, dF, aR, bF, eF, bH, bE, bB, aO, aL, cD, fG, dY, cA, cI, dA, cH, dT, bC, eK, bX, dH, bP, aU, bU, aC, bY, bO, cF, bW, aY, bA, aX, bV, dM, cU, bR, aZ, aK, aJ, bG, aE, dC, dW, aN, aM, aT, aD, cY, aG, cL, bT, bD, aP, cM, cG, aA, dN, cQ, cV, cC, dO, cB, dJ, dU, cP, eC, eM, bN, aS, dZ, bS, aQ, bL, dS, dB, cO, cS, cN, bK, bM, cX, dR, cR, dD, cZ, n3]
 exact hR _ (x04.seq (by obtain ⟨_, _, _, _, _, _, x, _⟩ := hsc; exact x))
end Go.Proofs.YteelnmpbnaohpaaDoor
