/- Parts of the proof of StoreRoom: merged and given short names by a program of ours. -/
import Derived.Test.YteelnmpbnaohpaaDoorZxD
set_option linter.unusedVariables false
set_option linter.unusedSimpArgs false
open Bool renaming false_eq_true → ZF, not_false → ZJ, not_true → ZK
open Int renaming toNat_natCast → ZI
open List renaming getElem?_cons_zero → ZD, getElem?_cons_succ → ZE, length_map → ZM, length_append → ZN, nodup_cons → abO
open Nat renaming zero_add → ZL, le_refl → ZU, mul_one → abL, mul_add → acM
open Option renaming isNone_some → ZG, isNone_none → ZH, getD_some → aaY
namespace Go.Proofs.YteelnmpbnaohpaaDoor
open Go Go.En Go.Pu
set_option maxRecDepth 4000
set_option maxHeartbeats 2000000
theorem V6 (l : List UInt8) : (⟨l.toArray⟩ : ByteArray).toList = l := by
 rw [ByteArray.toList_eq]
theorem XY {a b : List UInt8} (h : a ≠ b) : ((⟨a.toArray⟩ : ByteArray).toList == (⟨b.toArray⟩ : ByteArray).toList) = false := by
 rw [V6, V6]; exact beq_eq_false_iff_ne.2 h
theorem Nh (a : List UInt8) : ((⟨a.toArray⟩ : ByteArray).toList == (⟨a.toArray⟩ : ByteArray).toList) = true := beq_self_eq_true _
theorem VE {w0 : adH} {N : Nat -> Prop} {w : adH} {p : Nat} {S : jR} {old : List UInt8} (h : Al w0 N w p S) (hB : yM 0 S) (hd : S.down = false) (hF : iV sF S.seen = some old) :
 gS pg jL #[dP p, .string ⟨#[102]⟩] w (fun r w' => ∃ a c, r = .tuple #[.slice a old.length c, .int .i64 0] /\ yK w' w.heap.size 1 (.slice a old.length c) old.length (old.map oZ) /\ gT w w' jI) := by
 refine (PA (n := sF) h hB hd).mono ?_
 rintro r w' ⟨hr, x⟩
 rw [hF] at hr
 rcases hr with ⟨h, _⟩ | ⟨b, v, hb, rfl, ho⟩
 .cases h
 cases hb
 obtain ⟨a, c, rfl⟩ := ho.len
 exact ⟨a, c, rfl, ho, x⟩
structure X0 (w0 : adH) (q p : Nat) (old f : List UInt8) (k n : Nat) (w : adH) (S : jR) (s : nO) (recs : List (Nat × Nat)) (P : List UInt8) (i : Nat) : Prop where
 ses : HU w0 Y4 w q p S s
 got : SK gV gZ f k (some old) recs P S s
 rm : S.room = (n : Int)
 rl : recs.length = 1 + i
 lo : ∀ j, j < i -> s.hv.getD j false = true
 hi : ∀ j, i <= j -> s.hv.getD j false = false
theorem Ri {vo v : adI} {old f : List UInt8} {part room : Nat} {w : adH} (hg : qL w) (hbo : Bs w vo old) (hlo : old.length <= 9223372036854775807) (hb : Bs w v f) (hl : f.length <= 9223372036854775807) (hp : part < 256) (hrm : room < 65536) :
 gS pg zF #[vo, v, .int .u8 (part : Nat), .int .u16 (room : Nat)] w (fun r w' => r = .bool true /\ gT w w' jI) := by
 refine IN ?_
 obtain ⟨RR, hRR⟩ : ∃ RR : adI -> adH -> Prop, RR = fun r w' => r = .bool true /\ gT w w' jI := ⟨_, rfl⟩
 rw [<- hRR]
 have hR : ∀ w', gT w w' jI -> RR (.bool true) w' := fun w' x => by rw [hRR]; exact ⟨rfl, x⟩
 obtain ⟨a, c, rfl, hc⟩ := hb.len
 obtain ⟨ao, co, rfl, hco⟩ := hbo.len
 rw [ZM] at hb hc hbo hco ⊢
 rw [ZM]
 unfold GU vI vH
 refine (Uf hg).mono ?_
 rintro r w1 ⟨rfl, x1⟩
 by_cases h100 : 100 < old.length
 .have d1 : decide ((100 : Int) < (old.length : Int)) = true := by simp; omega
  simp (disch := omega) only [eY, gM, dX, stepR_skip, fO, gD, fN, gC, gI, fW, gR, fX, eU, fU, fS, gH, fP, fL, fT, fR, fV, gE, gG, fQ, fC, fY, gB, fK, iO, iJ, iH, iL, iI, iM, iK, iG, iN, eP, Result.ok.injEq, Next.value.injEq, true_and, and_true, fJ, fI, fZ, fM, gA, gQ, ZI, fE, fH, fG, fD, eZ, eT, fB, eX, eQ, eH, if_true, if_false, ZF, ZL, ZG, ZH, ZK, ZJ, ZE, ZD, eA, dW, aB, dI, dH, cG, eB, eS, eC, dO, eD, fA, dL, eN, bQ, dG, bG, dN, aK, aG, eJ, aY, cA, eK, aD, eM, dM, aS, bJ, eE, bH, bF, bC, aP, aM, cB, fF, dY, bZ, cH, dB, cD, dT, bE, eI, bY, dF, bP, aZ, bX, aC, bV, bR, cI, bW, bA, aT, aU, bT, dS, cR, bO, aV, aJ, aL, bD, aH, dC, dV, aI, aN, aX, aF, cX, aE, cL, bU, bB, aO, cM, cJ, aA, dR, cP, cQ, cF, dK, cC, dJ, dU, cV, eF, eL, bN, aR, dZ, bS, aQ, bL, dE, dA, cU, cO, cS, bM, bK, cY, dD, cN, dQ, cZ, d1]
  exact hR _ x1
 have d1 : decide ((100 : Int) < (old.length : Int)) = false := by simp; omega
 by_cases h101 : 100 < f.length
 .have d2 : decide ((100 : Int) < (f.length : Int)) = true := by simp; omega
  simp (disch := omega) only [eY, gM, dX, stepR_skip, fO, gD, fN, gC, gI, fW, gR, fX, eU, fU, fS, gH, fP, fL, fT, fR, fV, gE, gG, fQ, fC, fY, gB, fK, iO, iJ, iH, iL, iI, iM, iK, iG, iN, eP, Result.ok.injEq, Next.value.injEq, true_and, and_true, fJ, fI, fZ, fM, gA, gQ, ZI, fE, fH, fG, fD, eZ, eT, fB, eX, eQ, eH, if_true, if_false, ZF, ZL, ZG, ZH, ZK, ZJ, ZE, ZD, eA, dW, aB, dI, dH, cG, eB, eS, eC, dO, eD, fA, dL, eN, bQ, dG, bG, dN, aK, aG, eJ, aY, cA, eK, aD, eM, dM, aS, bJ, eE, bH, bF, bC, aP, aM, cB, fF, dY, bZ, cH, dB, cD, dT, bE, eI, bY, dF, bP, aZ, bX, aC, bV, bR, cI, bW, bA, aT, aU, bT, dS, cR, bO, aV, aJ, aL, bD, aH, dC, dV, aI, aN, aX, aF, cX, aE, cL, bU, bB, aO, cM, cJ, aA, dR, cP, cQ, cF, dK, cC, dJ, dU, cV, eF, eL, bN, aR, dZ, bS, aQ, bL, dE, dA, cU, cO, cS, bM, bK, cY, dD, cN, dQ, cZ, d1, d2]
  exact hR _ x1
 have d2 : decide ((100 : Int) < (f.length : Int)) = false := by simp; omega
 have hvf := fun {w'} (x : gT w w' jI) => jN (hb.ext x (jA _))
 have hvo := fun {w'} (x : gT w w' jI) => jN (hbo.ext x (jA _))
 have hvf1 := hvf x1
 have hvo1 := hvo x1
 by_cases hof : old = f
 .subst hof
  have k1 := Nh old
  simp (disch := omega) only [eY, gM, dX, stepR_skip, fO, gD, fN, gC, gI, fW, gR, fX, eU, fU, fS, gH, fP, fL, fT, fR, fV, gE, gG, fQ, fC, fY, gB, fK, iO, iJ, iH, iL, iI, iM, iK, iG, iN, eP, Result.ok.injEq, Next.value.injEq, true_and, and_true, fJ, fI, fZ, fM, gA, gQ, ZI, fE, fH, fG, fD, eZ, eT, fB, eX, eQ, eH, if_true, if_false, ZF, ZL, ZG, ZH, ZK, ZJ, ZE, ZD, eA, dW, aB, dI, dH, cG, eB, eS, eC, dO, eD, fA, dL, eN, bQ, dG, bG, dN, aK, aG, eJ, aY, cA, eK, aD, eM, dM, aS, bJ, eE, bH, bF, bC, aP, aM, cB, fF, dY, bZ, cH, dB, cD, dT, bE, eI, bY, dF, bP, aZ, bX, aC, bV, bR, cI, bW, bA, aT, aU, bT, dS, cR, bO, aV, aJ, aL, bD, aH, dC, dV, aI, aN, aX, aF, cX, aE, cL, bU, bB, aO, cM, cJ, aA, dR, cP, cQ, cF, dK, cC, dJ, dU, cV, eF, eL, bN, aR, dZ, bS, aQ, bL, dE, dA, cU, cO, cS, bM, bK, cY, dD, cN, dQ, cZ, d1, d2, hvf1, hvo1, LV, k1]
  exact hR _ x1
 have k1 := XY hof
 have e0 : ((part : Nat) : Int).tmod 30 = ((part % 30 : Nat) : Int) := rfl
 have e1 : IntKind.i64.wrap ((part % 30 : Nat) : Int) = ((part % 30 : Nat) : Int) := fJ (by omega) (by omega)
 have e2 : ((part % 30 : Nat) : Int) + 1 = ((part % 30 + 1 : Nat) : Int) := by omega
 simp (disch := omega) only [eY, gM, dX, stepR_skip, fO, gD, fN, gC, gI, fW, gR, fX, eU, fU, fS, gH, fP, fL, fT, fR, fV, gE, gG, fQ, fC, fY, gB, fK, iO, iJ, iH, iL, iI, iM, iK, iG, iN, eP, Result.ok.injEq, Next.value.injEq, true_and, and_true, fJ, fI, fZ, fM, gA, gQ, ZI, fE, fH, fG, fD, eZ, eT, fB, eX, eQ, eH, if_true, if_false, ZF, ZL, ZG, ZH, ZK, ZJ, ZE, ZD, eA, dW, aB, dI, dH, cG, eB, eS, eC, dO, eD, fA, dL, eN, bQ, dG, bG, dN, aK, aG, eJ, aY, cA, eK, aD, eM, dM, aS, bJ, eE, bH, bF, bC, aP, aM, cB, fF, dY, bZ, cH, dB, cD, dT, bE, eI, bY, dF, bP, aZ, bX, aC, bV, bR, cI, bW, bA, aT, aU, bT, dS, cR, bO, aV, aJ, aL, bD, aH, dC, dV, aI, aN, aX, aF, cX, aE, cL, bU, bB, aO, cM, cJ, aA, dR, cP, cQ, cF, dK, cC, dJ, dU, cV, eF, eL, bN, aR, dZ, bS, aQ, bL, dE, dA, cU, cO, cS, bM, bK, cY, dD, cN, dQ, cZ, d1, d2, hvf1, hvo1, LV, k1, e0, e1, e2]
 obtain ⟨k, hk⟩ : ∃ k, k = part % 30 + 1 := ⟨_, rfl⟩
 rw [<- hk]
 have hk0 : 0 < k := by omega
 refine (Nk (k := k) (hg.ext x1) (hb.ext x1 (jA _)) (by omega) ⟨by omega, by omega⟩).mono ?_
 rintro r w2 ⟨lv, rfl, hlv, x2⟩
 have e3 : ((room : Nat) : Int).tmod 300 = ((room % 300 : Nat) : Int) := rfl
 have e4 : IntKind.i64.wrap ((room % 300 : Nat) : Int) = ((room % 300 : Nat) : Int) := fJ (by omega) (by omega)
 have e5 : (old.length : Int) + ((room % 300 : Nat) : Int) = ((old.length + room % 300 : Nat) : Int) := by omega
 simp (disch := omega) only [eY, gM, dX, stepR_skip, fO, gD, fN, gC, gI, fW, gR, fX, eU, fU, fS, gH, fP, fL, fT, fR, fV, gE, gG, fQ, fC, fY, gB, fK, iO, iJ, iH, iL, iI, iM, iK, iG, iN, eP, Result.ok.injEq, Next.value.injEq, true_and, and_true, fJ, fI, fZ, fM, gA, gQ, ZI, fE, fH, fG, fD, eZ, eT, fB, eX, eQ, eH, if_true, if_false, ZF, ZL, ZG, ZH, ZK, ZJ, ZE, ZD, eA, dW, aB, dI, dH, cG, eB, eS, eC, dO, eD, fA, dL, eN, bQ, dG, bG, dN, aK, aG, eJ, aY, cA, eK, aD, eM, dM, aS, bJ, eE, bH, bF, bC, aP, aM, cB, fF, dY, bZ, cH, dB, cD, dT, bE, eI, bY, dF, bP, aZ, bX, aC, bV, bR, cI, bW, bA, aT, aU, bT, dS, cR, bO, aV, aJ, aL, bD, aH, dC, dV, aI, aN, aX, aF, cX, aE, cL, bU, bB, aO, cM, cJ, aA, dR, cP, cQ, cF, dK, cC, dJ, dU, cV, eF, eL, bN, aR, dZ, bS, aQ, bL, dE, dA, cU, cO, cS, bM, bK, cY, dD, cN, dQ, cZ]
 refine rI fun w3 o3 x3 s3 => ?_
 have lv1 : one lv = true := by rcases hlv.2 with ⟨rfl, _⟩ | ⟨_, _, _, rfl, _⟩ <;> rfl
 obtain ⟨mb, hmb⟩ : ∃ mb, mb = w2.heap.size := ⟨_, rfl⟩
 rw [<- hmb] at o3 ⊢
 refine pU o3 rfl (by simp [one]; exact lv1) (by simp) fun w4 o4 x4 s4 => ?_
 have o4 : jF w4 mb (NL (lA gV f k) lv) := o4
 have z1 := x1.size
 have z2 := x2.size
 have hlv4 : Cl w4 32 lv (lA gV f k).leaves.length (U0 (lA gV f k).leaves) := Qk (vE (vE (M8 (show Im w2 (fun b => w1.heap.size <= b) 32 lv _ _ from hlv)) x3 (fun _ _ h => h)) x4 (fun b hb h => by omega))
 have x04 : gT w w4 jI := ((x1.seq x2).seq x3).trans x4 fun y hy h => by omega
 have hb4 := hb.ext x04 (jA _)
 have hbo4 := hbo.ext x04 (jA _)
 have hg4 := hg.ext x04
 clear x3 s3 o3 s4 x4 hlv
 simp (disch := omega) only [eY, gM, dX, stepR_skip, fO, gD, fN, gC, gI, fW, gR, fX, eU, fU, fS, gH, fP, fL, fT, fR, fV, gE, gG, fQ, fC, fY, gB, fK, iO, iJ, iH, iL, iI, iM, iK, iG, iN, eP, Result.ok.injEq, Next.value.injEq, true_and, and_true, fJ, fI, fZ, fM, gA, gQ, ZI, fE, fH, fG, fD, eZ, eT, fB, eX, eQ, eH, if_true, if_false, ZF, ZL, ZG, ZH, ZK, ZJ, ZE, ZD, eA, dW, aB, dI, dH, cG, eB, eS, eC, dO, eD, fA, dL, eN, bQ, dG, bG, dN, aK, aG, eJ, aY, cA, eK, aD, eM, dM, aS, bJ, eE, bH, bF, bC, aP, aM, cB, fF, dY, bZ, cH, dB, cD, dT, bE, eI, bY, dF, bP, aZ, bX, aC, bV, bR, cI, bW, bA, aT, aU, bT, dS, cR, bO, aV, aJ, aL, bD, aH, dC, dV, aI, aN, aX, aF, cX, aE, cL, bU, bB, aO, cM, cJ, aA, dR, cP, cQ, cF, dK, cC, dJ, dU, cV, eF, eL, bN, aR, dZ, bS, aQ, bL, dE, dA, cU, cO, cS, bM, bK, cY, dD, cN, dQ, cZ, e3, e4, e5]
 obtain ⟨n, hn⟩ : ∃ n, n = old.length + room % 300 := ⟨_, rfl⟩
 rw [<- hn]
 have hn400 : n <= 400 := by omega
 have hno : old.length <= n := by omega
 refine (QY (w0 := w4) (gT.refl _ _) (room := (n : Int)) (by omega) (by omega)).mono ?_
 rintro r w5 ⟨p, rfl, h5, x5⟩
 simp (disch := omega) only [eY, gM, dX, stepR_skip, fO, gD, fN, gC, gI, fW, gR, fX, eU, fU, fS, gH, fP, fL, fT, fR, fV, gE, gG, fQ, fC, fY, gB, fK, iO, iJ, iH, iL, iI, iM, iK, iG, iN, eP, Result.ok.injEq, Next.value.injEq, true_and, and_true, fJ, fI, fZ, fM, gA, gQ, ZI, fE, fH, fG, fD, eZ, eT, fB, eX, eQ, eH, if_true, if_false, ZF, ZL, ZG, ZH, ZK, ZJ, ZE, ZD, eA, dW, aB, dI, dH, cG, eB, eS, eC, dO, eD, fA, dL, eN, bQ, dG, bG, dN, aK, aG, eJ, aY, cA, eK, aD, eM, dM, aS, bJ, eE, bH, bF, bC, aP, aM, cB, fF, dY, bZ, cH, dB, cD, dT, bE, eI, bY, dF, bP, aZ, bX, aC, bV, bR, cI, bW, bA, aT, aU, bT, dS, cR, bO, aV, aJ, aL, bD, aH, dC, dV, aI, aN, aX, aF, cX, aE, cL, bU, bB, aO, cM, cJ, aA, dR, cP, cQ, cF, dK, cC, dJ, dU, cV, eF, eL, bN, aR, dZ, bS, aQ, bL, dE, dA, cU, cO, cS, bM, bK, cY, dD, cN, dQ, cZ]
 refine (R0 (name := sF) (a := 0) h5 (Qe (n := 0) ⟨by omega, by omega⟩ (by decide)).bd (hbo4.ext x5 (jA _)) (by omega) (by decide)).mono ?_
 rintro r w6 ⟨rfl, h6, -⟩
 rw [Vq (by omega)] at h6 ⊢
 have b6 : Wp ({ IH (n : Int) with under := [⟨0, sF, ⟨#[]⟩, 0, old⟩], seen := [(sF, old)] } : jR) := by
  have := Mr (n := 3) (k := sF) (a := 0) (l := old) (Qe (r := (n : Int)) (n := 4) ⟨by omega, by omega⟩ (by decide))
  rw [Vq (by omega)] at this
  exact this.bd
 refine (Ua h6 b6).mono ?_
 rintro r w7 ⟨rfl, h7, -⟩
 rw [XH] at h7 ⊢
 obtain ⟨S0, hS0⟩ : ∃ S0, S0 = Rp (n : Int) old := ⟨_, rfl⟩
 have c0 : Calm S0 := by rw [hS0]; exact Wa
 have z0 : iE S0.seen = old.length := by rw [hS0]; exact QM
 have gF0 : iV sF S0.seen = some old := by rw [hS0]; exact Yt
 have gP0 : iV (hU sF) S0.seen = none := by rw [hS0]; exact Yr
 have gL0 : iV (jE sF) S0.seen = none := by rw [hS0]; exact YV
 have r0 : S0.room = (n : Int) := by rw [hS0] <;> rfl
 have nd0 : (S0.seen.map (·.1)).Nodup := by rw [hS0]; exact abO.2 ⟨List.not_mem_nil, List.nodup_nil⟩
 have B0 : ∀ {m}, m <= 100 -> yM m S0 := fun {m} hm => by rw [hS0]; exact XV ⟨by omega, by omega⟩ (by omega) (by omega)
 rw [<- hS0] at h7
 have o7 : ∀ {w'}, gT w4 w' jI -> jF w' mb (NL (lA gV f k) lv) := fun x => o4.ext x (fun h => h)
 have lm : ∀ {w'}, gT w4 w' jI -> (gJ 28 (.pointer (some ⟨mb, 0, none⟩))).run pg w' = .ok (.value (.agg (NL (lA gV f k) lv).toArray)) w' := fun x => pZ (off := 0) (o7 x) (by simp)
 have lm7 := lm h7.x
 simp (disch := omega) only [eY, gM, dX, stepR_skip, fO, gD, fN, gC, gI, fW, gR, fX, eU, fU, fS, gH, fP, fL, fT, fR, fV, gE, gG, fQ, fC, fY, gB, fK, iO, iJ, iH, iL, iI, iM, iK, iG, iN, eP, Result.ok.injEq, Next.value.injEq, true_and, and_true, fJ, fI, fZ, fM, gA, gQ, ZI, fE, fH, fG, fD, eZ, eT, fB, eX, eQ, eH, if_true, if_false, ZF, ZL, ZG, ZH, ZK, ZJ, ZE, ZD, eA, dW, aB, dI, dH, cG, eB, eS, eC, dO, eD, fA, dL, eN, bQ, dG, bG, dN, aK, aG, eJ, aY, cA, eK, aD, eM, dM, aS, bJ, eE, bH, bF, bC, aP, aM, cB, fF, dY, bZ, cH, dB, cD, dT, bE, eI, bY, dF, bP, aZ, bX, aC, bV, bR, cI, bW, bA, aT, aU, bT, dS, cR, bO, aV, aJ, aL, bD, aH, dC, dV, aI, aN, aX, aF, cX, aE, cL, bU, bB, aO, cM, cJ, aA, dR, cP, cQ, cF, dK, cC, dJ, dU, cV, eF, eL, bN, aR, dZ, bS, aQ, bL, dE, dA, cU, cO, cS, bM, bK, cY, dD, cN, dQ, cZ, lm7]
 have opn := fun {S' so e} (hO : Ar gV gZ S0 sF (lA gV f k) = (S', so, e)) => O3 h7 hg4 (B0 (by decide)) (VP ⟨hk0, by omega⟩ (by omega)) (JE hlv4 h7.x (jA _)) (nm := sF) ⟨by decide, by decide⟩ (by rw [z0]; omega) hO
 have e6 : (old.length : Int) + 13 = ((old.length + 13 : Nat) : Int) := by omega
 have e7 : ((old.length + 13 : Nat) : Int) + (f.length : Int) = ((old.length + 13 + f.length : Nat) : Int) := by omega
 have n1 : ((0 : Int) != 0) = false := rfl
 have n2 : ((22 : Int) == 0) = false := rfl
 have n3 : ((0 : Int) == 0) = true := rfl
 have n4 : ((22 : Int) == 22) = true := rfl
 have n5 : ((22 : Int) != 0) = true := rfl
 have hcase : (∃ S', Ar gV gZ S0 sF (lA gV f k) = (S', none, 22) /\ n < old.length + 13 + f.length /\ Calm S' /\ iV sF S'.seen = some old /\ yM 0 S') ∨ (∃ S' s', Ar gV gZ S0 sF (lA gV f k) = (S', some s', 0) /\ s'.fin = true) ∨ (¬ n < old.length + 13 + f.length /\ ∃ S' s', Ar gV gZ S0 sF (lA gV f k) = (S', some s', 0) /\ SK gV gZ f k (some old) [(1, 1)] (List.replicate f.length 0) S' s' /\ S'.room = (n : Int) /\ ∀ i, s'.hv.getD i false = false) := by
  have hL : (iV (jE sF) S0.seen).getD [] = nI gZ [] := by rw [gL0] <;> rfl
  have bo := Ww (n := 0) (nm := sF) (m := lA gV f k) (B0 (m := 3) (by decide))
  obtain ⟨p1, p2⟩ := Q6 (lf := gV) (cf := gZ) (f := f) (k := k) c0 hL (by simp) (by show (0 : Nat) < _; omega)
  by_cases hA : n < old.length + 13
  .have := p1 (by rw [r0, z0]; omega)
   rw [this] at bo
   exact .inl ⟨S0, this, by omega, c0, gF0, bo⟩
  have p2 := p2 (by rw [r0, z0]; omega)
  cases hf : O0 gV f k S0 with
  | true =>
    rw [hf, if_pos rfl] at p2
    exact .inr (.inl ⟨_, _, p2, hf⟩)
  | false =>
    by_cases hB : n < old.length + 13 + f.length
    .have := (Pn (lf := gV) (cf := gZ) (f := f) (k := k) c0 hL (by simp) (by show (0 : Nat) < _; omega) (by rw [r0, z0]; omega) hf gP0).1 (by rw [r0, z0]; omega)
     rw [this] at bo
     exact .inl ⟨_, this, hB, ⟨c0.up, c0.left⟩, by rw [Vb]; exact gF0, bo⟩
    .obtain ⟨S1, s1, hO, g1, r1, p1, v1⟩ := Rt (lf := gV) (cf := gZ) (f := f) (k := k) c0 hk0 gL0 gP0 gF0 nd0 (by rw [z0] <;> rfl) (by rw [r0]; omega) hf (by rw [r0, z0]; omega)
     exact .inr (.inr ⟨hB, S1, s1, hO, g1, r1.trans r0, v1⟩)
 rcases hcase with ⟨S1, hO, hB, c1, gF1, B1⟩ | ⟨S1, s1, hO, hfin⟩ | ⟨hB, S1, s1, hO, g1, r1, v1⟩
 .refine (opn hO).mono ?_
  rintro r w8 ⟨⟨rfl, h8⟩, x8⟩
  have d3 : decide ((n : Int) < ((old.length + 13 + f.length : Nat) : Int)) = true := by simp; omega
  simp (disch := omega) only [eY, gM, dX, stepR_skip, fO, gD, fN, gC, gI, fW, gR, fX, eU, fU, fS, gH, fP, fL, fT, fR, fV, gE, gG, fQ, fC, fY, gB, fK, iO, iJ, iH, iL, iI, iM, iK, iG, iN, eP, Result.ok.injEq, Next.value.injEq, true_and, and_true, fJ, fI, fZ, fM, gA, gQ, ZI, fE, fH, fG, fD, eZ, eT, fB, eX, eQ, eH, if_true, if_false, ZF, ZL, ZG, ZH, ZK, ZJ, ZE, ZD, eA, dW, aB, dI, dH, cG, eB, eS, eC, dO, eD, fA, dL, eN, bQ, dG, bG, dN, aK, aG, eJ, aY, cA, eK, aD, eM, dM, aS, bJ, eE, bH, bF, bC, aP, aM, cB, fF, dY, bZ, cH, dB, cD, dT, bE, eI, bY, dF, bP, aZ, bX, aC, bV, bR, cI, bW, bA, aT, aU, bT, dS, cR, bO, aV, aJ, aL, bD, aH, dC, dV, aI, aN, aX, aF, cX, aE, cL, bU, bB, aO, cM, cJ, aA, dR, cP, cQ, cF, dK, cC, dJ, dU, cV, eF, eL, bN, aR, dZ, bS, aQ, bL, dE, dA, cU, cO, cS, bM, bK, cY, dD, cN, dQ, cZ, n1, n2, e6, e7, d3]
  refine (VE h8 B1 c1.up gF1).mono ?_
  rintro r w9 ⟨va, vc, rfl, ho, x9⟩
  have x49 := h8.x.seq x9
  have hv := jN (show Bs w9 (.slice va old.length vc) old from ho.sl)
  have hv2 := jN (hbo4.ext x49 (jA _))
  have k2 := Nh old
  simp (disch := omega) only [eY, gM, dX, stepR_skip, fO, gD, fN, gC, gI, fW, gR, fX, eU, fU, fS, gH, fP, fL, fT, fR, fV, gE, gG, fQ, fC, fY, gB, fK, iO, iJ, iH, iL, iI, iM, iK, iG, iN, eP, Result.ok.injEq, Next.value.injEq, true_and, and_true, fJ, fI, fZ, fM, gA, gQ, ZI, fE, fH, fG, fD, eZ, eT, fB, eX, eQ, eH, if_true, if_false, ZF, ZL, ZG, ZH, ZK, ZJ, ZE, ZD, eA, dW, aB, dI, dH, cG, eB, eS, eC, dO, eD, fA, dL, eN, bQ, dG, bG, dN, aK, aG, eJ, aY, cA, eK, aD, eM, dM, aS, bJ, eE, bH, bF, bC, aP, aM, cB, fF, dY, bZ, cH, dB, cD, dT, bE, eI, bY, dF, bP, aZ, bX, aC, bV, bR, cI, bW, bA, aT, aU, bT, dS, cR, bO, aV, aJ, aL, bD, aH, dC, dV, aI, aN, aX, aF, cX, aE, cL, bU, bB, aO, cM, cJ, aA, dR, cP, cQ, cF, dK, cC, dJ, dU, cV, eF, eL, bN, aR, dZ, bS, aQ, bL, dE, dA, cU, cO, cS, bM, bK, cY, dD, cN, dQ, cZ, n4, n3, J1 Tryd.underlying35, Option.isNone, hv, hv2, LV, k2]
  exact hR _ (x04.seq x49)
 .refine (opn hO).mono ?_
  rintro r w8 ⟨⟨q, rfl, _, h8⟩, x8⟩
  simp (disch := omega) only [eY, gM, dX, stepR_skip, fO, gD, fN, gC, gI, fW, gR, fX, eU, fU, fS, gH, fP, fL, fT, fR, fV, gE, gG, fQ, fC, fY, gB, fK, iO, iJ, iH, iL, iI, iM, iK, iG, iN, eP, Result.ok.injEq, Next.value.injEq, true_and, and_true, fJ, fI, fZ, fM, gA, gQ, ZI, fE, fH, fG, fD, eZ, eT, fB, eX, eQ, eH, if_true, if_false, ZF, ZL, ZG, ZH, ZK, ZJ, ZE, ZD, eA, dW, aB, dI, dH, cG, eB, eS, eC, dO, eD, fA, dL, eN, bQ, dG, bG, dN, aK, aG, eJ, aY, cA, eK, aD, eM, dM, aS, bJ, eE, bH, bF, bC, aP, aM, cB, fF, dY, bZ, cH, dB, cD, dT, bE, eI, bY, dF, bP, aZ, bX, aC, bV, bR, cI, bW, bA, aT, aU, bT, dS, cR, bO, aV, aJ, aL, bD, aH, dC, dV, aI, aN, aX, aF, cX, aE, cL, bU, bB, aO, cM, cJ, aA, dR, cP, cQ, cF, dK, cC, dJ, dU, cV, eF, eL, bN, aR, dZ, bS, aQ, bL, dE, dA, cU, cO, cS, bM, bK, cY, dD, cN, dQ, cZ, n1, n3, e6, e7]
  refine (Lt h8).mono ?_
  rintro r w9 ⟨rfl, hw⟩
  rw [hw]; clear hw w9
  rw [hfin]
  simp (disch := omega) only [eY, gM, dX, stepR_skip, fO, gD, fN, gC, gI, fW, gR, fX, eU, fU, fS, gH, fP, fL, fT, fR, fV, gE, gG, fQ, fC, fY, gB, fK, iO, iJ, iH, iL, iI, iM, iK, iG, iN, eP, Result.ok.injEq, Next.value.injEq, true_and, and_true, fJ, fI, fZ, fM, gA, gQ, ZI, fE, fH, fG, fD, eZ, eT, fB, eX, eQ, eH, if_true, if_false, ZF, ZL, ZG, ZH, ZK, ZJ, ZE, ZD, eA, dW, aB, dI, dH, cG, eB, eS, eC, dO, eD, fA, dL, eN, bQ, dG, bG, dN, aK, aG, eJ, aY, cA, eK, aD, eM, dM, aS, bJ, eE, bH, bF, bC, aP, aM, cB, fF, dY, bZ, cH, dB, cD, dT, bE, eI, bY, dF, bP, aZ, bX, aC, bV, bR, cI, bW, bA, aT, aU, bT, dS, cR, bO, aV, aJ, aL, bD, aH, dC, dV, aI, aN, aX, aF, cX, aE, cL, bU, bB, aO, cM, cJ, aA, dR, cP, cQ, cF, dK, cC, dJ, dU, cV, eF, eL, bN, aR, dZ, bS, aQ, bL, dE, dA, cU, cO, cS, bM, bK, cY, dD, cN, dQ, cZ]
  exact hR _ (x04.seq h8.x)
 refine (opn hO).mono ?_
 rintro r w8 ⟨⟨q, rfl, _, h8⟩, x8⟩
 have d3 : decide ((n : Int) < ((old.length + 13 + f.length : Nat) : Int)) = false := by simp; omega
 simp (disch := omega) only [eY, gM, dX, stepR_skip, fO, gD, fN, gC, gI, fW, gR, fX, eU, fU, fS, gH, fP, fL, fT, fR, fV, gE, gG, fQ, fC, fY, gB, fK, iO, iJ, iH, iL, iI, iM, iK, iG, iN, eP, Result.ok.injEq, Next.value.injEq, true_and, and_true, fJ, fI, fZ, fM, gA, gQ, ZI, fE, fH, fG, fD, eZ, eT, fB, eX, eQ, eH, if_true, if_false, ZF, ZL, ZG, ZH, ZK, ZJ, ZE, ZD, eA, dW, aB, dI, dH, cG, eB, eS, eC, dO, eD, fA, dL, eN, bQ, dG, bG, dN, aK, aG, eJ, aY, cA, eK, aD, eM, dM, aS, bJ, eE, bH, bF, bC, aP, aM, cB, fF, dY, bZ, cH, dB, cD, dT, bE, eI, bY, dF, bP, aZ, bX, aC, bV, bR, cI, bW, bA, aT, aU, bT, dS, cR, bO, aV, aJ, aL, bD, aH, dC, dV, aI, aN, aX, aF, cX, aE, cL, bU, bB, aO, cM, cJ, aA, dR, cP, cQ, cF, dK, cC, dJ, dU, cV, eF, eL, bN, aR, dZ, bS, aQ, bL, dE, dA, cU, cO, cS, bM, bK, cY, dD, cN, dQ, cZ, n1, n3, e6, e7]
 refine (Lt h8).mono ?_
 rintro r w9 ⟨rfl, hw⟩
 rw [hw]; clear hw w9
 rw [g1.fin]
 simp (disch := omega) only [eY, gM, dX, stepR_skip, fO, gD, fN, gC, gI, fW, gR, fX, eU, fU, fS, gH, fP, fL, fT, fR, fV, gE, gG, fQ, fC, fY, gB, fK, iO, iJ, iH, iL, iI, iM, iK, iG, iN, eP, Result.ok.injEq, Next.value.injEq, true_and, and_true, fJ, fI, fZ, fM, gA, gQ, ZI, fE, fH, fG, fD, eZ, eT, fB, eX, eQ, eH, if_true, if_false, ZF, ZL, ZG, ZH, ZK, ZJ, ZE, ZD, eA, dW, aB, dI, dH, cG, eB, eS, eC, dO, eD, fA, dL, eN, bQ, dG, bG, dN, aK, aG, eJ, aY, cA, eK, aD, eM, dM, aS, bJ, eE, bH, bF, bC, aP, aM, cB, fF, dY, bZ, cH, dB, cD, dT, bE, eI, bY, dF, bP, aZ, bX, aC, bV, bR, cI, bW, bA, aT, aU, bT, dS, cR, bO, aV, aJ, aL, bD, aH, dC, dV, aI, aN, aX, aF, cX, aE, cL, bU, bB, aO, cM, cJ, aA, dR, cP, cQ, cF, dK, cC, dJ, dU, cV, eF, eL, bN, aR, dZ, bS, aQ, bL, dE, dA, cU, cO, cS, bM, bK, cY, dD, cN, dQ, cZ, d3, n1]
 refine (Lt h8).mono ?_
 rintro r w9 ⟨rfl, hw⟩
 rw [hw]; clear hw w9
 rw [g1.fin]
 simp (disch := omega) only [eY, gM, dX, stepR_skip, fO, gD, fN, gC, gI, fW, gR, fX, eU, fU, fS, gH, fP, fL, fT, fR, fV, gE, gG, fQ, fC, fY, gB, fK, iO, iJ, iH, iL, iI, iM, iK, iG, iN, eP, Result.ok.injEq, Next.value.injEq, true_and, and_true, fJ, fI, fZ, fM, gA, gQ, ZI, fE, fH, fG, fD, eZ, eT, fB, eX, eQ, eH, if_true, if_false, ZF, ZL, ZG, ZH, ZK, ZJ, ZE, ZD, eA, dW, aB, dI, dH, cG, eB, eS, eC, dO, eD, fA, dL, eN, bQ, dG, bG, dN, aK, aG, eJ, aY, cA, eK, aD, eM, dM, aS, bJ, eE, bH, bF, bC, aP, aM, cB, fF, dY, bZ, cH, dB, cD, dT, bE, eI, bY, dF, bP, aZ, bX, aC, bV, bR, cI, bW, bA, aT, aU, bT, dS, cR, bO, aV, aJ, aL, bD, aH, dC, dV, aI, aN, aX, aF, cX, aE, cL, bU, bB, aO, cM, cJ, aA, dR, cP, cQ, cF, dK, cC, dJ, dU, cV, eF, eL, bN, aR, dZ, bS, aQ, bL, dE, dA, cU, cO, cS, bM, bK, cY, dD, cN, dQ, cZ]
 have hmn : (lA gV f k).leaves.length = nC f.length k := Cr gV f k
 have hlvn : ∃ la lc, lv = .slice la (nC f.length k) lc := by
  obtain ⟨la, lc, h, _⟩ := hlv4
  rw [hmn] at h
  exact ⟨la, lc, h⟩
 obtain ⟨la, lc, hlve⟩ := hlvn
 subst hlve
 have hcn := Nf (L := f.length) hk0
 obtain ⟨m, hm⟩ : ∃ m, m = nC f.length k := ⟨_, rfl⟩
 have start : X0 w4 q p old f k n w8 S1 s1 [(1, 1)] (List.replicate f.length 0) 0 := ⟨h8, g1, r1, rfl, fun j hj => by omega, fun j _ => v1 j⟩
 rw [<- hm] at hmn hcn o7 o4 hlv4
 clear h5 lm7 x5 h6 h7 h8 x8 opn lm hO
 unfold vN vD vQ vL vO
 refine kF.rule (fun l (t : adI × adI) w' => ∃ (i : Nat) (S : jR) (s : nO) (recs : List (Nat × Nat)) (P : List UInt8), l = m - i /\ i <= m /\ t = (.int .i64 ((old.length + 13 + f.length + 13 * i : Nat) : Int), .int .i64 (i : Nat)) /\ X0 w4 q p old f k n w' S s recs P i) m
  ⟨0, _, _, _, _, rfl, by omega, rfl, start⟩ ?_
 clear start g1 r1 v1 s1 S1
 rintro l t w9 ⟨i, S, s, recs, P, rfl, hi, rfl, h9⟩
 have c6 := (o7 h9.ses.x).cell (off := 2)
 simp only [ZD, ZE] at c6
 have hz := h9.got.sz
 have hrl := h9.rl
 have hrb := Oa h9.got
 rw [aaY] at hz
 unfold qY xA
 by_cases hlt : i < m
 .have d4 : decide ((i : Int) < (m : Int)) = true := by simp; omega
  unfold wU wX CY xT
  have hkx := (A9 (L := f.length) hk0 (i := i)).1 (by omega)
  obtain ⟨pe1, pe2⟩ := Uk hkx
  have q1 : (i : Int) + 1 = ((i + 1 : Nat) : Int) := by omega
  have q2 : (k : Int) * ((i + 1 : Nat) : Int) = ((k * (i + 1) : Nat) : Int) := by rw [Int.natCast_mul]
  have q3 : (k : Int) * ((i : Nat) : Int) = ((k * i : Nat) : Int) := by rw [Int.natCast_mul]
  have hb' : k * (i + 1) <= 100000 := by rw [acM, abL]; omega
  obtain ⟨T, hT⟩ : ∃ T, T = k * (i + 1) := ⟨_, rfl⟩
  rw [<- hT] at q2 hb' pe1 pe2
  have put2 : ∀ (to : Nat), to = k * i + Jo f.length k i -> oK (fun Zs iT nN nA nZ mI lZ iQ nB w => oQ (fun _ _ _ _ _ _ _ iQ nB w => ∃ l, l < m - i /\ ∃ (i' : Nat) (S : jR) (s : nO) (recs : List (Nat × Nat)) (P : List UInt8), l = m - i' /\ i' <= m /\ (iQ, nB) = (Value.int .i64 ((old.length + 13 + f.length + 13 * i' : Nat) : Int), Value.int .i64 (i' : Nat)) /\ X0 w4 q p old f k n w S s recs P i') Zs iT nN nA nZ mI lZ iQ nB w) RR (.slice ao old.length co) (.slice a f.length c) (.int .i64 (k : Nat)) (.pointer (some ⟨mb, 0, none⟩)) (.int .i64 (n : Nat)) (dP p) (dP q) (.int .i64 ((old.length + 13 + f.length + 13 * i : Nat) : Int)) (.int .i64 (i : Nat)) (.int .i64 (to : Nat)) w9 := by
   intro to hto
   unfold oK
   have hse := Gk hkx
   have hbi := RI (k := k) (i := i) hb4 hkx
   have hput := Wn (a := a) (c := c) (i := i) h9.ses h9.got hb4 hk0 (by omega) (by omega) (by omega)
   have hsp : (uK f.length k i f).length <= 1000000 := by have := DN f.length k i f; omega
   have hv0 := h9.hi i (ZU _)
   obtain ⟨pn1, pn2⟩ := Nb h9.got hk0 (by omega) (i := i) (by omega) hv0
   rw [<- hto] at hput hse hbi
   obtain ⟨P0, hP0⟩ : ∃ P0, P0 = k * i := ⟨_, rfl⟩
   rw [<- hP0] at hput q3 hto hbi
   have hle : P0 <= to := by omega
   have q5 : ((old.length + 13 + f.length + 13 * i : Nat) : Int) + 13 = ((old.length + 13 + f.length + 13 * (i + 1) : Nat) : Int) := by omega
   simp (disch := omega) only [eY, gM, dX, stepR_skip, fO, gD, fN, gC, gI, fW, gR, fX, eU, fU, fS, gH, fP, fL, fT, fR, fV, gE, gG, fQ, fC, fY, gB, fK, iO, iJ, iH, iL, iI, iM, iK, iG, iN, eP, Result.ok.injEq, Next.value.injEq, true_and, and_true, fJ, fI, fZ, fM, gA, gQ, ZI, fE, fH, fG, fD, eZ, eT, fB, eX, eQ, eH, if_true, if_false, ZF, ZL, ZG, ZH, ZK, ZJ, ZE, ZD, eA, dW, aB, dI, dH, cG, eB, eS, eC, dO, eD, fA, dL, eN, bQ, dG, bG, dN, aK, aG, eJ, aY, cA, eK, aD, eM, dM, aS, bJ, eE, bH, bF, bC, aP, aM, cB, fF, dY, bZ, cH, dB, cD, dT, bE, eI, bY, dF, bP, aZ, bX, aC, bV, bR, cI, bW, bA, aT, aU, bT, dS, cR, bO, aV, aJ, aL, bD, aH, dC, dV, aI, aN, aX, aF, cX, aE, cL, bU, bB, aO, cM, cJ, aA, dR, cP, cQ, cF, dK, cC, dJ, dU, cV, eF, eL, bN, aR, dZ, bS, aQ, bL, dE, dA, cU, cO, cS, bM, bK, cY, dD, cN, dQ, cZ, q3, q5]
   refine hput.mono ?_
   rintro r wa ⟨rfl, ha, -⟩
   by_cases hrm2 : n < old.length + 13 + f.length + 13 * (i + 1)
   .have d5 : decide ((n : Int) < ((old.length + 13 + f.length + 13 * (i + 1) : Nat) : Int)) = true := by simp; omega
    obtain ⟨S', s', hp1, he1, cS', gS'⟩ := pn2 (by rw [h9.rm, hz]; omega)
    have hk1 := UH (S := S) (s := s) (i := ((i : Nat) : Int)) (b := uK f.length k i f)
    have hB1 := Yb (s := s) (i := ((i : Nat) : Int)) (b := uK f.length k i f) (h9.got.bk (n := 4) (by decide))
    rw [hp1] at ha hk1 hB1 ⊢
    obtain ⟨m1, m2, m3, m4, m5, m6⟩ := hk1
    have hpe := WS (S := S') (s := s') (i := ((i : Nat) : Int)) (b := uK f.length k i f) (by rw [he1]; decide)
    rw [he1] at hpe
    simp (disch := omega) only [eY, gM, dX, stepR_skip, fO, gD, fN, gC, gI, fW, gR, fX, eU, fU, fS, gH, fP, fL, fT, fR, fV, gE, gG, fQ, fC, fY, gB, fK, iO, iJ, iH, iL, iI, iM, iK, iG, iN, eP, Result.ok.injEq, Next.value.injEq, true_and, and_true, fJ, fI, fZ, fM, gA, gQ, ZI, fE, fH, fG, fD, eZ, eT, fB, eX, eQ, eH, if_true, if_false, ZF, ZL, ZG, ZH, ZK, ZJ, ZE, ZD, eA, dW, aB, dI, dH, cG, eB, eS, eC, dO, eD, fA, dL, eN, bQ, dG, bG, dN, aK, aG, eJ, aY, cA, eK, aD, eM, dM, aS, bJ, eE, bH, bF, bC, aP, aM, cB, fF, dY, bZ, cH, dB, cD, dT, bE, eI, bY, dF, bP, aZ, bX, aC, bV, bR, cI, bW, bA, aT, aU, bT, dS, cR, bO, aV, aJ, aL, bD, aH, dC, dV, aI, aN, aX, aF, cX, aE, cL, bU, bB, aO, cM, cJ, aA, dR, cP, cQ, cF, dK, cC, dJ, dU, cV, eF, eL, bN, aR, dZ, bS, aQ, bL, dE, dA, cU, cO, cS, bM, bK, cY, dD, cN, dQ, cZ, q3, d5]
    refine (PN (i := ((i : Nat) : Int)) (b := uK f.length k i f) ha (gT.refl _ _) hB1 (by rw [m1, m3, h9.got.hvl, h9.got.man, Cr]) (hbi.ext ha.x (jA _)) hsp (US hbi) (by rw [h9.got.log] at m4; omega) (by omega)).mono ?_
    rintro r wb ⟨rfl, hb5, -⟩
    rw [hpe] at hb5 ⊢
    simp (disch := omega) only [eY, gM, dX, stepR_skip, fO, gD, fN, gC, gI, fW, gR, fX, eU, fU, fS, gH, fP, fL, fT, fR, fV, gE, gG, fQ, fC, fY, gB, fK, iO, iJ, iH, iL, iI, iM, iK, iG, iN, eP, Result.ok.injEq, Next.value.injEq, true_and, and_true, fJ, fI, fZ, fM, gA, gQ, ZI, fE, fH, fG, fD, eZ, eT, fB, eX, eQ, eH, if_true, if_false, ZF, ZL, ZG, ZH, ZK, ZJ, ZE, ZD, eA, dW, aB, dI, dH, cG, eB, eS, eC, dO, eD, fA, dL, eN, bQ, dG, bG, dN, aK, aG, eJ, aY, cA, eK, aD, eM, dM, aS, bJ, eE, bH, bF, bC, aP, aM, cB, fF, dY, bZ, cH, dB, cD, dT, bE, eI, bY, dF, bP, aZ, bX, aC, bV, bR, cI, bW, bA, aT, aU, bT, dS, cR, bO, aV, aJ, aL, bD, aH, dC, dV, aI, aN, aX, aF, cX, aE, cL, bU, bB, aO, cM, cJ, aA, dR, cP, cQ, cF, dK, cC, dJ, dU, cV, eF, eL, bN, aR, dZ, bS, aQ, bL, dE, dA, cU, cO, cS, bM, bK, cY, dD, cN, dQ, cZ]
    refine (KL (n := sF) hb5 (hB1.le (by decide)) cS'.up).mono ?_
    rintro r wc ⟨hr, hc5, xc⟩
    rw [gS'] at hr
    rcases hr with ⟨h, _⟩ | ⟨b, vv, hbb, rfl, ho⟩
    .cases h
    cases hbb
    obtain ⟨N', hda, hNN, hvb⟩ := hb5.hold xc ho
    obtain ⟨va, vc, rfl⟩ := ho.len
    simp (disch := omega) only [eY, gM, dX, stepR_skip, fO, gD, fN, gC, gI, fW, gR, fX, eU, fU, fS, gH, fP, fL, fT, fR, fV, gE, gG, fQ, fC, fY, gB, fK, iO, iJ, iH, iL, iI, iM, iK, iG, iN, eP, Result.ok.injEq, Next.value.injEq, true_and, and_true, fJ, fI, fZ, fM, gA, gQ, ZI, fE, fH, fG, fD, eZ, eT, fB, eX, eQ, eH, if_true, if_false, ZF, ZL, ZG, ZH, ZK, ZJ, ZE, ZD, eA, dW, aB, dI, dH, cG, eB, eS, eC, dO, eD, fA, dL, eN, bQ, dG, bG, dN, aK, aG, eJ, aY, cA, eK, aD, eM, dM, aS, bJ, eE, bH, bF, bC, aP, aM, cB, fF, dY, bZ, cH, dB, cD, dT, bE, eI, bY, dF, bP, aZ, bX, aC, bV, bR, cI, bW, bA, aT, aU, bT, dS, cR, bO, aV, aJ, aL, bD, aH, dC, dV, aI, aN, aX, aF, cX, aE, cL, bU, bB, aO, cM, cJ, aA, dR, cP, cQ, cF, dK, cC, dJ, dU, cV, eF, eL, bN, aR, dZ, bS, aQ, bL, dE, dA, cU, cO, cS, bM, bK, cY, dD, cN, dQ, cZ, n4]
    refine (WD hda).mono ?_
    rintro r wd ⟨rfl, hw⟩
    rw [hw]; clear hw wd
    rw [he1]
    have hce := So (S := S') (s := s') (by rw [he1]; decide)
    rw [he1] at hce
    simp (disch := omega) only [eY, gM, dX, stepR_skip, fO, gD, fN, gC, gI, fW, gR, fX, eU, fU, fS, gH, fP, fL, fT, fR, fV, gE, gG, fQ, fC, fY, gB, fK, iO, iJ, iH, iL, iI, iM, iK, iG, iN, eP, Result.ok.injEq, Next.value.injEq, true_and, and_true, fJ, fI, fZ, fM, gA, gQ, ZI, fE, fH, fG, fD, eZ, eT, fB, eX, eQ, eH, if_true, if_false, ZF, ZL, ZG, ZH, ZK, ZJ, ZE, ZD, eA, dW, aB, dI, dH, cG, eB, eS, eC, dO, eD, fA, dL, eN, bQ, dG, bG, dN, aK, aG, eJ, aY, cA, eK, aD, eM, dM, aS, bJ, eE, bH, bF, bC, aP, aM, cB, fF, dY, bZ, cH, dB, cD, dT, bE, eI, bY, dF, bP, aZ, bX, aC, bV, bR, cI, bW, bA, aT, aU, bT, dS, cR, bO, aV, aJ, aL, bD, aH, dC, dV, aI, aN, aX, aF, cX, aE, cL, bU, bB, aO, cM, cJ, aA, dR, cP, cQ, cF, dK, cC, dJ, dU, cV, eF, eL, bN, aR, dZ, bS, aQ, bL, dE, dA, cU, cO, cS, bM, bK, cY, dD, cN, dQ, cZ, n4]
    refine (Gt hda hB1 (fun b hb => ?_)).mono ?_
    .have h1 := AH (k := hU s'.nm) (c := S'.seen)
     rw [hb] at h1
     have h1 : b.length <= iE S'.seen := h1
     have hps := VM (S := S) (s := s) (i := ((i : Nat) : Int)) (b := uK f.length k i f)
     rw [hp1, h9.got.man] at hps
     have hps : iE S'.seen <= iE S.seen + (k * i + (uK f.length k i f).length) + (s.log + 13) := hps
     have hpl := DN f.length k i f
     have hlg := h9.got.log
     omega
    rintro r wd ⟨rfl, hd5, xd⟩
    rw [hce] at hd5 ⊢
    have hv := jN (hvb wd xd)
    have hv2 := jN (hbo4.ext hd5.x (jA _))
    have k2 := Nh old
    simp (disch := omega) only [eY, gM, dX, stepR_skip, fO, gD, fN, gC, gI, fW, gR, fX, eU, fU, fS, gH, fP, fL, fT, fR, fV, gE, gG, fQ, fC, fY, gB, fK, iO, iJ, iH, iL, iI, iM, iK, iG, iN, eP, Result.ok.injEq, Next.value.injEq, true_and, and_true, fJ, fI, fZ, fM, gA, gQ, ZI, fE, fH, fG, fD, eZ, eT, fB, eX, eQ, eH, if_true, if_false, ZF, ZL, ZG, ZH, ZK, ZJ, ZE, ZD, eA, dW, aB, dI, dH, cG, eB, eS, eC, dO, eD, fA, dL, eN, bQ, dG, bG, dN, aK, aG, eJ, aY, cA, eK, aD, eM, dM, aS, bJ, eE, bH, bF, bC, aP, aM, cB, fF, dY, bZ, cH, dB, cD, dT, bE, eI, bY, dF, bP, aZ, bX, aC, bV, bR, cI, bW, bA, aT, aU, bT, dS, cR, bO, aV, aJ, aL, bD, aH, dC, dV, aI, aN, aX, aF, cX, aE, cL, bU, bB, aO, cM, cJ, aA, dR, cP, cQ, cF, dK, cC, dJ, dU, cV, eF, eL, bN, aR, dZ, bS, aQ, bL, dE, dA, cU, cO, cS, bM, bK, cY, dD, cN, dQ, cZ, n4, n3, hv, hv2, LV, k2]
    exact hR _ (x04.seq hd5.x)
   .have d5 : decide ((n : Int) < ((old.length + 13 + f.length + 13 * (i + 1) : Nat) : Int)) = false := by simp; omega
    obtain ⟨S', s', hp1, hg1, hr1, he1, hv1⟩ := pn1 (by rw [h9.rm, hz]; omega)
    rw [hp1] at ha ⊢
    unfold oQ
    simp (disch := omega) only [eY, gM, dX, stepR_skip, fO, gD, fN, gC, gI, fW, gR, fX, eU, fU, fS, gH, fP, fL, fT, fR, fV, gE, gG, fQ, fC, fY, gB, fK, iO, iJ, iH, iL, iI, iM, iK, iG, iN, eP, Result.ok.injEq, Next.value.injEq, true_and, and_true, fJ, fI, fZ, fM, gA, gQ, ZI, fE, fH, fG, fD, eZ, eT, fB, eX, eQ, eH, if_true, if_false, ZF, ZL, ZG, ZH, ZK, ZJ, ZE, ZD, eA, dW, aB, dI, dH, cG, eB, eS, eC, dO, eD, fA, dL, eN, bQ, dG, bG, dN, aK, aG, eJ, aY, cA, eK, aD, eM, dM, aS, bJ, eE, bH, bF, bC, aP, aM, cB, fF, dY, bZ, cH, dB, cD, dT, bE, eI, bY, dF, bP, aZ, bX, aC, bV, bR, cI, bW, bA, aT, aU, bT, dS, cR, bO, aV, aJ, aL, bD, aH, dC, dV, aI, aN, aX, aF, cX, aE, cL, bU, bB, aO, cM, cJ, aA, dR, cP, cQ, cF, dK, cC, dJ, dU, cV, eF, eL, bN, aR, dZ, bS, aQ, bL, dE, dA, cU, cO, cS, bM, bK, cY, dD, cN, dQ, cZ, d5, n1, q1]
    have hl1 := h9.got.hvl
    refine ⟨m - (i + 1), by omega, i + 1, S', s', _, _, rfl, by omega, rfl, ⟨ha, hg1, hr1.trans h9.rm, by rw [ZN, hrl] <;> rfl, fun x hx => ?_, fun x hx => ?_⟩⟩
    .rw [hv1, yI (by omega)]
     split
     .rfl
     .exact h9.lo x (by omega)
    .rw [hv1, yI (by omega), if_neg (by omega)]
     exact h9.hi x (by omega)
  by_cases hT2 : f.length < T
  .have d5 : decide ((f.length : Int) < (T : Int)) = true := by simp; omega
   have := put2 f.length (pe2 hT2).symm
   simp (disch := omega) only [eY, gM, dX, stepR_skip, fO, gD, fN, gC, gI, fW, gR, fX, eU, fU, fS, gH, fP, fL, fT, fR, fV, gE, gG, fQ, fC, fY, gB, fK, iO, iJ, iH, iL, iI, iM, iK, iG, iN, eP, Result.ok.injEq, Next.value.injEq, true_and, and_true, fJ, fI, fZ, fM, gA, gQ, ZI, fE, fH, fG, fD, eZ, eT, fB, eX, eQ, eH, if_true, if_false, ZF, ZL, ZG, ZH, ZK, ZJ, ZE, ZD, eA, dW, aB, dI, dH, cG, eB, eS, eC, dO, eD, fA, dL, eN, bQ, dG, bG, dN, aK, aG, eJ, aY, cA, eK, aD, eM, dM, aS, bJ, eE, bH, bF, bC, aP, aM, cB, fF, dY, bZ, cH, dB, cD, dT, bE, eI, bY, dF, bP, aZ, bX, aC, bV, bR, cI, bW, bA, aT, aU, bT, dS, cR, bO, aV, aJ, aL, bD, aH, dC, dV, aI, aN, aX, aF, cX, aE, cL, bU, bB, aO, cM, cJ, aA, dR, cP, cQ, cF, dK, cC, dJ, dU, cV, eF, eL, bN, aR, dZ, bS, aQ, bL, dE, dA, cU, cO, cS, bM, bK, cY, dD, cN, dQ, cZ, c6, d4, q1, q2, d5]
   exact this
  .have d5 : decide ((f.length : Int) < (T : Int)) = false := by simp; omega
   have := put2 T (pe1 (by omega)).symm
   simp (disch := omega) only [eY, gM, dX, stepR_skip, fO, gD, fN, gC, gI, fW, gR, fX, eU, fU, fS, gH, fP, fL, fT, fR, fV, gE, gG, fQ, fC, fY, gB, fK, iO, iJ, iH, iL, iI, iM, iK, iG, iN, eP, Result.ok.injEq, Next.value.injEq, true_and, and_true, fJ, fI, fZ, fM, gA, gQ, ZI, fE, fH, fG, fD, eZ, eT, fB, eX, eQ, eH, if_true, if_false, ZF, ZL, ZG, ZH, ZK, ZJ, ZE, ZD, eA, dW, aB, dI, dH, cG, eB, eS, eC, dO, eD, fA, dL, eN, bQ, dG, bG, dN, aK, aG, eJ, aY, cA, eK, aD, eM, dM, aS, bJ, eE, bH, bF, bC, aP, aM, cB, fF, dY, bZ, cH, dB, cD, dT, bE, eI, bY, dF, bP, aZ, bX, aC, bV, bR, cI, bW, bA, aT, aU, bT, dS, cR, bO, aV, aJ, aL, bD, aH, dC, dV, aI, aN, aX, aF, cX, aE, cL, bU, bB, aO, cM, cJ, aA, dR, cP, cQ, cF, dK, cC, dJ, dU, cV, eF, eL, bN, aR, dZ, bS, aQ, bL, dE, dA, cU, cO, cS, bM, bK, cY, dD, cN, dQ, cZ, c6, d4, q1, q2, d5]
   exact this
 have d4 : decide ((i : Int) < (m : Int)) = false := by simp; omega
 simp (disch := omega) only [eY, gM, dX, stepR_skip, fO, gD, fN, gC, gI, fW, gR, fX, eU, fU, fS, gH, fP, fL, fT, fR, fV, gE, gG, fQ, fC, fY, gB, fK, iO, iJ, iH, iL, iI, iM, iK, iG, iN, eP, Result.ok.injEq, Next.value.injEq, true_and, and_true, fJ, fI, fZ, fM, gA, gQ, ZI, fE, fH, fG, fD, eZ, eT, fB, eX, eQ, eH, if_true, if_false, ZF, ZL, ZG, ZH, ZK, ZJ, ZE, ZD, eA, dW, aB, dI, dH, cG, eB, eS, eC, dO, eD, fA, dL, eN, bQ, dG, bG, dN, aK, aG, eJ, aY, cA, eK, aD, eM, dM, aS, bJ, eE, bH, bF, bC, aP, aM, cB, fF, dY, bZ, cH, dB, cD, dT, bE, eI, bY, dF, bP, aZ, bX, aC, bV, bR, cI, bW, bA, aT, aU, bT, dS, cR, bO, aV, aJ, aL, bD, aH, dC, dV, aI, aN, aX, aF, cX, aE, cL, bU, bB, aO, cM, cJ, aA, dR, cP, cQ, cF, dK, cC, dJ, dU, cV, eF, eL, bN, aR, dZ, bS, aQ, bL, dE, dA, cU, cO, cS, bM, bK, cY, dD, cN, dQ, cZ, c6, d4]
 obtain ⟨S5, s5, hC2, f5, er5, ep5, nm5, mn5, c5, r5, gf5, gl5, gp5, fz5, un5, hl5, lg5⟩ := Ou h9.got hk0 (fun j hj => h9.lo j (by omega))
 have B5 : ∀ n, n <= 100 -> yM n S5 := fun n hn => ⟨⟨by rw [c5.left]; omega, by omega, by rw [un5]; simp, by rw [r5, h9.rm]; omega⟩, by omega, by rw [un5]; simp; omega⟩
 unfold rF
 refine (KL (n := sF) h9.ses (h9.got.bk (by decide)) h9.got.calm.up).mono ?_
 rintro r wa ⟨hr, ha, xa⟩
 rw [h9.got.gF] at hr
 rcases hr with ⟨h, _⟩ | ⟨b, vv, hbb, rfl, ho⟩
 .cases h
 cases hbb
 obtain ⟨N', hda, hNN, hvb⟩ := h9.ses.hold xa ho
 obtain ⟨va, vc, rfl⟩ := ho.len
 simp (disch := omega) only [eY, gM, dX, stepR_skip, fO, gD, fN, gC, gI, fW, gR, fX, eU, fU, fS, gH, fP, fL, fT, fR, fV, gE, gG, fQ, fC, fY, gB, fK, iO, iJ, iH, iL, iI, iM, iK, iG, iN, eP, Result.ok.injEq, Next.value.injEq, true_and, and_true, fJ, fI, fZ, fM, gA, gQ, ZI, fE, fH, fG, fD, eZ, eT, fB, eX, eQ, eH, if_true, if_false, ZF, ZL, ZG, ZH, ZK, ZJ, ZE, ZD, eA, dW, aB, dI, dH, cG, eB, eS, eC, dO, eD, fA, dL, eN, bQ, dG, bG, dN, aK, aG, eJ, aY, cA, eK, aD, eM, dM, aS, bJ, eE, bH, bF, bC, aP, aM, cB, fF, dY, bZ, cH, dB, cD, dT, bE, eI, bY, dF, bP, aZ, bX, aC, bV, bR, cI, bW, bA, aT, aU, bT, dS, cR, bO, aV, aJ, aL, bD, aH, dC, dV, aI, aN, aX, aF, cX, aE, cL, bU, bB, aO, cM, cJ, aA, dR, cP, cQ, cF, dK, cC, dJ, dU, cV, eF, eL, bN, aR, dZ, bS, aQ, bL, dE, dA, cU, cO, cS, bM, bK, cY, dD, cN, dQ, cZ]
 refine (Gt hda (h9.got.bk (by decide)) (fun b hb => h9.got.file hb (by omega))).mono ?_
 rintro r wb ⟨rfl, hb5, xb⟩
 rw [hC2] at hb5 ⊢
 simp (disch := omega) only [eY, gM, dX, stepR_skip, fO, gD, fN, gC, gI, fW, gR, fX, eU, fU, fS, gH, fP, fL, fT, fR, fV, gE, gG, fQ, fC, fY, gB, fK, iO, iJ, iH, iL, iI, iM, iK, iG, iN, eP, Result.ok.injEq, Next.value.injEq, true_and, and_true, fJ, fI, fZ, fM, gA, gQ, ZI, fE, fH, fG, fD, eZ, eT, fB, eX, eQ, eH, if_true, if_false, ZF, ZL, ZG, ZH, ZK, ZJ, ZE, ZD, eA, dW, aB, dI, dH, cG, eB, eS, eC, dO, eD, fA, dL, eN, bQ, dG, bG, dN, aK, aG, eJ, aY, cA, eK, aD, eM, dM, aS, bJ, eE, bH, bF, bC, aP, aM, cB, fF, dY, bZ, cH, dB, cD, dT, bE, eI, bY, dF, bP, aZ, bX, aC, bV, bR, cI, bW, bA, aT, aU, bT, dS, cR, bO, aV, aJ, aL, bD, aH, dC, dV, aI, aN, aX, aF, cX, aE, cL, bU, bB, aO, cM, cJ, aA, dR, cP, cQ, cF, dK, cC, dJ, dU, cV, eF, eL, bN, aR, dZ, bS, aQ, bL, dE, dA, cU, cO, cS, bM, bK, cY, dD, cN, dQ, cZ]
 refine (KL (n := sF) hb5 (B5 0 (by omega)) c5.up).mono ?_
 rintro r wc ⟨hr, hc5, xc⟩
 rw [gf5] at hr
 rcases hr with ⟨h, _⟩ | ⟨b, vv, hbb, rfl, ho2⟩
 .cases h
 cases hbb
 obtain ⟨va2, vc2, rfl⟩ := ho2.len
 have hv := jN ((hvb wb xb).ext xc (jA _))
 have hv2 := jN (hbo4.ext hc5.x (jA _))
 have hv3 := jN (show Bs wc (.slice va2 f.length vc2) f from ho2.sl)
 have hv4 := jN (hb4.ext hc5.x (jA _))
 have k2 := Nh old
 have k3 := Nh f
 simp (disch := omega) only [eY, gM, dX, stepR_skip, fO, gD, fN, gC, gI, fW, gR, fX, eU, fU, fS, gH, fP, fL, fT, fR, fV, gE, gG, fQ, fC, fY, gB, fK, iO, iJ, iH, iL, iI, iM, iK, iG, iN, eP, Result.ok.injEq, Next.value.injEq, true_and, and_true, fJ, fI, fZ, fM, gA, gQ, ZI, fE, fH, fG, fD, eZ, eT, fB, eX, eQ, eH, if_true, if_false, ZF, ZL, ZG, ZH, ZK, ZJ, ZE, ZD, eA, dW, aB, dI, dH, cG, eB, eS, eC, dO, eD, fA, dL, eN, bQ, dG, bG, dN, aK, aG, eJ, aY, cA, eK, aD, eM, dM, aS, bJ, eE, bH, bF, bC, aP, aM, cB, fF, dY, bZ, cH, dB, cD, dT, bE, eI, bY, dF, bP, aZ, bX, aC, bV, bR, cI, bW, bA, aT, aU, bT, dS, cR, bO, aV, aJ, aL, bD, aH, dC, dV, aI, aN, aX, aF, cX, aE, cL, bU, bB, aO, cM, cJ, aA, dR, cP, cQ, cF, dK, cC, dJ, dU, cV, eF, eL, bN, aR, dZ, bS, aQ, bL, dE, dA, cU, cO, cS, bM, bK, cY, dD, cN, dQ, cZ, n3, hv, hv2, hv3, hv4, LV, k2, k3]
 exact hR _ (x04.seq hc5.x)
end Go.Proofs.YteelnmpbnaohpaaDoor
