/- Parts of the proof of ChunkSame: merged and given short names by a program of ours. -/
import Derived.Test.YtoecppploooloaaGreatDoorZuC
set_option linter.unusedVariables false
set_option linter.unusedSimpArgs false
open Array renaming getElem?_eq_none → aC1, getElem?_setIfInBounds_ne → aCG, getD_eq_getD_getElem? → aCd, getElem?_eq_getElem → aCo, getElem?_setIfInBounds_self_of_lt → aCy
open Bool renaming not_false → aB3, not_true → aB5, false_eq_true → aBZ, and_eq_true → aCe
open Int renaming toNat_natCast → aB0, fdiv_eq_ediv_of_nonneg → aCD, tmod_eq_emod_of_nonneg → aDA, tdiv_eq_ediv_of_nonneg → aDz
open List renaming length_map → aB6, length_append → aB7, getElem?_eq_getElem → aB8, getD_eq_getElem?_getD → aB9, getElem?_cons_zero → aBX, getElem?_cons_succ → aBY, take_append_of_le_length → aC2, mem_append → aC3, mem_of_mem_take → aC5, replicate_succ → aC9, mem_cons_self → aCA, map_append → aCC, all_eq_true → aCE, length_singleton → aCJ, length_eq_zero_iff → aCK, append_nil → aCM, getElem?_take_of_lt → aCN, mem_range → aCP, mem_cons → aCS, nil_append → aCT, mem_map → aCU, getElem_mem → aCW, getElem_of_mem → aCX, length_replicate → aCZ, set_cons_zero → aCa, set_cons_succ → aCc, length_take → aCf, take_of_length_le → aCg, mem_cons_of_mem → aCh, length_drop → aCi, getElem?_eq_none → aCj, length_cons → aCl, getElem?_append_left → aCm, getElem?_map → aCp, take_succ_cons → aCq, append_assoc → aCr, drop_zero → aCs, getElem?_append_right → aCu, take_zero → aCw, map_cons → aCz, getLast?_eq_getElem? → aD0, take_left' → aD1, mem_singleton → aD4, eq_of_mem_replicate → aD5, take_add_one → aDB, set_append_left → aDC, take_length → aDD, map_take → aDF, sum_cons → aDG, getElem?_drop → aDI, drop_left' → aDK, drop_eq_nil_of_le → aDM, drop_append_of_le_length → aDN, map_set → aDS, filter_cons → aDU, mem_of_mem_drop → aDV, map_drop → aDW, getElem?_range → aDY, drop_eq_getElem_cons → aDa, mem_of_getElem? → aDe, ext_getElem? → aDg, getElem_cons_succ → aDj, drop_drop → aDm, getElem?_eq_some_iff → aDn, length_set → aDq, getElem?_replicate → aDs, map_replicate → aDx, take_append_drop → aDy, flatten_cons → aEa, drop_of_length_le → aEb, getElem_cons_zero → aEc, getElem_map → aEe, mem_filter → aEi
open Nat renaming zero_add → aB4, mul_one → aC0, pow_add → aC6, two_pow_pos → aCH, min_eq_left → aCL, mul_comm → aCO, add_mul → aCQ, add_zero → aCR, le_trans → aCV, le_refl → aCb, lt_or_ge → aCk, pow_le_pow_right → aCn, mod_eq_of_lt → aCt, mul_le_mul_right → aCv, div_le_self → aD2, add_sub_cancel_left → aD7, mul_div_cancel_left → aD8, lt_trichotomy → aD9, sub_zero → aDE, mul_add → aDL, zero_mul → aDQ, div_lt_iff_lt_mul → aDR, zero_le → aDX, eq_zero_or_pos → aDc, sub_self → aDh, div_div_eq_div_mul → aDi, add_assoc → aDr, lt_of_lt_of_le → aDv, pow_succ → aDw, mul_assoc → aEd, le_total → aEh, pow_dvd_pow → aEk
open Option renaming isNone_some → aB1, isNone_none → aB2, map_some → aCB
open Option.some renaming inj → aCF
open UInt8 renaming toNat_lt → aC7, toNat_ofNat_of_lt' → aD3
namespace Go.Proofs.YtoecppploooloaaGreatDoor
open Go Go.En Go.Pu
set_option maxRecDepth 4000
theorem axN {w : aEl} {S M : Nat -> Prop} {n : Nat} {v : aEm} {l : List aEm} (h : GX w S 1 v n l) (hM : ∀ b, S b -> ¬ M b) : ¬ MO v M := by
 rcases h.2 with ⟨rfl, rfl⟩ | ⟨b, c, rest, rfl, h2, _⟩
 .exact fun h => h
 .have := hM b h2
  cases n <;> simp_all [MO]
def aqM (base p : Nat) (w : aEl) (dm : DM) (r : aEm) (w' : aEl) : Except Int (List UInt8 × List UInt8) -> Prop
 | .error e => e ≠ 0 /\ r = .int .i64 e /\ jN w w' (fun y => base <= y)
 | .ok (all, l) => r = .int .i64 0 /\ DSt w' base p ⟨l, dm.win, dm.most, dm.out ++ all, dm.fr + 1, dm.sk⟩ /\ jN w w' (fun y => base <= y)
theorem adH {RR : aEm -> aEl -> Prop} {base p pr lo hi : Nat} {O : Nat -> Prop} {vo va : aEm} {all : List UInt8} {m : DM} {w : aEl}
 (o : lN w p (yG pr vo m)) (hr : Qi w lo hi pr m.l 0) (oo : GX w O 1 vo m.out.length (m.out.map nT)) (hp : base <= p) (hlo : base <= lo) (hO : ∀ b, O b -> base <= b /\ b ≠ p /\ ¬ (lo <= b /\ b < hi)) (q1 : ¬ (lo <= p /\ p < hi)) (hhi : hi <= w.heap.size)
 (ha : Bs w va all) (h1 : m.out.length <= 2000000) (h2 : all.length <= 2000000) (h3 : m.fr <= 2000000)
 (hk : ∀ w', DSt w' base p ⟨m.l, m.win, m.most, m.out ++ all, m.fr + 1, m.sk⟩ -> jN w w' (fun y => base <= y) -> RR (.int .i64 0) w') :
 pJ RR (.pointer (some ⟨p, 0, none⟩)) va w := by
 unfold pJ
 have hz := o.lt
 have c3 := o.cell (off := 3)
 simp only [yG, aBX, aBY] at c3
 simp (disch := omega) only [gI, jD, dJ, stepR_skip, hJ, iC, iM, iP, iL, iN, jJ, iX, gM, iE, iG, iI, iH, gY, iO, hZ, iF, iV, iW, iJ, gR, iT, iQ, iD, jV, jW, kF, kD, kC, kG, kA, kB, kE, gD, Result.ok.injEq, Next.value.injEq, true_and, and_true, gX, iA, iU, iR, iS, jF, aB0, gV, gU, gW, gT, gO, gJ, gP, gN, gB, fV, if_true, if_false, aBZ, aB4, aB1, aB2, aB5, aB3, aBY, aBX, fQ, fL, fE, fR, cU, eS, eF, dK, bP, fS, eY, aP, dB, aX, bQ, bM, aO, cO, cJ, eQ, aE, gS, aJ, cK, aT, bU, fT, cI, cF, aD, gA, fD, aN, aF, bO, gQ, aI, eX, dT, dV, gF, dE, fB, cZ, eH, fF, fC, cG, dG, gK, dN, bZ, aS, bV, bT, fN, aG, aH, aQ, bA, bE, cP, bK, aA, fA, aR, cL, fJ, eU, gG, bJ, eL, eN, bY, fW, eZ, eJ, dH, cQ, dD, aY, bD, aL, fZ, aM, dA, eE, bB, cC, fK, dL, gC, fM, fG, fI, dS, aK, cH, cY, fY, fX, fH, dC, aV, dX, fU, cS, eT, fO, cD, bL, dR, aZ, dW, dQ, cM, eM, eK, bF, dF, bG, eD, dU, dZ, bN, cR, cN, dO, bS, cW, cV, fP, cB, eI, eP, gE, dY, dP, dM, dI, bH, bR, bW, bX, aU, cX, aW, c3]
 refine apB (S := fun b => O b ∨ w.heap.size <= b) (WI oo fun b h _ => .inl h) ha (fun b h => .inr h) (by omega) fun v' w1 o1 x1 => ?_
 have hp1 : ¬ (O p ∨ w.heap.size <= p) := by
  rintro (h | h)
  .exact (hO p h).2.1 rfl
  .omega
 have o2 := o.ext x1 hp1
 obtain ⟨a', c', hv'⟩ := o1.len
 try simp (disch := omega) only [gI, jD, dJ, stepR_skip, hJ, iC, iM, iP, iL, iN, jJ, iX, gM, iE, iG, iI, iH, gY, iO, hZ, iF, iV, iW, iJ, gR, iT, iQ, iD, jV, jW, kF, kD, kC, kG, kA, kB, kE, gD, Result.ok.injEq, Next.value.injEq, true_and, and_true, gX, iA, iU, iR, iS, jF, aB0, gV, gU, gW, gT, gO, gJ, gP, gN, gB, fV, if_true, if_false, aBZ, aB4, aB1, aB2, aB5, aB3, aBY, aBX, fQ, fL, fE, fR, cU, eS, eF, dK, bP, fS, eY, aP, dB, aX, bQ, bM, aO, cO, cJ, eQ, aE, gS, aJ, cK, aT, bU, fT, cI, cF, aD, gA, fD, aN, aF, bO, gQ, aI, eX, dT, dV, gF, dE, fB, cZ, eH, fF, fC, cG, dG, gK, dN, bZ, aS, bV, bT, fN, aG, aH, aQ, bA, bE, cP, bK, aA, fA, aR, cL, fJ, eU, gG, bJ, eL, eN, bY, fW, eZ, eJ, dH, cQ, dD, aY, bD, aL, fZ, aM, dA, eE, bB, cC, fK, dL, gC, fM, fG, fI, dS, aK, cH, cY, fY, fX, fH, dC, aV, dX, fU, cS, eT, fO, cD, bL, dR, aZ, dW, dQ, cM, eM, eK, bF, dF, bG, eD, dU, dZ, bN, cR, cN, dO, bS, cW, cV, fP, cB, eI, eP, gE, dY, dP, dM, dI, bH, bR, bW, bX, aU, cX, aW]
 refine sL (off := 3) o2 (by rw [hv'] <;> rfl) (by simp [yG]) fun w3 o3 x3 s3 => ?_
 simp only [yG, aCa, aCc] at o3
 have c4 := o3.cell (off := 4)
 simp only [aBX, aBY] at c4
 have e4 : (m.fr : Int) + 1 = ((m.fr + 1 : Nat) : Int) := by omega
 have w4 : IntKind.i64.wrap ((m.fr + 1 : Nat) : Int) = ((m.fr + 1 : Nat) : Int) := gX (by omega) (by omega)
 simp (disch := omega) only [gI, jD, dJ, stepR_skip, hJ, iC, iM, iP, iL, iN, jJ, iX, gM, iE, iG, iI, iH, gY, iO, hZ, iF, iV, iW, iJ, gR, iT, iQ, iD, jV, jW, kF, kD, kC, kG, kA, kB, kE, gD, Result.ok.injEq, Next.value.injEq, true_and, and_true, gX, iA, iU, iR, iS, jF, aB0, gV, gU, gW, gT, gO, gJ, gP, gN, gB, fV, if_true, if_false, aBZ, aB4, aB1, aB2, aB5, aB3, aBY, aBX, fQ, fL, fE, fR, cU, eS, eF, dK, bP, fS, eY, aP, dB, aX, bQ, bM, aO, cO, cJ, eQ, aE, gS, aJ, cK, aT, bU, fT, cI, cF, aD, gA, fD, aN, aF, bO, gQ, aI, eX, dT, dV, gF, dE, fB, cZ, eH, fF, fC, cG, dG, gK, dN, bZ, aS, bV, bT, fN, aG, aH, aQ, bA, bE, cP, bK, aA, fA, aR, cL, fJ, eU, gG, bJ, eL, eN, bY, fW, eZ, eJ, dH, cQ, dD, aY, bD, aL, fZ, aM, dA, eE, bB, cC, fK, dL, gC, fM, fG, fI, dS, aK, cH, cY, fY, fX, fH, dC, aV, dX, fU, cS, eT, fO, cD, bL, dR, aZ, dW, dQ, cM, eM, eK, bF, dF, bG, eD, dU, dZ, bN, cR, cN, dO, bS, cW, cV, fP, cB, eI, eP, gE, dY, dP, dM, dI, bH, bR, bW, bX, aU, cX, aW, c4, e4, w4]
 refine LC (off := 4) o3 rfl (by simp) fun w5 o5 x5 s5 => ?_
 simp only [aCa, aCc] at o5
 have x35 := x3.seq x5
 have zz1 := x1.size
 have zz3 := x35.size
 have x05 : jN w w5 (fun y => O y ∨ w.heap.size <= y ∨ y = p) := (x1.mono fun y _ h => h.elim .inl fun h => .inr (.inl h)).seq (x35.mono fun y _ h => .inr (.inr h))
 refine hk w5 ⟨pr, v', lo, hi, fun b => (O b ∨ w.heap.size <= b), o5, ?_, o1.ext x35 ?_, hp, hlo, ?_, q1, by omega⟩ (x05.mono ?_)
 .refine hr.ext x05 fun b h1 h2 h => ?_
  rcases h with h | h | h
  .exact (hO b h).2.2 ⟨h1, h2⟩
  .omega
  .exact q1 (h ▸ ⟨h1, h2⟩)
 .intro b h e
  exact hp1 (e ▸ h)
 .rintro b (h | h)
  .exact hO b h
  .exact ⟨by omega, by omega, by omega⟩
 .rintro y hy (h | h | h)
  .exact (hO y h).1
  .omega
  .omega
theorem aoG {base p pr ph lo hi : Nat} {O A : Nat -> Prop} {vo va : aEm} {all : List UInt8} {m dm : DM} {h : FH} {w0 w : aEl}
 (hdm : dm.win = m.win /\ dm.most = m.most /\ dm.out = m.out /\ dm.fr = m.fr /\ dm.sk = m.sk) (hx : jN w0 w (fun y => base <= y))
 (o : lN w p (yG pr vo m)) (hr : Qi w lo hi pr m.l 0) (oo : GX w O 1 vo m.out.length (m.out.map nT)) (hp : base <= p) (hlo : base <= lo) (hO : ∀ b, O b -> base <= b /\ b ≠ p /\ ¬ (lo <= b /\ b < hi)) (q1 : ¬ (lo <= p /\ p < hi)) (hhi : hi <= w.heap.size)
 (oh : lN w ph (Pj h)) (ha : GX w A 1 va all.length (all.map nT)) (hA : ∀ b, A b -> ¬ (lo <= b /\ b < hi)) (h1 : m.out.length <= 2000000) (h2 : all.length <= 2000000) (h3 : m.fr <= 2000000) (hl : m.l.length <= 1000000) (hsz : h.size < 2 ^ 64) :
 rX (fun r w' => aqM base p w0 dm r w' (Pq h m.l all)) (.pointer (some ⟨p, 0, none⟩)) (.pointer (some ⟨ph, 0, none⟩)) va w := by
 obtain ⟨RR, hRR⟩ : ∃ RR : aEm -> aEl -> Prop, RR = fun r w' => aqM base p w0 dm r w' (Pq h m.l all) := ⟨_, rfl⟩
 rw [<- hRR]
 unfold rX Bn
 have c2 := oh.cell (off := 2)
 have c1 := oh.cell (off := 1)
 have c3 := oh.cell (off := 3)
 simp only [Pj, aBX, aBY] at c1 c2 c3
 obtain ⟨a', c', hva⟩ := ha.len
 have hb : Bs w va all := afK ha
 have wl : IntKind.u64.wrap (all.length : Int) = all.length := iA (by omega) (by omega)
 have hpr : lo <= pr /\ pr < hi := ⟨hr.1, hr.2.1⟩
 have hnp : ¬ MO va (fun y => y = pr) := axN ha fun b hb e => hA b hb (e ▸ hpr)
 have fin : ¬ (h.known = true /\ all.length ≠ h.size) -> lX (.bool h.sum) (jE pg sD #[.pointer (some ⟨p, 0, none⟩), va] w fun t105 w => gI pg (hU .neq 24 (.tmp 106) (.const (.int .i64 0)) t105 (.int .i64 0)) w fun t107 w => lX t107 (RR t105 w) (pJ RR (.pointer (some ⟨p, 0, none⟩)) va w)) (pJ RR (.pointer (some ⟨p, 0, none⟩)) va w) := by
  intro hn
  cases hs : h.sum with
  | false =>
    simp (disch := omega) only [gI, jD, dJ, stepR_skip, hJ, iC, iM, iP, iL, iN, jJ, iX, gM, iE, iG, iI, iH, gY, iO, hZ, iF, iV, iW, iJ, gR, iT, iQ, iD, jV, jW, kF, kD, kC, kG, kA, kB, kE, gD, Result.ok.injEq, Next.value.injEq, true_and, and_true, gX, iA, iU, iR, iS, jF, aB0, gV, gU, gW, gT, gO, gJ, gP, gN, gB, fV, if_true, if_false, aBZ, aB4, aB1, aB2, aB5, aB3, aBY, aBX, fQ, fL, fE, fR, cU, eS, eF, dK, bP, fS, eY, aP, dB, aX, bQ, bM, aO, cO, cJ, eQ, aE, gS, aJ, cK, aT, bU, fT, cI, cF, aD, gA, fD, aN, aF, bO, gQ, aI, eX, dT, dV, gF, dE, fB, cZ, eH, fF, fC, cG, dG, gK, dN, bZ, aS, bV, bT, fN, aG, aH, aQ, bA, bE, cP, bK, aA, fA, aR, cL, fJ, eU, gG, bJ, eL, eN, bY, fW, eZ, eJ, dH, cQ, dD, aY, bD, aL, fZ, aM, dA, eE, bB, cC, fK, dL, gC, fM, fG, fI, dS, aK, cH, cY, fY, fX, fH, dC, aV, dX, fU, cS, eT, fO, cD, bL, dR, aZ, dW, dQ, cM, eM, eK, bF, dF, bG, eD, dU, dZ, bN, cR, cN, dO, bS, cW, cV, fP, cB, eI, eP, gE, dY, dP, dM, dI, bH, bR, bW, bX, aU, cX, aW]
    refine adH o hr oo hp hlo hO q1 hhi hb h1 h2 h3 fun w' hd x => ?_
    rw [hRR]
    unfold Pq
    rw [if_neg hn, if_neg (by rw [hs]; simp)]
    refine ⟨rfl, ?_, hx.seq x⟩
    rw [hdm.1, hdm.2.1, hdm.2.2.1, hdm.2.2.2.1, hdm.2.2.2.2]
    exact hd
  | true =>
    simp (disch := omega) only [gI, jD, dJ, stepR_skip, hJ, iC, iM, iP, iL, iN, jJ, iX, gM, iE, iG, iI, iH, gY, iO, hZ, iF, iV, iW, iJ, gR, iT, iQ, iD, jV, jW, kF, kD, kC, kG, kA, kB, kE, gD, Result.ok.injEq, Next.value.injEq, true_and, and_true, gX, iA, iU, iR, iS, jF, aB0, gV, gU, gW, gT, gO, gJ, gP, gN, gB, fV, if_true, if_false, aBZ, aB4, aB1, aB2, aB5, aB3, aBY, aBX, fQ, fL, fE, fR, cU, eS, eF, dK, bP, fS, eY, aP, dB, aX, bQ, bM, aO, cO, cJ, eQ, aE, gS, aJ, cK, aT, bU, fT, cI, cF, aD, gA, fD, aN, aF, bO, gQ, aI, eX, dT, dV, gF, dE, fB, cZ, eH, fF, fC, cG, dG, gK, dN, bZ, aS, bV, bT, fN, aG, aH, aQ, bA, bE, cP, bK, aA, fA, aR, cL, fJ, eU, gG, bJ, eL, eN, bY, fW, eZ, eJ, dH, cQ, dD, aY, bD, aL, fZ, aM, dA, eE, bB, cC, fK, dL, gC, fM, fG, fI, dS, aK, cH, cY, fY, fX, fH, dC, aV, dX, fU, cS, eT, fO, cD, bL, dR, aZ, dW, dQ, cM, eM, eK, bF, dF, bG, eD, dU, dZ, bN, cR, cN, dO, bS, cW, cV, fP, cB, eI, eP, gE, dY, dP, dM, dI, bH, bR, bW, bX, aU, cX, aW]
    refine (aqJ o (by rfl) hr hb hnp hl h2).mono ?_
    intro r w1 hs1
    have hdt : Pq h m.l all = match afD m.l all with | .error e => .error e | .ok l' => .ok (all, l') := by
     unfold Pq
     rw [if_neg hn, if_pos hs]
     try rfl
    cases hd : afD m.l all with
    | error e =>
      rw [hd] at hs1
      obtain ⟨he, rfl, x1⟩ := hs1
      have n1 : (e != 0) = true := by simp [he]
      simp (disch := omega) only [gI, jD, dJ, stepR_skip, hJ, iC, iM, iP, iL, iN, jJ, iX, gM, iE, iG, iI, iH, gY, iO, hZ, iF, iV, iW, iJ, gR, iT, iQ, iD, jV, jW, kF, kD, kC, kG, kA, kB, kE, gD, Result.ok.injEq, Next.value.injEq, true_and, and_true, gX, iA, iU, iR, iS, jF, aB0, gV, gU, gW, gT, gO, gJ, gP, gN, gB, fV, if_true, if_false, aBZ, aB4, aB1, aB2, aB5, aB3, aBY, aBX, fQ, fL, fE, fR, cU, eS, eF, dK, bP, fS, eY, aP, dB, aX, bQ, bM, aO, cO, cJ, eQ, aE, gS, aJ, cK, aT, bU, fT, cI, cF, aD, gA, fD, aN, aF, bO, gQ, aI, eX, dT, dV, gF, dE, fB, cZ, eH, fF, fC, cG, dG, gK, dN, bZ, aS, bV, bT, fN, aG, aH, aQ, bA, bE, cP, bK, aA, fA, aR, cL, fJ, eU, gG, bJ, eL, eN, bY, fW, eZ, eJ, dH, cQ, dD, aY, bD, aL, fZ, aM, dA, eE, bB, cC, fK, dL, gC, fM, fG, fI, dS, aK, cH, cY, fY, fX, fH, dC, aV, dX, fU, cS, eT, fO, cD, bL, dR, aZ, dW, dQ, cM, eM, eK, bF, dF, bG, eD, dU, dZ, bN, cR, cN, dO, bS, cW, cV, fP, cB, eI, eP, gE, dY, dP, dM, dI, bH, bR, bW, bX, aU, cX, aW, n1]
      rw [hRR, hdt, hd]
      exact ⟨he, rfl, hx.seq (x1.mono fun y _ h => by omega)⟩
    | ok l' =>
      rw [hd] at hs1
      obtain ⟨rfl, hr1, x1⟩ := hs1
      have n1 : ((0 : Int) != 0) = false := rfl
      simp (disch := omega) only [gI, jD, dJ, stepR_skip, hJ, iC, iM, iP, iL, iN, jJ, iX, gM, iE, iG, iI, iH, gY, iO, hZ, iF, iV, iW, iJ, gR, iT, iQ, iD, jV, jW, kF, kD, kC, kG, kA, kB, kE, gD, Result.ok.injEq, Next.value.injEq, true_and, and_true, gX, iA, iU, iR, iS, jF, aB0, gV, gU, gW, gT, gO, gJ, gP, gN, gB, fV, if_true, if_false, aBZ, aB4, aB1, aB2, aB5, aB3, aBY, aBX, fQ, fL, fE, fR, cU, eS, eF, dK, bP, fS, eY, aP, dB, aX, bQ, bM, aO, cO, cJ, eQ, aE, gS, aJ, cK, aT, bU, fT, cI, cF, aD, gA, fD, aN, aF, bO, gQ, aI, eX, dT, dV, gF, dE, fB, cZ, eH, fF, fC, cG, dG, gK, dN, bZ, aS, bV, bT, fN, aG, aH, aQ, bA, bE, cP, bK, aA, fA, aR, cL, fJ, eU, gG, bJ, eL, eN, bY, fW, eZ, eJ, dH, cQ, dD, aY, bD, aL, fZ, aM, dA, eE, bB, cC, fK, dL, gC, fM, fG, fI, dS, aK, cH, cY, fY, fX, fH, dC, aV, dX, fU, cS, eT, fO, cD, bL, dR, aZ, dW, dQ, cM, eM, eK, bF, dF, bG, eD, dU, dZ, bN, cR, cN, dO, bS, cW, cV, fP, cB, eI, eP, gE, dY, dP, dM, dI, bH, bR, bW, bX, aU, cX, aW, n1]
      have z1 := x1.size
      refine adH (m := ⟨l', m.win, m.most, m.out, m.fr, m.sk⟩) (o.ext x1 fun e => q1 (e ▸ hpr)) hr1 (oo.ext x1 fun b hb e => (hO b hb).2.2 (e ▸ hpr)) hp hlo hO q1 (by omega) (hb.ext x1 hnp) h1 h2 h3 fun w' hd' x => ?_
      rw [hRR, hdt, hd]
      refine ⟨rfl, ?_, hx.seq ((x1.mono fun y _ h => by omega).seq x)⟩
      rw [hdm.1, hdm.2.1, hdm.2.2.1, hdm.2.2.2.1, hdm.2.2.2.2]
      exact hd'
 cases hkn : h.known with
 | false =>
   rw [hkn] at c2
   have := fin (by rw [hkn]; simp)
   subst hva
   simp (disch := omega) only [gI, jD, dJ, stepR_skip, hJ, iC, iM, iP, iL, iN, jJ, iX, gM, iE, iG, iI, iH, gY, iO, hZ, iF, iV, iW, iJ, gR, iT, iQ, iD, jV, jW, kF, kD, kC, kG, kA, kB, kE, gD, Result.ok.injEq, Next.value.injEq, true_and, and_true, gX, iA, iU, iR, iS, jF, aB0, gV, gU, gW, gT, gO, gJ, gP, gN, gB, fV, if_true, if_false, aBZ, aB4, aB1, aB2, aB5, aB3, aBY, aBX, fQ, fL, fE, fR, cU, eS, eF, dK, bP, fS, eY, aP, dB, aX, bQ, bM, aO, cO, cJ, eQ, aE, gS, aJ, cK, aT, bU, fT, cI, cF, aD, gA, fD, aN, aF, bO, gQ, aI, eX, dT, dV, gF, dE, fB, cZ, eH, fF, fC, cG, dG, gK, dN, bZ, aS, bV, bT, fN, aG, aH, aQ, bA, bE, cP, bK, aA, fA, aR, cL, fJ, eU, gG, bJ, eL, eN, bY, fW, eZ, eJ, dH, cQ, dD, aY, bD, aL, fZ, aM, dA, eE, bB, cC, fK, dL, gC, fM, fG, fI, dS, aK, cH, cY, fY, fX, fH, dC, aV, dX, fU, cS, eT, fO, cD, bL, dR, aZ, dW, dQ, cM, eM, eK, bF, dF, bG, eD, dU, dZ, bN, cR, cN, dO, bS, cW, cV, fP, cB, eI, eP, gE, dY, dP, dM, dI, bH, bR, bW, bX, aU, cX, aW, c2, c3]
   exact this
 | true =>
   rw [hkn] at c2
   subst hva
   by_cases he : all.length = h.size
   .have n1 : ((all.length : Int) != (h.size : Int)) = false := by rw [he]; simp
    have := fin (by simp [he])
    simp (disch := omega) only [gI, jD, dJ, stepR_skip, hJ, iC, iM, iP, iL, iN, jJ, iX, gM, iE, iG, iI, iH, gY, iO, hZ, iF, iV, iW, iJ, gR, iT, iQ, iD, jV, jW, kF, kD, kC, kG, kA, kB, kE, gD, Result.ok.injEq, Next.value.injEq, true_and, and_true, gX, iA, iU, iR, iS, jF, aB0, gV, gU, gW, gT, gO, gJ, gP, gN, gB, fV, if_true, if_false, aBZ, aB4, aB1, aB2, aB5, aB3, aBY, aBX, fQ, fL, fE, fR, cU, eS, eF, dK, bP, fS, eY, aP, dB, aX, bQ, bM, aO, cO, cJ, eQ, aE, gS, aJ, cK, aT, bU, fT, cI, cF, aD, gA, fD, aN, aF, bO, gQ, aI, eX, dT, dV, gF, dE, fB, cZ, eH, fF, fC, cG, dG, gK, dN, bZ, aS, bV, bT, fN, aG, aH, aQ, bA, bE, cP, bK, aA, fA, aR, cL, fJ, eU, gG, bJ, eL, eN, bY, fW, eZ, eJ, dH, cQ, dD, aY, bD, aL, fZ, aM, dA, eE, bB, cC, fK, dL, gC, fM, fG, fI, dS, aK, cH, cY, fY, fX, fH, dC, aV, dX, fU, cS, eT, fO, cD, bL, dR, aZ, dW, dQ, cM, eM, eK, bF, dF, bG, eD, dU, dZ, bN, cR, cN, dO, bS, cW, cV, fP, cB, eI, eP, gE, dY, dP, dM, dI, bH, bR, bW, bX, aU, cX, aW, c2, c3, c1, wl, n1]
    exact this
   .have n1 : ((all.length : Int) != (h.size : Int)) = true := by simp; omega
    simp (disch := omega) only [gI, jD, dJ, stepR_skip, hJ, iC, iM, iP, iL, iN, jJ, iX, gM, iE, iG, iI, iH, gY, iO, hZ, iF, iV, iW, iJ, gR, iT, iQ, iD, jV, jW, kF, kD, kC, kG, kA, kB, kE, gD, Result.ok.injEq, Next.value.injEq, true_and, and_true, gX, iA, iU, iR, iS, jF, aB0, gV, gU, gW, gT, gO, gJ, gP, gN, gB, fV, if_true, if_false, aBZ, aB4, aB1, aB2, aB5, aB3, aBY, aBX, fQ, fL, fE, fR, cU, eS, eF, dK, bP, fS, eY, aP, dB, aX, bQ, bM, aO, cO, cJ, eQ, aE, gS, aJ, cK, aT, bU, fT, cI, cF, aD, gA, fD, aN, aF, bO, gQ, aI, eX, dT, dV, gF, dE, fB, cZ, eH, fF, fC, cG, dG, gK, dN, bZ, aS, bV, bT, fN, aG, aH, aQ, bA, bE, cP, bK, aA, fA, aR, cL, fJ, eU, gG, bJ, eL, eN, bY, fW, eZ, eJ, dH, cQ, dD, aY, bD, aL, fZ, aM, dA, eE, bB, cC, fK, dL, gC, fM, fG, fI, dS, aK, cH, cY, fY, fX, fH, dC, aV, dX, fU, cS, eT, fO, cD, bL, dR, aZ, dW, dQ, cM, eM, eK, bF, dF, bG, eD, dU, dZ, bN, cR, cN, dO, bS, cW, cV, fP, cB, eI, eP, gE, dY, dP, dM, dI, bH, bR, bW, bX, aU, cX, aW, c2, c3, c1, wl, n1]
    rw [hRR]
    unfold Pq
    rw [if_pos ⟨hkn, he⟩]
    exact ⟨by decide, rfl, hx⟩
def QX (h : FH) (room : Nat) : Nat -> List UInt8 -> List UInt8 -> Option (Except Int (List UInt8 × List UInt8))
 | 0, _, _ => none
 | f + 1, l, all => match Wl l all h.window room with
   | none => none
   | some (.error e) => some (.error e)
   | some (.ok (a, l', b)) => if h.known = true /\ h.size < a.length then some (.error 11) else if b then some (.ok (a, l')) else QX h room f l' a
def amB (h : FH) : Except Int (List UInt8 × List UInt8) -> Except Int (List UInt8 × List UInt8)
 | .error e => .error e
 | .ok (a, l') => Pq h l' a
theorem asK {l all : List UInt8} {win room : Nat} {e : Int} (h : Wl l all win room = some (.error e)) : e ≠ 0 := by
 unfold Wl at h
 repeat' split at h
 all_goals first | (cases h; decide) | cases h
theorem amM {l all a l' : List UInt8} {win room : Nat} {b : Bool} (h : Wl l all win room = some (.ok (a, l', b))) : a.length <= room /\ l'.length <= l.length := by
 unfold Wl at h
 repeat' split at h
 all_goals first | cases h | skip
 rw [aB7, aCi]
 omega
theorem apI {base p pr ph pq lo hi aB f : Nat} {O : Nat -> Prop} {vo va : aEm} {all : List UInt8} {m dm : DM} {h : FH} {w0 w : aEl} {mm : Except Int (List UInt8 × List UInt8)}
 (hdm : dm.win = m.win /\ dm.most = m.most /\ dm.out = m.out /\ dm.fr = m.fr /\ dm.sk = m.sk) (hx : jN w0 w (fun y => base <= y))
 (o : lN w p (yG pr vo m)) (hr : Qi w lo hi pr m.l 0) (oo : GX w O 1 vo m.out.length (m.out.map nT)) (hp : base <= p) (hlo : base <= lo) (hO : ∀ b, O b -> base <= b /\ b ≠ p /\ ¬ (lo <= b /\ b < hi) /\ b < aB) (hpq : base <= pq /\ pq ≠ p /\ pq ≠ ph /\ ¬ O pq) (q1 : ¬ (lo <= p /\ p < hi)) (q2 : ¬ (lo <= ph /\ ph < hi)) (q3 : ¬ (lo <= pq /\ pq < hi)) (hb : p < aB /\ ph < aB /\ pq < aB /\ hi <= aB /\ base <= aB /\ aB <= w.heap.size)
 (oh : lN w ph (Pj h)) (og : lN w pq gL) (ha : GX w (fun b => aB <= b) 1 va all.length (all.map nT)) (h1 : m.out.length <= m.most) (h2 : all.length <= 2000000) (h3 : m.fr <= 2000000) (hmost : m.most <= 2000000) (hl : m.l.length <= 1000000) (hsz : h.size < 2 ^ 64)
 (hm : QX h (m.most - m.out.length) f m.l all = some mm) :
 sB (fun r w' => aqM base p w0 dm r w' (amB h mm)) (.pointer (some ⟨p, 0, none⟩)) (.pointer (some ⟨ph, 0, none⟩)) (.pointer (some ⟨pq, 0, none⟩)) va w := by
 obtain ⟨RR, hRR⟩ : ∃ RR : aEm -> aEl -> Prop, RR = fun r w' => aqM base p w0 dm r w' (amB h mm) := ⟨_, rfl⟩
 rw [<- hRR]
 unfold sB Bh A9
 refine kP.rule (fun f (va : aEm) w1 => ∃ all l, QX h (m.most - m.out.length) f l all = some mm /\ jN w w1 (fun y => aB <= y ∨ y = pr ∨ y = pq) /\ Qi w1 lo hi pr l 0 /\ GX w1 (fun b => aB <= b) 1 va all.length (all.map nT) /\ lN w1 pq gL /\ all.length <= 2000000 /\ l.length <= 1000000) f
  ⟨all, m.l, hm, jN.refl _ _, hr, ha, og, h2, hl⟩ ?_
 clear hm ha og hl h2 hr all
 rintro f va w1 ⟨all, l, hm, x1, hr, ha, og, h2, hl⟩
 have hpr : lo <= pr /\ pr < hi := ⟨hr.1, hr.2.1⟩
 have z1 := x1.size
 have hnp : ¬ (aB <= p ∨ p = pr ∨ p = pq) := by omega
 have hnh : ¬ (aB <= ph ∨ ph = pr ∨ ph = pq) := by omega
 have hnO : ∀ b, O b -> ¬ (aB <= b ∨ b = pr ∨ b = pq) := by
  rintro b hb (h | h | h)
  .have := (hO b hb).2.2.2; omega
  .exact (hO b hb).2.2.1 (h ▸ hpr)
  .exact hpq.2.2.2 (h ▸ hb)
 have o1 := o.ext x1 hnp
 have oh1 := oh.ext x1 hnh
 have oo1 := oo.ext x1 hnO
 cases f with
 | zero => cases hm
 | succ f =>
   rw [QX] at hm
   unfold vD
   have hg := H8 (off := 0) og (by simp [gL])
   simp only [gL, aCs, aCq, aCw] at hg
   have c0 := oh1.cell (off := 0)
   have c1 := oh1.cell (off := 1)
   have c2 := oh1.cell (off := 2)
   simp only [Pj, aBX, aBY] at c0 c1 c2
   simp (disch := omega) only [gI, jD, dJ, stepR_skip, hJ, iC, iM, iP, iL, iN, jJ, iX, gM, iE, iG, iI, iH, gY, iO, hZ, iF, iV, iW, iJ, gR, iT, iQ, iD, jV, jW, kF, kD, kC, kG, kA, kB, kE, gD, Result.ok.injEq, Next.value.injEq, true_and, and_true, gX, iA, iU, iR, iS, jF, aB0, gV, gU, gW, gT, gO, gJ, gP, gN, gB, fV, if_true, if_false, aBZ, aB4, aB1, aB2, aB5, aB3, aBY, aBX, fQ, fL, fE, fR, cU, eS, eF, dK, bP, fS, eY, aP, dB, aX, bQ, bM, aO, cO, cJ, eQ, aE, gS, aJ, cK, aT, bU, fT, cI, cF, aD, gA, fD, aN, aF, bO, gQ, aI, eX, dT, dV, gF, dE, fB, cZ, eH, fF, fC, cG, dG, gK, dN, bZ, aS, bV, bT, fN, aG, aH, aQ, bA, bE, cP, bK, aA, fA, aR, cL, fJ, eU, gG, bJ, eL, eN, bY, fW, eZ, eJ, dH, cQ, dD, aY, bD, aL, fZ, aM, dA, eE, bB, cC, fK, dL, gC, fM, fG, fI, dS, aK, cH, cY, fY, fX, fH, dC, aV, dX, fU, cS, eT, fO, cD, bL, dR, aZ, dW, dQ, cM, eM, eK, bF, dF, bG, eD, dU, dZ, bN, cR, cN, dO, bS, cW, cV, fP, cB, eI, eP, gE, dY, dP, dM, dI, bH, bR, bW, bX, aU, cX, aW, hg, c0]
   obtain ⟨mb, hmb⟩ : ∃ mb, Wl l all h.window (m.most - m.out.length) = some mb := by
    cases hd : Wl l all h.window (m.most - m.out.length) with
    | none => rw [hd] at hm; cases hm
    | some mb => exact ⟨mb, rfl⟩
   rw [hmb] at hm
   refine (asI (n := m.out.length) (most := m.most) o1 rfl rfl rfl oo1.len hr ha (fun b h => ⟨by omega, by omega⟩) (fun b h => by omega) (by omega) q1 h1 hl h2 hmost hmb).mono ?_
   intro r w2 hb2
   cases mb with
   | error e =>
     have he := asK hmb
     cases hm
     obtain ⟨rfl, x2⟩ := hb2
     have n1 : (e != 0) = true := by simp [he]
     unfold gZv
     simp (disch := omega) only [gI, jD, dJ, stepR_skip, hJ, iC, iM, iP, iL, iN, jJ, iX, gM, iE, iG, iI, iH, gY, iO, hZ, iF, iV, iW, iJ, gR, iT, iQ, iD, jV, jW, kF, kD, kC, kG, kA, kB, kE, gD, Result.ok.injEq, Next.value.injEq, true_and, and_true, gX, iA, iU, iR, iS, jF, aB0, gV, gU, gW, gT, gO, gJ, gP, gN, gB, fV, if_true, if_false, aBZ, aB4, aB1, aB2, aB5, aB3, aBY, aBX, fQ, fL, fE, fR, cU, eS, eF, dK, bP, fS, eY, aP, dB, aX, bQ, bM, aO, cO, cJ, eQ, aE, gS, aJ, cK, aT, bU, fT, cI, cF, aD, gA, fD, aN, aF, bO, gQ, aI, eX, dT, dV, gF, dE, fB, cZ, eH, fF, fC, cG, dG, gK, dN, bZ, aS, bV, bT, fN, aG, aH, aQ, bA, bE, cP, bK, aA, fA, aR, cL, fJ, eU, gG, bJ, eL, eN, bY, fW, eZ, eJ, dH, cQ, dD, aY, bD, aL, fZ, aM, dA, eE, bB, cC, fK, dL, gC, fM, fG, fI, dS, aK, cH, cY, fY, fX, fH, dC, aV, dX, fU, cS, eT, fO, cD, bL, dR, aZ, dW, dQ, cM, eM, eK, bF, dF, bG, eD, dU, dZ, bN, cR, cN, dO, bS, cW, cV, fP, cB, eI, eP, gE, dY, dP, dM, dI, bH, bR, bW, bX, aU, cX, aW, n1]
     have og2 : lN w2 pq gL := og.ext x2 (by omega)
     refine qE og2 rfl (by simp [one]) (by simp [gL]) fun w3 o3 x3 s3 => ?_
     try simp (disch := omega) only [gI, jD, dJ, stepR_skip, hJ, iC, iM, iP, iL, iN, jJ, iX, gM, iE, iG, iI, iH, gY, iO, hZ, iF, iV, iW, iJ, gR, iT, iQ, iD, jV, jW, kF, kD, kC, kG, kA, kB, kE, gD, Result.ok.injEq, Next.value.injEq, true_and, and_true, gX, iA, iU, iR, iS, jF, aB0, gV, gU, gW, gT, gO, gJ, gP, gN, gB, fV, if_true, if_false, aBZ, aB4, aB1, aB2, aB5, aB3, aBY, aBX, fQ, fL, fE, fR, cU, eS, eF, dK, bP, fS, eY, aP, dB, aX, bQ, bM, aO, cO, cJ, eQ, aE, gS, aJ, cK, aT, bU, fT, cI, cF, aD, gA, fD, aN, aF, bO, gQ, aI, eX, dT, dV, gF, dE, fB, cZ, eH, fF, fC, cG, dG, gK, dN, bZ, aS, bV, bT, fN, aG, aH, aQ, bA, bE, cP, bK, aA, fA, aR, cL, fJ, eU, gG, bJ, eL, eN, bY, fW, eZ, eJ, dH, cQ, dD, aY, bD, aL, fZ, aM, dA, eE, bB, cC, fK, dL, gC, fM, fG, fI, dS, aK, cH, cY, fY, fX, fH, dC, aV, dX, fU, cS, eT, fO, cD, bL, dR, aZ, dW, dQ, cM, eM, eK, bF, dF, bG, eD, dU, dZ, bN, cR, cN, dO, bS, cW, cV, fP, cB, eI, eP, gE, dY, dP, dM, dI, bH, bR, bW, bX, aU, cX, aW, n1]
     rw [hRR]
     exact ⟨he, rfl, hx.seq ((((x1.mono fun y _ h => by omega).seq (x2.mono fun y _ h => by omega))).seq (x3.mono fun y _ h => by omega))⟩
   | ok t =>
     obtain ⟨a, l', b⟩ := t
     obtain ⟨v, rfl, o2, hr2, x2⟩ := hb2
     have hlen := amM hmb
     have n1 : ((0 : Int) != 0) = false := rfl
     have z2 := x2.size
     have og2 := og.ext x2 (by omega)
     obtain ⟨av, cv, hv⟩ := o2.len
     unfold gLv
     subst hv
     simp (disch := omega) only [gI, jD, dJ, stepR_skip, hJ, iC, iM, iP, iL, iN, jJ, iX, gM, iE, iG, iI, iH, gY, iO, hZ, iF, iV, iW, iJ, gR, iT, iQ, iD, jV, jW, kF, kD, kC, kG, kA, kB, kE, gD, Result.ok.injEq, Next.value.injEq, true_and, and_true, gX, iA, iU, iR, iS, jF, aB0, gV, gU, gW, gT, gO, gJ, gP, gN, gB, fV, if_true, if_false, aBZ, aB4, aB1, aB2, aB5, aB3, aBY, aBX, fQ, fL, fE, fR, cU, eS, eF, dK, bP, fS, eY, aP, dB, aX, bQ, bM, aO, cO, cJ, eQ, aE, gS, aJ, cK, aT, bU, fT, cI, cF, aD, gA, fD, aN, aF, bO, gQ, aI, eX, dT, dV, gF, dE, fB, cZ, eH, fF, fC, cG, dG, gK, dN, bZ, aS, bV, bT, fN, aG, aH, aQ, bA, bE, cP, bK, aA, fA, aR, cL, fJ, eU, gG, bJ, eL, eN, bY, fW, eZ, eJ, dH, cQ, dD, aY, bD, aL, fZ, aM, dA, eE, bB, cC, fK, dL, gC, fM, fG, fI, dS, aK, cH, cY, fY, fX, fH, dC, aV, dX, fU, cS, eT, fO, cD, bL, dR, aZ, dW, dQ, cM, eM, eK, bF, dF, bG, eD, dU, dZ, bN, cR, cN, dO, bS, cW, cV, fP, cB, eI, eP, gE, dY, dP, dM, dI, bH, bR, bW, bX, aU, cX, aW, n1]
     refine qE og2 rfl (by simp [one]) (by simp [gL]) fun w3 o3 x3 s3 => ?_
     simp only [kW, gL, aCa, aCc] at o3
     have x13 : jN w w3 (fun y => aB <= y ∨ y = pr ∨ y = pq) := (x1.seq (x2.mono fun y _ h => by omega)).seq (x3.mono fun y _ h => by omega)
     have oh3 := oh.ext x13 hnh
     have d0 := oh3.cell (off := 0)
     have d1 := oh3.cell (off := 1)
     have d2 := oh3.cell (off := 2)
     simp only [Pj, aBX, aBY] at d0 d1 d2
     have o3' := o.ext x13 hnp
     have hr3 := hr2.ext x3 (fun b h1 h2 h => by omega)
     have o2' := o2.ext x3 (fun b h1 h => by omega)
     have wl : IntKind.u64.wrap (a.length : Int) = a.length := iA (by omega) (by omega)
     have go : ¬ (h.known = true /\ h.size < a.length) -> lX (.bool b) (rX RR (.pointer (some ⟨p, 0, none⟩)) (.pointer (some ⟨ph, 0, none⟩)) (.slice av a.length cv) w3) (∃ m_1, m_1 < f + 1 /\ ∃ all l, QX h (m.most - m.out.length) m_1 l all = some mm /\ jN w w3 (fun y => aB <= y ∨ y = pr ∨ y = pq) /\ Qi w3 lo hi pr l 0 /\ GX w3 (fun b => aB <= b) 1 (.slice av a.length cv) all.length (all.map nT) /\ lN w3 pq gL /\ all.length <= 2000000 /\ l.length <= 1000000) := by
      intro hn
      simp only [if_neg hn] at hm
      cases b with
      | true =>
        cases hm
        simp (disch := omega) only [gI, jD, dJ, stepR_skip, hJ, iC, iM, iP, iL, iN, jJ, iX, gM, iE, iG, iI, iH, gY, iO, hZ, iF, iV, iW, iJ, gR, iT, iQ, iD, jV, jW, kF, kD, kC, kG, kA, kB, kE, gD, Result.ok.injEq, Next.value.injEq, true_and, and_true, gX, iA, iU, iR, iS, jF, aB0, gV, gU, gW, gT, gO, gJ, gP, gN, gB, fV, if_true, if_false, aBZ, aB4, aB1, aB2, aB5, aB3, aBY, aBX, fQ, fL, fE, fR, cU, eS, eF, dK, bP, fS, eY, aP, dB, aX, bQ, bM, aO, cO, cJ, eQ, aE, gS, aJ, cK, aT, bU, fT, cI, cF, aD, gA, fD, aN, aF, bO, gQ, aI, eX, dT, dV, gF, dE, fB, cZ, eH, fF, fC, cG, dG, gK, dN, bZ, aS, bV, bT, fN, aG, aH, aQ, bA, bE, cP, bK, aA, fA, aR, cL, fJ, eU, gG, bJ, eL, eN, bY, fW, eZ, eJ, dH, cQ, dD, aY, bD, aL, fZ, aM, dA, eE, bB, cC, fK, dL, gC, fM, fG, fI, dS, aK, cH, cY, fY, fX, fH, dC, aV, dX, fU, cS, eT, fO, cD, bL, dR, aZ, dW, dQ, cM, eM, eK, bF, dF, bG, eD, dU, dZ, bN, cR, cN, dO, bS, cW, cV, fP, cB, eI, eP, gE, dY, dP, dM, dI, bH, bR, bW, bX, aU, cX, aW]
        rw [hRR]
        exact aoG (m := ⟨l', m.win, m.most, m.out, m.fr, m.sk⟩) hdm (hx.seq (x13.mono fun y _ h => by omega)) o3' hr3 (oo.ext x13 hnO) hp hlo (fun b hb => ⟨(hO b hb).1, (hO b hb).2.1, (hO b hb).2.2.1⟩) q1 (by omega) oh3 o2' (fun b h => by omega) (show m.out.length <= 2000000 by omega) (by omega) h3 (show l'.length <= 1000000 by omega) hsz
      | false =>
        simp (disch := omega) only [gI, jD, dJ, stepR_skip, hJ, iC, iM, iP, iL, iN, jJ, iX, gM, iE, iG, iI, iH, gY, iO, hZ, iF, iV, iW, iJ, gR, iT, iQ, iD, jV, jW, kF, kD, kC, kG, kA, kB, kE, gD, Result.ok.injEq, Next.value.injEq, true_and, and_true, gX, iA, iU, iR, iS, jF, aB0, gV, gU, gW, gT, gO, gJ, gP, gN, gB, fV, if_true, if_false, aBZ, aB4, aB1, aB2, aB5, aB3, aBY, aBX, fQ, fL, fE, fR, cU, eS, eF, dK, bP, fS, eY, aP, dB, aX, bQ, bM, aO, cO, cJ, eQ, aE, gS, aJ, cK, aT, bU, fT, cI, cF, aD, gA, fD, aN, aF, bO, gQ, aI, eX, dT, dV, gF, dE, fB, cZ, eH, fF, fC, cG, dG, gK, dN, bZ, aS, bV, bT, fN, aG, aH, aQ, bA, bE, cP, bK, aA, fA, aR, cL, fJ, eU, gG, bJ, eL, eN, bY, fW, eZ, eJ, dH, cQ, dD, aY, bD, aL, fZ, aM, dA, eE, bB, cC, fK, dL, gC, fM, fG, fI, dS, aK, cH, cY, fY, fX, fH, dC, aV, dX, fU, cS, eT, fO, cD, bL, dR, aZ, dW, dQ, cM, eM, eK, bF, dF, bG, eD, dU, dZ, bN, cR, cN, dO, bS, cW, cV, fP, cB, eI, eP, gE, dY, dP, dM, dI, bH, bR, bW, bX, aU, cX, aW]
        exact ⟨f, by omega, a, l', hm, x13, hr3, o2', o3, by omega, by omega⟩
     cases hkn : h.known with
     | false =>
       rw [hkn] at d2
       have := go (by rw [hkn]; simp)
       simp (disch := omega) only [gI, jD, dJ, stepR_skip, hJ, iC, iM, iP, iL, iN, jJ, iX, gM, iE, iG, iI, iH, gY, iO, hZ, iF, iV, iW, iJ, gR, iT, iQ, iD, jV, jW, kF, kD, kC, kG, kA, kB, kE, gD, Result.ok.injEq, Next.value.injEq, true_and, and_true, gX, iA, iU, iR, iS, jF, aB0, gV, gU, gW, gT, gO, gJ, gP, gN, gB, fV, if_true, if_false, aBZ, aB4, aB1, aB2, aB5, aB3, aBY, aBX, fQ, fL, fE, fR, cU, eS, eF, dK, bP, fS, eY, aP, dB, aX, bQ, bM, aO, cO, cJ, eQ, aE, gS, aJ, cK, aT, bU, fT, cI, cF, aD, gA, fD, aN, aF, bO, gQ, aI, eX, dT, dV, gF, dE, fB, cZ, eH, fF, fC, cG, dG, gK, dN, bZ, aS, bV, bT, fN, aG, aH, aQ, bA, bE, cP, bK, aA, fA, aR, cL, fJ, eU, gG, bJ, eL, eN, bY, fW, eZ, eJ, dH, cQ, dD, aY, bD, aL, fZ, aM, dA, eE, bB, cC, fK, dL, gC, fM, fG, fI, dS, aK, cH, cY, fY, fX, fH, dC, aV, dX, fU, cS, eT, fO, cD, bL, dR, aZ, dW, dQ, cM, eM, eK, bF, dF, bG, eD, dU, dZ, bN, cR, cN, dO, bS, cW, cV, fP, cB, eI, eP, gE, dY, dP, dM, dI, bH, bR, bW, bX, aU, cX, aW, n1, d2]
       exact this
     | true =>
       rw [hkn] at d2
       by_cases hlt : h.size < a.length
       .have g1 : decide ((a.length : Int) > (h.size : Int)) = true := decide_eq_true (by omega)
        have g2 : decide ((h.size : Int) < (a.length : Int)) = true := decide_eq_true (by omega)
        simp only [if_pos (⟨hkn, hlt⟩ : h.known = true /\ h.size < a.length)] at hm
        cases hm
        simp (disch := omega) only [gI, jD, dJ, stepR_skip, hJ, iC, iM, iP, iL, iN, jJ, iX, gM, iE, iG, iI, iH, gY, iO, hZ, iF, iV, iW, iJ, gR, iT, iQ, iD, jV, jW, kF, kD, kC, kG, kA, kB, kE, gD, Result.ok.injEq, Next.value.injEq, true_and, and_true, gX, iA, iU, iR, iS, jF, aB0, gV, gU, gW, gT, gO, gJ, gP, gN, gB, fV, if_true, if_false, aBZ, aB4, aB1, aB2, aB5, aB3, aBY, aBX, fQ, fL, fE, fR, cU, eS, eF, dK, bP, fS, eY, aP, dB, aX, bQ, bM, aO, cO, cJ, eQ, aE, gS, aJ, cK, aT, bU, fT, cI, cF, aD, gA, fD, aN, aF, bO, gQ, aI, eX, dT, dV, gF, dE, fB, cZ, eH, fF, fC, cG, dG, gK, dN, bZ, aS, bV, bT, fN, aG, aH, aQ, bA, bE, cP, bK, aA, fA, aR, cL, fJ, eU, gG, bJ, eL, eN, bY, fW, eZ, eJ, dH, cQ, dD, aY, bD, aL, fZ, aM, dA, eE, bB, cC, fK, dL, gC, fM, fG, fI, dS, aK, cH, cY, fY, fX, fH, dC, aV, dX, fU, cS, eT, fO, cD, bL, dR, aZ, dW, dQ, cM, eM, eK, bF, dF, bG, eD, dU, dZ, bN, cR, cN, dO, bS, cW, cV, fP, cB, eI, eP, gE, dY, dP, dM, dI, bH, bR, bW, bX, aU, cX, aW, n1, d2, d1, wl, g1, g2]
        rw [hRR]
        exact ⟨by decide, rfl, hx.seq (x13.mono fun y _ h => by omega)⟩
       .have g1 : decide ((a.length : Int) > (h.size : Int)) = false := decide_eq_false (by omega)
        have g2 : decide ((h.size : Int) < (a.length : Int)) = false := decide_eq_false (by omega)
        have := go (by simp [hlt])
        simp (disch := omega) only [gI, jD, dJ, stepR_skip, hJ, iC, iM, iP, iL, iN, jJ, iX, gM, iE, iG, iI, iH, gY, iO, hZ, iF, iV, iW, iJ, gR, iT, iQ, iD, jV, jW, kF, kD, kC, kG, kA, kB, kE, gD, Result.ok.injEq, Next.value.injEq, true_and, and_true, gX, iA, iU, iR, iS, jF, aB0, gV, gU, gW, gT, gO, gJ, gP, gN, gB, fV, if_true, if_false, aBZ, aB4, aB1, aB2, aB5, aB3, aBY, aBX, fQ, fL, fE, fR, cU, eS, eF, dK, bP, fS, eY, aP, dB, aX, bQ, bM, aO, cO, cJ, eQ, aE, gS, aJ, cK, aT, bU, fT, cI, cF, aD, gA, fD, aN, aF, bO, gQ, aI, eX, dT, dV, gF, dE, fB, cZ, eH, fF, fC, cG, dG, gK, dN, bZ, aS, bV, bT, fN, aG, aH, aQ, bA, bE, cP, bK, aA, fA, aR, cL, fJ, eU, gG, bJ, eL, eN, bY, fW, eZ, eJ, dH, cQ, dD, aY, bD, aL, fZ, aM, dA, eE, bB, cC, fK, dL, gC, fM, fG, fI, dS, aK, cH, cY, fY, fX, fH, dC, aV, dX, fU, cS, eT, fO, cD, bL, dR, aZ, dW, dQ, cM, eM, eK, bF, dF, bG, eD, dU, dZ, bN, cR, cN, dO, bS, cW, cV, fP, cB, eI, eP, gE, dY, dP, dM, dI, bH, bR, bW, bX, aU, cX, aW, n1, d2, d1, wl, g1, g2]
        exact this
def afT (l : List UInt8) (win room : Nat) : Option (Except Int (List UInt8 × List UInt8)) :=
 match Rb l with
 | .error e => some (.error e)
 | .ok (h, n) => if win < h.window ∨ (h.known = true /\ room < h.size) then some (.error 12) else match QX h room (l.length + 1) (l.drop n) [] with | none => none | some mm => some (amB h mm)
theorem avJ {L dict : Nat} {s : List UInt8 × Int} {h : FH} {e : Int} (hh : ZZ L s dict h = .error e) : e ≠ 0 := by
 unfold ZZ at hh
 split at hh
 .cases hh; assumption
 .split at hh
  .cases hh; decide
  .cases hh
theorem aqI {l : List UInt8} {e : Int} (h : Rb l = .error e) : e ≠ 0 := by
 unfold Rb at h
 split at h
 .cases h; assumption
 .split at h
  .cases h; decide
  .exact avJ h
theorem azQ (s : List UInt8 × Int) (n : Nat) (hn : n <= 8) : opV s n < 2 ^ 64 := by
 unfold opV
 split
 .have := abL s n
  have h2 : 256 ^ n <= 256 ^ 8 := aCn (by omega) hn
  have h3 : (256 : Nat) ^ 8 = 2 ^ 64 := by decide
  omega
 .decide
theorem azU (s : List UInt8 × Int) (d : Nat) (hd : d < 256) : fSz d (opV s (Wk d)) < 2 ^ 64 := by
 have h4 : d / 64 = 0 ∨ d / 64 = 1 ∨ d / 64 = 2 ∨ d / 64 = 3 := by omega
 have h8 : Wk d <= 8 := by
  unfold Wk
  rcases h4 with h | h | h | h <;> rw [h] <;> simp
  split <;> omega
 have := azQ s (Wk d) h8
 unfold fSz
 split
 .rename_i h2
  rw [h2] at this ⊢
  have h5 : opV s 2 < 65536 := by
   unfold opV
   rw [if_pos (by omega)]
   exact abL s 2
  omega
 .exact this
theorem atB {l : List UInt8} {h : FH} {n : Nat} (hh : Rb l = .ok (h, n)) : h.size < 2 ^ 64 /\ n <= l.length := by
 unfold Rb at hh
 split at hh
 .cases hh
 .split at hh
  .cases hh
  .unfold abW ZZ at hh
   split at hh
   .cases hh
   .split at hh
    .cases hh
    .cases hh
     have hd : nvS (l, 0) 1 < 256 := abL (l, 0) 1
     exact ⟨azU _ _ hd, by omega⟩
theorem amX {w : aEl} : jE pg vJ #[] w (fun r w' => r = .agg #[.int .u32 1, .int .u32 4, .int .u32 8] /\ jN w w' mC) := by
 refine VW ?_
 unfold Vl HB
 refine tH fun w1 o1 x1 s1 => ?_
 try simp (disch := omega) only [gI, jD, dJ, stepR_skip, hJ, iC, iM, iP, iL, iN, jJ, iX, gM, iE, iG, iI, iH, gY, iO, hZ, iF, iV, iW, iJ, gR, iT, iQ, iD, jV, jW, kF, kD, kC, kG, kA, kB, kE, gD, Result.ok.injEq, Next.value.injEq, true_and, and_true, gX, iA, iU, iR, iS, jF, aB0, gV, gU, gW, gT, gO, gJ, gP, gN, gB, fV, if_true, if_false, aBZ, aB4, aB1, aB2, aB5, aB3, aBY, aBX, fQ, fL, fE, fR, cU, eS, eF, dK, bP, fS, eY, aP, dB, aX, bQ, bM, aO, cO, cJ, eQ, aE, gS, aJ, cK, aT, bU, fT, cI, cF, aD, gA, fD, aN, aF, bO, gQ, aI, eX, dT, dV, gF, dE, fB, cZ, eH, fF, fC, cG, dG, gK, dN, bZ, aS, bV, bT, fN, aG, aH, aQ, bA, bE, cP, bK, aA, fA, aR, cL, fJ, eU, gG, bJ, eL, eN, bY, fW, eZ, eJ, dH, cQ, dD, aY, bD, aL, fZ, aM, dA, eE, bB, cC, fK, dL, gC, fM, fG, fI, dS, aK, cH, cY, fY, fX, fH, dC, aV, dX, fU, cS, eT, fO, cD, bL, dR, aZ, dW, dQ, cM, eM, eK, bF, dF, bG, eD, dU, dZ, bN, cR, cN, dO, bS, cW, cV, fP, cB, eI, eP, gE, dY, dP, dM, dI, bH, bR, bW, bX, aU, cX, aW]
 refine qW o1 rfl (by simp [one]) (by simp) fun w2 o2 x2 s2 => ?_
 refine HA o2 (by simp [kW]) ?_
 exact ⟨rfl, x1.new x2 (by omega)⟩
theorem asE {base p : Nat} {dm : DM} {w : aEl} {mm : Except Int (List UInt8 × List UInt8)} (hd : DSt w base p dm) (h1 : dm.out.length <= dm.most) (h3 : dm.fr <= 2000000) (hmost : dm.most <= 2000000) (hl : dm.l.length <= 1000000)
 (hm : afT dm.l dm.win (dm.most - dm.out.length) = some mm) :
 jE pg vN #[.pointer (some ⟨p, 0, none⟩)] w (fun r w' => aqM base p w dm r w' mm) := by
 refine OM ?_
 unfold KN zN AE Ap Hi AV
 obtain ⟨RR, hRR⟩ : ∃ RR : aEm -> aEl -> Prop, RR = fun r w' => aqM base p w dm r w' mm := ⟨_, rfl⟩
 rw [<- hRR]
 obtain ⟨pr, vo, lo, hi, O, o, hr, oo, hp, hlo, hO, q1, hhi⟩ := hd
 have hpr : lo <= pr /\ pr < hi := ⟨hr.1, hr.2.1⟩
 have hzp := o.lt
 have hO1 : GX w (fun b => O b /\ b < w.heap.size) 1 vo dm.out.length (dm.out.map nT) := WI oo fun b h h2 => ⟨h, h2⟩
 have xd := jN.dr w mC
 have zd := xd.size
 have c0 := (nP o).cell (off := 0)
 simp only [yG, aBX] at c0
 simp (disch := omega) only [gI, jD, dJ, stepR_skip, hJ, iC, iM, iP, iL, iN, jJ, iX, gM, iE, iG, iI, iH, gY, iO, hZ, iF, iV, iW, iJ, gR, iT, iQ, iD, jV, jW, kF, kD, kC, kG, kA, kB, kE, gD, Result.ok.injEq, Next.value.injEq, true_and, and_true, gX, iA, iU, iR, iS, jF, aB0, gV, gU, gW, gT, gO, gJ, gP, gN, gB, fV, if_true, if_false, aBZ, aB4, aB1, aB2, aB5, aB3, aBY, aBX, fQ, fL, fE, fR, cU, eS, eF, dK, bP, fS, eY, aP, dB, aX, bQ, bM, aO, cO, cJ, eQ, aE, gS, aJ, cK, aT, bU, fT, cI, cF, aD, gA, fD, aN, aF, bO, gQ, aI, eX, dT, dV, gF, dE, fB, cZ, eH, fF, fC, cG, dG, gK, dN, bZ, aS, bV, bT, fN, aG, aH, aQ, bA, bE, cP, bK, aA, fA, aR, cL, fJ, eU, gG, bJ, eL, eN, bY, fW, eZ, eJ, dH, cQ, dD, aY, bD, aL, fZ, aM, dA, eE, bB, cC, fK, dL, gC, fM, fG, fI, dS, aK, cH, cY, fY, fX, fH, dC, aV, dX, fU, cS, eT, fO, cD, bL, dR, aZ, dW, dQ, cM, eM, eK, bF, dF, bG, eD, dU, dZ, bN, cR, cN, dO, bS, cW, cV, fP, cB, eI, eP, gE, dY, dP, dM, dI, bH, bR, bW, bX, aU, cX, aW, c0]
 refine (SV (hr.ext xd (fun _ _ _ h => h))).mono ?_
 rintro r w1 ⟨rfl, hw1⟩
 rw [hw1]; clear hw1 w1
 have o := nP o
 have hr := hr.ext xd (fun _ _ _ h => h)
 have hO1 := hO1.ext xd (fun _ _ h => h)
 obtain ⟨wd, hwd⟩ : ∃ x, x = dr w := ⟨_, rfl⟩
 rw [<- hwd] at o hr hO1 xd zd c0 ⊢
 simp (disch := omega) only [gI, jD, dJ, stepR_skip, hJ, iC, iM, iP, iL, iN, jJ, iX, gM, iE, iG, iI, iH, gY, iO, hZ, iF, iV, iW, iJ, gR, iT, iQ, iD, jV, jW, kF, kD, kC, kG, kA, kB, kE, gD, Result.ok.injEq, Next.value.injEq, true_and, and_true, gX, iA, iU, iR, iS, jF, aB0, gV, gU, gW, gT, gO, gJ, gP, gN, gB, fV, if_true, if_false, aBZ, aB4, aB1, aB2, aB5, aB3, aBY, aBX, fQ, fL, fE, fR, cU, eS, eF, dK, bP, fS, eY, aP, dB, aX, bQ, bM, aO, cO, cJ, eQ, aE, gS, aJ, cK, aT, bU, fT, cI, cF, aD, gA, fD, aN, aF, bO, gQ, aI, eX, dT, dV, gF, dE, fB, cZ, eH, fF, fC, cG, dG, gK, dN, bZ, aS, bV, bT, fN, aG, aH, aQ, bA, bE, cP, bK, aA, fA, aR, cL, fJ, eU, gG, bJ, eL, eN, bY, fW, eZ, eJ, dH, cQ, dD, aY, bD, aL, fZ, aM, dA, eE, bB, cC, fK, dL, gC, fM, fG, fI, dS, aK, cH, cY, fY, fX, fH, dC, aV, dX, fU, cS, eT, fO, cD, bL, dR, aZ, dW, dQ, cM, eM, eK, bF, dF, bG, eD, dU, dZ, bN, cR, cN, dO, bS, cW, cV, fP, cB, eI, eP, gE, dY, dP, dM, dI, bH, bR, bW, bX, aU, cX, aW, c0]
 refine (Zc hr (by omega) (by omega)).mono ?_
 rintro rest w1 ⟨hb1, hat, hr1, x1⟩
 have ht : G0 dm.l 0 dm.l.length = (dm.l, [], 0) := by
  unfold G0
  rw [if_neg (by decide), if_neg (by omega), aCg (by omega), aEb (by omega)]
 rw [ht] at hb1 hr1
 have hb1 : Bs w1 rest dm.l := hb1
 clear hr1
 have o1 := o.ext x1 (fun e => q1 (e ▸ hpr))
 have oo1 : GX w1 (fun b => O b /\ b < w.heap.size) 1 vo dm.out.length (dm.out.map nT) := hO1.ext x1 fun b h e => (hO b h.1).2.2 (e ▸ hpr)
 have z1 := x1.size
 refine (aiX hb1 hl).mono ?_
 rintro r w2 ⟨rfl, x2⟩
 unfold afT at hm
 have z2 := x2.size
 cases hf : Rb dm.l with
 | error e =>
   have he := aqI hf
   rw [hf] at hm
   cases hm
   have n1 : (e != 0) = true := by simp [he]
   unfold fRV fhV
   simp (disch := omega) only [gI, jD, dJ, stepR_skip, hJ, iC, iM, iP, iL, iN, jJ, iX, gM, iE, iG, iI, iH, gY, iO, hZ, iF, iV, iW, iJ, gR, iT, iQ, iD, jV, jW, kF, kD, kC, kG, kA, kB, kE, gD, Result.ok.injEq, Next.value.injEq, true_and, and_true, gX, iA, iU, iR, iS, jF, aB0, gV, gU, gW, gT, gO, gJ, gP, gN, gB, fV, if_true, if_false, aBZ, aB4, aB1, aB2, aB5, aB3, aBY, aBX, fQ, fL, fE, fR, cU, eS, eF, dK, bP, fS, eY, aP, dB, aX, bQ, bM, aO, cO, cJ, eQ, aE, gS, aJ, cK, aT, bU, fT, cI, cF, aD, gA, fD, aN, aF, bO, gQ, aI, eX, dT, dV, gF, dE, fB, cZ, eH, fF, fC, cG, dG, gK, dN, bZ, aS, bV, bT, fN, aG, aH, aQ, bA, bE, cP, bK, aA, fA, aR, cL, fJ, eU, gG, bJ, eL, eN, bY, fW, eZ, eJ, dH, cQ, dD, aY, bD, aL, fZ, aM, dA, eE, bB, cC, fK, dL, gC, fM, fG, fI, dS, aK, cH, cY, fY, fX, fH, dC, aV, dX, fU, cS, eT, fO, cD, bL, dR, aZ, dW, dQ, cM, eM, eK, bF, dF, bG, eD, dU, dZ, bN, cR, cN, dO, bS, cW, cV, fP, cB, eI, eP, gE, dY, dP, dM, dI, bH, bR, bW, bX, aU, cX, aW]
   refine D5 fun w3 o3 x3 s3 => ?_
   refine rC o3 rfl (by simp [one]) (by simp) fun w4 o4 x4 s4 => ?_
   simp (disch := omega) only [gI, jD, dJ, stepR_skip, hJ, iC, iM, iP, iL, iN, jJ, iX, gM, iE, iG, iI, iH, gY, iO, hZ, iF, iV, iW, iJ, gR, iT, iQ, iD, jV, jW, kF, kD, kC, kG, kA, kB, kE, gD, Result.ok.injEq, Next.value.injEq, true_and, and_true, gX, iA, iU, iR, iS, jF, aB0, gV, gU, gW, gT, gO, gJ, gP, gN, gB, fV, if_true, if_false, aBZ, aB4, aB1, aB2, aB5, aB3, aBY, aBX, fQ, fL, fE, fR, cU, eS, eF, dK, bP, fS, eY, aP, dB, aX, bQ, bM, aO, cO, cJ, eQ, aE, gS, aJ, cK, aT, bU, fT, cI, cF, aD, gA, fD, aN, aF, bO, gQ, aI, eX, dT, dV, gF, dE, fB, cZ, eH, fF, fC, cG, dG, gK, dN, bZ, aS, bV, bT, fN, aG, aH, aQ, bA, bE, cP, bK, aA, fA, aR, cL, fJ, eU, gG, bJ, eL, eN, bY, fW, eZ, eJ, dH, cQ, dD, aY, bD, aL, fZ, aM, dA, eE, bB, cC, fK, dL, gC, fM, fG, fI, dS, aK, cH, cY, fY, fX, fH, dC, aV, dX, fU, cS, eT, fO, cD, bL, dR, aZ, dW, dQ, cM, eM, eK, bF, dF, bG, eD, dU, dZ, bN, cR, cN, dO, bS, cW, cV, fP, cB, eI, eP, gE, dY, dP, dM, dI, bH, bR, bW, bX, aU, cX, aW, n1]
   rw [hRR]
   have x24 : jN w2 w4 mC := x3.new x4 (by omega)
   exact ⟨he, rfl, (((xd.mono fun _ _ h => h.elim).seq (x1.mono fun y _ h => by omega)).seq ((x2.seq x24).mono fun _ _ h => h.elim))⟩
 | ok t =>
   obtain ⟨h, n⟩ := t
   have hok := atB hf
   rw [hf] at hm
   have n1 : ((0 : Int) != 0) = false := rfl
   unfold fRV fhV
   simp (disch := omega) only [gI, jD, dJ, stepR_skip, hJ, iC, iM, iP, iL, iN, jJ, iX, gM, iE, iG, iI, iH, gY, iO, hZ, iF, iV, iW, iJ, gR, iT, iQ, iD, jV, jW, kF, kD, kC, kG, kA, kB, kE, gD, Result.ok.injEq, Next.value.injEq, true_and, and_true, gX, iA, iU, iR, iS, jF, aB0, gV, gU, gW, gT, gO, gJ, gP, gN, gB, fV, if_true, if_false, aBZ, aB4, aB1, aB2, aB5, aB3, aBY, aBX, fQ, fL, fE, fR, cU, eS, eF, dK, bP, fS, eY, aP, dB, aX, bQ, bM, aO, cO, cJ, eQ, aE, gS, aJ, cK, aT, bU, fT, cI, cF, aD, gA, fD, aN, aF, bO, gQ, aI, eX, dT, dV, gF, dE, fB, cZ, eH, fF, fC, cG, dG, gK, dN, bZ, aS, bV, bT, fN, aG, aH, aQ, bA, bE, cP, bK, aA, fA, aR, cL, fJ, eU, gG, bJ, eL, eN, bY, fW, eZ, eJ, dH, cQ, dD, aY, bD, aL, fZ, aM, dA, eE, bB, cC, fK, dL, gC, fM, fG, fI, dS, aK, cH, cY, fY, fX, fH, dC, aV, dX, fU, cS, eT, fO, cD, bL, dR, aZ, dW, dQ, cM, eM, eK, bF, dF, bG, eD, dU, dZ, bN, cR, cN, dO, bS, cW, cV, fP, cB, eI, eP, gE, dY, dP, dM, dI, bH, bR, bW, bX, aU, cX, aW]
   refine D5 fun w3 o3 x3 s3 => ?_
   obtain ⟨ph, hph⟩ : ∃ p, p = w2.heap.size := ⟨_, rfl⟩
   rw [<- hph] at o3 ⊢
   refine rC o3 rfl (by simp [one]) (by simp) fun w4 o4 x4 s4 => ?_
   simp only [kW, aCa, aCc] at o4
   have oh4 : lN w4 ph (Pj h) := o4
   have x24 : jN w2 w4 mC := x3.new x4 (by omega)
   have x14 : jN w1 w4 mC := x2.seq x24
   have hz3 := o4.lt
   obtain ⟨va, vc, hrest, hvc⟩ := hb1.len
   rw [aB6] at hrest hvc
   subst hrest
   have hb4 := hb1.ext x14 (kJ _)
   have t0 : (n : Int).toNat = n := aB0 _
   have hbd : Bs w4 (.slice (mY va vc n 1) (dm.l.length - n) (vc - n)) (dm.l.drop n) := by
    have := hb4.drop' (k := n) (by omega)
    rwa [<- aDW] at this
   simp (disch := omega) only [gI, jD, dJ, stepR_skip, hJ, iC, iM, iP, iL, iN, jJ, iX, gM, iE, iG, iI, iH, gY, iO, hZ, iF, iV, iW, iJ, gR, iT, iQ, iD, jV, jW, kF, kD, kC, kG, kA, kB, kE, gD, Result.ok.injEq, Next.value.injEq, true_and, and_true, gX, iA, iU, iR, iS, jF, aB0, gV, gU, gW, gT, gO, gJ, gP, gN, gB, fV, if_true, if_false, aBZ, aB4, aB1, aB2, aB5, aB3, aBY, aBX, fQ, fL, fE, fR, cU, eS, eF, dK, bP, fS, eY, aP, dB, aX, bQ, bM, aO, cO, cJ, eQ, aE, gS, aJ, cK, aT, bU, fT, cI, cF, aD, gA, fD, aN, aF, bO, gQ, aI, eX, dT, dV, gF, dE, fB, cZ, eH, fF, fC, cG, dG, gK, dN, bZ, aS, bV, bT, fN, aG, aH, aQ, bA, bE, cP, bK, aA, fA, aR, cL, fJ, eU, gG, bJ, eL, eN, bY, fW, eZ, eJ, dH, cQ, dD, aY, bD, aL, fZ, aM, dA, eE, bB, cC, fK, dL, gC, fM, fG, fI, dS, aK, cH, cY, fY, fX, fH, dC, aV, dX, fU, cS, eT, fO, cD, bL, dR, aZ, dW, dQ, cM, eM, eK, bF, dF, bG, eD, dU, dZ, bN, cR, cN, dO, bS, cW, cV, fP, cB, eI, eP, gE, dY, dP, dM, dI, bH, bR, bW, bX, aU, cX, aW, n1, t0]
   refine (Jc hbd (by rw [aCi]; omega)).mono ?_
   rintro r w5 ⟨p5, rfl, hr5, x5⟩
   have z4 := x14.size
   have z5 := x5.size
   have o5 := (o1.ext x14 (fun h => h)).ext x5 (fun h => h)
   refine VR (off := 0) o5 rfl (by simp [yG]) fun w6 o6 x6 s6 => ?_
   simp only [yG, aCa] at o6
   have x46 : jN w4 w6 (fun y => y = p) := (x5.mono fun _ _ h => h.elim).seq x6
   have x06 : jN w w6 (fun y => base <= y) := ((((xd.mono fun _ _ h => h.elim).seq (x1.mono fun y _ h => by omega)).seq (x14.mono fun _ _ h => h.elim)).seq (x46.mono fun y _ h => by omega))
   have hphp : ph ≠ p := by omega
   have oh6 := oh4.ext x46 hphp
   have oo6 := (oo1.ext x14 fun _ _ h => h).ext x46 fun b h e => (hO b h.1).2.1 e
   have h5lo : w4.heap.size <= p5 /\ p5 < w5.heap.size := ⟨hr5.1, hr5.2.1⟩
   have hr6 := hr5.ext x6 (fun b h1 h2 h => by omega)
   have ch0 := oh6.cell (off := 0)
   have ch1 := oh6.cell (off := 1)
   have ch2 := oh6.cell (off := 2)
   have eh0 := (nP oh6).cell (off := 0)
   have eh1 := (nP oh6).cell (off := 1)
   have eh2 := (nP oh6).cell (off := 2)
   simp only [Pj, aBX, aBY] at ch0 ch1 ch2 eh0 eh1 eh2
   have co1 := o6.cell (off := 1)
   have co2 := o6.cell (off := 2)
   have co3 := o6.cell (off := 3)
   have eo1 := (nP o6).cell (off := 1)
   have eo2 := (nP o6).cell (off := 2)
   have eo3 := (nP o6).cell (off := 3)
   simp only [aBX, aBY] at co1 co2 co3 eo1 eo2 eo3
   obtain ⟨av, cv, hvo⟩ := oo6.len
   subst hvo
   have e9 : (dm.most : Int) - (dm.out.length : Int) = ((dm.most - dm.out.length : Nat) : Int) := by omega
   have w9 : IntKind.u64.wrap ((dm.most - dm.out.length : Nat) : Int) = ((dm.most - dm.out.length : Nat) : Int) := iA (by omega) (by omega)
   by_cases hbig : dm.win < h.window ∨ (h.known = true /\ dm.most - dm.out.length < h.size)
   .simp only [if_pos hbig] at hm
    cases hm
    have fin : RR (.int .i64 12) (dr w6) := by rw [hRR]; exact ⟨by decide, rfl, x06.seq (jN.dr w6 _)⟩
    by_cases hw : dm.win < h.window
    .have d1 : decide ((h.window : Int) > (dm.win : Int)) = true := decide_eq_true (by omega)
     have d2 : decide ((dm.win : Int) < (h.window : Int)) = true := decide_eq_true (by omega)
     have iu : kO undef true = false := rfl
     simp (disch := omega) only [gI, jD, dJ, stepR_skip, hJ, iC, iM, iP, iL, iN, jJ, iX, gM, iE, iG, iI, iH, gY, iO, hZ, iF, iV, iW, iJ, gR, iT, iQ, iD, jV, jW, kF, kD, kC, kG, kA, kB, kE, gD, Result.ok.injEq, Next.value.injEq, true_and, and_true, gX, iA, iU, iR, iS, jF, aB0, gV, gU, gW, gT, gO, gJ, gP, gN, gB, fV, if_true, if_false, aBZ, aB4, aB1, aB2, aB5, aB3, aBY, aBX, fQ, fL, fE, fR, cU, eS, eF, dK, bP, fS, eY, aP, dB, aX, bQ, bM, aO, cO, cJ, eQ, aE, gS, aJ, cK, aT, bU, fT, cI, cF, aD, gA, fD, aN, aF, bO, gQ, aI, eX, dT, dV, gF, dE, fB, cZ, eH, fF, fC, cG, dG, gK, dN, bZ, aS, bV, bT, fN, aG, aH, aQ, bA, bE, cP, bK, aA, fA, aR, cL, fJ, eU, gG, bJ, eL, eN, bY, fW, eZ, eJ, dH, cQ, dD, aY, bD, aL, fZ, aM, dA, eE, bB, cC, fK, dL, gC, fM, fG, fI, dS, aK, cH, cY, fY, fX, fH, dC, aV, dX, fU, cS, eT, fO, cD, bL, dR, aZ, dW, dQ, cM, eM, eK, bF, dF, bG, eD, dU, dZ, bN, cR, cN, dO, bS, cW, cV, fP, cB, eI, eP, gE, dY, dP, dM, dI, bH, bR, bW, bX, aU, cX, aW, ch0, ch1, ch2, eh0, eh1, eh2, co1, co2, co3, eo1, eo2, eo3, d1, d2, iu]
     exact fin
    .have hks := hbig.resolve_left hw
     have d1 : decide ((h.window : Int) > (dm.win : Int)) = false := decide_eq_false (by omega)
     have d2 : decide ((dm.win : Int) < (h.window : Int)) = false := decide_eq_false (by omega)
     have d3 : decide ((h.size : Int) > ((dm.most - dm.out.length : Nat) : Int)) = true := decide_eq_true (by omega)
     have d4 : decide (((dm.most - dm.out.length : Nat) : Int) < (h.size : Int)) = true := decide_eq_true (by omega)
     rw [hks.1] at ch2 eh2
     simp (disch := omega) only [gI, jD, dJ, stepR_skip, hJ, iC, iM, iP, iL, iN, jJ, iX, gM, iE, iG, iI, iH, gY, iO, hZ, iF, iV, iW, iJ, gR, iT, iQ, iD, jV, jW, kF, kD, kC, kG, kA, kB, kE, gD, Result.ok.injEq, Next.value.injEq, true_and, and_true, gX, iA, iU, iR, iS, jF, aB0, gV, gU, gW, gT, gO, gJ, gP, gN, gB, fV, if_true, if_false, aBZ, aB4, aB1, aB2, aB5, aB3, aBY, aBX, fQ, fL, fE, fR, cU, eS, eF, dK, bP, fS, eY, aP, dB, aX, bQ, bM, aO, cO, cJ, eQ, aE, gS, aJ, cK, aT, bU, fT, cI, cF, aD, gA, fD, aN, aF, bO, gQ, aI, eX, dT, dV, gF, dE, fB, cZ, eH, fF, fC, cG, dG, gK, dN, bZ, aS, bV, bT, fN, aG, aH, aQ, bA, bE, cP, bK, aA, fA, aR, cL, fJ, eU, gG, bJ, eL, eN, bY, fW, eZ, eJ, dH, cQ, dD, aY, bD, aL, fZ, aM, dA, eE, bB, cC, fK, dL, gC, fM, fG, fI, dS, aK, cH, cY, fY, fX, fH, dC, aV, dX, fU, cS, eT, fO, cD, bL, dR, aZ, dW, dQ, cM, eM, eK, bF, dF, bG, eD, dU, dZ, bN, cR, cN, dO, bS, cW, cV, fP, cB, eI, eP, gE, dY, dP, dM, dI, bH, bR, bW, bX, aU, cX, aW, ch0, ch1, ch2, eh0, eh1, eh2, co1, co2, co3, eo1, eo2, eo3, d1, d2, d3, d4, e9, w9]
     exact fin
   .simp only [if_neg hbig] at hm
    have hw : ¬ dm.win < h.window := fun h => hbig (.inl h)
    have d1 : decide ((h.window : Int) > (dm.win : Int)) = false := decide_eq_false (by omega)
    have d2 : decide ((dm.win : Int) < (h.window : Int)) = false := decide_eq_false (by omega)
    obtain ⟨mb, hmb⟩ : ∃ mb, QX h (dm.most - dm.out.length) (dm.l.length + 1) (dm.l.drop n) [] = some mb := by
     cases hd : QX h (dm.most - dm.out.length) (dm.l.length + 1) (dm.l.drop n) [] with
     | none => rw [hd] at hm; cases hm
     | some mb => exact ⟨mb, rfl⟩
    rw [hmb] at hm
    cases hm
    obtain ⟨K, hK⟩ : ∃ K : aEl -> Prop, K = fun w => jE pg vJ #[] w fun t64 w => gI pg (kV 110 [(2, t64)]) w fun t65 w => gI pg (oK 110) w fun g_7 w => gI pg (jQ 110 g_7 t65) w fun _u w => sB RR (.pointer (some ⟨p, 0, none⟩)) (.pointer (some ⟨ph, 0, none⟩)) g_7 NQ w := ⟨_, rfl⟩
    have main : K (dr w6) := by
     rw [hK]
     refine amX.mono ?_
     rintro r w7 ⟨rfl, x7⟩
     simp (disch := omega) only [gI, jD, dJ, stepR_skip, hJ, iC, iM, iP, iL, iN, jJ, iX, gM, iE, iG, iI, iH, gY, iO, hZ, iF, iV, iW, iJ, gR, iT, iQ, iD, jV, jW, kF, kD, kC, kG, kA, kB, kE, gD, Result.ok.injEq, Next.value.injEq, true_and, and_true, gX, iA, iU, iR, iS, jF, aB0, gV, gU, gW, gT, gO, gJ, gP, gN, gB, fV, if_true, if_false, aBZ, aB4, aB1, aB2, aB5, aB3, aBY, aBX, fQ, fL, fE, fR, cU, eS, eF, dK, bP, fS, eY, aP, dB, aX, bQ, bM, aO, cO, cJ, eQ, aE, gS, aJ, cK, aT, bU, fT, cI, cF, aD, gA, fD, aN, aF, bO, gQ, aI, eX, dT, dV, gF, dE, fB, cZ, eH, fF, fC, cG, dG, gK, dN, bZ, aS, bV, bT, fN, aG, aH, aQ, bA, bE, cP, bK, aA, fA, aR, cL, fJ, eU, gG, bJ, eL, eN, bY, fW, eZ, eJ, dH, cQ, dD, aY, bD, aL, fZ, aM, dA, eE, bB, cC, fK, dL, gC, fM, fG, fI, dS, aK, cH, cY, fY, fX, fH, dC, aV, dX, fU, cS, eT, fO, cD, bL, dR, aZ, dW, dQ, cM, eM, eK, bF, dF, bG, eD, dU, dZ, bN, cR, cN, dO, bS, cW, cV, fP, cB, eI, eP, gE, dY, dP, dM, dI, bH, bR, bW, bX, aU, cX, aW]
     refine QY fun w8 o8 x8 s8 => ?_
     obtain ⟨pq, hpq⟩ : ∃ q, q = w7.heap.size := ⟨_, rfl⟩
     rw [<- hpq] at o8 ⊢
     refine qE o8 rfl (by simp [one]) (by simp) fun w9 o9 x9 s9 => ?_
     simp only [kW, aCa, aCc] at o9
     have x69 : jN w6 w9 mC := (((jN.dr w6 mC).seq x7).seq x8).trans x9 fun y hy h => by
      have := (jN.dr w6 mC).size
      have := x7.size
      omega
     have zz : w6.heap.size <= w7.heap.size := by
      have := (jN.dr w6 mC).size
      have := x7.size
      omega
     have z6 := x6.size
     rw [hRR]
     have hz8 := o8.lt
     refine apI (aB := w9.heap.size) (m := ⟨dm.l.drop n, dm.win, dm.most, dm.out, dm.fr, dm.sk⟩) ⟨rfl, rfl, rfl, rfl, rfl⟩ (x06.seq (x69.mono fun _ _ h => h.elim)) (o6.ext x69 (fun h => h)) (hr6.ext x69 fun _ _ _ h => h) (oo6.ext x69 fun _ _ h => h) hp (by omega) (fun b hb => ⟨(hO b hb.1).1, (hO b hb.1).2.1, by omega, by omega⟩) ⟨by omega, by omega, by omega, fun h => by omega⟩ (by omega) (by omega) (by omega) (by omega) (oh6.ext x69 (fun h => h)) o9 ?_ h1 (by simp) h3 hmost (by show (dm.l.drop n).length <= _; rw [aCi]; omega) hok.1 hmb
     exact ⟨rfl, .inl ⟨rfl, rfl⟩⟩
    rw [hK] at main
    unfold NQ at main
    cases hkn : h.known with
    | false =>
      rw [hkn] at ch2 eh2
      simp (disch := omega) only [gI, jD, dJ, stepR_skip, hJ, iC, iM, iP, iL, iN, jJ, iX, gM, iE, iG, iI, iH, gY, iO, hZ, iF, iV, iW, iJ, gR, iT, iQ, iD, jV, jW, kF, kD, kC, kG, kA, kB, kE, gD, Result.ok.injEq, Next.value.injEq, true_and, and_true, gX, iA, iU, iR, iS, jF, aB0, gV, gU, gW, gT, gO, gJ, gP, gN, gB, fV, if_true, if_false, aBZ, aB4, aB1, aB2, aB5, aB3, aBY, aBX, fQ, fL, fE, fR, cU, eS, eF, dK, bP, fS, eY, aP, dB, aX, bQ, bM, aO, cO, cJ, eQ, aE, gS, aJ, cK, aT, bU, fT, cI, cF, aD, gA, fD, aN, aF, bO, gQ, aI, eX, dT, dV, gF, dE, fB, cZ, eH, fF, fC, cG, dG, gK, dN, bZ, aS, bV, bT, fN, aG, aH, aQ, bA, bE, cP, bK, aA, fA, aR, cL, fJ, eU, gG, bJ, eL, eN, bY, fW, eZ, eJ, dH, cQ, dD, aY, bD, aL, fZ, aM, dA, eE, bB, cC, fK, dL, gC, fM, fG, fI, dS, aK, cH, cY, fY, fX, fH, dC, aV, dX, fU, cS, eT, fO, cD, bL, dR, aZ, dW, dQ, cM, eM, eK, bF, dF, bG, eD, dU, dZ, bN, cR, cN, dO, bS, cW, cV, fP, cB, eI, eP, gE, dY, dP, dM, dI, bH, bR, bW, bX, aU, cX, aW, ch0, ch1, ch2, eh0, eh1, eh2, co1, co2, co3, eo1, eo2, eo3, d1, d2]
      exact main
    | true =>
      rw [hkn] at ch2 eh2
      have hns : ¬ dm.most - dm.out.length < h.size := fun h' => hbig (.inr ⟨hkn, h'⟩)
      have d3 : decide ((h.size : Int) > ((dm.most - dm.out.length : Nat) : Int)) = false := decide_eq_false (by omega)
      have d4 : decide (((dm.most - dm.out.length : Nat) : Int) < (h.size : Int)) = false := decide_eq_false (by omega)
      simp (disch := omega) only [gI, jD, dJ, stepR_skip, hJ, iC, iM, iP, iL, iN, jJ, iX, gM, iE, iG, iI, iH, gY, iO, hZ, iF, iV, iW, iJ, gR, iT, iQ, iD, jV, jW, kF, kD, kC, kG, kA, kB, kE, gD, Result.ok.injEq, Next.value.injEq, true_and, and_true, gX, iA, iU, iR, iS, jF, aB0, gV, gU, gW, gT, gO, gJ, gP, gN, gB, fV, if_true, if_false, aBZ, aB4, aB1, aB2, aB5, aB3, aBY, aBX, fQ, fL, fE, fR, cU, eS, eF, dK, bP, fS, eY, aP, dB, aX, bQ, bM, aO, cO, cJ, eQ, aE, gS, aJ, cK, aT, bU, fT, cI, cF, aD, gA, fD, aN, aF, bO, gQ, aI, eX, dT, dV, gF, dE, fB, cZ, eH, fF, fC, cG, dG, gK, dN, bZ, aS, bV, bT, fN, aG, aH, aQ, bA, bE, cP, bK, aA, fA, aR, cL, fJ, eU, gG, bJ, eL, eN, bY, fW, eZ, eJ, dH, cQ, dD, aY, bD, aL, fZ, aM, dA, eE, bB, cC, fK, dL, gC, fM, fG, fI, dS, aK, cH, cY, fY, fX, fH, dC, aV, dX, fU, cS, eT, fO, cD, bL, dR, aZ, dW, dQ, cM, eM, eK, bF, dF, bG, eD, dU, dZ, bN, cR, cN, dO, bS, cW, cV, fP, cB, eI, eP, gE, dY, dP, dM, dI, bH, bR, bW, bX, aU, cX, aW, ch0, ch1, ch2, eh0, eh1, eh2, co1, co2, co3, eo1, eo2, eo3, d1, d2, d3, d4, e9, w9]
      exact main
def aoD (l : List UInt8) : Except Int (List UInt8) := if l.length < 4 then .error 10 else if l.length - 4 < rZ (l.take 4) then .error 10 else .ok (l.drop (4 + rZ (l.take 4)))
def aA8 (base p : Nat) (w : aEl) (dm : DM) (r : aEm) (w' : aEl) : Except Int (List UInt8) -> Prop
 | .error e => e ≠ 0 /\ r = .int .i64 e /\ jN w w' (fun y => base <= y)
 | .ok l => r = .int .i64 0 /\ DSt w' base p ⟨l, dm.win, dm.most, dm.out, dm.fr, dm.sk + 1⟩ /\ jN w w' (fun y => base <= y)
theorem awO {base p : Nat} {dm : DM} {w : aEl} (hd : DSt w base p dm) (h3 : dm.sk <= 2000000) (hl : dm.l.length <= 1000000) :
 jE pg xA #[.pointer (some ⟨p, 0, none⟩)] w (fun r w' => aA8 base p w dm r w' (aoD dm.l)) := by
 refine P8 ?_
 unfold MQ Cf
 obtain ⟨pr, vo, lo, hi, O, o, hr, oo, hp, hlo, hO, q1, hhi⟩ := hd
 have hpr : lo <= pr /\ pr < hi := ⟨hr.1, hr.2.1⟩
 have c0 := o.cell (off := 0)
 simp only [yG, aBX] at c0
 simp (disch := omega) only [gI, jD, dJ, stepR_skip, hJ, iC, iM, iP, iL, iN, jJ, iX, gM, iE, iG, iI, iH, gY, iO, hZ, iF, iV, iW, iJ, gR, iT, iQ, iD, jV, jW, kF, kD, kC, kG, kA, kB, kE, gD, Result.ok.injEq, Next.value.injEq, true_and, and_true, gX, iA, iU, iR, iS, jF, aB0, gV, gU, gW, gT, gO, gJ, gP, gN, gB, fV, if_true, if_false, aBZ, aB4, aB1, aB2, aB5, aB3, aBY, aBX, fQ, fL, fE, fR, cU, eS, eF, dK, bP, fS, eY, aP, dB, aX, bQ, bM, aO, cO, cJ, eQ, aE, gS, aJ, cK, aT, bU, fT, cI, cF, aD, gA, fD, aN, aF, bO, gQ, aI, eX, dT, dV, gF, dE, fB, cZ, eH, fF, fC, cG, dG, gK, dN, bZ, aS, bV, bT, fN, aG, aH, aQ, bA, bE, cP, bK, aA, fA, aR, cL, fJ, eU, gG, bJ, eL, eN, bY, fW, eZ, eJ, dH, cQ, dD, aY, bD, aL, fZ, aM, dA, eE, bB, cC, fK, dL, gC, fM, fG, fI, dS, aK, cH, cY, fY, fX, fH, dC, aV, dX, fU, cS, eT, fO, cD, bL, dR, aZ, dW, dQ, cM, eM, eK, bF, dF, bG, eD, dU, dZ, bN, cR, cN, dO, bS, cW, cV, fP, cB, eI, eP, gE, dY, dP, dM, dI, bH, bR, bW, bX, aU, cX, aW, c0]
 refine (BY (n := 4) hr (by omega) ⟨by omega, by omega⟩).mono ?_
 rintro r w1 ⟨rfl, hr1, x1⟩
 have o1 := o.ext x1 (fun e => q1 (e ▸ hpr))
 have oo1 := oo.ext x1 fun b h e => (hO b h).2.2 (e ▸ hpr)
 have c1 := o1.cell (off := 0)
 simp only [yG, aBX] at c1
 simp (disch := omega) only [gI, jD, dJ, stepR_skip, hJ, iC, iM, iP, iL, iN, jJ, iX, gM, iE, iG, iI, iH, gY, iO, hZ, iF, iV, iW, iJ, gR, iT, iQ, iD, jV, jW, kF, kD, kC, kG, kA, kB, kE, gD, Result.ok.injEq, Next.value.injEq, true_and, and_true, gX, iA, iU, iR, iS, jF, aB0, gV, gU, gW, gT, gO, gJ, gP, gN, gB, fV, if_true, if_false, aBZ, aB4, aB1, aB2, aB5, aB3, aBY, aBX, fQ, fL, fE, fR, cU, eS, eF, dK, bP, fS, eY, aP, dB, aX, bQ, bM, aO, cO, cJ, eQ, aE, gS, aJ, cK, aT, bU, fT, cI, cF, aD, gA, fD, aN, aF, bO, gQ, aI, eX, dT, dV, gF, dE, fB, cZ, eH, fF, fC, cG, dG, gK, dN, bZ, aS, bV, bT, fN, aG, aH, aQ, bA, bE, cP, bK, aA, fA, aR, cL, fJ, eU, gG, bJ, eL, eN, bY, fW, eZ, eJ, dH, cQ, dD, aY, bD, aL, fZ, aM, dA, eE, bB, cC, fK, dL, gC, fM, fG, fI, dS, aK, cH, cY, fY, fX, fH, dC, aV, dX, fU, cS, eT, fO, cD, bL, dR, aZ, dW, dQ, cM, eM, eK, bF, dF, bG, eD, dU, dZ, bN, cR, cN, dO, bS, cW, cV, fP, cB, eI, eP, gE, dY, dP, dM, dI, bH, bR, bW, bX, aU, cX, aW, c1]
 refine (MS hr1).mono ?_
 rintro r w2 ⟨rfl, h2⟩
 rw [h2]; clear h2 w2
 unfold aoD
 by_cases h4 : dm.l.length < 4
 .have ht : G0 dm.l 0 4 = ([], dm.l, 10) := by unfold G0; rw [if_neg (by decide), if_pos h4]
  rw [ht, if_pos h4]
  have n1 : ((10 : Int) != 0) = true := rfl
  simp (disch := omega) only [gI, jD, dJ, stepR_skip, hJ, iC, iM, iP, iL, iN, jJ, iX, gM, iE, iG, iI, iH, gY, iO, hZ, iF, iV, iW, iJ, gR, iT, iQ, iD, jV, jW, kF, kD, kC, kG, kA, kB, kE, gD, Result.ok.injEq, Next.value.injEq, true_and, and_true, gX, iA, iU, iR, iS, jF, aB0, gV, gU, gW, gT, gO, gJ, gP, gN, gB, fV, if_true, if_false, aBZ, aB4, aB1, aB2, aB5, aB3, aBY, aBX, fQ, fL, fE, fR, cU, eS, eF, dK, bP, fS, eY, aP, dB, aX, bQ, bM, aO, cO, cJ, eQ, aE, gS, aJ, cK, aT, bU, fT, cI, cF, aD, gA, fD, aN, aF, bO, gQ, aI, eX, dT, dV, gF, dE, fB, cZ, eH, fF, fC, cG, dG, gK, dN, bZ, aS, bV, bT, fN, aG, aH, aQ, bA, bE, cP, bK, aA, fA, aR, cL, fJ, eU, gG, bJ, eL, eN, bY, fW, eZ, eJ, dH, cQ, dD, aY, bD, aL, fZ, aM, dA, eE, bB, cC, fK, dL, gC, fM, fG, fI, dS, aK, cH, cY, fY, fX, fH, dC, aV, dX, fU, cS, eT, fO, cD, bL, dR, aZ, dW, dQ, cM, eM, eK, bF, dF, bG, eD, dU, dZ, bN, cR, cN, dO, bS, cW, cV, fP, cB, eI, eP, gE, dY, dP, dM, dI, bH, bR, bW, bX, aU, cX, aW, n1]
  exact ⟨by decide, rfl, x1.mono fun y _ h => by omega⟩
 have ht : G0 dm.l 0 4 = (dm.l.take 4, dm.l.drop 4, 0) := by unfold G0; rw [if_neg (by decide), if_neg h4]
 rw [ht] at hr1 ⊢
 rw [if_neg h4]
 have hlt : rZ (dm.l.take 4) < 2 ^ 32 := by
  have := MA (dm.l.take 4)
  rw [aCf, aCL (by omega)] at this
  exact this
 obtain ⟨n, hn⟩ : ∃ n, n = rZ (dm.l.take 4) := ⟨_, rfl⟩
 have en : rZ (dm.l.take 4, dm.l.drop 4, (0 : Int)).1 = n := hn.symm
 rw [<- hn] at hlt ⊢
 have hr1 : Qi w1 lo hi pr (dm.l.drop 4) 0 := hr1
 have hl4 : (dm.l.drop 4).length = dm.l.length - 4 := aCi
 have n1 : ((0 : Int) != 0) = false := rfl
 have wl : IntKind.u64.wrap ((dm.l.drop 4).length : Int) = ((dm.l.drop 4).length : Int) := iA (by omega) (by omega)
 have wn : IntKind.i64.wrap (n : Int) = n := gX (by omega) (by omega)
 simp (disch := omega) only [gI, jD, dJ, stepR_skip, hJ, iC, iM, iP, iL, iN, jJ, iX, gM, iE, iG, iI, iH, gY, iO, hZ, iF, iV, iW, iJ, gR, iT, iQ, iD, jV, jW, kF, kD, kC, kG, kA, kB, kE, gD, Result.ok.injEq, Next.value.injEq, true_and, and_true, gX, iA, iU, iR, iS, jF, aB0, gV, gU, gW, gT, gO, gJ, gP, gN, gB, fV, if_true, if_false, aBZ, aB4, aB1, aB2, aB5, aB3, aBY, aBX, fQ, fL, fE, fR, cU, eS, eF, dK, bP, fS, eY, aP, dB, aX, bQ, bM, aO, cO, cJ, eQ, aE, gS, aJ, cK, aT, bU, fT, cI, cF, aD, gA, fD, aN, aF, bO, gQ, aI, eX, dT, dV, gF, dE, fB, cZ, eH, fF, fC, cG, dG, gK, dN, bZ, aS, bV, bT, fN, aG, aH, aQ, bA, bE, cP, bK, aA, fA, aR, cL, fJ, eU, gG, bJ, eL, eN, bY, fW, eZ, eJ, dH, cQ, dD, aY, bD, aL, fZ, aM, dA, eE, bB, cC, fK, dL, gC, fM, fG, fI, dS, aK, cH, cY, fY, fX, fH, dC, aV, dX, fU, cS, eT, fO, cD, bL, dR, aZ, dW, dQ, cM, eM, eK, bF, dF, bG, eD, dU, dZ, bN, cR, cN, dO, bS, cW, cV, fP, cB, eI, eP, gE, dY, dP, dM, dI, bH, bR, bW, bX, aU, cX, aW, n1, en, c1]
 refine (SV hr1).mono ?_
 rintro r w2 ⟨rfl, h2⟩
 rw [h2]; clear h2 w2
 by_cases hs : dm.l.length - 4 < n
 .have d1 : decide ((n : Int) > ((dm.l.drop 4).length : Int)) = true := decide_eq_true (by omega)
  have d2 : decide (((dm.l.drop 4).length : Int) < (n : Int)) = true := decide_eq_true (by omega)
  rw [if_pos hs]
  simp (disch := omega) only [gI, jD, dJ, stepR_skip, hJ, iC, iM, iP, iL, iN, jJ, iX, gM, iE, iG, iI, iH, gY, iO, hZ, iF, iV, iW, iJ, gR, iT, iQ, iD, jV, jW, kF, kD, kC, kG, kA, kB, kE, gD, Result.ok.injEq, Next.value.injEq, true_and, and_true, gX, iA, iU, iR, iS, jF, aB0, gV, gU, gW, gT, gO, gJ, gP, gN, gB, fV, if_true, if_false, aBZ, aB4, aB1, aB2, aB5, aB3, aBY, aBX, fQ, fL, fE, fR, cU, eS, eF, dK, bP, fS, eY, aP, dB, aX, bQ, bM, aO, cO, cJ, eQ, aE, gS, aJ, cK, aT, bU, fT, cI, cF, aD, gA, fD, aN, aF, bO, gQ, aI, eX, dT, dV, gF, dE, fB, cZ, eH, fF, fC, cG, dG, gK, dN, bZ, aS, bV, bT, fN, aG, aH, aQ, bA, bE, cP, bK, aA, fA, aR, cL, fJ, eU, gG, bJ, eL, eN, bY, fW, eZ, eJ, dH, cQ, dD, aY, bD, aL, fZ, aM, dA, eE, bB, cC, fK, dL, gC, fM, fG, fI, dS, aK, cH, cY, fY, fX, fH, dC, aV, dX, fU, cS, eT, fO, cD, bL, dR, aZ, dW, dQ, cM, eM, eK, bF, dF, bG, eD, dU, dZ, bN, cR, cN, dO, bS, cW, cV, fP, cB, eI, eP, gE, dY, dP, dM, dI, bH, bR, bW, bX, aU, cX, aW, wl, d1, d2]
  exact ⟨by decide, rfl, x1.mono fun y _ h => by omega⟩
 have d1 : decide ((n : Int) > ((dm.l.drop 4).length : Int)) = false := decide_eq_false (by omega)
 have d2 : decide (((dm.l.drop 4).length : Int) < (n : Int)) = false := decide_eq_false (by omega)
 rw [if_neg hs]
 simp (disch := omega) only [gI, jD, dJ, stepR_skip, hJ, iC, iM, iP, iL, iN, jJ, iX, gM, iE, iG, iI, iH, gY, iO, hZ, iF, iV, iW, iJ, gR, iT, iQ, iD, jV, jW, kF, kD, kC, kG, kA, kB, kE, gD, Result.ok.injEq, Next.value.injEq, true_and, and_true, gX, iA, iU, iR, iS, jF, aB0, gV, gU, gW, gT, gO, gJ, gP, gN, gB, fV, if_true, if_false, aBZ, aB4, aB1, aB2, aB5, aB3, aBY, aBX, fQ, fL, fE, fR, cU, eS, eF, dK, bP, fS, eY, aP, dB, aX, bQ, bM, aO, cO, cJ, eQ, aE, gS, aJ, cK, aT, bU, fT, cI, cF, aD, gA, fD, aN, aF, bO, gQ, aI, eX, dT, dV, gF, dE, fB, cZ, eH, fF, fC, cG, dG, gK, dN, bZ, aS, bV, bT, fN, aG, aH, aQ, bA, bE, cP, bK, aA, fA, aR, cL, fJ, eU, gG, bJ, eL, eN, bY, fW, eZ, eJ, dH, cQ, dD, aY, bD, aL, fZ, aM, dA, eE, bB, cC, fK, dL, gC, fM, fG, fI, dS, aK, cH, cY, fY, fX, fH, dC, aV, dX, fU, cS, eT, fO, cD, bL, dR, aZ, dW, dQ, cM, eM, eK, bF, dF, bG, eD, dU, dZ, bN, cR, cN, dO, bS, cW, cV, fP, cB, eI, eP, gE, dY, dP, dM, dI, bH, bR, bW, bX, aU, cX, aW, wl, d1, d2, c1, wn]
 refine (Zc hr1 (by omega) (by omega)).mono ?_
 rintro rest w3 ⟨hb3, hat, hr3, x3⟩
 have ht3 : G0 (dm.l.drop 4) 0 n = ((dm.l.drop 4).take n, dm.l.drop (4 + n), 0) := by unfold G0; rw [if_neg (by decide), if_neg (by omega), aDm]
 rw [ht3] at hr3
 have hr3 : Qi w3 lo hi pr (dm.l.drop (4 + n)) 0 := hr3
 have o3 := o1.ext x3 (fun e => q1 (e ▸ hpr))
 have oo3 := oo1.ext x3 fun b h e => (hO b h).2.2 (e ▸ hpr)
 have c5 := o3.cell (off := 5)
 simp only [yG, aBX, aBY] at c5
 have e5 : (dm.sk : Int) + 1 = ((dm.sk + 1 : Nat) : Int) := by omega
 have w5 : IntKind.i64.wrap ((dm.sk + 1 : Nat) : Int) = ((dm.sk + 1 : Nat) : Int) := gX (by omega) (by omega)
 simp (disch := omega) only [gI, jD, dJ, stepR_skip, hJ, iC, iM, iP, iL, iN, jJ, iX, gM, iE, iG, iI, iH, gY, iO, hZ, iF, iV, iW, iJ, gR, iT, iQ, iD, jV, jW, kF, kD, kC, kG, kA, kB, kE, gD, Result.ok.injEq, Next.value.injEq, true_and, and_true, gX, iA, iU, iR, iS, jF, aB0, gV, gU, gW, gT, gO, gJ, gP, gN, gB, fV, if_true, if_false, aBZ, aB4, aB1, aB2, aB5, aB3, aBY, aBX, fQ, fL, fE, fR, cU, eS, eF, dK, bP, fS, eY, aP, dB, aX, bQ, bM, aO, cO, cJ, eQ, aE, gS, aJ, cK, aT, bU, fT, cI, cF, aD, gA, fD, aN, aF, bO, gQ, aI, eX, dT, dV, gF, dE, fB, cZ, eH, fF, fC, cG, dG, gK, dN, bZ, aS, bV, bT, fN, aG, aH, aQ, bA, bE, cP, bK, aA, fA, aR, cL, fJ, eU, gG, bJ, eL, eN, bY, fW, eZ, eJ, dH, cQ, dD, aY, bD, aL, fZ, aM, dA, eE, bB, cC, fK, dL, gC, fM, fG, fI, dS, aK, cH, cY, fY, fX, fH, dC, aV, dX, fU, cS, eT, fO, cD, bL, dR, aZ, dW, dQ, cM, eM, eK, bF, dF, bG, eD, dU, dZ, bN, cR, cN, dO, bS, cW, cV, fP, cB, eI, eP, gE, dY, dP, dM, dI, bH, bR, bW, bX, aU, cX, aW, c5, e5, w5]
 refine LC (off := 5) o3 rfl (by simp [yG]) fun w6 o6 x6 s6 => ?_
 simp only [yG, aCa, aCc] at o6
 have z1 := x1.size
 have z3 := x3.size
 have z6 := x6.size
 refine ⟨rfl, ⟨pr, vo, lo, hi, O, o6, hr3.ext x6 (fun b h1 h2 h => q1 (h ▸ ⟨h1, h2⟩)), oo3.ext x6 (fun b h e => (hO b h).2.1 e), hp, hlo, hO, q1, by omega⟩, ((x1.mono fun y _ h => by omega).seq (x3.mono fun y _ h => by omega)).seq (x6.mono fun y _ h => by omega)⟩
def afG (win most : Nat) : Nat -> List UInt8 -> List UInt8 -> Nat -> Nat -> Option (Except Int (List UInt8 × Nat × Nat))
 | 0, _, _, _, _ => none
 | f + 1, l, out, fr, sk => if l.length = 0 then some (.ok (out, fr, sk)) else if l.length < 4 then some (.error 10)
   else if rZ (l.take 4) = 4247762216 then (match afT (l.drop 4) win (most - out.length) with | none => none | some (.error e) => some (.error e) | some (.ok (a, l')) => afG win most f l' (out ++ a) (fr + 1) sk)
   else if 407710288 <= rZ (l.take 4) /\ rZ (l.take 4) < 407710304 then (match aoD (l.drop 4) with | .error e => some (.error e) | .ok l' => afG win most f l' out fr (sk + 1))
   else some (.error 11)
theorem agJ {h : FH} {room : Nat} : ∀ {f : Nat} {l all a l' : List UInt8}, QX h room f l all = some (.ok (a, l')) -> a.length <= room /\ l'.length <= l.length
 | 0, _, _, _, _, hh => by cases hh
 | f + 1, l, all, a, l', hh => by
   rw [QX] at hh
   cases hd : Wl l all h.window room with
   | none => rw [hd] at hh; cases hh
   | some m =>
     rw [hd] at hh
     cases m with
     | error e => cases hh
     | ok t =>
       obtain ⟨a1, l1, b⟩ := t
       have h1 := amM hd
       simp only at hh
       split at hh
       .cases hh
       .split at hh
        .cases hh; exact h1
        .have := agJ hh
         exact ⟨this.1, by omega⟩
theorem awK {l a l' : List UInt8} {win room : Nat} (hh : afT l win room = some (.ok (a, l'))) : a.length <= room /\ l'.length <= l.length := by
 unfold afT at hh
 cases hf : Rb l with
 | error e => rw [hf] at hh; cases hh
 | ok t =>
   obtain ⟨h, n⟩ := t
   rw [hf] at hh
   simp only at hh
   split at hh
   .cases hh
   .cases hb : QX h room (l.length + 1) (l.drop n) [] with
    | none => rw [hb] at hh; cases hh
    | some mm =>
      rw [hb] at hh
      cases mm with
      | error e => cases hh
      | ok t =>
        obtain ⟨a1, l1⟩ := t
        have h1 := agJ hb
        rw [aCi] at h1
        have hh : Pq h l1 a1 = .ok (a, l') := by injection hh
        unfold Pq afD at hh
        repeat' split at hh
        all_goals first | cases hh | skip
        all_goals rename_i hq
        all_goals first | (repeat' split at hq) | skip
        all_goals first | cases hq | skip
        all_goals (try rw [aCi])
        all_goals omega
def aAl (base p : Nat) (w : aEl) (win most : Nat) (r : aEm) (w' : aEl) : Except Int (List UInt8 × Nat × Nat) -> Prop
 | .error e => e ≠ 0 /\ r = .tuple #[.pointer none, .int .i64 e] /\ jN w w' (fun y => base <= y)
 | .ok (out, fr, sk) => r = .tuple #[.pointer (some ⟨p, 0, none⟩), .int .i64 0] /\ (∃ l, DSt w' base p ⟨l, win, most, out, fr, sk⟩) /\ jN w w' (fun y => base <= y)
theorem awP {RR : aEm -> aEl -> Prop} {base p win most f : Nat} {l : List UInt8} {w0 w : aEl} {mm : Except Int (List UInt8 × Nat × Nat)} (hx : jN w0 w (fun y => base <= y)) (hd : DSt w base p ⟨l, win, most, [], 0, 0⟩) (hf : f <= 2000000) (hl : l.length <= 1000000) (hmost : most <= 2000000) (hm : afG win most f l [] 0 0 = some mm) (hR : ∀ r w', aAl base p w0 win most r w' mm -> RR r w') :
 GP RR (.pointer (some ⟨p, 0, none⟩)) w := by
 unfold GP NH Of
 refine kP.rule (fun f (t : Unit) w1 => ∃ l out fr sk, afG win most f l out fr sk = some mm /\ DSt w1 base p ⟨l, win, most, out, fr, sk⟩ /\ jN w0 w1 (fun y => base <= y) /\ out.length <= most /\ fr + f <= 2000000 /\ sk + f <= 2000000 /\ l.length <= 1000000) f
  ⟨l, [], 0, 0, hm, hd, hx, by simp, by omega, by omega, hl⟩ ?_
 clear hm hd hx hl hf l w
 rintro f t w ⟨l, out, fr, sk, hm, hd, hx, hout, hfr, hsk, hl⟩
 cases f with
 | zero => cases hm
 | succ f =>
   rw [afG] at hm
   unfold IE Om
   have hd0 := hd
   obtain ⟨pr, vo, lo, hi, O, o, hr, oo, hp, hlo, hO, q1, hhi⟩ := hd
   have hpr : lo <= pr /\ pr < hi := ⟨hr.1, hr.2.1⟩
   have c0 := o.cell (off := 0)
   simp only [yG, aBX] at c0
   simp (disch := omega) only [gI, jD, dJ, stepR_skip, hJ, iC, iM, iP, iL, iN, jJ, iX, gM, iE, iG, iI, iH, gY, iO, hZ, iF, iV, iW, iJ, gR, iT, iQ, iD, jV, jW, kF, kD, kC, kG, kA, kB, kE, gD, Result.ok.injEq, Next.value.injEq, true_and, and_true, gX, iA, iU, iR, iS, jF, aB0, gV, gU, gW, gT, gO, gJ, gP, gN, gB, fV, if_true, if_false, aBZ, aB4, aB1, aB2, aB5, aB3, aBY, aBX, fQ, fL, fE, fR, cU, eS, eF, dK, bP, fS, eY, aP, dB, aX, bQ, bM, aO, cO, cJ, eQ, aE, gS, aJ, cK, aT, bU, fT, cI, cF, aD, gA, fD, aN, aF, bO, gQ, aI, eX, dT, dV, gF, dE, fB, cZ, eH, fF, fC, cG, dG, gK, dN, bZ, aS, bV, bT, fN, aG, aH, aQ, bA, bE, cP, bK, aA, fA, aR, cL, fJ, eU, gG, bJ, eL, eN, bY, fW, eZ, eJ, dH, cQ, dD, aY, bD, aL, fZ, aM, dA, eE, bB, cC, fK, dL, gC, fM, fG, fI, dS, aK, cH, cY, fY, fX, fH, dC, aV, dX, fU, cS, eT, fO, cD, bL, dR, aZ, dW, dQ, cM, eM, eK, bF, dF, bG, eD, dU, dZ, bN, cR, cN, dO, bS, cW, cV, fP, cB, eI, eP, gE, dY, dP, dM, dI, bH, bR, bW, bX, aU, cX, aW, c0]
   refine (SV hr).mono ?_
   rintro r w1 ⟨rfl, h2⟩
   rw [h2]; clear h2 w1
   by_cases h0 : l.length = 0
   .rw [if_pos h0] at hm
    cases hm
    have d1 : decide ((l.length : Int) > 0) = false := decide_eq_false (by omega)
    have d2 : decide ((0 : Int) < (l.length : Int)) = false := decide_eq_false (by omega)
    simp (disch := omega) only [gI, jD, dJ, stepR_skip, hJ, iC, iM, iP, iL, iN, jJ, iX, gM, iE, iG, iI, iH, gY, iO, hZ, iF, iV, iW, iJ, gR, iT, iQ, iD, jV, jW, kF, kD, kC, kG, kA, kB, kE, gD, Result.ok.injEq, Next.value.injEq, true_and, and_true, gX, iA, iU, iR, iS, jF, aB0, gV, gU, gW, gT, gO, gJ, gP, gN, gB, fV, if_true, if_false, aBZ, aB4, aB1, aB2, aB5, aB3, aBY, aBX, fQ, fL, fE, fR, cU, eS, eF, dK, bP, fS, eY, aP, dB, aX, bQ, bM, aO, cO, cJ, eQ, aE, gS, aJ, cK, aT, bU, fT, cI, cF, aD, gA, fD, aN, aF, bO, gQ, aI, eX, dT, dV, gF, dE, fB, cZ, eH, fF, fC, cG, dG, gK, dN, bZ, aS, bV, bT, fN, aG, aH, aQ, bA, bE, cP, bK, aA, fA, aR, cL, fJ, eU, gG, bJ, eL, eN, bY, fW, eZ, eJ, dH, cQ, dD, aY, bD, aL, fZ, aM, dA, eE, bB, cC, fK, dL, gC, fM, fG, fI, dS, aK, cH, cY, fY, fX, fH, dC, aV, dX, fU, cS, eT, fO, cD, bL, dR, aZ, dW, dQ, cM, eM, eK, bF, dF, bG, eD, dU, dZ, bN, cR, cN, dO, bS, cW, cV, fP, cB, eI, eP, gE, dY, dP, dM, dI, bH, bR, bW, bX, aU, cX, aW, d1, d2]
    unfold Iy
    refine hR _ _ ?_
    exact ⟨rfl, ⟨l, hd0⟩, hx⟩
   rw [if_neg h0] at hm
   have d1 : decide ((l.length : Int) > 0) = true := decide_eq_true (by omega)
   have d2 : decide ((0 : Int) < (l.length : Int)) = true := decide_eq_true (by omega)
   simp (disch := omega) only [gI, jD, dJ, stepR_skip, hJ, iC, iM, iP, iL, iN, jJ, iX, gM, iE, iG, iI, iH, gY, iO, hZ, iF, iV, iW, iJ, gR, iT, iQ, iD, jV, jW, kF, kD, kC, kG, kA, kB, kE, gD, Result.ok.injEq, Next.value.injEq, true_and, and_true, gX, iA, iU, iR, iS, jF, aB0, gV, gU, gW, gT, gO, gJ, gP, gN, gB, fV, if_true, if_false, aBZ, aB4, aB1, aB2, aB5, aB3, aBY, aBX, fQ, fL, fE, fR, cU, eS, eF, dK, bP, fS, eY, aP, dB, aX, bQ, bM, aO, cO, cJ, eQ, aE, gS, aJ, cK, aT, bU, fT, cI, cF, aD, gA, fD, aN, aF, bO, gQ, aI, eX, dT, dV, gF, dE, fB, cZ, eH, fF, fC, cG, dG, gK, dN, bZ, aS, bV, bT, fN, aG, aH, aQ, bA, bE, cP, bK, aA, fA, aR, cL, fJ, eU, gG, bJ, eL, eN, bY, fW, eZ, eJ, dH, cQ, dD, aY, bD, aL, fZ, aM, dA, eE, bB, cC, fK, dL, gC, fM, fG, fI, dS, aK, cH, cY, fY, fX, fH, dC, aV, dX, fU, cS, eT, fO, cD, bL, dR, aZ, dW, dQ, cM, eM, eK, bF, dF, bG, eD, dU, dZ, bN, cR, cN, dO, bS, cW, cV, fP, cB, eI, eP, gE, dY, dP, dM, dI, bH, bR, bW, bX, aU, cX, aW, d1, d2]
   unfold Og Vf Nb
   simp (disch := omega) only [gI, jD, dJ, stepR_skip, hJ, iC, iM, iP, iL, iN, jJ, iX, gM, iE, iG, iI, iH, gY, iO, hZ, iF, iV, iW, iJ, gR, iT, iQ, iD, jV, jW, kF, kD, kC, kG, kA, kB, kE, gD, Result.ok.injEq, Next.value.injEq, true_and, and_true, gX, iA, iU, iR, iS, jF, aB0, gV, gU, gW, gT, gO, gJ, gP, gN, gB, fV, if_true, if_false, aBZ, aB4, aB1, aB2, aB5, aB3, aBY, aBX, fQ, fL, fE, fR, cU, eS, eF, dK, bP, fS, eY, aP, dB, aX, bQ, bM, aO, cO, cJ, eQ, aE, gS, aJ, cK, aT, bU, fT, cI, cF, aD, gA, fD, aN, aF, bO, gQ, aI, eX, dT, dV, gF, dE, fB, cZ, eH, fF, fC, cG, dG, gK, dN, bZ, aS, bV, bT, fN, aG, aH, aQ, bA, bE, cP, bK, aA, fA, aR, cL, fJ, eU, gG, bJ, eL, eN, bY, fW, eZ, eJ, dH, cQ, dD, aY, bD, aL, fZ, aM, dA, eE, bB, cC, fK, dL, gC, fM, fG, fI, dS, aK, cH, cY, fY, fX, fH, dC, aV, dX, fU, cS, eT, fO, cD, bL, dR, aZ, dW, dQ, cM, eM, eK, bF, dF, bG, eD, dU, dZ, bN, cR, cN, dO, bS, cW, cV, fP, cB, eI, eP, gE, dY, dP, dM, dI, bH, bR, bW, bX, aU, cX, aW, c0]
   refine (BY (n := 4) hr (by show l.length <= _; omega) ⟨by omega, by omega⟩).mono ?_
   rintro r w1 ⟨rfl, hr1, x1⟩
   have o1 := o.ext x1 (fun e => q1 (e ▸ hpr))
   have oo1 := oo.ext x1 fun b h e => (hO b h).2.2 (e ▸ hpr)
   have z1 := x1.size
   have hx1 : jN w0 w1 (fun y => base <= y) := hx.seq (x1.mono fun y _ h => by omega)
   have c1 := o1.cell (off := 0)
   simp only [yG, aBX] at c1
   simp (disch := omega) only [gI, jD, dJ, stepR_skip, hJ, iC, iM, iP, iL, iN, jJ, iX, gM, iE, iG, iI, iH, gY, iO, hZ, iF, iV, iW, iJ, gR, iT, iQ, iD, jV, jW, kF, kD, kC, kG, kA, kB, kE, gD, Result.ok.injEq, Next.value.injEq, true_and, and_true, gX, iA, iU, iR, iS, jF, aB0, gV, gU, gW, gT, gO, gJ, gP, gN, gB, fV, if_true, if_false, aBZ, aB4, aB1, aB2, aB5, aB3, aBY, aBX, fQ, fL, fE, fR, cU, eS, eF, dK, bP, fS, eY, aP, dB, aX, bQ, bM, aO, cO, cJ, eQ, aE, gS, aJ, cK, aT, bU, fT, cI, cF, aD, gA, fD, aN, aF, bO, gQ, aI, eX, dT, dV, gF, dE, fB, cZ, eH, fF, fC, cG, dG, gK, dN, bZ, aS, bV, bT, fN, aG, aH, aQ, bA, bE, cP, bK, aA, fA, aR, cL, fJ, eU, gG, bJ, eL, eN, bY, fW, eZ, eJ, dH, cQ, dD, aY, bD, aL, fZ, aM, dA, eE, bB, cC, fK, dL, gC, fM, fG, fI, dS, aK, cH, cY, fY, fX, fH, dC, aV, dX, fU, cS, eT, fO, cD, bL, dR, aZ, dW, dQ, cM, eM, eK, bF, dF, bG, eD, dU, dZ, bN, cR, cN, dO, bS, cW, cV, fP, cB, eI, eP, gE, dY, dP, dM, dI, bH, bR, bW, bX, aU, cX, aW, c1]
   refine (MS hr1).mono ?_
   rintro r w2 ⟨rfl, h2⟩
   rw [h2]; clear h2 w2
   by_cases h4 : l.length < 4
   .have ht : G0 l 0 4 = ([], l, 10) := by unfold G0; rw [if_neg (by decide), if_pos h4]
    rw [if_pos h4] at hm
    cases hm
    have hr1 : Qi w1 lo hi pr (G0 l 0 4).2.1 (G0 l 0 4).2.2 := hr1
    have hl' : (DM.mk l win most out fr sk).l = l := rfl
    rw [hl', ht]
    rw [ht] at hr1
    have n1 : ((10 : Int) != 0) = true := rfl
    simp (disch := omega) only [gI, jD, dJ, stepR_skip, hJ, iC, iM, iP, iL, iN, jJ, iX, gM, iE, iG, iI, iH, gY, iO, hZ, iF, iV, iW, iJ, gR, iT, iQ, iD, jV, jW, kF, kD, kC, kG, kA, kB, kE, gD, Result.ok.injEq, Next.value.injEq, true_and, and_true, gX, iA, iU, iR, iS, jF, aB0, gV, gU, gW, gT, gO, gJ, gP, gN, gB, fV, if_true, if_false, aBZ, aB4, aB1, aB2, aB5, aB3, aBY, aBX, fQ, fL, fE, fR, cU, eS, eF, dK, bP, fS, eY, aP, dB, aX, bQ, bM, aO, cO, cJ, eQ, aE, gS, aJ, cK, aT, bU, fT, cI, cF, aD, gA, fD, aN, aF, bO, gQ, aI, eX, dT, dV, gF, dE, fB, cZ, eH, fF, fC, cG, dG, gK, dN, bZ, aS, bV, bT, fN, aG, aH, aQ, bA, bE, cP, bK, aA, fA, aR, cL, fJ, eU, gG, bJ, eL, eN, bY, fW, eZ, eJ, dH, cQ, dD, aY, bD, aL, fZ, aM, dA, eE, bB, cC, fK, dL, gC, fM, fG, fI, dS, aK, cH, cY, fY, fX, fH, dC, aV, dX, fU, cS, eT, fO, cD, bL, dR, aZ, dW, dQ, cM, eM, eK, bF, dF, bG, eD, dU, dZ, bN, cR, cN, dO, bS, cW, cV, fP, cB, eI, eP, gE, dY, dP, dM, dI, bH, bR, bW, bX, aU, cX, aW, n1, c1]
    refine (MS hr1).mono ?_
    rintro r w2 ⟨rfl, h2⟩
    rw [h2]; clear h2 w2
    refine hR _ _ ?_
    exact ⟨by decide, rfl, hx1⟩
   rw [if_neg h4] at hm
   have ht : G0 l 0 4 = (l.take 4, l.drop 4, 0) := by unfold G0; rw [if_neg (by decide), if_neg h4]
   have hr1 : Qi w1 lo hi pr (G0 l 0 4).2.1 (G0 l 0 4).2.2 := hr1
   have hl' : (DM.mk l win most out fr sk).l = l := rfl
   rw [hl', ht]
   rw [ht] at hr1
   have hr1 : Qi w1 lo hi pr (l.drop 4) 0 := hr1
   have hd1 : DSt w1 base p ⟨l.drop 4, win, most, out, fr, sk⟩ := ⟨pr, vo, lo, hi, O, o1, hr1, oo1, hp, hlo, hO, q1, by omega⟩
   have hl4 : (l.drop 4).length = l.length - 4 := aCi
   obtain ⟨n, hn⟩ : ∃ n, n = rZ (l.take 4) := ⟨_, rfl⟩
   have en : rZ (l.take 4, l.drop 4, (0 : Int)).1 = n := hn.symm
   rw [<- hn] at hm
   have n0 : ((0 : Int) != 0) = false := rfl
   by_cases hmg : n = 4247762216
   .have g1 : ((n : Int) == 4247762216) = true := by rw [hmg] <;> rfl
    rw [if_pos hmg] at hm
    obtain ⟨mb, hmb⟩ : ∃ mb, afT (l.drop 4) win (most - out.length) = some mb := by
     cases hd : afT (l.drop 4) win (most - out.length) with
     | none => rw [hd] at hm; cases hm
     | some mb => exact ⟨mb, rfl⟩
    rw [hmb] at hm
    simp (disch := omega) only [gI, jD, dJ, stepR_skip, hJ, iC, iM, iP, iL, iN, jJ, iX, gM, iE, iG, iI, iH, gY, iO, hZ, iF, iV, iW, iJ, gR, iT, iQ, iD, jV, jW, kF, kD, kC, kG, kA, kB, kE, gD, Result.ok.injEq, Next.value.injEq, true_and, and_true, gX, iA, iU, iR, iS, jF, aB0, gV, gU, gW, gT, gO, gJ, gP, gN, gB, fV, if_true, if_false, aBZ, aB4, aB1, aB2, aB5, aB3, aBY, aBX, fQ, fL, fE, fR, cU, eS, eF, dK, bP, fS, eY, aP, dB, aX, bQ, bM, aO, cO, cJ, eQ, aE, gS, aJ, cK, aT, bU, fT, cI, cF, aD, gA, fD, aN, aF, bO, gQ, aI, eX, dT, dV, gF, dE, fB, cZ, eH, fF, fC, cG, dG, gK, dN, bZ, aS, bV, bT, fN, aG, aH, aQ, bA, bE, cP, bK, aA, fA, aR, cL, fJ, eU, gG, bJ, eL, eN, bY, fW, eZ, eJ, dH, cQ, dD, aY, bD, aL, fZ, aM, dA, eE, bB, cC, fK, dL, gC, fM, fG, fI, dS, aK, cH, cY, fY, fX, fH, dC, aV, dX, fU, cS, eT, fO, cD, bL, dR, aZ, dW, dQ, cM, eM, eK, bF, dF, bG, eD, dU, dZ, bN, cR, cN, dO, bS, cW, cV, fP, cB, eI, eP, gE, dY, dP, dM, dI, bH, bR, bW, bX, aU, cX, aW, en, n0, g1]
    refine (asE hd1 hout (show fr <= 2000000 by omega) hmost (by show (l.drop 4).length <= _; omega) hmb).mono ?_
    intro r w2 hq
    unfold AP
    cases mb with
    | error e =>
      obtain ⟨he, rfl, x2⟩ := hq
      cases hm
      have n1 : (e != 0) = true := by simp [he]
      simp (disch := omega) only [gI, jD, dJ, stepR_skip, hJ, iC, iM, iP, iL, iN, jJ, iX, gM, iE, iG, iI, iH, gY, iO, hZ, iF, iV, iW, iJ, gR, iT, iQ, iD, jV, jW, kF, kD, kC, kG, kA, kB, kE, gD, Result.ok.injEq, Next.value.injEq, true_and, and_true, gX, iA, iU, iR, iS, jF, aB0, gV, gU, gW, gT, gO, gJ, gP, gN, gB, fV, if_true, if_false, aBZ, aB4, aB1, aB2, aB5, aB3, aBY, aBX, fQ, fL, fE, fR, cU, eS, eF, dK, bP, fS, eY, aP, dB, aX, bQ, bM, aO, cO, cJ, eQ, aE, gS, aJ, cK, aT, bU, fT, cI, cF, aD, gA, fD, aN, aF, bO, gQ, aI, eX, dT, dV, gF, dE, fB, cZ, eH, fF, fC, cG, dG, gK, dN, bZ, aS, bV, bT, fN, aG, aH, aQ, bA, bE, cP, bK, aA, fA, aR, cL, fJ, eU, gG, bJ, eL, eN, bY, fW, eZ, eJ, dH, cQ, dD, aY, bD, aL, fZ, aM, dA, eE, bB, cC, fK, dL, gC, fM, fG, fI, dS, aK, cH, cY, fY, fX, fH, dC, aV, dX, fU, cS, eT, fO, cD, bL, dR, aZ, dW, dQ, cM, eM, eK, bF, dF, bG, eD, dU, dZ, bN, cR, cN, dO, bS, cW, cV, fP, cB, eI, eP, gE, dY, dP, dM, dI, bH, bR, bW, bX, aU, cX, aW, n1]
      refine hR _ _ ?_
      exact ⟨he, rfl, hx1.seq x2⟩
    | ok t =>
      obtain ⟨a, l'⟩ := t
      obtain ⟨rfl, hd2, x2⟩ := hq
      have hok := awK hmb
      simp (disch := omega) only [gI, jD, dJ, stepR_skip, hJ, iC, iM, iP, iL, iN, jJ, iX, gM, iE, iG, iI, iH, gY, iO, hZ, iF, iV, iW, iJ, gR, iT, iQ, iD, jV, jW, kF, kD, kC, kG, kA, kB, kE, gD, Result.ok.injEq, Next.value.injEq, true_and, and_true, gX, iA, iU, iR, iS, jF, aB0, gV, gU, gW, gT, gO, gJ, gP, gN, gB, fV, if_true, if_false, aBZ, aB4, aB1, aB2, aB5, aB3, aBY, aBX, fQ, fL, fE, fR, cU, eS, eF, dK, bP, fS, eY, aP, dB, aX, bQ, bM, aO, cO, cJ, eQ, aE, gS, aJ, cK, aT, bU, fT, cI, cF, aD, gA, fD, aN, aF, bO, gQ, aI, eX, dT, dV, gF, dE, fB, cZ, eH, fF, fC, cG, dG, gK, dN, bZ, aS, bV, bT, fN, aG, aH, aQ, bA, bE, cP, bK, aA, fA, aR, cL, fJ, eU, gG, bJ, eL, eN, bY, fW, eZ, eJ, dH, cQ, dD, aY, bD, aL, fZ, aM, dA, eE, bB, cC, fK, dL, gC, fM, fG, fI, dS, aK, cH, cY, fY, fX, fH, dC, aV, dX, fU, cS, eT, fO, cD, bL, dR, aZ, dW, dQ, cM, eM, eK, bF, dF, bG, eD, dU, dZ, bN, cR, cN, dO, bS, cW, cV, fP, cB, eI, eP, gE, dY, dP, dM, dI, bH, bR, bW, bX, aU, cX, aW, n0]
      exact ⟨f, by omega, l', out ++ a, fr + 1, sk, hm, hd2, hx1.seq x2, by rw [aB7]; omega, by omega, by omega, by omega⟩
   have g1 : ((n : Int) == 4247762216) = false := by simp; omega
   rw [if_neg hmg] at hm
   by_cases hs : 407710288 <= n /\ n < 407710304
   .have g2 : decide ((n : Int) ≥ 407710288) = true := decide_eq_true (by omega)
    have g3 : decide ((407710288 : Int) <= (n : Int)) = true := decide_eq_true (by omega)
    have g4 : decide ((n : Int) < 407710304) = true := decide_eq_true (by omega)
    rw [if_pos hs] at hm
    simp (disch := omega) only [gI, jD, dJ, stepR_skip, hJ, iC, iM, iP, iL, iN, jJ, iX, gM, iE, iG, iI, iH, gY, iO, hZ, iF, iV, iW, iJ, gR, iT, iQ, iD, jV, jW, kF, kD, kC, kG, kA, kB, kE, gD, Result.ok.injEq, Next.value.injEq, true_and, and_true, gX, iA, iU, iR, iS, jF, aB0, gV, gU, gW, gT, gO, gJ, gP, gN, gB, fV, if_true, if_false, aBZ, aB4, aB1, aB2, aB5, aB3, aBY, aBX, fQ, fL, fE, fR, cU, eS, eF, dK, bP, fS, eY, aP, dB, aX, bQ, bM, aO, cO, cJ, eQ, aE, gS, aJ, cK, aT, bU, fT, cI, cF, aD, gA, fD, aN, aF, bO, gQ, aI, eX, dT, dV, gF, dE, fB, cZ, eH, fF, fC, cG, dG, gK, dN, bZ, aS, bV, bT, fN, aG, aH, aQ, bA, bE, cP, bK, aA, fA, aR, cL, fJ, eU, gG, bJ, eL, eN, bY, fW, eZ, eJ, dH, cQ, dD, aY, bD, aL, fZ, aM, dA, eE, bB, cC, fK, dL, gC, fM, fG, fI, dS, aK, cH, cY, fY, fX, fH, dC, aV, dX, fU, cS, eT, fO, cD, bL, dR, aZ, dW, dQ, cM, eM, eK, bF, dF, bG, eD, dU, dZ, bN, cR, cN, dO, bS, cW, cV, fP, cB, eI, eP, gE, dY, dP, dM, dI, bH, bR, bW, bX, aU, cX, aW, en, n0, g1, g2, g3, g4]
    refine (awO hd1 (show sk <= 2000000 by omega) (by show (l.drop 4).length <= _; omega)).mono ?_
    intro r w2 hq
    unfold AP
    have hq : aA8 base p w1 ⟨l.drop 4, win, most, out, fr, sk⟩ r w2 (aoD (l.drop 4)) := hq
    cases hk : aoD (l.drop 4) with
    | error e =>
      rw [hk] at hq hm
      obtain ⟨he, rfl, x2⟩ := hq
      cases hm
      have n1 : (e != 0) = true := by simp [he]
      simp (disch := omega) only [gI, jD, dJ, stepR_skip, hJ, iC, iM, iP, iL, iN, jJ, iX, gM, iE, iG, iI, iH, gY, iO, hZ, iF, iV, iW, iJ, gR, iT, iQ, iD, jV, jW, kF, kD, kC, kG, kA, kB, kE, gD, Result.ok.injEq, Next.value.injEq, true_and, and_true, gX, iA, iU, iR, iS, jF, aB0, gV, gU, gW, gT, gO, gJ, gP, gN, gB, fV, if_true, if_false, aBZ, aB4, aB1, aB2, aB5, aB3, aBY, aBX, fQ, fL, fE, fR, cU, eS, eF, dK, bP, fS, eY, aP, dB, aX, bQ, bM, aO, cO, cJ, eQ, aE, gS, aJ, cK, aT, bU, fT, cI, cF, aD, gA, fD, aN, aF, bO, gQ, aI, eX, dT, dV, gF, dE, fB, cZ, eH, fF, fC, cG, dG, gK, dN, bZ, aS, bV, bT, fN, aG, aH, aQ, bA, bE, cP, bK, aA, fA, aR, cL, fJ, eU, gG, bJ, eL, eN, bY, fW, eZ, eJ, dH, cQ, dD, aY, bD, aL, fZ, aM, dA, eE, bB, cC, fK, dL, gC, fM, fG, fI, dS, aK, cH, cY, fY, fX, fH, dC, aV, dX, fU, cS, eT, fO, cD, bL, dR, aZ, dW, dQ, cM, eM, eK, bF, dF, bG, eD, dU, dZ, bN, cR, cN, dO, bS, cW, cV, fP, cB, eI, eP, gE, dY, dP, dM, dI, bH, bR, bW, bX, aU, cX, aW, n1]
      refine hR _ _ ?_
      exact ⟨he, rfl, hx1.seq x2⟩
    | ok l' =>
      rw [hk] at hq hm
      obtain ⟨rfl, hd2, x2⟩ := hq
      have hle : l'.length <= (l.drop 4).length := by
       unfold aoD at hk
       repeat' split at hk
       all_goals first | cases hk | skip
       rw [aCi]
       omega
      simp (disch := omega) only [gI, jD, dJ, stepR_skip, hJ, iC, iM, iP, iL, iN, jJ, iX, gM, iE, iG, iI, iH, gY, iO, hZ, iF, iV, iW, iJ, gR, iT, iQ, iD, jV, jW, kF, kD, kC, kG, kA, kB, kE, gD, Result.ok.injEq, Next.value.injEq, true_and, and_true, gX, iA, iU, iR, iS, jF, aB0, gV, gU, gW, gT, gO, gJ, gP, gN, gB, fV, if_true, if_false, aBZ, aB4, aB1, aB2, aB5, aB3, aBY, aBX, fQ, fL, fE, fR, cU, eS, eF, dK, bP, fS, eY, aP, dB, aX, bQ, bM, aO, cO, cJ, eQ, aE, gS, aJ, cK, aT, bU, fT, cI, cF, aD, gA, fD, aN, aF, bO, gQ, aI, eX, dT, dV, gF, dE, fB, cZ, eH, fF, fC, cG, dG, gK, dN, bZ, aS, bV, bT, fN, aG, aH, aQ, bA, bE, cP, bK, aA, fA, aR, cL, fJ, eU, gG, bJ, eL, eN, bY, fW, eZ, eJ, dH, cQ, dD, aY, bD, aL, fZ, aM, dA, eE, bB, cC, fK, dL, gC, fM, fG, fI, dS, aK, cH, cY, fY, fX, fH, dC, aV, dX, fU, cS, eT, fO, cD, bL, dR, aZ, dW, dQ, cM, eM, eK, bF, dF, bG, eD, dU, dZ, bN, cR, cN, dO, bS, cW, cV, fP, cB, eI, eP, gE, dY, dP, dM, dI, bH, bR, bW, bX, aU, cX, aW, n0]
      exact ⟨f, by omega, l', out, fr, sk + 1, hm, hd2, hx1.seq x2, hout, by omega, by omega, by omega⟩
   .rw [if_neg hs] at hm
    cases hm
    have n1 : ((11 : Int) != 0) = true := rfl
    unfold AP
    by_cases h1 : 407710288 <= n
    .have g2 : decide ((n : Int) ≥ 407710288) = true := decide_eq_true (by omega)
     have g3 : decide ((407710288 : Int) <= (n : Int)) = true := decide_eq_true (by omega)
     have g4 : decide ((n : Int) < 407710304) = false := decide_eq_false (by omega)
     simp (disch := omega) only [gI, jD, dJ, stepR_skip, hJ, iC, iM, iP, iL, iN, jJ, iX, gM, iE, iG, iI, iH, gY, iO, hZ, iF, iV, iW, iJ, gR, iT, iQ, iD, jV, jW, kF, kD, kC, kG, kA, kB, kE, gD, Result.ok.injEq, Next.value.injEq, true_and, and_true, gX, iA, iU, iR, iS, jF, aB0, gV, gU, gW, gT, gO, gJ, gP, gN, gB, fV, if_true, if_false, aBZ, aB4, aB1, aB2, aB5, aB3, aBY, aBX, fQ, fL, fE, fR, cU, eS, eF, dK, bP, fS, eY, aP, dB, aX, bQ, bM, aO, cO, cJ, eQ, aE, gS, aJ, cK, aT, bU, fT, cI, cF, aD, gA, fD, aN, aF, bO, gQ, aI, eX, dT, dV, gF, dE, fB, cZ, eH, fF, fC, cG, dG, gK, dN, bZ, aS, bV, bT, fN, aG, aH, aQ, bA, bE, cP, bK, aA, fA, aR, cL, fJ, eU, gG, bJ, eL, eN, bY, fW, eZ, eJ, dH, cQ, dD, aY, bD, aL, fZ, aM, dA, eE, bB, cC, fK, dL, gC, fM, fG, fI, dS, aK, cH, cY, fY, fX, fH, dC, aV, dX, fU, cS, eT, fO, cD, bL, dR, aZ, dW, dQ, cM, eM, eK, bF, dF, bG, eD, dU, dZ, bN, cR, cN, dO, bS, cW, cV, fP, cB, eI, eP, gE, dY, dP, dM, dI, bH, bR, bW, bX, aU, cX, aW, en, n0, g1, g2, g3, g4, n1]
     refine hR _ _ ?_
     exact ⟨by decide, rfl, hx1⟩
    .have g2 : decide ((n : Int) ≥ 407710288) = false := decide_eq_false (by omega)
     have g3 : decide ((407710288 : Int) <= (n : Int)) = false := decide_eq_false (by omega)
     simp (disch := omega) only [gI, jD, dJ, stepR_skip, hJ, iC, iM, iP, iL, iN, jJ, iX, gM, iE, iG, iI, iH, gY, iO, hZ, iF, iV, iW, iJ, gR, iT, iQ, iD, jV, jW, kF, kD, kC, kG, kA, kB, kE, gD, Result.ok.injEq, Next.value.injEq, true_and, and_true, gX, iA, iU, iR, iS, jF, aB0, gV, gU, gW, gT, gO, gJ, gP, gN, gB, fV, if_true, if_false, aBZ, aB4, aB1, aB2, aB5, aB3, aBY, aBX, fQ, fL, fE, fR, cU, eS, eF, dK, bP, fS, eY, aP, dB, aX, bQ, bM, aO, cO, cJ, eQ, aE, gS, aJ, cK, aT, bU, fT, cI, cF, aD, gA, fD, aN, aF, bO, gQ, aI, eX, dT, dV, gF, dE, fB, cZ, eH, fF, fC, cG, dG, gK, dN, bZ, aS, bV, bT, fN, aG, aH, aQ, bA, bE, cP, bK, aA, fA, aR, cL, fJ, eU, gG, bJ, eL, eN, bY, fW, eZ, eJ, dH, cQ, dD, aY, bD, aL, fZ, aM, dA, eE, bB, cC, fK, dL, gC, fM, fG, fI, dS, aK, cH, cY, fY, fX, fH, dC, aV, dX, fU, cS, eT, fO, cD, bL, dR, aZ, dW, dQ, cM, eM, eK, bF, dF, bG, eD, dU, dZ, bN, cR, cN, dO, bS, cW, cV, fP, cB, eI, eP, gE, dY, dP, dM, dI, bH, bR, bW, bX, aU, cX, aW, en, n0, g1, g2, g3, n1]
     refine hR _ _ ?_
     exact ⟨by decide, rfl, hx1⟩
def dec (l : List UInt8) (log most : Nat) : Option (Except Int (List UInt8 × Nat × Nat)) := afG (2 ^ log) most (l.length + 1) l [] 0 0
theorem ahN {v : aEm} {l : List UInt8} {log most : Nat} {w : aEl} {mm : Except Int (List UInt8 × Nat × Nat)} (hb : Bs w v l) (hl : l.length <= 1000000) (hlog : 10 <= log /\ log <= 22) (hmost : most <= 2000000) (hm : dec l log most = some mm) :
 jE pg Ga #[v, .int .i64 (log : Nat), .int .i64 (most : Nat)] w (fun r w' => ∃ p, aAl w.heap.size p w (2 ^ log) most r w' mm) := by
 refine ZS ?_
 obtain ⟨RR, hRR⟩ : ∃ RR : aEm -> aEl -> Prop, RR = fun r w' => ∃ p, aAl w.heap.size p w (2 ^ log) most r w' mm := ⟨_, rfl⟩
 rw [<- hRR]
 unfold abI Lz LF
 have d1 : decide ((log : Int) < 10) = false := decide_eq_false (by omega)
 have d2 : decide ((log : Int) > 22) = false := decide_eq_false (by omega)
 have d3 : decide ((22 : Int) < (log : Int)) = false := decide_eq_false (by omega)
 have d4 : decide ((most : Int) < 0) = false := decide_eq_false (by omega)
 have hlb : 2 ^ log <= 2 ^ 22 := aCn (by omega) hlog.2
 have e1 : (1 : Int) * 2 ^ min log IntKind.u64.bits = ((2 ^ log : Nat) : Int) := by
  rw [aCL (by have : IntKind.u64.bits = 64 := rfl; omega)]
  simp
 have e2 : IntKind.u64.wrap ((2 ^ log : Nat) : Int) = ((2 ^ log : Nat) : Int) := by
  have : ∀ W : Nat, W <= 2 ^ 22 -> IntKind.u64.wrap (W : Int) = (W : Int) := fun W hW => iA (by omega) (by omega)
  exact this _ hlb
 have t0 : (log : Int).toNat = log := aB0 _
 have g0 : (0 : Int) <= (log : Int) := by omega
 simp (disch := omega) only [gI, jD, dJ, stepR_skip, hJ, iC, iM, iP, iL, iN, jJ, iX, gM, iE, iG, iI, iH, gY, iO, hZ, iF, iV, iW, iJ, gR, iT, iQ, iD, jV, jW, kF, kD, kC, kG, kA, kB, kE, gD, Result.ok.injEq, Next.value.injEq, true_and, and_true, gX, iA, iU, iR, iS, jF, aB0, gV, gU, gW, gT, gO, gJ, gP, gN, gB, fV, if_true, if_false, aBZ, aB4, aB1, aB2, aB5, aB3, aBY, aBX, fQ, fL, fE, fR, cU, eS, eF, dK, bP, fS, eY, aP, dB, aX, bQ, bM, aO, cO, cJ, eQ, aE, gS, aJ, cK, aT, bU, fT, cI, cF, aD, gA, fD, aN, aF, bO, gQ, aI, eX, dT, dV, gF, dE, fB, cZ, eH, fF, fC, cG, dG, gK, dN, bZ, aS, bV, bT, fN, aG, aH, aQ, bA, bE, cP, bK, aA, fA, aR, cL, fJ, eU, gG, bJ, eL, eN, bY, fW, eZ, eJ, dH, cQ, dD, aY, bD, aL, fZ, aM, dA, eE, bB, cC, fK, dL, gC, fM, fG, fI, dS, aK, cH, cY, fY, fX, fH, dC, aV, dX, fU, cS, eT, fO, cD, bL, dR, aZ, dW, dQ, cM, eM, eK, bF, dF, bG, eD, dU, dZ, bN, cR, cN, dO, bS, cW, cV, fP, cB, eI, eP, gE, dY, dP, dM, dI, bH, bR, bW, bX, aU, cX, aW, d1, d2, d3, d4]
 have hb1 := hb.ext (jN.dr w mC) (kJ _)
 refine (Jc hb1 (by omega)).mono ?_
 rintro r w1 ⟨pr, rfl, hr, x1⟩
 have zd := (jN.dr w mC).size
 have z1 := x1.size
 simp (disch := omega) only [gI, jD, dJ, stepR_skip, hJ, iC, iM, iP, iL, iN, jJ, iX, gM, iE, iG, iI, iH, gY, iO, hZ, iF, iV, iW, iJ, gR, iT, iQ, iD, jV, jW, kF, kD, kC, kG, kA, kB, kE, gD, Result.ok.injEq, Next.value.injEq, true_and, and_true, gX, iA, iU, iR, iS, jF, aB0, gV, gU, gW, gT, gO, gJ, gP, gN, gB, fV, if_true, if_false, aBZ, aB4, aB1, aB2, aB5, aB3, aBY, aBX, fQ, fL, fE, fR, cU, eS, eF, dK, bP, fS, eY, aP, dB, aX, bQ, bM, aO, cO, cJ, eQ, aE, gS, aJ, cK, aT, bU, fT, cI, cF, aD, gA, fD, aN, aF, bO, gQ, aI, eX, dT, dV, gF, dE, fB, cZ, eH, fF, fC, cG, dG, gK, dN, bZ, aS, bV, bT, fN, aG, aH, aQ, bA, bE, cP, bK, aA, fA, aR, cL, fJ, eU, gG, bJ, eL, eN, bY, fW, eZ, eJ, dH, cQ, dD, aY, bD, aL, fZ, aM, dA, eE, bB, cC, fK, dL, gC, fM, fG, fI, dS, aK, cH, cY, fY, fX, fH, dC, aV, dX, fU, cS, eT, fO, cD, bL, dR, aZ, dW, dQ, cM, eM, eK, bF, dF, bG, eD, dU, dZ, bN, cR, cN, dO, bS, cW, cV, fP, cB, eI, eP, gE, dY, dP, dM, dI, bH, bR, bW, bX, aU, cX, aW, e1, e2, t0, g0]
 refine Ah fun w2 o2 x2 s2 => ?_
 have o2 : lN w2 w1.heap.size (yG pr NQ ⟨l, 2 ^ log, most, [], 0, 0⟩) := o2
 have hz := o2.lt
 have hpr : (dr w).heap.size <= pr /\ pr < w1.heap.size := ⟨hr.1, hr.2.1⟩
 refine awP (base := w.heap.size) (p := w1.heap.size) (w0 := w) (w := w2) (f := l.length + 1) (l := l) (win := 2 ^ log) (most := most) (mm := mm) ((((jN.dr w mC).seq x1).seq x2).mono fun _ _ h => h.elim) ⟨pr, NQ, (dr w).heap.size, w1.heap.size, (fun b => False), o2, hr.ext x2 (fun _ _ _ h => h), ⟨rfl, .inl ⟨rfl, rfl⟩⟩, by omega, by omega, fun b h => h.elim, by omega, by omega⟩ (by omega) hl hmost hm fun r w' h => ?_
 rw [hRR]
 exact ⟨_, h⟩
def aBq (w : aEl) (r : aEm) (w' : aEl) : Except Int (List UInt8 × Nat × Nat) -> Prop
 | .error e => r = .tuple #[NQ, .int .i64 e] /\ jN w w' mC
 | .ok (out, fr, sk) => ∃ v, r = .tuple #[v, .int .i64 0] /\ Bs w' v out /\ jN w w' mC
theorem asY {v : aEm} {l : List UInt8} {log most : Nat} {w : aEl} {mm : Except Int (List UInt8 × Nat × Nat)} (hb : Bs w v l) (hl : l.length <= 1000000) (hlog : 10 <= log /\ log <= 22) (hmost : most <= 2000000) (hm : dec l log most = some mm) :
 jE pg D9 #[v, .int .i64 (log : Nat), .int .i64 (most : Nat)] w (fun r w' => aBq w r w' mm) := by
 refine VV ?_
 unfold Va H0
 refine (ahN hb hl hlog hmost hm).mono ?_
 rintro r w1 ⟨p, hq⟩
 cases mm with
 | error e =>
   obtain ⟨he, rfl, x⟩ := hq
   have n1 : (e != 0) = true := by simp [he]
   simp (disch := omega) only [gI, jD, dJ, stepR_skip, hJ, iC, iM, iP, iL, iN, jJ, iX, gM, iE, iG, iI, iH, gY, iO, hZ, iF, iV, iW, iJ, gR, iT, iQ, iD, jV, jW, kF, kD, kC, kG, kA, kB, kE, gD, Result.ok.injEq, Next.value.injEq, true_and, and_true, gX, iA, iU, iR, iS, jF, aB0, gV, gU, gW, gT, gO, gJ, gP, gN, gB, fV, if_true, if_false, aBZ, aB4, aB1, aB2, aB5, aB3, aBY, aBX, fQ, fL, fE, fR, cU, eS, eF, dK, bP, fS, eY, aP, dB, aX, bQ, bM, aO, cO, cJ, eQ, aE, gS, aJ, cK, aT, bU, fT, cI, cF, aD, gA, fD, aN, aF, bO, gQ, aI, eX, dT, dV, gF, dE, fB, cZ, eH, fF, fC, cG, dG, gK, dN, bZ, aS, bV, bT, fN, aG, aH, aQ, bA, bE, cP, bK, aA, fA, aR, cL, fJ, eU, gG, bJ, eL, eN, bY, fW, eZ, eJ, dH, cQ, dD, aY, bD, aL, fZ, aM, dA, eE, bB, cC, fK, dL, gC, fM, fG, fI, dS, aK, cH, cY, fY, fX, fH, dC, aV, dX, fU, cS, eT, fO, cD, bL, dR, aZ, dW, dQ, cM, eM, eK, bF, dF, bG, eD, dU, dZ, bN, cR, cN, dO, bS, cW, cV, fP, cB, eI, eP, gE, dY, dP, dM, dI, bH, bR, bW, bX, aU, cX, aW, n1]
   exact ⟨rfl, x.mono fun y hy h => by omega⟩
 | ok t =>
   obtain ⟨out, fr, sk⟩ := t
   obtain ⟨rfl, ⟨l', hd⟩, x⟩ := hq
   obtain ⟨pr, vo, lo, hi, O, o, hr, oo, hp, hlo, hO, q1, hhi⟩ := hd
   have n1 : ((0 : Int) != 0) = false := rfl
   have c3 := o.cell (off := 3)
   simp only [yG, aBX, aBY] at c3
   simp (disch := omega) only [gI, jD, dJ, stepR_skip, hJ, iC, iM, iP, iL, iN, jJ, iX, gM, iE, iG, iI, iH, gY, iO, hZ, iF, iV, iW, iJ, gR, iT, iQ, iD, jV, jW, kF, kD, kC, kG, kA, kB, kE, gD, Result.ok.injEq, Next.value.injEq, true_and, and_true, gX, iA, iU, iR, iS, jF, aB0, gV, gU, gW, gT, gO, gJ, gP, gN, gB, fV, if_true, if_false, aBZ, aB4, aB1, aB2, aB5, aB3, aBY, aBX, fQ, fL, fE, fR, cU, eS, eF, dK, bP, fS, eY, aP, dB, aX, bQ, bM, aO, cO, cJ, eQ, aE, gS, aJ, cK, aT, bU, fT, cI, cF, aD, gA, fD, aN, aF, bO, gQ, aI, eX, dT, dV, gF, dE, fB, cZ, eH, fF, fC, cG, dG, gK, dN, bZ, aS, bV, bT, fN, aG, aH, aQ, bA, bE, cP, bK, aA, fA, aR, cL, fJ, eU, gG, bJ, eL, eN, bY, fW, eZ, eJ, dH, cQ, dD, aY, bD, aL, fZ, aM, dA, eE, bB, cC, fK, dL, gC, fM, fG, fI, dS, aK, cH, cY, fY, fX, fH, dC, aV, dX, fU, cS, eT, fO, cD, bL, dR, aZ, dW, dQ, cM, eM, eK, bF, dF, bG, eD, dU, dZ, bN, cR, cN, dO, bS, cW, cV, fP, cB, eI, eP, gE, dY, dP, dM, dI, bH, bR, bW, bX, aU, cX, aW, n1, c3]
   exact ⟨vo, rfl, afK oo, x.mono fun y hy h => by omega⟩
def axX : Except Int (List UInt8 × Nat × Nat) -> aEm
 | .error e => .tuple #[.int .i64 0, .int .i64 0, .int .i64 e]
 | .ok (_, fr, sk) => .tuple #[.int .i64 (fr : Nat), .int .i64 (sk : Nat), .int .i64 0]
theorem asV {v : aEm} {l : List UInt8} {log most : Nat} {w : aEl} {mm : Except Int (List UInt8 × Nat × Nat)} (hb : Bs w v l) (hl : l.length <= 1000000) (hlog : 10 <= log /\ log <= 22) (hmost : most <= 2000000) (hm : dec l log most = some mm) :
 jE pg D1 #[v, .int .i64 (log : Nat), .int .i64 (most : Nat)] w (fun r w' => r = axX mm /\ jN w w' mC) := by
 refine V9 ?_
 unfold Vc Ih
 refine (ahN hb hl hlog hmost hm).mono ?_
 rintro r w1 ⟨p, hq⟩
 cases mm with
 | error e =>
   obtain ⟨he, rfl, x⟩ := hq
   have n1 : (e != 0) = true := by simp [he]
   simp (disch := omega) only [gI, jD, dJ, stepR_skip, hJ, iC, iM, iP, iL, iN, jJ, iX, gM, iE, iG, iI, iH, gY, iO, hZ, iF, iV, iW, iJ, gR, iT, iQ, iD, jV, jW, kF, kD, kC, kG, kA, kB, kE, gD, Result.ok.injEq, Next.value.injEq, true_and, and_true, gX, iA, iU, iR, iS, jF, aB0, gV, gU, gW, gT, gO, gJ, gP, gN, gB, fV, if_true, if_false, aBZ, aB4, aB1, aB2, aB5, aB3, aBY, aBX, fQ, fL, fE, fR, cU, eS, eF, dK, bP, fS, eY, aP, dB, aX, bQ, bM, aO, cO, cJ, eQ, aE, gS, aJ, cK, aT, bU, fT, cI, cF, aD, gA, fD, aN, aF, bO, gQ, aI, eX, dT, dV, gF, dE, fB, cZ, eH, fF, fC, cG, dG, gK, dN, bZ, aS, bV, bT, fN, aG, aH, aQ, bA, bE, cP, bK, aA, fA, aR, cL, fJ, eU, gG, bJ, eL, eN, bY, fW, eZ, eJ, dH, cQ, dD, aY, bD, aL, fZ, aM, dA, eE, bB, cC, fK, dL, gC, fM, fG, fI, dS, aK, cH, cY, fY, fX, fH, dC, aV, dX, fU, cS, eT, fO, cD, bL, dR, aZ, dW, dQ, cM, eM, eK, bF, dF, bG, eD, dU, dZ, bN, cR, cN, dO, bS, cW, cV, fP, cB, eI, eP, gE, dY, dP, dM, dI, bH, bR, bW, bX, aU, cX, aW, n1]
   exact ⟨rfl, x.mono fun y hy h => by omega⟩
 | ok t =>
   obtain ⟨out, fr, sk⟩ := t
   obtain ⟨rfl, ⟨l', hd⟩, x⟩ := hq
   obtain ⟨pr, vo, lo, hi, O, o, hr, oo, hp, hlo, hO, q1, hhi⟩ := hd
   have n1 : ((0 : Int) != 0) = false := rfl
   have c4 := o.cell (off := 4)
   have c5 := o.cell (off := 5)
   have d4 := (nP o).cell (off := 4)
   have d5 := (nP o).cell (off := 5)
   simp only [yG, aBX, aBY] at c4 c5 d4 d5
   simp (disch := omega) only [gI, jD, dJ, stepR_skip, hJ, iC, iM, iP, iL, iN, jJ, iX, gM, iE, iG, iI, iH, gY, iO, hZ, iF, iV, iW, iJ, gR, iT, iQ, iD, jV, jW, kF, kD, kC, kG, kA, kB, kE, gD, Result.ok.injEq, Next.value.injEq, true_and, and_true, gX, iA, iU, iR, iS, jF, aB0, gV, gU, gW, gT, gO, gJ, gP, gN, gB, fV, if_true, if_false, aBZ, aB4, aB1, aB2, aB5, aB3, aBY, aBX, fQ, fL, fE, fR, cU, eS, eF, dK, bP, fS, eY, aP, dB, aX, bQ, bM, aO, cO, cJ, eQ, aE, gS, aJ, cK, aT, bU, fT, cI, cF, aD, gA, fD, aN, aF, bO, gQ, aI, eX, dT, dV, gF, dE, fB, cZ, eH, fF, fC, cG, dG, gK, dN, bZ, aS, bV, bT, fN, aG, aH, aQ, bA, bE, cP, bK, aA, fA, aR, cL, fJ, eU, gG, bJ, eL, eN, bY, fW, eZ, eJ, dH, cQ, dD, aY, bD, aL, fZ, aM, dA, eE, bB, cC, fK, dL, gC, fM, fG, fI, dS, aK, cH, cY, fY, fX, fH, dC, aV, dX, fU, cS, eT, fO, cD, bL, dR, aZ, dW, dQ, cM, eM, eK, bF, dF, bG, eD, dU, dZ, bN, cR, cN, dO, bS, cW, cV, fP, cB, eI, eP, gE, dY, dP, dM, dI, bH, bR, bW, bX, aU, cX, aW, n1, c4, c5, d4, d5]
   exact ⟨rfl, (x.seq (jN.dr w1 _)).mono fun y hy h => by omega⟩
def skF (k : UInt8) (b : List UInt8) : List UInt8 := UInt8.ofNat (80 + k.toNat % 16) :: 42 :: 77 :: 24 :: UInt8.ofNat b.length :: 0 :: 0 :: 0 :: b
def auO : List (UInt8 × List UInt8) -> List UInt8
 | [] => []
 | (k, b) :: L => skF k b ++ auO L
def akP : Nat -> List (UInt8 × List UInt8) -> List Nat
 | _, [] => []
 | n, (k, b) :: L => (n + (8 + b.length)) :: akP (n + (8 + b.length)) L
def RwS (w : aEl) (v : aEm) (ls : List (List UInt8)) : Prop := ∃ vs : List aEm, Sl w v vs /\ vs.length = ls.length /\ ∀ i (h : i < ls.length) (h' : i < vs.length), Bs w vs[i] ls[i]
theorem RwS.ext {w w' : aEl} {v : aEm} {ls : List (List UInt8)} (h : RwS w v ls) (x : jN w w' mC) : RwS w' v ls := by
 obtain ⟨vs, h1, h2, h3⟩ := h
 exact ⟨vs, h1.ext x (kJ _), h2, fun i a b => (h3 i a b).ext x (kJ _)⟩
theorem RwS.len {w : aEl} {v : aEm} {ls : List (List UInt8)} (h : RwS w v ls) : ∃ a c, v = .slice a ls.length c := by
 obtain ⟨vs, ⟨a, n, c, rfl, hn, hc, _⟩, h2, h3⟩ := h
 exact ⟨a, c, by rw [<- h2, hn]⟩
theorem RwS.at {w : aEl} {v : aEm} {ls : List (List UInt8)} (h : RwS w v ls) {i : Nat} (hi : i < ls.length) : ∃ b o c u, v = .slice (some ⟨b, o, none⟩) ls.length c /\ w.cell? ⟨b, o + i, none⟩ = some u /\ Bs w u (ls[i]'hi) := by
 obtain ⟨vs, ⟨a, n, c, rfl, hn, hc, hh⟩, h2, h3⟩ := h
 obtain ⟨b, o, rfl, h4⟩ := hh (by omega)
 have h5 := h4 i (by omega)
 rw [aB8 (by omega)] at h5
 exact ⟨b, o, c, _, by rw [<- h2, hn], h5, h3 i hi (by omega)⟩
theorem asF {w : aEl} {b : Nat} {l : List UInt8} (h : lN w b (l.map nT)) : Bs w (.slice (some ⟨b, 0, none⟩) l.length l.length) l :=
 h.bs (off := 0) (c := l.length) (aCb _) (fun i hi => by rw [aB4, aCp, aB8 hi] <;> rfl)
def iv (n : Nat) : aEm := .int .i64 (n : Nat)
def aAe (base : Nat) (w : aEl) (va ve : aEm) (L : List (UInt8 × List UInt8)) : Prop :=
 ∃ S T : Nat -> Prop, GX w S 1 va (auO L).length ((auO L).map nT) /\ GX w T 1 ve (akP 0 L).length ((akP 0 L).map iv) /\ (∀ b, S b -> base <= b /\ ¬ T b) /\ (∀ b, T b -> base <= b)
theorem aAe.ext {base : Nat} {w w' : aEl} {va ve : aEm} {L : List (UInt8 × List UInt8)} (h : aAe base w va ve L) (x : jN w w' mC) : aAe base w' va ve L := by
 obtain ⟨S, T, h1, h2, h3, h4⟩ := h
 exact ⟨S, T, h1.ext x (fun _ _ h => h), h2.ext x (fun _ _ h => h), h3, h4⟩
theorem ofN {n : Nat} (h : n < 256) : (UInt8.ofNat n).toNat = n := by rw [UInt8.toNat_ofNat']; omega
def b3 (x : Nat) : List UInt8 := [UInt8.ofNat (x % 256), UInt8.ofNat (x / 256 % 256), UInt8.ofNat (x / 65536 % 256)]
theorem avZ {x : Nat} (h : x < 2 ^ 24) : rZ (b3 x) = x := by
 simp only [b3, rZ]
 rw [ofN (by omega), ofN (by omega), ofN (by omega)]
 omega
theorem aAu {x : Nat} {r : List UInt8} (h : x < 2 ^ 24) : bx (b3 x ++ r) = x := by
 have : (b3 x ++ r).take 3 = b3 x := rfl
 unfold bx
 rw [this, avZ h]
def smX (n : Nat) (b : Bool) : Nat := 8 * n + 2 + (if b then 1 else 0)
def Zd (n : Nat) (c : UInt8) (b : Bool) : List UInt8 := b3 (smX n b) ++ [c]
theorem awC {n win room : Nat} {c : UInt8} {b : Bool} {r all : List UInt8} (hn : n <= win) (hn2 : n <= 131072) : Wl (Zd n c b ++ r) all win room = if room < all.length + n then some (.error 12) else some (.ok (all ++ List.replicate n c, r, b)) := by
 have hx : smX n b < 2 ^ 24 := by unfold smX; split <;> omega
 have e0 : Zd n c b ++ r = b3 (smX n b) ++ (c :: r) := by unfold Zd; rw [aCr] <;> rfl
 rw [e0]
 unfold Wl
 have hl : (b3 (smX n b) ++ (c :: r)).length = 4 + r.length := by simp [b3]; omega
 have hb := aAu (r := c :: r) hx
 have hk : MK (b3 (smX n b) ++ (c :: r)) = 1 := by unfold MK; rw [hb]; unfold smX; split <;> omega
 have hs : O6 (b3 (smX n b) ++ (c :: r)) = n := by unfold O6; rw [hb]; unfold smX; split <;> omega
 have hd : Xl (b3 (smX n b) ++ (c :: r)) = 1 := by unfold Xl; rw [hk] <;> rfl
 have hm : ahD (b3 (smX n b) ++ (c :: r)) = List.replicate n c := by unfold ahD; rw [hk, hs] <;> rfl
 have hq : (bx (b3 (smX n b) ++ (c :: r)) % 2 == 1) = b := by
  rw [hb]; unfold smX
  cases b
  .have : (8 * n + 2 + (if false = true then 1 else 0)) % 2 = 0 := by simp; omega
   rw [this] <;> rfl
  .have : (8 * n + 2 + (if true = true then 1 else 0)) % 2 = 1 := by simp; omega
   rw [this] <;> rfl
 rw [hl, hk, hs, hd, hm, hq, if_neg (by omega), if_neg (by omega), if_neg (by omega), if_neg (by omega), if_neg (by omega), aCZ]
 rfl
def FZ (n : Nat) (s : Bool) : List UInt8 := if n < 256 then [40, 181, 47, 253] ++ nM (32 + (if s then 4 else 0)) 1 ++ nM n 1 else [40, 181, 47, 253] ++ nM (32 + (if s then 4 else 0) + 64) 1 ++ nM (n - 256) 2
theorem aaC (n : Nat) (s : Bool) : (FZ n s).length <= 7 := by
 unfold FZ
 split
 .rw [aB7, aB7, lA, lA]; simp
 .rw [aB7, aB7, lA, lA]; simp
theorem aA0 (l r : List UInt8) : G0 (l ++ r) 0 l.length = (l, r, 0) := by
 unfold G0
 rw [if_neg (by simp), if_neg (by rw [aB7]; omega), List.take_left, List.drop_left]
theorem axU {l r : List UInt8} {n : Nat} (h : l.length = n) : nxS (l ++ r, 0) n = (r, 0) /\ nvS (l ++ r, 0) n = rZ l := by
 subst h
 unfold nxS nvS
 rw [aA0]
 exact ⟨rfl, rfl⟩
def plD (n : Nat) (s : Bool) : Nat := 32 + (if s then 4 else 0) + (if n < 256 then 0 else 64)
def ZN (n : Nat) : List UInt8 := if n < 256 then nM n 1 else nM (n - 256) 2
theorem Z3 (n : Nat) (s : Bool) : FZ n s = [40, 181, 47, 253] ++ (nM (plD n s) 1 ++ ZN n) := by
 unfold FZ plD ZN
 split <;> rw [aCr] <;> rfl
theorem aA4 {n : Nat} (s : Bool) (hn : n < 65792) : plD n s < 256 /\ Uy (plD n s) = true /\ fDn (plD n s) = 0 /\ Wk (plD n s) = (if n < 256 then 1 else 2) /\ (plD n s / 8 % 2 = 0) /\ (plD n s / 4 % 2 == 1) = s /\ (ZN n).length = (if n < 256 then 1 else 2) /\ fSz (plD n s) (rZ (ZN n)) = n := by
 unfold plD ZN
 by_cases h : n < 256
 .simp only [if_pos h]
  have e : rZ (nM n 1) = n := by rw [JZ]; exact aCt (by omega)
  rw [e]
  cases s <;> refine ⟨by decide, by decide, by decide, by decide, by decide, by decide, lA _ _, ?_⟩ <;> · unfold fSz; rw [if_neg (by decide)]
 .simp only [if_neg h]
  have e : rZ (nM (n - 256) 2) = n - 256 := by rw [JZ]; exact aCt (by omega)
  rw [e]
  cases s <;> refine ⟨by decide, by decide, by decide, by decide, by decide, by decide, lA _ _, ?_⟩ <;> · unfold fSz; rw [if_pos (by decide)]; omega
theorem auR {n : Nat} {s : Bool} (hn : n < 65792) (r : List UInt8) : Rb (nM (plD n s) 1 ++ (ZN n ++ r)) = .ok (⟨n, n, true, s⟩, 1 + (ZN n).length) := by
 obtain ⟨f1, f2, f3, f4, f5, f6, f7, f8⟩ := aA4 s hn
 have h1 := axU (l := nM (plD n s) 1) (r := ZN n ++ r) (n := 1) (lA _ _)
 have h2 := axU (l := ZN n) (r := r) (n := (ZN n).length) rfl
 have e1 : rZ (nM (plD n s) 1) = plD n s := by rw [JZ]; exact aCt (by omega)
 unfold Rb
 rw [h1.1, h1.2, e1, if_neg (by simp), if_neg (by omega)]
 unfold abW fS2
 rw [f2, f3, f4, <- f7]
 have hp : 0 < (ZN n).length := by rw [f7]; split <;> omega
 have o1 : opS (ZN n ++ r, 0) 0 = (ZN n ++ r, 0) := rfl
 have o2 : opV (ZN n ++ r, 0) 0 = 0 := rfl
 have o3 : opS (ZN n ++ r, 0) (ZN n).length = (r, 0) := by unfold opS; rw [if_pos hp]; exact h2.1
 have o4 : opV (ZN n ++ r, 0) (ZN n).length = rZ (ZN n) := by unfold opV; rw [if_pos hp]; exact h2.2
 simp only [if_true, o1, o2, o3, o4, f8, f6]
 unfold ZZ
 rw [if_neg (by simp), if_neg (by simp), decide_eq_true hp]
 have e9 : (nM (plD n s) 1 ++ (ZN n ++ r)).length - r.length = 1 + (ZN n).length := by
  rw [aB7, aB7, lA]
  omega
 rw [e9]
theorem aAk : rZ [40, 181, 47, 253] = 4247762216 := by decide
theorem arS {b T : List UInt8} {s : Bool} : Pq ⟨b.length, b.length, true, s⟩ T b = if s then (match afD T b with | .error e => .error e | .ok l' => .ok (b, l')) else .ok (b, T) := by
 unfold Pq
 rw [if_neg (by simp)]
 all_goals (cases s <;> rfl)
theorem axP {b r : List UInt8} : afD (nM (XN b) 4 ++ r) b = .ok r := by
 unfold afD
 have hl : (nM (XN b) 4).length = 4 := lA _ _
 have e1 : (nM (XN b) 4 ++ r).take 4 = nM (XN b) 4 := by rw [aC2 (by omega), aCg (by omega)]
 have e2 : (nM (XN b) 4 ++ r).drop 4 = r := aDK hl
 have e3 : rZ (nM (XN b) 4) = XN b % 2 ^ 32 := JZ 4 (XN b)
 rw [e1, e2, e3, if_neg (by rw [aB7, hl]; omega), if_neg (by simp)]
def enT (b : List UInt8) (s : Bool) : List UInt8 := if s then nM (XN b) 4 else []
def enF (b blk : List UInt8) (s : Bool) : List UInt8 := FZ b.length s ++ (blk ++ enT b s)
theorem auU {b blk T : List UInt8} {win room : Nat} {s : Bool} (hb : b.length < 65792) (hw : b.length <= win) (hr : b.length <= room) (hblk : Wl (blk ++ T) [] b.length room = some (.ok (b, T, true))) :
 afT ((FZ b.length s).drop 4 ++ (blk ++ T)) win room = some (Pq ⟨b.length, b.length, true, s⟩ T b) := by
 have e0 : (FZ b.length s).drop 4 ++ (blk ++ T) = nM (plD b.length s) 1 ++ (ZN b.length ++ (blk ++ T)) := by
  rw [Z3]
  show (nM (plD b.length s) 1 ++ ZN b.length) ++ _ = _
  rw [aCr]
 rw [e0]
 unfold afT
 rw [auR hb]
 have : ¬ (win < b.length ∨ (true = true /\ room < b.length)) := by rintro (h | h) <;> omega
 show (if win < b.length ∨ (true = true /\ room < b.length) then _ else _) = _
 rw [if_neg this]
 have hd : (nM (plD b.length s) 1 ++ (ZN b.length ++ (blk ++ T))).drop (1 + (ZN b.length).length) = blk ++ T := by
  rw [<- aCr, aDK (by rw [aB7, lA])]
 rw [hd, QX]
 simp only [hblk]
 simp [amB]
theorem aqB {b r : List UInt8} {s : Bool} : Pq ⟨b.length, b.length, true, s⟩ (enT b s ++ r) b = .ok (b, r) := by
 rw [arS]
 unfold enT
 cases s with
 | false => rfl
 | true =>
   simp only [if_true]
   rw [axP]
theorem awD {b blk : List UInt8} {log most : Nat} {s : Bool} (hb : b.length < 65792) (hw : b.length <= 2 ^ log) (hr : b.length <= most) (hblk : ∀ T, Wl (blk ++ T) [] b.length most = some (.ok (b, T, true))) :
 dec (enF b blk s) log most = some (.ok (b, 1, 0)) := by
 unfold dec enF
 have h4 : (FZ b.length s ++ (blk ++ enT b s)).take 4 = [40, 181, 47, 253] := by rw [Z3] <;> rfl
 have hd : (FZ b.length s ++ (blk ++ enT b s)).drop 4 = (FZ b.length s).drop 4 ++ (blk ++ enT b s) := by rw [Z3] <;> rfl
 have hl : 4 <= (FZ b.length s ++ (blk ++ enT b s)).length := by rw [Z3]; simp
 have ht := aqB (b := b) (r := []) (s := s)
 rw [aCM] at ht
 rw [afG, if_neg (by omega), if_neg (by omega), h4, aAk, if_pos rfl, hd, auU hb hw (by simpa using hr) (by simpa using hblk _), ht]
 obtain ⟨q, hq⟩ : ∃ q, (FZ b.length s ++ (blk ++ enT b s)).length = q + 1 := ⟨(FZ b.length s ++ (blk ++ enT b s)).length - 1, by omega⟩
 rw [hq]
 show afG _ _ (q + 1) [] ([] ++ b) (0 + 1) 0 = _
 rw [afG]
 simp
theorem aqK {n log most : Nat} {c : UInt8} {s : Bool} (hn : n < 65792) (hw : n <= 2 ^ log) (hr : n <= most) : dec (enF (List.replicate n c) (Zd n c true) s) log most = some (.ok (List.replicate n c, 1, 0)) := by
 refine awD (by simpa using hn) (by simpa using hw) (by simpa using hr) fun T => ?_
 rw [awC (by simp) (by omega), if_neg (by simp; omega)]
 simp
def aAh (b : List UInt8) : List UInt8 := b3 (8 * b.length + 1) ++ b
theorem awF {b blk : List UInt8} {s : Bool} : (enF b blk s).length <= 11 + blk.length := by
 unfold enF enT
 have := aaC b.length s
 rw [aB7, aB7]
 split
 .rw [lA]; omega
 .simp; omega
theorem QC {a b : Nat} (k : Nat) (h : b < 2 ^ k) : a * 2 ^ k ||| b = a * 2 ^ k + b := by
 rw [<- Nat.shiftLeft_eq, Nat.shiftLeft_add_eq_or_of_lt h]
def wP (k n : Nat) : List UInt8 := if n < 32 then nM (n * 8 + k) 1 else if n < 4096 then nM (n * 16 + 4 + k) 2 else nM (n * 16 + 12 + k) 3
theorem Qw (k n : Nat) : (wP k n).length <= 3 := by
 unfold wP; split
 .simp [lA]
 .split <;> simp [lA]
end Go.Proofs.YtoecppploooloaaGreatDoor
namespace Go.Pu
def U3 (w : Nat) : Nat := if w = 0 then 0 else 2 ^ (w - 1)
def nF (l : List Nat) : Nat := (l.map U3).sum
def Ch (d : Nat) (l : List Nat) : Bool := l.all fun w => decide (w <= d)
def pI (l : List Nat) : Nat :=
 if Ch 11 l = true /\ 2 <= l.length /\ l.length <= 256 /\ l.getLast? ≠ some 0 /\ 2 ^ (nF l).log2 = nF l /\ (nF l).log2 <= 11 /\ Ch (nF l).log2 l = true then (nF l).log2 else 0
theorem acR (a b : List Nat) : nF (a ++ b) = nF a + nF b := by simp [nF]
theorem rT (w : Nat) (l : List Nat) : nF (w :: l) = U3 w + nF l := by simp [nF]
theorem amU {w : Nat} (h : w <= 11) : U3 w <= 1024 := by
 unfold U3
 split
 .omega
 .have : 2 ^ (w - 1) <= 2 ^ 10 := aCn (by omega) (by omega)
  omega
theorem Yt : ∀ {l : List Nat}, (∀ w ∈ l, w <= 11) -> nF l <= 1024 * l.length
 | [], _ => by simp [nF]
 | w :: l, h => by
   have h1 := amU (h w (aCA ..))
   have h2 := Yt fun x hx => h x (aCh _ hx)
   rw [rT, aCl]; omega
theorem ahV {w : Nat} : ∀ {l : List Nat}, w ∈ l -> U3 w <= nF l
 | [], h => by cases h
 | x :: l, h => by
   rw [rT]
   rcases aCS.1 h with rfl | h
   .omega
   .have := ahV h; omega
theorem CJ {d : Nat} {l : List Nat} : Ch d l = true ↔ ∀ w ∈ l, w <= d := by simp [Ch]
theorem asS : ∀ (s : Nat), 0 < s -> ((s &&& (s - 1) = 0) ↔ 2 ^ s.log2 = s) := by
 intro s
 induction s using Nat.strongRecOn with
 | ind s ih =>
   intro h
   by_cases h1 : s = 1
   .subst h1; decide
   .have hl : s.log2 = (s / 2).log2 + 1 := by
     rw [Nat.log2_def, if_pos (by omega)]
    have hd : (s &&& (s - 1)) / 2 = s / 2 &&& (s - 1) / 2 := Nat.and_div_two
    have hm : (s &&& (s - 1)) % 2 = 0 := by
     rcases Nat.mod_two_eq_zero_or_one (s &&& (s - 1)) with h' | h'
     .exact h'
     .rw [Nat.and_mod_two_eq_one] at h'; omega
    rw [hl, aDw]
    rcases Nat.mod_two_eq_zero_or_one s with h2 | h2
    .have he : (s - 1) / 2 = s / 2 - 1 := by omega
     rw [he] at hd
     have := ih (s / 2) (by omega) (by omega)
     constructor
     .intro h0
      rw [h0] at hd
      have := this.1 (by omega)
      omega
     .intro h0
      have := this.2 (by omega)
      omega
    .have he : (s - 1) / 2 = s / 2 := by omega
     rw [he, Nat.and_self] at hd
     constructor
     .intro h0; omega
     .intro h0; omega
theorem OO {l : List Nat} {d : Nat} (h : pI l = d) (hd : d ≠ 0) : (∀ w ∈ l, w <= d) /\ d <= 11 /\ 2 <= l.length /\ l.length <= 256 /\ l.getLast? ≠ some 0 /\ nF l = 2 ^ d := by
 unfold pI at h
 split at h
 .rename_i hh
  obtain ⟨h1, h2, h3, h4, h5, h6, h7⟩ := hh
  subst h
  exact ⟨CJ.1 h7, h6, h2, h3, h4, h5.symm⟩
 .exact absurd h.symm hd
theorem aoM {l : List Nat} {d : Nat} (h1 : ∀ w ∈ l, w <= d) (h2 : d <= 11) (h3 : 2 <= l.length) (h4 : l.length <= 256) (h5 : l.getLast? ≠ some 0) (h6 : nF l = 2 ^ d) : pI l = d := by
 unfold pI
 have hl : (nF l).log2 = d := by rw [h6, Nat.log2_two_pow]
 rw [hl, if_pos ⟨CJ.2 fun w hw => aCV (h1 w hw) h2, h3, h4, h5, h6.symm, h2, CJ.2 h1⟩]
def xS (l : List Nat) (w : Nat) : Nat := nF (l.filter fun x => decide (x < w))
def L6 (l : List Nat) (s : Nat) : Nat := xS l (l.getD s 0) + (l.take s).count (l.getD s 0) * 2 ^ (l.getD s 0 - 1)
def HQ (l : List Nat) (d s : Nat) : Nat × Nat := if l.getD s 0 = 0 then (0, 0) else (d + 1 - l.getD s 0, L6 l s / 2 ^ (l.getD s 0 - 1))
theorem MI (l : List Nat) (w : Nat) (hw : 1 <= w) : xS l (w + 1) = xS l w + l.count w * 2 ^ (w - 1) := by
 unfold xS
 induction l with
 | nil => simp [nF]
 | cons x l ih =>
   rw [List.count_cons, aDU, aDU]
   by_cases h1 : x < w
   .rw [if_pos (by simp; omega), if_pos (by simp; omega), rT, rT, ih]
    have : (x == w) = false := by simp; omega
    rw [this]; simp; omega
   .by_cases h2 : x = w
    .subst h2
     rw [if_pos (by simp), if_neg (by simp), rT, ih]
     have : U3 x = 2 ^ (x - 1) := by unfold U3; rw [if_neg (by omega)]
     rw [this]; simp [aCQ]; omega
    .rw [if_neg (by simp; omega), if_neg (by simp; omega), ih]
     have : (x == w) = false := by simpa using h2
     rw [this]; simp
theorem abU (l : List Nat) : xS l 1 = 0 := by
 unfold xS
 induction l with
 | nil => rfl
 | cons x l ih =>
   rw [aDU]
   split
   .rename_i h
    have : x = 0 := by simp at h; omega
    subst this
    rw [rT, ih] <;> rfl
   .exact ih
theorem V2 {l : List Nat} {d : Nat} (h : ∀ w ∈ l, w <= d) : xS l (d + 1) = nF l := by
 unfold xS
 rw [List.filter_eq_self.2 fun a ha => by have := h a ha; simp; omega]
theorem abS {l : List Nat} {d w : Nat} (hs : nF l = 2 ^ d) (hw : w <= d + 1) (h1 : 1 <= w) : 2 ^ (w - 1) ∣ xS l w := by
 have hsplit : ∀ l : List Nat, nF l = xS l w + nF (l.filter fun x => decide (w <= x)) := by
  intro l
  unfold xS
  induction l with
  | nil => rfl
  | cons x l ih =>
    rw [aDU, aDU, rT, ih]
    by_cases h : x < w
    .rw [if_pos (by simpa using h), if_neg (by simp; omega), rT]; omega
    .rw [if_neg (by simpa using h), if_pos (by simp; omega), rT]; omega
 have hhigh : 2 ^ (w - 1) ∣ nF (l.filter fun x => decide (w <= x)) := by
  generalize hL : l.filter (fun x => decide (w <= x)) = L
  have hge : ∀ x ∈ L, w <= x := fun x hx => by rw [<- hL] at hx; simpa using (aEi.1 hx).2
  clear hL
  induction L with
  | nil => exact Nat.dvd_zero _
  | cons x L ih =>
    rw [rT]
    refine Nat.dvd_add ?_ (ih fun y hy => hge y (aCh _ hy))
    have := hge x (aCA ..)
    unfold U3
    rw [if_neg (by omega)]
    exact aEk 2 (by omega)
 have htot : 2 ^ (w - 1) ∣ nF l := by rw [hs]; exact aEk 2 (by omega)
 rw [hsplit l] at htot
 exact (Nat.dvd_add_left hhigh).1 htot
theorem Gk {l : List Nat} {s : Nat} (h : s < l.length) : l.getD s 0 ∈ l := by
 rw [aB9, aB8 h]; exact aCW h
theorem arV {l : List Nat} {s : Nat} (h : s < l.length) : (l.take s).count (l.getD s 0) + 1 <= l.count (l.getD s 0) := by
 have hg : l.getD s 0 = l[s] := by rw [aB9, aB8 h] <;> rfl
 have e : l = l.take s ++ l[s] :: l.drop (s + 1) := by rw [<- aDa h, aDy]
 rw [hg]
 have : l.count l[s] = (l.take s ++ l[s] :: l.drop (s + 1)).count l[s] := by rw [<- e]
 rw [this, List.count_append, List.count_cons]; simp
theorem TT {l : List Nat} {a b : Nat} (h1 : 1 <= a) (h : a <= b) : xS l a <= xS l b := by
 obtain ⟨c, rfl⟩ := Nat.exists_eq_add_of_le h
 induction c with
 | zero => exact aCb _
 | succ c ih =>
   have := MI l (a + c) (by omega)
   rw [<- aDr]
   have := ih (by omega)
   omega
theorem auM {l : List Nat} {s : Nat} (h : s < l.length) (h0 : l.getD s 0 ≠ 0) : L6 l s + 2 ^ (l.getD s 0 - 1) <= xS l (l.getD s 0 + 1) := by
 have h1 := arV h
 rw [MI l _ (by omega)]
 unfold L6
 have := aCv (2 ^ (l.getD s 0 - 1)) h1
 rw [aCQ] at this
 omega
theorem auE {l : List Nat} {s d : Nat} (h : s < l.length) (h0 : l.getD s 0 ≠ 0) (hs : nF l = 2 ^ d) (hd : l.getD s 0 <= d) : 2 ^ (l.getD s 0 - 1) ∣ L6 l s :=
 Nat.dvd_add (abS hs (by omega) (by omega)) (Nat.dvd_mul_left _ _)
theorem aoK {l : List Nat} {s d : Nat} (h : s < l.length) (h0 : l.getD s 0 ≠ 0) (hs : nF l = 2 ^ d) (hall : ∀ w ∈ l, w <= d) : L6 l s / 2 ^ (l.getD s 0 - 1) < 2 ^ (d + 1 - l.getD s 0) := by
 have hd := hall _ (Gk h)
 have h1 := auM h h0
 have h2 := TT (l := l) (a := l.getD s 0 + 1) (b := d + 1) (by omega) (by omega)
 rw [V2 hall, hs] at h2
 rw [aDR (aCH _), <- aC6, show d + 1 - l.getD s 0 + (l.getD s 0 - 1) = d from by omega]
 have := aCH (l.getD s 0 - 1)
 omega
theorem aeP {l : List Nat} {s t d : Nat} (hsl : s < l.length) (htl : t < l.length) (hst : s ≠ t) (hs0 : l.getD s 0 ≠ 0) (ht0 : l.getD t 0 ≠ 0) (hw : l.getD t 0 <= l.getD s 0) (hs : nF l = 2 ^ d) (hall : ∀ w ∈ l, w <= d) :
 L6 l t / 2 ^ (l.getD t 0 - 1) / 2 ^ (l.getD s 0 - l.getD t 0) ≠ L6 l s / 2 ^ (l.getD s 0 - 1) := by
 rw [aDi, <- aC6, show l.getD t 0 - 1 + (l.getD s 0 - l.getD t 0) = l.getD s 0 - 1 from by omega]
 have hp := aCH (l.getD s 0 - 1)
 obtain ⟨q, hq⟩ := auE hsl hs0 hs (hall _ (Gk hsl))
 rw [hq, aD8 _ hp]
 rcases aCk (l.getD t 0) (l.getD s 0) with hlt | hge
 .have h1 := auM htl ht0
  have h2 := TT (l := l) (a := l.getD t 0 + 1) (b := l.getD s 0) (by omega) (by omega)
  have h3 : xS l (l.getD s 0) <= L6 l s := Nat.le_add_right _ _
  have hp2 := aCH (l.getD t 0 - 1)
  have : L6 l t / 2 ^ (l.getD s 0 - 1) < q := by
   rw [aDR hp, aCO]
   omega
  omega
 .have he : l.getD t 0 = l.getD s 0 := by omega
  have hne : (l.take t).count (l.getD t 0) ≠ (l.take s).count (l.getD s 0) := by
   have key : ∀ {a b : Nat}, a < b -> b < l.length -> l.getD a 0 = l.getD b 0 -> (l.take a).count (l.getD a 0) < (l.take b).count (l.getD b 0) := by
    intro a b hab hb hab2
    have h1 := arV (l := l.take b) (s := a) (by rw [aCf]; omega)
    have h2 : (l.take b).getD a 0 = l.getD a 0 := by
     rw [aB9, aB9, aCN hab]
    rw [h2, List.take_take, aCL (by omega)] at h1
    rw [<- hab2]; omega
   rcases Nat.lt_or_gt_of_ne hst with h | h
   .have := key h htl he.symm; omega
   .have := key h hsl he; omega
  intro h
  apply hne
  unfold L6 at hq h
  rw [he] at h ⊢
  obtain ⟨r, hr⟩ := abS hs (by have := hall _ (Gk hsl); omega) (by omega : 1 <= l.getD s 0)
  rw [hr] at hq h
  generalize 2 ^ (l.getD s 0 - 1) = p at *
  generalize (l.take t).count (l.getD s 0) = x at *
  generalize (l.take s).count (l.getD s 0) = y at *
  rw [aCO x p, <- aDL, aD8 _ hp] at h
  rw [aCO y p, <- aDL] at hq
  have := Nat.eq_of_mul_eq_mul_left hp hq
  omega
def vY (o : Nat) : Nat := if o = 0 then 0 else 2 ^ (11 - o)
def nL (out : List Nat) : Nat := (out.map vY).sum
theorem uQ (o : Nat) (l : List Nat) : nL (o :: l) = vY o + nL l := by simp [nL]
theorem TZ : ∀ {l : List Nat} {i : Nat} (o : Nat) (h : i < l.length), nL (l.set i o) + vY l[i] = nL l + vY o
 | [], i, o, h => by simp at h
 | x :: l, 0, o, h => by rw [aCa, uQ, uQ, aEc]; omega
 | x :: l, i + 1, o, h => by
   rw [aCc, uQ, uQ, aDj]
   have := TZ (l := l) (i := i) o (by simpa using h)
   omega
theorem WV : ∀ {l : List Nat}, (∀ o ∈ l, o = 0 ∨ o = 11) -> nL l <= l.length
 | [], _ => by simp [nL]
 | x :: l, h => by
   have h1 := h x (aCA ..)
   have h2 := WV fun y hy => h y (aCh _ hy)
   rw [uQ, aCl]
   have : vY x <= 1 := by
    rcases h1 with rfl | rfl <;> decide
   omega
theorem adQ {M : Nat} (hM : M <= 11) : ∀ {l : List Nat}, (∀ o ∈ l, o <= M) -> 2 ^ (11 - M) ∣ nL l
 | [], _ => Nat.dvd_zero _
 | x :: l, h => by
   rw [uQ]
   refine Nat.dvd_add ?_ (adQ hM fun y hy => h y (aCh _ hy))
   have := h x (aCA ..)
   unfold vY
   split
   .exact Nat.dvd_zero _
   .exact aEk 2 (by omega)
theorem aeO {o : Nat} : ∀ {l : List Nat}, o ∈ l -> vY o <= nL l
 | [], h => by cases h
 | x :: l, h => by
   rw [uQ]
   rcases aCS.1 h with rfl | h
   .omega
   .have := aeO h; omega
theorem apV {o : Nat} (h : o ≠ 0) : 1 <= vY o := by
 unfold vY; rw [if_neg h]; exact Nat.one_le_two_pow
theorem Za : ∀ {l : List Nat} {i j : Nat} (hi : i < l.length) (hj : j < l.length), i < j -> vY l[i] + vY l[j] <= nL l
 | [], i, j, hi, hj, h => by simp at hi
 | x :: l, 0, j + 1, hi, hj, h => by
   have := aeO (l := l) (aCW (show j < l.length by simpa using hj))
   rw [uQ, aEc, aDj]; omega
 | x :: l, i + 1, j + 1, hi, hj, h => by
   have := Za (l := l) (i := i) (j := j) (by simpa using hi) (by simpa using hj) (by omega)
   rw [uQ, aDj, aDj]; omega
def wOf (d o : Nat) : Nat := if o = 0 then 0 else d + 1 - o
theorem ZB {d : Nat} (hd : d <= 11) : ∀ {l : List Nat}, (∀ o ∈ l, o <= d) -> nF (l.map (wOf d)) * 2 ^ (11 - d) = nL l
 | [], _ => by simp [nF, nL]
 | x :: l, h => by
   have h1 := h x (aCA ..)
   rw [aCz, rT, uQ, aCQ, ZB hd fun y hy => h y (aCh _ hy)]
   congr 1
   unfold U3 wOf vY
   by_cases h0 : x = 0
   .subst h0; simp
   .rw [if_neg h0, if_neg h0, if_neg (by omega), <- aC6]
    congr 1; omega
theorem atH {d : Nat} {l : List Nat} (hd : d <= 11) (h : ∀ o ∈ l, o <= d) (hk : nL l = 2048) : nF (l.map (wOf d)) = 2 ^ d := by
 have := ZB hd h
 rw [hk, show (2048 : Nat) = 2 ^ d * 2 ^ (11 - d) from by rw [<- aC6, show d + (11 - d) = 11 from by omega]] at this
 exact Nat.eq_of_mul_eq_mul_right (aCH _) this
end Go.Pu
namespace Go.Proofs.YtoecppploooloaaGreatDoor
open Go Go.En Go.Pu
set_option maxRecDepth 4000
abbrev kR (l : List UInt8) : List Nat := l.map (·.toNat)
theorem nV (l : List UInt8) : (kR l).length = l.length := by simp
theorem aiQ {l : List UInt8} {i : Nat} (h : i < l.length) : (kR l)[i]? = some (l[i].toNat) := by rw [aCp, aB8 h] <;> rfl
theorem TY {l : List UInt8} {i : Nat} (h : i < l.length) : kR (l.take (i + 1)) = kR (l.take i) ++ [l[i].toNat] := by
 unfold kR
 rw [aDB, aB8 h, aCC] <;> rfl
theorem aoT {l : List UInt8} (h : 0 < l.length) : (kR l).getLast? = some 0 ↔ l[l.length - 1].toNat = 0 := by
 rw [aD0, nV, aiQ (by omega)]
 simp
theorem avQ (l : List UInt8) : ∀ w ∈ kR l, w < 256 := fun w hw => by
 obtain ⟨x, _, rfl⟩ := aCU.1 hw
 exact aC7 x
theorem ajR {d : Nat} {l : List Nat} {x : Nat} : Ch d (l ++ [x]) = (Ch d l && decide (x <= d)) := by
 unfold Ch; rw [List.all_append]; simp
theorem akI {d : Nat} {l : List Nat} {i : Nat} (h : Ch d (l.take i) = false) : Ch d l = false := by
 cases hq : Ch d l with
 | false => rfl
 | true =>
   rw [CJ] at hq
   have : Ch d (l.take i) = true := CJ.2 fun w hw => hq w (aC5 hw)
   rw [this] at h; cases h
theorem avR {v : aEm} {l : List UInt8} {w : aEl} (h : Bs w v l) (hl : l.length <= 100000) :
 jE pg D2 #[v] w (fun r w' => r = .tuple #[.int .i64 (if Ch 11 (kR l) = true then nF (kR l) else 0 : Nat), .bool (Ch 11 (kR l))] /\ w' = w) := by
 refine Wd ?_
 obtain ⟨a, n, c, rfl, hn, hc, hh⟩ := id h
 rw [aB6] at hn
 subst hn
 unfold Vk Gp F5 HE Il HZ
 simp (disch := omega) only [gI, fQ, dJ]
 unfold H7 HY
 refine kP.rule (fun m (t : aEm × aEm) w' => ∃ i : Nat, m = l.length - i /\ t = (.int .i64 (nF (kR (l.take i)) : Nat), .int .i64 i) /\ i <= l.length /\ Ch 11 (kR (l.take i)) = true /\ w' = w) l.length
  ⟨0, rfl, by simp [nF], by omega, by simp [Ch], rfl⟩ ?_
 rintro m t w1 ⟨i, rfl, rfl, hi, hle, rfl⟩
 unfold CP Ik
 by_cases hlt : i < l.length
 .have d1 : decide ((i : Int) < (l.length : Int)) = true := by simp; omega
  obtain ⟨b, off, rfl, hcell⟩ := slA h (by omega)
  have g1 := hcell i hlt
  rw [aCp, aB8 hlt] at g1
  simp only [aCB, nT] at g1
  have ht := TY hlt
  have hx : (l[i]).toNat < 256 := aC7 _
  have hwl := Yt (CJ.1 hle)
  rw [nV, aCf] at hwl
  have hsn : Ch 11 (kR (l.take (i + 1))) = (Ch 11 (kR (l.take i)) && decide ((l[i]).toNat <= 11)) := by rw [ht, ajR]
  have hwn : nF (kR (l.take (i + 1))) = nF (kR (l.take i)) + U3 (l[i]).toNat := by rw [ht, acR, rT] <;> rfl
  have hbad : Ch 11 (kR (l.take (i + 1))) = false -> Ch 11 (kR l) = false := fun h => akI (i := i + 1) (by rw [<- aDF]; exact h)
  generalize (l[i]).toNat = x at *
  unfold CL
  by_cases h11 : 11 < x
  .have d2 : decide ((11 : Int) < (x : Int)) = true := by simp; omega
   have hf := hbad (by rw [hsn, hle, decide_eq_false (by omega)] <;> rfl)
   simp (disch := omega) only [gI, gY, d1, fR, aB0, hJ, gX, dJ, gK, g1, gD, hZ, d2, iC, jF, iE, and_true, gB]
   rw [hf]; simp
  .have d2 : decide ((11 : Int) < (x : Int)) = false := by simp; omega
   have hle1 : Ch 11 (kR (l.take (i + 1))) = true := by rw [hsn, hle, decide_eq_true (by omega)] <;> rfl
   have hwp := amU (w := x) (by omega)
   by_cases h0 : 0 < x
   .have d3 : decide ((0 : Int) < (x : Int)) = true := by simp; omega
    have e1 : (x : Int) - 1 = ((x - 1 : Nat) : Int) := by omega
    have hsh := apE (n := x - 1) (by omega)
    have hpw : U3 x = 2 ^ (x - 1) := by unfold U3; rw [if_neg (by omega)]
    have e2 : ((nF (kR (l.take i)) : Nat) : Int) + ((2 ^ (x - 1) : Nat) : Int) = ((nF (kR (l.take i)) + 2 ^ (x - 1) : Nat) : Int) := by omega
    rw [hpw] at hwp hwn
    simp (disch := omega) only [gI, gY, d1, fR, aB0, hJ, gX, dJ, gK, g1, gD, hZ, d2, d3, iC, e1, jF, iE, hsh, e2, gB, and_true, fV]
    exact ⟨l.length - (i + 1), by omega, i + 1, rfl, by rw [hwn] <;> rfl, by omega, hle1⟩
   .have d3 : decide ((0 : Int) < (x : Int)) = false := by simp; omega
    have hpw : U3 x = 0 := by unfold U3; rw [if_pos (by omega)]
    simp (disch := omega) only [gI, gY, d1, fR, aB0, hJ, gX, dJ, gK, g1, gD, hZ, d2, d3, iC, fV, and_true, gB]
    exact ⟨l.length - (i + 1), by omega, i + 1, rfl, by rw [hwn, hpw] <;> rfl, by omega, hle1⟩
 .have d1 : decide ((i : Int) < (l.length : Int)) = false := by simp; omega
  obtain rfl : i = l.length := by omega
  rw [aDD] at *
  unfold CI
  simp (disch := omega) only [gI, gY, d1, dJ, and_true, fV]
  rw [hle]; simp
theorem azV {a b : Nat} (ha : a < 2 ^ 63) (hb : b < 2 ^ 63) : G1 .i64 (a : Int) (b : Int) = ((a &&& b : Nat) : Int) := by
 unfold G1
 have e : IntKind.i64.bits = 64 := rfl
 have h := Nat.and_lt_two_pow (n := 63) a hb
 rw [e, BitVec.ofInt_natCast, BitVec.ofInt_natCast, BitVec.toNat_and, BitVec.toNat_ofNat, BitVec.toNat_ofNat, aCt (by omega), aCt (by omega)]
 exact gX (by omega) (by omega)
theorem aAo {v : aEm} {l : List UInt8} {w : aEl} (h : Bs w v l) (h0 : 0 < l.length) (hl : l.length <= 100000) :
 jE pg uT #[v] w (fun r w' => (∃ m : Nat, r = .int .u8 m /\ (∀ x ∈ kR l, x <= m) /\ m ∈ kR l) /\ w' = w) := by
 refine MY ?_
 obtain ⟨b, off, c, rfl, hc, hcell⟩ := Yc h h0
 unfold JE yH yP
 have d0 : decide ((l.length : Int) < 1) = false := by simp; omega
 have g0 := hcell 0 h0
 have t0 : (0 : Int).toNat = 0 := rfl
 simp (disch := omega) only [gI, fQ, dJ, gY, d0, fV]
 unfold Au Aw
 simp (disch := omega) only [gI, fR, t0, dJ, gK, g0, gD]
 unfold AD AF zQ zV zB
 refine kP.rule (fun m (t : aEm × aEm) w' => ∃ i q : Nat, m = l.length - i /\ t = (.int .u8 q, .int .i64 i) /\ 1 <= i /\ i <= l.length /\ (∀ x ∈ kR (l.take i), x <= q) /\ q ∈ kR (l.take i) /\ w' = w) (l.length - 1)
  ⟨1, l[0].toNat, by omega, rfl, by omega, by omega, ?_, ?_, rfl⟩ ?_
 .intro x hx
  rw [TY (i := 0) h0] at hx
  simp at hx; omega
 .rw [TY (i := 0) h0]; simp
 rintro m t w1 ⟨i, q, rfl, rfl, hi1, hi, hle, hmem, rfl⟩
 unfold uC
 by_cases hlt : i < l.length
 .have d1 : decide ((i : Int) < (l.length : Int)) = true := by simp; omega
  have g1 := hcell i hlt
  have ht := TY hlt
  generalize (l[i]).toNat = x at *
  have hmx : (if (q : Int) <= (x : Int) then (x : Int) else (q : Int)) = ((max q x : Nat) : Int) := by split <;> omega
  have hmx2 : (if (x : Int) > (q : Int) then (x : Int) else (q : Int)) = ((max q x : Nat) : Int) := by split <;> omega
  have hmx3 : (if (q : Int) < (x : Int) then (x : Int) else (q : Int)) = ((max q x : Nat) : Int) := by split <;> omega
  simp (disch := omega) only [gI, fQ, fR, aB0, hJ, gX, dJ, gK, gY, d1, g1, gD, iQ, hmx2, and_true, gB]
  refine ⟨l.length - (i + 1), by omega, i + 1, max q x, rfl, rfl, by omega, by omega, ?_, ?_⟩
  .intro y hy
   rw [ht] at hy
   rcases aC3.1 hy with hy | hy
   .have := hle y hy; omega
   .rw [aD4.1 hy]; omega
  .rw [ht, aC3]
   rcases aEh q x with h | h
   .rw [Nat.max_eq_right h]; exact .inr (aD4.2 rfl)
   .rw [Nat.max_eq_left h]; exact .inl hmem
 .have d1 : decide ((i : Int) < (l.length : Int)) = false := by simp; omega
  obtain rfl : i = l.length := by omega
  rw [aDD] at *
  unfold uA
  simp (disch := omega) only [gI, fQ, hJ, gX, dJ, gY, d1, and_true, fV]
  exact ⟨q, rfl, hle, hmem⟩
theorem Z4 {v : aEm} {l : List UInt8} {w : aEl} (h : Bs w v l) (hl : l.length <= 100000) :
 jE pg AI #[v] w (fun r w' => r = .int .i64 (pI (kR l) : Nat) /\ w' = w) := by
 refine VM ?_
 obtain ⟨a, n, c, rfl, hn, hc, hh⟩ := id h
 rw [aB6] at hn
 subst hn
 have no : ¬ (Ch 11 (kR l) = true /\ 2 <= (kR l).length /\ (kR l).length <= 256 /\ (kR l).getLast? ≠ some 0 /\ 2 ^ (nF (kR l)).log2 = nF (kR l) /\ (nF (kR l)).log2 <= 11 /\ Ch (nF (kR l)).log2 (kR l) = true) -> pI (kR l) = 0 := fun h => by
  unfold pI; rw [if_neg h]
 have hnl := nV l
 unfold U6 HS
 refine (avR h hl).mono ?_
 rintro r w1 ⟨rfl, rfl⟩
 cases hok : Ch 11 (kR l) with
 | false =>
   have := no (by rw [hok]; simp)
   simp (disch := omega) only [gI, aBZ, if_false, jV, jW, dJ, iJ, aB3, gU, gR, if_true, gB, gJ, and_true]
   rw [this] <;> rfl
 | true =>
   have hw := Yt (CJ.1 hok)
   rw [hnl] at hw
   by_cases h2 : l.length < 2
   .have d2 : decide ((l.length : Int) < 2) = true := by simp; omega
    have := no (by omega)
    simp (disch := omega) only [gI, if_true, jV, jW, dJ, iJ, aB5, gT, gR, aBZ, if_false, gO, fQ, gY, d2, gU, gB, gJ, and_true]
    rw [this] <;> rfl
   have d2 : decide ((l.length : Int) < 2) = false := by simp; omega
   by_cases h3 : 256 < l.length
   .have d3 : decide ((256 : Int) < (l.length : Int)) = true := by simp; omega
    have := no (by omega)
    simp (disch := omega) only [gI, if_true, jV, jW, dJ, iJ, aB5, gT, gR, aBZ, if_false, gO, fQ, gY, d2, hZ, d3, gU, gB, gJ, and_true]
    rw [this] <;> rfl
   have d3 : decide ((256 : Int) < (l.length : Int)) = false := by simp; omega
   obtain ⟨b, off, rfl, hcell⟩ := slA h (by omega)
   have e1 : (l.length : Int) - 1 = ((l.length - 1 : Nat) : Int) := by omega
   have g1 := hcell (l.length - 1) (by omega)
   rw [aCp, aB8 (by omega)] at g1
   simp only [aCB, nT] at g1
   have hla := aoT (l := l) (by omega)
   have hmem : (l[l.length - 1]'(by omega)).toNat ∈ kR l := aCU.2 ⟨_, aCW _, rfl⟩
   generalize (l[l.length - 1]'(by omega)).toNat = x at *
   by_cases h4 : x = 0
   .have d4 : ((x : Int) == 0) = true := by rw [h4] <;> rfl
    have := no (fun h => h.2.2.2.1 (hla.2 h4))
    simp (disch := omega) only [gI, if_true, jV, jW, dJ, iJ, aB5, gT, gR, aBZ, if_false, gO, fQ, gY, d2, hZ, d3, iC, e1, gX, fR, aB0, gK, g1, gD, fT, iA, iI, d4, gU, gB, gJ, and_true]
    rw [this] <;> rfl
   have d4 : ((x : Int) == 0) = false := beq_eq_false_iff_ne.2 (by omega)
   have hwp := ahV hmem
   have hwx : 1 <= U3 x := by unfold U3; rw [if_neg h4]; exact Nat.one_le_two_pow
   obtain ⟨s, hs⟩ : ∃ s, nF (kR l) = s := ⟨_, rfl⟩
   rw [hs] at no hw hwp ⊢
   have e2 : (s : Int) - 1 = ((s - 1 : Nat) : Int) := by omega
   have e3 := azV (a := s) (b := s - 1) (by omega) (by omega)
   have hpw := asS s (by omega)
   have hlast : (kR l).getLast? ≠ some 0 := fun h => h4 (hla.1 h)
   simp only [if_true]
   by_cases h5 : s &&& (s - 1) = 0
   .have d5 : (((s &&& (s - 1) : Nat) : Int) != 0) = false := by rw [h5] <;> rfl
    have hlog := hpw.1 h5
    have hbl : bl s = s.log2 + 1 := by unfold bl; rw [if_neg (by omega)]
    have e4 : ((s.log2 + 1 : Nat) : Int) - 1 = (s.log2 : Int) := by omega
    have hb20 : bl s <= 20 := SR (by omega)
    simp (disch := omega) only [gI, jV, jW, dJ, iJ, aB5, gT, gR, aBZ, if_false, gO, fQ, gY, d2, hZ, d3, iC, e1, gX, fR, aB0, gK, g1, gD, fT, iA, iI, d4, e2, iN, e3, iH, d5, and_true, fV]
    refine (aAt s (by omega) w1).mono ?_
    rintro r w2 ⟨rfl, rfl⟩
    rw [hbl]
    by_cases h6 : 11 < s.log2
    .have d6 : decide ((11 : Int) < (s.log2 : Int)) = true := by simp; omega
     have := no (by omega)
     simp (disch := omega) only [iC, e4, gX, dJ, hZ, d6, gU, gR, if_true, gB, gJ, and_true]
     rw [this] <;> rfl
    have d6 : decide ((11 : Int) < (s.log2 : Int)) = false := by simp; omega
    simp (disch := omega) only [iC, e4, gX, dJ, hZ, d6, gT, gR, aBZ, if_false, gO]
    refine (aAo h (by omega) hl).mono ?_
    rintro r w3 ⟨⟨q, rfl, hq1, hq2⟩, rfl⟩
    have hq := avQ l q hq2
    by_cases h7 : s.log2 < q
    .have d7 : decide ((s.log2 : Int) < (q : Int)) = true := by simp; omega
     have := no (fun h => by have := CJ.1 h.2.2.2.2.2.2 q hq2; omega)
     simp (disch := omega) only [fL, gX, dJ, hZ, d7, and_true, gB]
     rw [this] <;> rfl
    .have d7 : decide ((s.log2 : Int) < (q : Int)) = false := by simp; omega
     have hyes : pI (kR l) = s.log2 := by
      unfold pI
      rw [hs, if_pos ⟨hok, by omega, by omega, hlast, hlog, by omega, CJ.2 fun y hy => by have := hq1 y hy; omega⟩]
     simp (disch := omega) only [fL, gX, dJ, hZ, d7, and_true, fV]
     rw [hyes]
   .have d5 : (((s &&& (s - 1) : Nat) : Int) != 0) = true := by simpa using h5
    have := no (fun h => h5 (hpw.2 h.2.2.2.2.1))
    simp (disch := omega) only [gI, jV, jW, dJ, iJ, aB5, gT, gR, aBZ, if_false, gO, fQ, gY, d2, hZ, d3, iC, e1, gX, fR, aB0, gK, g1, gD, fT, iA, iI, d4, e2, iN, e3, iH, d5, and_true, gB]
    rw [this] <;> rfl
end Go.Proofs.YtoecppploooloaaGreatDoor
namespace Go.Pu
open Go Go.En
def cc : List (Nat × Nat) -> List aEm
 | [] => []
 | e :: r => .int .i64 (e.1 : Nat) :: .int .i64 (e.2 : Nat) :: cc r
theorem aeC : ∀ L : List (Nat × Nat), (cc L).length = 2 * L.length
 | [] => rfl
 | e :: r => by rw [cc, aCl, aCl, aeC r, aCl]; omega
theorem amP : ∀ n : Nat, OZ n [Value.int .i64 0, Value.int .i64 0] = cc (List.replicate n (0, 0))
 | 0 => rfl
 | n + 1 => by
   have := amP n
   unfold OZ at *
   rw [aC9, aEa, this, aC9, cc] <;> rfl
theorem anF : ∀ {L : List (Nat × Nat)} {i : Nat} (h : i < L.length), ((cc L).drop (i * 2)).take 2 = [.int .i64 (L[i].1 : Nat), .int .i64 (L[i].2 : Nat)]
 | [], i, h => by simp at h
 | e :: r, 0, h => rfl
 | e :: r, i + 1, h => by
   have := anF (L := r) (i := i) (by simpa using h)
   rw [cc, show (i + 1) * 2 = i * 2 + 1 + 1 from by omega, List.drop_succ_cons, List.drop_succ_cons, aDj]
   exact this
theorem asZ : ∀ {L : List (Nat × Nat)} {i : Nat} (e : Nat × Nat), i < L.length -> ((cc L).set (i * 2) (.int .i64 (e.1 : Nat))).set (i * 2 + 1) (.int .i64 (e.2 : Nat)) = cc (L.set i e)
 | [], i, e, h => by simp at h
 | x :: r, 0, e, h => rfl
 | x :: r, i + 1, e, h => by
   have := asZ (L := r) (i := i) e (by simpa using h)
   rw [cc, show (i + 1) * 2 = i * 2 + 1 + 1 from by omega, aCc, aCc, aCc, aCc, this, aCc, cc]
def zR (l : List Nat) (d w i : Nat) : List (Nat × Nat) := (List.range l.length).map fun s => if l.getD s 0 < w ∨ (l.getD s 0 = w /\ s < i) then HQ l d s else (0, 0)
def rF (l : List Nat) (d : Nat) : List (Nat × Nat) := (List.range l.length).map (HQ l d)
theorem pR (l : List Nat) (d w i : Nat) : (zR l d w i).length = l.length := by simp [zR]
theorem DJ (l : List Nat) (d : Nat) : (rF l d).length = l.length := by simp [rF]
theorem V8 {l : List Nat} {d s : Nat} (h : s < l.length) : (rF l d)[s]? = some (HQ l d s) := by
 unfold rF; rw [aCp, aDY h] <;> rfl
theorem vQ {l : List Nat} {d w i s : Nat} (h : s < l.length) : (zR l d w i)[s]? = some (if l.getD s 0 < w ∨ (l.getD s 0 = w /\ s < i) then HQ l d s else (0, 0)) := by
 unfold zR; rw [aCp, aDY h] <;> rfl
theorem acX (l : List Nat) (d : Nat) : zR l d 1 0 = List.replicate l.length (0, 0) := by
 apply aDg
 intro s
 rcases aCk s l.length with h | h
 .rw [vQ h, aDs, if_pos h]
  congr 1
  split
  .rename_i hh
   unfold HQ
   rw [if_pos (by omega)]
  .rfl
 .rw [aCj (by rw [pR]; exact h), aCj (by simpa using h)]
theorem afQ {l : List Nat} {d w : Nat} : zR l d w l.length = zR l d (w + 1) 0 := by
 apply aDg
 intro s
 rcases aCk s l.length with h | h
 .rw [vQ h, vQ h]
  congr 1
  by_cases hh : l.getD s 0 < w + 1
  .rw [if_pos (by omega), if_pos (by omega)]
  .rw [if_neg (by omega), if_neg (by omega)]
 .rw [aCj (by rw [pR]; exact h), aCj (by rw [pR]; exact h)]
theorem ahO {l : List Nat} {d w : Nat} (hall : ∀ x ∈ l, x <= d) (hw : d < w) : zR l d w 0 = rF l d := by
 apply aDg
 intro s
 rcases aCk s l.length with h | h
 .rw [vQ h, V8 h, if_pos]
  have := hall _ (Gk h)
  omega
 .rw [aCj (by rw [pR]; exact h), aCj (by rw [DJ]; exact h)]
theorem agA {l : List Nat} {d w i : Nat} (h : i < l.length) (hw : l.getD i 0 ≠ w) : zR l d w (i + 1) = zR l d w i := by
 apply aDg
 intro s
 rcases aCk s l.length with hs | hs
 .rw [vQ hs, vQ hs]
  congr 1
  by_cases hsi : s = i
  .subst hsi
   by_cases h1 : l.getD s 0 < w
   .rw [if_pos (by omega), if_pos (by omega)]
   .rw [if_neg (by omega), if_neg (by omega)]
  .by_cases h1 : l.getD s 0 < w ∨ (l.getD s 0 = w /\ s < i)
   .rw [if_pos (by omega), if_pos h1]
   .rw [if_neg (by omega), if_neg h1]
 .rw [aCj (by rw [pR]; exact hs), aCj (by rw [pR]; exact hs)]
theorem aiE {l : List Nat} {d w i : Nat} (h : i < l.length) (hw : l.getD i 0 = w) : (zR l d w i).set i (HQ l d i) = zR l d w (i + 1) := by
 apply aDg
 intro s
 rw [List.getElem?_set]
 rcases aCk s l.length with hs | hs
 .by_cases hsi : i = s
  .subst hsi
   rw [if_pos rfl, if_pos (by rw [pR]; exact h), vQ (i := i + 1) hs, if_pos (by omega)]
  .rw [if_neg hsi, vQ (i := i) hs, vQ (i := i + 1) hs]
   congr 1
   by_cases h1 : l.getD s 0 < w ∨ (l.getD s 0 = w /\ s < i)
   .rw [if_pos h1, if_pos (by omega)]
   .rw [if_neg h1, if_neg (by omega)]
 .rw [if_neg (by omega), aCj (by rw [pR]; exact hs), aCj (by rw [pR]; exact hs)]
def I0 (l : List Nat) (w i : Nat) : Nat := xS l w + (l.take i).count w * 2 ^ (w - 1)
theorem akL (l : List Nat) : I0 l 1 0 = 0 := by unfold I0; rw [abU]; simp
theorem adK {l : List Nat} {w : Nat} (h : 1 <= w) : I0 l w l.length = I0 l (w + 1) 0 := by
 unfold I0
 rw [aDD, MI l w h]; simp
theorem adW {l : List Nat} {w i : Nat} (h : i < l.length) : I0 l w (i + 1) = I0 l w i + (if l.getD i 0 = w then 2 ^ (w - 1) else 0) := by
 have hg : l.getD i 0 = l[i] := by rw [aB9, aB8 h] <;> rfl
 unfold I0
 rw [aDB, aB8 h, List.count_append, hg]
 simp only [Option.toList, List.count_singleton]
 by_cases hw : l[i] = w
 .subst hw; simp [aCQ]; omega
 .rw [if_neg hw]
  have : (l[i] == w) = false := by simpa using hw
  rw [this]; simp
theorem anL {l : List Nat} {w i : Nat} (h : l.getD i 0 = w) : I0 l w i = L6 l i := by unfold I0 L6; rw [h]
theorem awT {l : List Nat} {d w i : Nat} (hs : nF l = 2 ^ d) (hall : ∀ x ∈ l, x <= d) (h1 : 1 <= w) (hw : w <= d) : I0 l w i <= 2 ^ d := by
 have h2 : I0 l w i <= xS l (w + 1) := by
  rw [MI l w h1]
  unfold I0
  have hc : (l.take i).count w <= l.count w := (List.take_sublist _ _).count_le _
  have := aCv (2 ^ (w - 1)) hc
  omega
 have h3 := TT (l := l) (a := w + 1) (b := d + 1) (by omega) (by omega)
 rw [V2 hall, hs] at h3
 omega
end Go.Pu
namespace Go.Proofs.YtoecppploooloaaGreatDoor
open Go Go.En Go.Pu
set_option maxRecDepth 4000
theorem avC {l : List UInt8} {i : Nat} (h : i < l.length) : (kR l).getD i 0 = l[i].toNat := by rw [aB9, aiQ h] <;> rfl
theorem amI {v : aEm} {l : List UInt8} {d : Nat} {w : aEl} (h : Bs w v l) (hd : pI (kR l) = d) (hd0 : d ≠ 0) :
 jE pg vL #[v] w (fun r w' => ∃ b, r = .tuple #[.slice (some ⟨b, 0, none⟩) l.length l.length, .int .i64 0] /\ w.heap.size <= b /\ lN w' b (cc (rF (kR l) d)) /\ jN w w' mC) := by
 refine Ko ?_
 obtain ⟨hall, hd11, hl2, hl256, hlast, hsum⟩ := OO hd hd0
 have hnl := nV l
 obtain ⟨b, off, c, rfl, hc, hcell⟩ := Yc h (by omega)
 unfold Nj Bv BQ
 refine (Z4 h (by omega)).mono ?_
 rintro r w1 ⟨rfl, rfl⟩
 rw [hd]
 have n1 : ((d : Int) == 0) = false := beq_eq_false_iff_ne.2 (by omega)
 simp (disch := omega) only [gI, iI, n1, fQ, dJ, fV]
 refine UC (by omega) (by omega) fun w2 o2 x2 s2 => ?_
 rw [aB0] at o2 ⊢
 rw [amP, <- hnl, <- acX _ d] at o2
 generalize hpb : w1.heap.size = pb at *
 have hp2 : 2 ^ d <= 2 ^ 11 := aCn (by omega) hd11
 unfold F4 FW F8 GC FM
 refine kP.rule (fun m (t : aEm × aEm) w' => ∃ q : Nat, m = d + 1 - q /\ t = (.int .i64 (I0 (kR l) q 0 : Nat), .int .i64 q) /\ 1 <= q /\ q <= d + 1 /\ lN w' pb (cc (zR (kR l) d q 0)) /\ jN w2 w' (fun y => y = pb)) d
  ⟨1, by omega, by rw [akL] <;> rfl, by omega, by omega, o2, jN.refl _ _⟩ ?_
 rintro m t w3 ⟨q, rfl, rfl, hq1, hqd, o3, x3⟩
 unfold BB Gt
 by_cases hq : q <= d
 .have d1 : decide ((q : Int) <= (d : Int)) = true := by simp; omega
  simp (disch := omega) only [gI, iO, d1, dJ, gB]
  unfold FP FI Pc Im
  simp (disch := omega) only [gI, fQ, dJ]
  unfold Hu Ig
  refine kP.rule (fun m (t : aEm × aEm) w' => ∃ i : Nat, m = l.length - i /\ t = (.int .i64 (I0 (kR l) q i : Nat), .int .i64 i) /\ i <= l.length /\ lN w' pb (cc (zR (kR l) d q i)) /\ jN w2 w' (fun y => y = pb)) l.length
   ⟨0, rfl, rfl, by omega, o3, x3⟩ ?_
  rintro m t w4 ⟨i, rfl, rfl, hi, o4, x4⟩
  unfold CF Ip
  by_cases hlt : i < l.length
  .have d2 : decide ((i : Int) < (l.length : Int)) = true := by simp; omega
   have h4 : Bs w4 _ l := (h.ext x2 (kJ _)).ext x4 (fun hb => (h.old) (DC hb fun y hy => by omega))
   obtain ⟨_, _, _, he, _, hcell4⟩ := Yc h4 (by omega)
   cases he
   have g1 := hcell4 i hlt
   have hgd := avC hlt
   have hstep := adW (l := kR l) (w := q) (i := i) (by omega)
   have hskip := agA (l := kR l) (d := d) (w := q) (i := i) (by omega)
   have hset := aiE (l := kR l) (d := d) (w := q) (i := i) (by omega)
   have hof := anL (l := kR l) (w := q) (i := i)
   have hle := awT (l := kR l) (d := d) (w := q) (i := i) hsum hall hq1 hq
   have hco : HQ (kR l) d i = if (kR l).getD i 0 = 0 then (0, 0) else (d + 1 - (kR l).getD i 0, L6 (kR l) i / 2 ^ ((kR l).getD i 0 - 1)) := rfl
   rw [hgd] at hskip hset hstep hof hco
   have hx : (l[i]).toNat < 256 := aC7 _
   generalize (l[i]).toNat = x at *
   unfold CQ
   by_cases hxq : x = q
   .subst hxq
    have n2 : ((x : Int) != (x : Int)) = false := by simp
    have e1 : (d : Int) + 1 - (x : Int) = ((d + 1 - x : Nat) : Int) := by omega
    have e2 : (x : Int) - 1 = ((x - 1 : Nat) : Int) := by omega
    rw [if_neg (by omega), <- hof rfl] at hco
    rw [if_pos rfl] at hstep
    have hset := hset rfl
    rw [hco] at hset
    have e3 : ((I0 (kR l) x i : Nat) : Int).fdiv (2 ^ (min (x - 1) IntKind.i64.bits)) = ((I0 (kR l) x i / 2 ^ (x - 1) : Nat) : Int) := by
     rw [show min (x - 1) IntKind.i64.bits = x - 1 from aCL (by have : IntKind.i64.bits = 64 := rfl
                                                                omega), aCD _ (Int.pow_nonneg (by omega))]
     simp
    have hdl := aD2 (I0 (kR l) x i) (2 ^ (x - 1))
    have hsh := apE (n := x - 1) (by omega)
    have hpx : 2 ^ (x - 1) <= 2 ^ 11 := aCn (by omega) (by omega)
    have e4 : ((I0 (kR l) x i : Nat) : Int) + ((2 ^ (x - 1) : Nat) : Int) = ((I0 (kR l) x (i + 1) : Nat) : Int) := by omega
    generalize I0 (kR l) x i = at' at *
    generalize at' / 2 ^ (x - 1) = cd at *
    simp (disch := omega) only [gI, gY, d2, fR, aB0, hJ, gX, dJ, iC, e2, bR, aB4, iE, iG, e3, e1, bH, gK, g1, gD, fL, iH, n2, fV, gB]
    refine Zb o4 rfl (by simp [one]) (by rw [aeC, pR]; simp; omega) fun w5 o5 x5 s5 => ?_
    simp only [kW] at o5
    have hcs := asZ (L := zR (kR l) d x i) (i := i) (d + 1 - x, cd) (by rw [pR]; omega)
    simp only at hcs
    rw [hcs, hset] at o5
    simp (disch := omega) only [hsh, e4]
    exact ⟨l.length - (i + 1), by omega, i + 1, rfl, rfl, by omega, o5, x4.trans x5 fun _ _ h => h⟩
   .have n2 : ((x : Int) != (q : Int)) = true := by simp; omega
    rw [if_neg hxq, aCR] at hstep
    have hskip := hskip hxq
    simp (disch := omega) only [gI, gY, d2, fR, aB0, hJ, gX, dJ, iC, bR, aB4, iE, iG, bH, gK, g1, gD, fL, iH, n2, gB]
    exact ⟨l.length - (i + 1), by omega, i + 1, rfl, by rw [hstep] <;> rfl, by omega, by rw [hskip]; exact o4, x4⟩
  .have d2 : decide ((i : Int) < (l.length : Int)) = false := by simp; omega
   obtain rfl : i = l.length := by omega
   have e1 := adK (l := kR l) (w := q) hq1
   rw [hnl] at e1
   have e2 := afQ (l := kR l) (d := d) (w := q)
   rw [hnl] at e2
   rw [e2] at o4
   unfold Cv
   simp (disch := omega) only [gI, gY, d2, hJ, gX, iC, dJ, iE, iG, bH, fV]
   exact ⟨d + 1 - (q + 1), by omega, q + 1, rfl, by rw [e1] <;> rfl, by omega, by omega, o4, x4⟩
 .have d1 : decide ((q : Int) <= (d : Int)) = false := by simp; omega
  rw [ahO hall (by omega)] at o3
  unfold CC
  simp (disch := omega) only [gI, iO, d1, dJ, fV]
  exact ⟨pb, rfl, by omega, o3, x2.trans x3 fun _ hb h => by omega⟩
theorem aeB {v : aEm} {l : List UInt8} {w : aEl} (h : Bs w v l) (hl : l.length <= 100000) (hd : pI (kR l) = 0) :
 jE pg vL #[v] w (fun r w' => r = .tuple #[.slice none 0 0, .int .i64 1] /\ w' = w) := by
 refine Ko ?_
 unfold Nj Bv BQ
 refine (Z4 h hl).mono ?_
 rintro r w1 ⟨rfl, rfl⟩
 rw [hd]
 have n1 : (((0 : Nat) : Int) == 0) = true := rfl
 simp (disch := omega) only [gI, iI, n1, true_and, dJ, gB]
end Go.Proofs.YtoecppploooloaaGreatDoor
namespace Go.Pu
open Go Go.En
def TL (k : Nat) : List Nat := if k = 0 then [0, 1, 2, 3, 4, 5, 6, 7, 8, 9, 10, 11, 12, 13, 14, 15, 16, 18, 20, 22, 24, 28, 32, 40, 48, 64, 128, 256, 512, 1024, 2048, 4096, 8192, 16384, 32768, 65536]
 else if k = 1 then [1, 2, 4, 8, 16, 32, 64, 128, 256, 512, 1024, 2048, 4096, 8192, 16384, 32768, 65536, 131072, 262144, 524288, 1048576, 2097152, 4194304, 8388608, 16777216, 33554432, 67108864, 134217728, 268435456, 536870912, 1073741824, 2147483648]
 else [3, 4, 5, 6, 7, 8, 9, 10, 11, 12, 13, 14, 15, 16, 17, 18, 19, 20, 21, 22, 23, 24, 25, 26, 27, 28, 29, 30, 31, 32, 33, 34, 35, 37, 39, 41, 43, 47, 51, 59, 67, 83, 99, 131, 259, 515, 1027, 2051, 4099, 8195, 16387, 32771, 65539]
def aaB (k : Nat) : List Nat := if k = 0 then [0, 0, 0, 0, 0, 0, 0, 0, 0, 0, 0, 0, 0, 0, 0, 0, 1, 1, 1, 1, 2, 2, 3, 3, 4, 6, 7, 8, 9, 10, 11, 12, 13, 14, 15, 16]
 else if k = 1 then List.range 32
 else [0, 0, 0, 0, 0, 0, 0, 0, 0, 0, 0, 0, 0, 0, 0, 0, 0, 0, 0, 0, 0, 0, 0, 0, 0, 0, 0, 0, 0, 0, 0, 0, 1, 1, 1, 1, 2, 2, 3, 3, 4, 4, 5, 7, 8, 9, 10, 11, 12, 13, 14, 15, 16]
abbrev ZU (k : Nat) : Nat := (TL k).length
theorem apR {k : Nat} (h : k < 3) (c : Nat) (hc : c + 1 < ZU k) : (TL k).getD (c + 1) 0 = (TL k).getD c 0 + 2 ^ (aaB k).getD c 0 := by
 have h0 : ∀ c, c < 53 -> c + 1 < ZU 0 -> (TL 0).getD (c + 1) 0 = (TL 0).getD c 0 + 2 ^ (aaB 0).getD c 0 := by decide +kernel
 have h1 : ∀ c, c < 53 -> c + 1 < ZU 1 -> (TL 1).getD (c + 1) 0 = (TL 1).getD c 0 + 2 ^ (aaB 1).getD c 0 := by decide +kernel
 have h2 : ∀ c, c < 53 -> c + 1 < ZU 2 -> (TL 2).getD (c + 1) 0 = (TL 2).getD c 0 + 2 ^ (aaB 2).getD c 0 := by decide +kernel
 have hl : ZU k <= 53 := by rcases (show k = 0 ∨ k = 1 ∨ k = 2 by omega) with rfl | rfl | rfl <;> decide
 rcases (show k = 0 ∨ k = 1 ∨ k = 2 by omega) with rfl | rfl | rfl
 .exact h0 c (by omega) hc
 .exact h1 c (by omega) hc
 .exact h2 c (by omega) hc
theorem aBz {k : Nat} (h : k < 3) (c : Nat) (hc : c < ZU k) : (TL k).getD c 0 + 2 ^ (aaB k).getD c 0 <= 4294967296 := by
 have h0 : ∀ c, c < 53 -> c < ZU 0 -> (TL 0).getD c 0 + 2 ^ (aaB 0).getD c 0 <= 4294967296 := by decide +kernel
 have h1 : ∀ c, c < 53 -> c < ZU 1 -> (TL 1).getD c 0 + 2 ^ (aaB 1).getD c 0 <= 4294967296 := by decide +kernel
 have h2 : ∀ c, c < 53 -> c < ZU 2 -> (TL 2).getD c 0 + 2 ^ (aaB 2).getD c 0 <= 4294967296 := by decide +kernel
 have hl : ZU k <= 53 := by rcases (show k = 0 ∨ k = 1 ∨ k = 2 by omega) with rfl | rfl | rfl <;> decide
 rcases (show k = 0 ∨ k = 1 ∨ k = 2 by omega) with rfl | rfl | rfl
 .exact h0 c (by omega) hc
 .exact h1 c (by omega) hc
 .exact h2 c (by omega) hc
def aiI (k v c : Nat) : Prop := c < ZU k /\ (TL k).getD c 0 <= v /\ v < (TL k).getD c 0 + 2 ^ (aaB k).getD c 0
theorem Yq {k : Nat} (h : k < 3) : ∀ {c d : Nat}, c < d -> d < ZU k -> (TL k).getD c 0 + 2 ^ (aaB k).getD c 0 <= (TL k).getD d 0
 | c, d + 1, hcd, hd => by
   have e := apR h d (by omega)
   rcases aCk c d with h' | h'
   .have := Yq h h' (by omega)
    have := aCH ((aaB k).getD d 0)
    omega
   .have : c = d := by omega
    subst this; omega
theorem aiI.one {k v c d : Nat} (hk : k < 3) (hc : aiI k v c) (hd : aiI k v d) : c = d := by
 rcases aD9 c d with h | h | h
 .have := Yq hk h hd.1; have := hc.2.2; have := hd.2.1; omega
 .exact h
 .have := Yq hk h hc.1; have := hd.2.2; have := hc.2.1; omega
theorem aiI.lt {k v c : Nat} (hk : k < 3) (hc : aiI k v c) : v < 4294967296 := by
 have := aBz hk c hc.1; have := hc.2.2; omega
structure Sq where
 ll : Nat
 ml : Nat
 of : Nat
deriving DecidableEq
def rdL (B : List Bool) (left : Int) (n : Nat) : Nat := adN (B.take left.toNat) n
theorem ayW {T B X u : List Bool} {x n : Nat} (hT : T.take (X ++ u).length = X ++ u) (hu : u = BH x n) (hx : x < 2 ^ n) : rdL T ((X ++ u).length : Nat) n = x /\ (((X ++ u).length : Nat) : Int) - n = ((X.length : Nat) : Int) /\ T.take X.length = X := by
 subst hu
 have hl : (X ++ BH x n).length = X.length + n := by rw [aB7, GU]
 refine ⟨?_, by omega, ?_⟩
 .unfold rdL
  rw [aB0, hT, alJ hx]
 .have := congrArg (List.take X.length) hT
  rw [List.take_take, aCL (by omega), aC2 (aCb _), aCg (aCb _)] at this
  exact this
def Wx (C : List (Nat × Nat)) : Nat := C.foldl (fun m e => max m e.1) 0
theorem agP : ∀ (C : List (Nat × Nat)) (m : Nat), m <= C.foldl (fun m e => max m e.1) m /\ ∀ e ∈ C, e.1 <= C.foldl (fun m e => max m e.1) m
 | [], m => ⟨aCb _, fun e h => by cases h⟩
 | x :: C, m => by
   obtain ⟨h1, h2⟩ := agP C (max m x.1)
   rw [List.foldl_cons]
   refine ⟨by omega, fun e he => ?_⟩
   rcases aCS.1 he with rfl | he
   .omega
   .exact h2 e he
theorem aeV {C : List (Nat × Nat)} {e : Nat × Nat} (h : e ∈ C) : e.1 <= Wx C := (agP C 0).2 e h
theorem avA {d : Nat} : ∀ {C : List (Nat × Nat)} {m : Nat}, m <= d -> (∀ e ∈ C, e.1 <= d) -> C.foldl (fun m e => max m e.1) m <= d
 | [], m, hm, _ => hm
 | x :: C, m, hm, h => by
   rw [List.foldl_cons]
   exact avA (by have := h x (aCA ..); omega) fun e he => h e (aCh _ he)
def ZW (C : List (Nat × Nat)) (m x s : Nat) : Bool := match C[s]? with
 | some e => decide (0 < e.1) && decide (x / 2 ^ (m - e.1) = e.2)
 | none => false
theorem WR {C : List (Nat × Nat)} {m x s : Nat} : ZW C m x s = true ↔ ∃ b c, C[s]? = some (b, c) /\ 0 < b /\ x / 2 ^ (m - b) = c := by
 unfold ZW
 cases h : C[s]? with
 | none => simp
 | some e =>
   obtain ⟨b, c⟩ := e
   simp only [aCe, decide_eq_true_eq]
   constructor
   .rintro ⟨h1, h2⟩; exact ⟨b, c, rfl, h1, h2⟩
   .rintro ⟨b', c', h1, h2, h3⟩; cases h1; exact ⟨h2, h3⟩
structure avU (C : List (Nat × Nat)) (m : Nat) : Prop where
 le : ∀ (s b c : Nat), C[s]? = some (b, c) -> b <= m /\ (0 < b -> c < 2 ^ b)
 ex : ∀ x, x < 2 ^ m -> ∃ s, ZW C m x s = true
 un : ∀ x s t, x < 2 ^ m -> ZW C m x s = true -> ZW C m x t = true -> s = t
 pos : 0 < m
theorem anH {l : List Nat} {w y : Nat} : ∀ i, i <= l.length -> xS l w <= y -> y < I0 l w i -> ∃ s, s < l.length /\ l.getD s 0 = w /\ L6 l s <= y /\ y < L6 l s + 2 ^ (w - 1)
 | 0, _, h, hy => by unfold I0 at hy; simp at hy; omega
 | i + 1, hi, h, hy => by
   rcases aCk y (I0 l w i) with h1 | h1
   .exact anH i (by omega) h h1
   .rw [adW (by omega)] at hy
    by_cases hw : l.getD i 0 = w
    .rw [if_pos hw] at hy
     rw [anL hw] at hy h1
     exact ⟨i, by omega, hw, h1, hy⟩
    .rw [if_neg hw] at hy; omega
theorem aAX {l : List Nat} {y : Nat} : ∀ w, y < xS l (w + 1) -> ∃ s, s < l.length /\ l.getD s 0 ≠ 0 /\ L6 l s <= y /\ y < L6 l s + 2 ^ (l.getD s 0 - 1)
 | 0, hy => by rw [abU] at hy; omega
 | w + 1, hy => by
   rcases aCk y (xS l (w + 1)) with h1 | h1
   .exact aAX w h1
   .have h2 : y < I0 l (w + 1) l.length := by rw [adK (by omega)]; unfold I0; simpa using hy
    obtain ⟨s, a, b, c, d⟩ := anH l.length (aCb _) h1 h2
    exact ⟨s, a, by omega, c, by rw [b]; exact d⟩
theorem azK {l : List Nat} {s d y : Nat} (h : s < l.length) (h0 : l.getD s 0 ≠ 0) (hs : nF l = 2 ^ d) (hd : l.getD s 0 <= d) : (L6 l s <= y /\ y < L6 l s + 2 ^ (l.getD s 0 - 1)) ↔ y / 2 ^ (l.getD s 0 - 1) = L6 l s / 2 ^ (l.getD s 0 - 1) := by
 obtain ⟨q, hq⟩ := auE h h0 hs hd
 have hp := aCH (l.getD s 0 - 1)
 rw [hq, aD8 _ hp]
 generalize 2 ^ (l.getD s 0 - 1) = p at *
 constructor
 .rintro ⟨h1, h2⟩
  rw [Nat.div_eq_iff hp, aCO]
  omega
 .intro h
  rw [Nat.div_eq_iff hp, aCO q] at h
  omega
theorem TP {l : List Nat} {d s b c : Nat} (h : (rF l d)[s]? = some (b, c)) : s < l.length /\ HQ l d s = (b, c) := by
 have hs : s < l.length := by
  rcases aCk s l.length with h' | h'
  .exact h'
  .rw [aCj (by rw [DJ]; exact h')] at h; cases h
 rw [V8 hs] at h
 exact ⟨hs, aCF h⟩
theorem ajL {l : List Nat} {d : Nat} (hd : pI l = d) (hd0 : d ≠ 0) : avU (rF l d) (Wx (rF l d)) /\ Wx (rF l d) <= d := by
 obtain ⟨hall, hd11, hl2, hl256, hlast, hsum⟩ := OO hd hd0
 have hle : Wx (rF l d) <= d := avA (aDX _) fun e he => by
  obtain ⟨s, hs⟩ := List.getElem?_of_mem he
  obtain ⟨hsl, hc⟩ := TP (b := e.1) (c := e.2) hs
  unfold HQ at hc
  split at hc
  .have := (Prod.mk.inj hc).1; omega
  .have := (Prod.mk.inj hc).1; omega
 have key : ∀ x s, ZW (rF l d) (Wx (rF l d)) x s = true ↔ s < l.length /\ l.getD s 0 ≠ 0 /\ (x * 2 ^ (d - Wx (rF l d))) / 2 ^ (l.getD s 0 - 1) = L6 l s / 2 ^ (l.getD s 0 - 1) := by
  intro x s
  rw [WR]
  have hx : ∀ {b : Nat}, b <= Wx (rF l d) -> 0 < b -> b = d + 1 - l.getD s 0 -> l.getD s 0 <= d -> l.getD s 0 ≠ 0 -> (x * 2 ^ (d - Wx (rF l d))) / 2 ^ (l.getD s 0 - 1) = x / 2 ^ (Wx (rF l d) - b) := by
   intro b h1 h2 h3 h4 h5
   rw [show l.getD s 0 - 1 = (d - Wx (rF l d)) + (Wx (rF l d) - b) from by omega, aC6, <- aDi, Nat.mul_div_cancel _ (aCH _)]
  constructor
  .rintro ⟨b, c, h1, h2, h3⟩
   have hm := aeV (aDe h1)
   obtain ⟨hs, hc⟩ := TP h1
   unfold HQ at hc
   by_cases h0 : l.getD s 0 = 0
   .rw [if_pos h0] at hc; cases hc; omega
   .rw [if_neg h0] at hc
    obtain ⟨hb, hcc⟩ := Prod.mk.inj hc
    have hws := hall _ (Gk hs)
    exact ⟨hs, h0, by rw [hx hm h2 hb.symm hws h0, h3, hcc]⟩
  .rintro ⟨hs, h0, h⟩
   have hws := hall _ (Gk hs)
   have hg := V8 (d := d) hs
   have hm := aeV (aDe hg)
   have hc : HQ l d s = (d + 1 - l.getD s 0, L6 l s / 2 ^ (l.getD s 0 - 1)) := by unfold HQ; rw [if_neg h0]
   rw [hc] at hg hm
   exact ⟨_, _, hg, by omega, by rw [<- hx hm (by omega) rfl hws h0, h]⟩
 have hyx : ∀ x, x < 2 ^ Wx (rF l d) -> x * 2 ^ (d - Wx (rF l d)) < 2 ^ d := fun x hx => by
  have := Nat.mul_lt_mul_of_pos_right hx (aCH (d - Wx (rF l d)))
  rwa [<- aC6, show Wx (rF l d) + (d - Wx (rF l d)) = d from by omega] at this
 have ex : ∀ x, x < 2 ^ Wx (rF l d) -> ∃ s, ZW (rF l d) (Wx (rF l d)) x s = true := fun x hx => by
  have h1 := hyx x hx
  rw [<- hsum, <- V2 hall] at h1
  obtain ⟨s, a, b, c, e⟩ := aAX d h1
  exact ⟨s, (key x s).2 ⟨a, b, (azK a b hsum (hall _ (Gk a))).1 ⟨c, e⟩⟩⟩
 refine ⟨⟨fun s b c h => ?_, ex, fun x s t hx h1 h2 => ?_, ?_⟩, hle⟩
 .have hm := aeV (aDe h)
  refine ⟨hm, fun hb => ?_⟩
  obtain ⟨hs, hc⟩ := TP h
  unfold HQ at hc
  by_cases h0 : l.getD s 0 = 0
  .rw [if_pos h0] at hc; cases hc; omega
  .rw [if_neg h0] at hc
   obtain ⟨hb', hcc⟩ := Prod.mk.inj hc
   rw [<- hb', <- hcc]
   exact aoK hs h0 hsum hall
 .obtain ⟨a1, b1, c1⟩ := (key x s).1 h1
  obtain ⟨a2, b2, c2⟩ := (key x t).1 h2
  have dv : ∀ {y p q : Nat}, p <= q -> y / 2 ^ q = y / 2 ^ p / 2 ^ (q - p) := fun {y p q} h => by
   rw [aDi, <- aC6, show p + (q - p) = q from by omega]
  refine Decidable.byContradiction fun hne => ?_
  rcases aEh (l.getD t 0) (l.getD s 0) with hle' | hle'
  .refine aeP a1 a2 hne b1 b2 hle' hsum hall ?_
   rw [<- c2, <- c1, dv (y := x * 2 ^ (d - Wx (rF l d))) (p := l.getD t 0 - 1) (q := l.getD s 0 - 1) (by omega)]
   congr 2; omega
  .refine aeP a2 a1 (fun h => hne h.symm) b2 b1 hle' hsum hall ?_
   rw [<- c2, <- c1, dv (y := x * 2 ^ (d - Wx (rF l d))) (p := l.getD s 0 - 1) (q := l.getD t 0 - 1) (by omega)]
   congr 2; omega
 .obtain ⟨s, hs⟩ := ex 0 (aCH _)
  obtain ⟨b, c, h1, h2, _⟩ := WR.1 hs
  have := aeV (aDe h1)
  omega
def amV (C : List (Nat × Nat)) (m x : Nat) : Nat := ((List.range C.length).find? (ZW C m x)).getD 0
def bitsOf (C : List (Nat × Nat)) (s : Nat) : Nat := (C.getD s (0, 0)).1
theorem axS {C : List (Nat × Nat)} {m x s : Nat} (h : ZW C m x s = true) : s < C.length := by
 obtain ⟨b, c, h1, _⟩ := WR.1 h
 exact (aDn.1 h1).1
theorem auP {C : List (Nat × Nat)} {m x s : Nat} (hF : avU C m) (hx : x < 2 ^ m) (h : ZW C m x s = true) : amV C m x = s := by
 unfold amV
 cases hf : (List.range C.length).find? (ZW C m x) with
 | none => exact absurd h (List.find?_eq_none.1 hf s (aCP.2 (axS h)))
 | some t => exact hF.un x t s hx (List.find?_some hf) h
theorem anQ {C : List (Nat × Nat)} {s b c : Nat} (h : C[s]? = some (b, c)) : bitsOf C s = b := by
 unfold bitsOf; rw [aB9, h] <;> rfl
def anU (C : List (Nat × Nat)) (m : Nat) (B : List Bool) : Nat -> Int -> List Nat × Int
 | 0, left => ([], left)
 | n + 1, left =>
   let s := amV C m (rdL B left m)
   let r := anU C m B n (left - bitsOf C s)
   (s :: r.1, r.2)
theorem auV (B : List Bool) (left : Int) (n : Nat) : rdL B left n < 2 ^ n := arM _ _
theorem awV {B : List Bool} {left : Int} (a b : Nat) (h : left <= B.length) : rdL B left (a + b) = rdL B left a * 2 ^ b + rdL B (left - a) b := by
 unfold rdL
 obtain ⟨k, hk⟩ : ∃ k, left.toNat = k := ⟨_, rfl⟩
 have hkB : k <= B.length := by omega
 have e2 : (left - a).toNat = k - a := by omega
 rw [hk, e2]
 have l1 : (B.take k).length = k := by rw [aCf]; omega
 have l2 : (B.take (k - a)).length = k - a := by rw [aCf]; omega
 unfold adN
 rw [l1, l2]
 rcases aCk a k with h1 | h1
 .have hs : B.take k = B.take (k - a) ++ (B.drop (k - a)).take a := by
   rw [<- List.take_add]; congr 1; omega
  have m1 : min a k = a := by omega
  have hT : (B.take k).drop (k - a) = (B.drop (k - a)).take a := by
   rw [List.drop_take, show k - (k - a) = a from by omega]
  rw [m1, aDh, Nat.pow_zero, aC0, hT]
  obtain ⟨j, hj⟩ : ∃ j, j = min b (k - a) := ⟨_, rfl⟩
  have m2 : min (a + b) k = a + j := by omega
  rw [m2, <- hj]
  have hD : (B.take k).drop (k - (a + j)) = (B.take (k - a)).drop (k - a - j) ++ (B.drop (k - a)).take a := by
   rw [hs, aDN (by rw [l2]; omega), show k - (a + j) = k - a - j from by omega]
  rw [hD, ZA, aCi, l2, show k - a - (k - a - j) = j from by omega, show a + b - (a + j) = b - j from by omega, aCQ]
  rw [Nat.add_comm]
  congr 1
  rw [aEd, aCO (S1 _) (2 ^ (b - j)), <- aEd, <- aC6, aCO, show j + (b - j) = b from by omega]
 .have m1 : min a k = k := by omega
  have m2 : min (a + b) k = k := by omega
  have m3 : min b (k - a) = 0 := by omega
  rw [m1, m2, m3, aDh, show k - a = 0 from by omega]
  simp only [aCw, aCs, aDE, List.drop_nil, S1, aDQ, aCR]
  rw [aEd, <- aC6, show a - k + b = a + b - k from by omega]
theorem awN {B : List Bool} {left : Int} {a m : Nat} (h : left <= B.length) (ha : a <= m) : rdL B left m / 2 ^ (m - a) = rdL B left a /\ rdL B left m % 2 ^ (m - a) = rdL B (left - a) (m - a) := by
 obtain ⟨b, rfl⟩ := Nat.exists_eq_add_of_le ha
 rw [aD7, awV a b h]
 have hlt := auV B (left - a) b
 constructor
 .rw [aCO, Nat.mul_add_div (aCH b), Nat.div_eq_of_lt hlt, aCR]
 .rw [aCO, Nat.mul_add_mod, aCt hlt]
def Pv (C : List (Nat × Nat)) : List Nat -> List Bool
 | [] => []
 | s :: r => Pv C r ++ BH (C.getD s (0, 0)).2 (C.getD s (0, 0)).1
theorem sT {C : List (Nat × Nat)} {m : Nat} (h : ∀ s, bitsOf C s <= m) : ∀ l : List Nat, (Pv C l).length <= m * l.length
 | [] => by simp [Pv]
 | s :: r => by
   rw [Pv, aB7, GU, aCl, aDL]
   have := h s
   have := sT h r
   unfold bitsOf at *
   omega
theorem anG {C : List (Nat × Nat)} {m : Nat} {T : List Bool} (hF : avU C m) : ∀ {l : List Nat}, (∀ s ∈ l, 0 < bitsOf C s) -> T.take (Pv C l).length = Pv C l -> anU C m T l.length ((Pv C l).length : Nat) = (l, 0)
 | [], _, _ => rfl
 | s :: r, hb, hT => by
   have h0 := hb s (aCA ..)
   have hg : C[s]? = some ((C.getD s (0, 0)).1, (C.getD s (0, 0)).2) := by
    rw [aB9]
    cases h : C[s]? with
    | none => unfold bitsOf at h0; rw [aB9, h] at h0; simp at h0
    | some e => rfl
   obtain ⟨hle, hfit⟩ := hF.le _ _ _ hg
   have hfit := hfit h0
   obtain ⟨r1, r2, r3⟩ := ayW (B := []) hT rfl hfit
   have hTl : ((Pv C (s :: r)).length : Int) <= T.length := by
    have := congrArg List.length hT
    rw [aCf] at this
    omega
   have hd := (awN (a := (C.getD s (0, 0)).1) (m := m) hTl hle).1
   rw [aCl, anU]
   have hlen : (Pv C (s :: r)).length = (Pv C r ++ BH (C.getD s (0, 0)).2 (C.getD s (0, 0)).1).length := rfl
   rw [hlen] at hd ⊢
   rw [r1] at hd
   have hs : amV C m (rdL T (((Pv C r ++ BH (C.getD s (0, 0)).2 (C.getD s (0, 0)).1).length : Nat) : Int) m) = s :=
    auP hF (auV _ _ _) (WR.2 ⟨_, _, hg, h0, hd⟩)
   simp only [hs, bitsOf, r2]
   rw [anG hF (fun x hx => hb x (aCh _ hx)) r3]
def fc : List (Nat × Nat) -> List aEm
 | [] => []
 | e :: r => .int .u8 (e.1 : Nat) :: .int .i64 (e.2 : Nat) :: fc r
def aBi (C : List (Nat × Nat)) (m s x : Nat) : Nat × Nat := match (List.range s).find? (ZW C m x) with
 | some t => (t, bitsOf C t)
 | none => (0, 0)
def aBg (C : List (Nat × Nat)) (m s : Nat) : List (Nat × Nat) := (List.range (2 ^ m)).map (aBi C m s)
end Go.Pu
namespace Go.Proofs.YtoecppploooloaaGreatDoor
open Go Go.En Go.Pu
set_option maxRecDepth 4000
theorem aeL {a n : Nat} (hn : n <= 62) (h : a * 2 ^ n < 2 ^ 62) : IntKind.i64.wrap ((a : Int) * 2 ^ (min n IntKind.i64.bits)) = ((a * 2 ^ n : Nat) : Int) := by
 have e : IntKind.i64.bits = 64 := rfl
 rw [e, aCL (by omega)]
 have : (a : Int) * 2 ^ n = ((a * 2 ^ n : Nat) : Int) := by push_cast; rfl
 rw [this]
 exact gX (by omega) (by omega)
theorem arI {C : List (Nat × Nat)} {i : Nat} {e : Nat × Nat} (h : C[i]? = some e) : ((cc C).drop (i * 2)).take 2 = [.int .i64 (e.1 : Nat), .int .i64 (e.2 : Nat)] := by
 obtain ⟨hi, rfl⟩ := aDn.1 h
 exact anF hi
def HtV (w : aEl) (base : Nat) (C : List (Nat × Nat)) (v : aEm) : Prop := ∃ b, v = .agg #[.int .i64 (Wx C : Nat), .slice (some ⟨b, 0, none⟩) (2 ^ Wx C) (2 ^ Wx C)] /\ base <= b /\ lN w b (fc (aBg C (Wx C) C.length))
def Bwd (w : aEl) (lo hi : Nat) (l : List UInt8) (left : Int) : Prop := ∃ v, lN w hi [v, .int .i64 left] /\ Bs w v l /\ AtI v lo hi
theorem Bwd.ext {w w' : aEl} {lo hi : Nat} {left : Int} {l : List UInt8} {M : Nat -> Prop} (h : Bwd w lo hi l left) (hx : jN w w' M) (hM : ∀ b, lo <= b -> b <= hi -> ¬ M b) (hlh : lo <= hi) : Bwd w' lo hi l left := by
 obtain ⟨v, h1, h2, h3⟩ := h
 exact ⟨v, h1.ext hx (hM _ hlh (aCb _)), h2.ext hx (h3 M fun b hb hh => hM b hb (by omega)), h3⟩
end Go.Proofs.YtoecppploooloaaGreatDoor
namespace Go.En
open Go Go.RowKit
section
variable {P : Program} {w : aEl} {t e : TypeId} {k : IntKind}
end
end Go.En
namespace Go.Proofs.YtoecppploooloaaGreatDoor
open Go Go.En Go.Pu
set_option maxRecDepth 4000
theorem HtV.ext {w w' : aEl} {base : Nat} {C : List (Nat × Nat)} {v : aEm} {M : Nat -> Prop} (h : HtV w base C v) (x : jN w w' M) (hM : ∀ b, base <= b -> ¬ M b) : HtV w' base C v := by
 obtain ⟨b, h1, h2, h3⟩ := h
 exact ⟨b, h1, h2, h3.ext x (hM b h2)⟩
def Xg (C : List (Nat × Nat)) (l : List UInt8) (n : Nat) : Except Int (List Nat) := match alF l with
 | none => .error 11
 | some k =>
   if (anU C (Wx C) (vG l) n (k : Int)).2 < 0 then .error 11
   else if 0 < (anU C (Wx C) (vG l) n (k : Int)).2 then .error 15
   else .ok (anU C (Wx C) (vG l) n (k : Int)).1
theorem XP {a b : Nat} (ha : a < 2 ^ 62) (hb : b < 2 ^ 62) : Z6 .i64 (a : Int) (b : Int) = ((a ||| b : Nat) : Int) := by
 have h := Nat.or_lt_two_pow ha hb
 unfold Z6
 have e : IntKind.i64.bits = 64 := rfl
 rw [e, BitVec.ofInt_natCast, BitVec.ofInt_natCast, BitVec.toNat_or, BitVec.toNat_ofNat, BitVec.toNat_ofNat, aCt (by omega), aCt (by omega)]
 exact gX (by omega) (by omega)
abbrev wC (wl : List UInt8) : List (Nat × Nat) := rF (kR wl) (pI (kR wl))
structure WOk (wl : List UInt8) : Prop where
 d0 : pI (kR wl) ≠ 0
theorem WOk.full {wl : List UInt8} (h : pI (kR wl) ≠ 0) : avU (wC wl) (Wx (wC wl)) /\ Wx (wC wl) <= 11 /\ (wC wl).length <= 256 := by
 obtain ⟨h1, h2⟩ := ajL rfl h
 have h3 := OO rfl h
 exact ⟨h1, aCV h2 h3.2.1, by rw [DJ]; exact h3.2.2.2.1⟩
def azO (wl s : List UInt8) (n : Nat) : Except Int (List Nat) := if pI (kR wl) = 0 then .error 1 else Xg (wC wl) s n
theorem arO {n q : Nat} (hn : n <= 131072) (hq : q = (n + 3) / 4) (w : aEl) :
 jE pg JM #[.int .i64 n] w (fun r w' => r = .tuple #[.agg #[.int .i64 (q : Nat), .int .i64 (q : Nat), .int .i64 (q : Nat), .int .i64 ((n : Int) - 3 * (q : Int))], .bool (decide (3 * (q : Int) <= (n : Int)))] /\ jN w w' mC) := by
 refine ZO ?_
 unfold aaT Ng
 have e1 : (n : Int) + 4 - 1 = ((n + 3 : Nat) : Int) := by omega
 have e2 : ((n + 3 : Nat) : Int).tdiv 4 = (q : Int) := by rw [aDz (by omega)]; omega
 have e3 : IntKind.i64.wrap (q : Int) = (q : Int) := gX (by omega) (by omega)
 generalize hK : (fun (t2 : aEm) (w : aEl) => _) = K
 refine aaR fun w1 o1 x1 s1 => ?_
 simp (disch := omega) only [hK.symm, gI, hJ, gX, dJ, iC, e1, iP, e2, e3, iM, iF, bY]
 refine Zn o1 rfl (by simp [one]) (by simp) fun w2 o2 x2 s2 => ?_
 refine ajA o2 (by simp [kW]) ?_
 simp only [kW, aCa, aCc, aCs, aCq, aCw]
 exact ⟨trivial, x1.new x2 (aCb _)⟩
def akS (C : List (Nat × Nat)) : List UInt8 -> List (Nat × Nat) -> Except Int (List Nat)
 | _, [] => .ok []
 | l, (k, n) :: r => match Xg C (l.take k) n with
   | .error e => .error e
   | .ok m => (match akS C (l.drop k) r with
     | .error e => .error e
     | .ok m' => .ok (m ++ m'))
def nA (l : List UInt8) : Nat := rZ (l.take 2)
def nB (l : List UInt8) : Nat := rZ ((l.drop 2).take 2)
def nC (l : List UInt8) : Nat := rZ ((l.drop 4).take 2)
def awR (wl l : List UInt8) (n : Nat) : Except Int (List Nat) :=
 if pI (kR wl) = 0 then .error 1
 else if n < 3 * ((n + 3) / 4) then .error 11
 else if l.length < 6 then .error 10
 else if (l.drop 6).length < nA l + nB l + nC l then .error 10
 else akS (wC wl) (l.drop 6) [(nA l, (n + 3) / 4), (nB l, (n + 3) / 4), (nC l, (n + 3) / 4), ((l.drop 6).length - (nA l + nB l + nC l), n - 3 * ((n + 3) / 4))]
def nx (l : List UInt8) : Nat -> List UInt8 × Int
 | 0 => (l, 0)
 | i + 1 => ((G0 (nx l i).1 (nx l i).2 2).2.1, (G0 (nx l i).1 (nx l i).2 2).2.2)
theorem Pt {w : aEl} {base base' sz n : Nat} {v : aEm} {l : List aEm} (h : yW w base sz v n l) (hb : base' <= base) : yW w base' sz v n l := by
 rcases h.2 with h0 | ⟨b, c, rest, h1, h2, h3⟩
 .exact ⟨h.1, .inl h0⟩
 .exact ⟨h.1, .inr ⟨b, c, rest, h1, by omega, h3⟩⟩
theorem acE {k n : Nat} {w : aEl} (hk : k < 2) (hn : n <= 131072) :
 jE pg xL #[.int .i64 k, .int .i64 n] w (fun r w' => yW w' w.heap.size 1 r (wP k n).length ((wP k n).map nT) /\ jN w w' mC) := by
 refine UK ?_
 obtain ⟨RR, hRR⟩ : ∃ RR : aEm -> aEl -> Prop, RR = fun r w' => yW w' w.heap.size 1 r (wP k n).length ((wP k n).map nT) /\ jN w w' mC := ⟨_, rfl⟩
 rw [<- hRR]
 unfold TB GJ Gb
 refine (HK w).mono ?_
 rintro r w1 ⟨rfl, hlt, hc1, x1⟩
 have z1 := x1.size
 have fin : ∀ (X m : Nat) (w2 : aEl), X < 2 ^ 40 -> 1 <= m -> m <= 8 -> nM X m = wP k n -> w2 = w1 →
     jE pg jR #[.pointer (some ⟨w.heap.size, 0, none⟩), .int .u64 X, .int .i64 m] w2 fun _ w' => vZ RR (.pointer (some ⟨w.heap.size, 0, none⟩)) w' := by
  intro X m w2 hX h1 h8 hp hw
  subst hw
  refine (B2 (n := m) hc1 (fun b hb => by omega) (Nat.lt_trans hX (by decide)) ⟨h1, h8⟩ (aDX _)).mono ?_
  rintro r w3 ⟨rfl, hc3, x3⟩
  rw [aCT, hp] at hc3
  have hpl : (wP k n).length <= 8 := by rw [<- hp, lA]; exact h8
  unfold vZ
  have hpl2 : (wP k n).length <= 1000000000 := aCV hpl (by decide)
  have hout := Tf hc3 hpl2
  refine hout.mono ?_
  rintro r w4 ⟨o4, x4⟩
  have x03 : jN w w3 mC := x1.trans x3 fun y hy h => by omega
  have z3 := x03.size
  have hfin : yW w4 w.heap.size 1 r (wP k n).length ((wP k n).map nT) /\ jN w w4 mC := ⟨Pt o4 z3, x03.seq x4⟩
  rw [hRR]
  exact hfin
 have t3 : (3 : Int).toNat = 3 := rfl
 have t4 : (4 : Int).toNat = 4 := rfl
 have p3 : (2 : Nat) ^ 3 = 8 := rfl
 have p4 : (2 : Nat) ^ 4 = 16 := rfl
 by_cases h1 : n < 32
 .have d1 : decide ((n : Int) < 32) = true := decide_eq_true (by omega)
  have e1 := aeL (a := n) (n := 3) (by omega) (by omega)
  have e2 : Z6 .i64 ((n * 2 ^ 3 : Nat) : Int) (k : Int) = ((n * 8 + k : Nat) : Int) := by
   rw [XP (by omega) (by omega), QC 3 (by omega)]
  have e3 : IntKind.u64.wrap ((n * 8 + k : Nat) : Int) = ((n * 8 + k : Nat) : Int) := iA (by omega) (by omega)
  simp (disch := omega) only [gI, jD, dJ, stepR_skip, hJ, iC, iM, iP, iL, iN, jJ, iX, gM, iE, iG, iI, iH, gY, iO, hZ, iF, iV, iW, iJ, gR, iT, iQ, iD, jV, jW, kF, kD, kC, kG, kA, kB, kE, gD, Result.ok.injEq, Next.value.injEq, true_and, and_true, gX, iA, iU, iR, iS, jF, aB0, gV, gU, gW, gT, gO, gJ, gP, gN, gB, fV, if_true, if_false, aBZ, aB4, aB1, aB2, aB5, aB3, aBY, aBX, fQ, fL, fE, fR, cU, eS, eF, dK, bP, fS, eY, aP, dB, aX, bQ, bM, aO, cO, cJ, eQ, aE, gS, aJ, cK, aT, bU, fT, cI, cF, aD, gA, fD, aN, aF, bO, gQ, aI, eX, dT, dV, gF, dE, fB, cZ, eH, fF, fC, cG, dG, gK, dN, bZ, aS, bV, bT, fN, aG, aH, aQ, bA, bE, cP, bK, aA, fA, aR, cL, fJ, eU, gG, bJ, eL, eN, bY, fW, eZ, eJ, dH, cQ, dD, aY, bD, aL, fZ, aM, dA, eE, bB, cC, fK, dL, gC, fM, fG, fI, dS, aK, cH, cY, fY, fX, fH, dC, aV, dX, fU, cS, eT, fO, cD, bL, dR, aZ, dW, dQ, cM, eM, eK, bF, dF, bG, eD, dU, dZ, bN, cR, cN, dO, bS, cW, cV, fP, cB, eI, eP, gE, dY, dP, dM, dI, bH, bR, bW, bX, aU, cX, aW, d1, t3, e1, e2, e3]
  exact fin (n * 8 + k) 1 _ (by omega) (by omega) (by omega) (by unfold wP; rw [if_pos h1]) rfl
 have d1 : decide ((n : Int) < 32) = false := decide_eq_false (by omega)
 have e1 := aeL (a := n) (n := 4) (by omega) (by omega)
 by_cases h2 : n < 4096
 .have d2 : decide ((n : Int) < 4096) = true := decide_eq_true (by omega)
  have e2 : Z6 .i64 ((n * 2 ^ 4 : Nat) : Int) 4 = ((n * 16 + 4 : Nat) : Int) := by
   have := XP (a := n * 2 ^ 4) (b := 4) (by omega) (by omega)
   rw [QC 4 (by omega)] at this
   exact this
  have e3 : Z6 .i64 ((n * 16 + 4 : Nat) : Int) (k : Int) = ((n * 16 + 4 + k : Nat) : Int) := by
   rw [XP (by omega) (by omega), show n * 16 + 4 = (n * 4 + 1) * 2 ^ 2 from by omega, QC 2 (by omega)]
  have e4 : IntKind.u64.wrap ((n * 16 + 4 + k : Nat) : Int) = ((n * 16 + 4 + k : Nat) : Int) := iA (by omega) (by omega)
  simp (disch := omega) only [gI, jD, dJ, stepR_skip, hJ, iC, iM, iP, iL, iN, jJ, iX, gM, iE, iG, iI, iH, gY, iO, hZ, iF, iV, iW, iJ, gR, iT, iQ, iD, jV, jW, kF, kD, kC, kG, kA, kB, kE, gD, Result.ok.injEq, Next.value.injEq, true_and, and_true, gX, iA, iU, iR, iS, jF, aB0, gV, gU, gW, gT, gO, gJ, gP, gN, gB, fV, if_true, if_false, aBZ, aB4, aB1, aB2, aB5, aB3, aBY, aBX, fQ, fL, fE, fR, cU, eS, eF, dK, bP, fS, eY, aP, dB, aX, bQ, bM, aO, cO, cJ, eQ, aE, gS, aJ, cK, aT, bU, fT, cI, cF, aD, gA, fD, aN, aF, bO, gQ, aI, eX, dT, dV, gF, dE, fB, cZ, eH, fF, fC, cG, dG, gK, dN, bZ, aS, bV, bT, fN, aG, aH, aQ, bA, bE, cP, bK, aA, fA, aR, cL, fJ, eU, gG, bJ, eL, eN, bY, fW, eZ, eJ, dH, cQ, dD, aY, bD, aL, fZ, aM, dA, eE, bB, cC, fK, dL, gC, fM, fG, fI, dS, aK, cH, cY, fY, fX, fH, dC, aV, dX, fU, cS, eT, fO, cD, bL, dR, aZ, dW, dQ, cM, eM, eK, bF, dF, bG, eD, dU, dZ, bN, cR, cN, dO, bS, cW, cV, fP, cB, eI, eP, gE, dY, dP, dM, dI, bH, bR, bW, bX, aU, cX, aW, d1, d2, t4, e1, e2, e3, e4]
  exact fin (n * 16 + 4 + k) 2 _ (by omega) (by omega) (by omega) (by unfold wP; rw [if_neg h1, if_pos h2]) rfl
 .have d2 : decide ((n : Int) < 4096) = false := decide_eq_false (by omega)
  have e2 : Z6 .i64 ((n * 2 ^ 4 : Nat) : Int) 12 = ((n * 16 + 12 : Nat) : Int) := by
   have := XP (a := n * 2 ^ 4) (b := 12) (by omega) (by omega)
   rw [QC 4 (by omega)] at this
   exact this
  have e3 : Z6 .i64 ((n * 16 + 12 : Nat) : Int) (k : Int) = ((n * 16 + 12 + k : Nat) : Int) := by
   rw [XP (by omega) (by omega), show n * 16 + 12 = (n * 4 + 3) * 2 ^ 2 from by omega, QC 2 (by omega)]
  have e4 : IntKind.u64.wrap ((n * 16 + 12 + k : Nat) : Int) = ((n * 16 + 12 + k : Nat) : Int) := iA (by omega) (by omega)
  simp (disch := omega) only [gI, jD, dJ, stepR_skip, hJ, iC, iM, iP, iL, iN, jJ, iX, gM, iE, iG, iI, iH, gY, iO, hZ, iF, iV, iW, iJ, gR, iT, iQ, iD, jV, jW, kF, kD, kC, kG, kA, kB, kE, gD, Result.ok.injEq, Next.value.injEq, true_and, and_true, gX, iA, iU, iR, iS, jF, aB0, gV, gU, gW, gT, gO, gJ, gP, gN, gB, fV, if_true, if_false, aBZ, aB4, aB1, aB2, aB5, aB3, aBY, aBX, fQ, fL, fE, fR, cU, eS, eF, dK, bP, fS, eY, aP, dB, aX, bQ, bM, aO, cO, cJ, eQ, aE, gS, aJ, cK, aT, bU, fT, cI, cF, aD, gA, fD, aN, aF, bO, gQ, aI, eX, dT, dV, gF, dE, fB, cZ, eH, fF, fC, cG, dG, gK, dN, bZ, aS, bV, bT, fN, aG, aH, aQ, bA, bE, cP, bK, aA, fA, aR, cL, fJ, eU, gG, bJ, eL, eN, bY, fW, eZ, eJ, dH, cQ, dD, aY, bD, aL, fZ, aM, dA, eE, bB, cC, fK, dL, gC, fM, fG, fI, dS, aK, cH, cY, fY, fX, fH, dC, aV, dX, fU, cS, eT, fO, cD, bL, dR, aZ, dW, dQ, cM, eM, eK, bF, dF, bG, eD, dU, dZ, bN, cR, cN, dO, bS, cW, cV, fP, cB, eI, eP, gE, dY, dP, dM, dI, bH, bR, bW, bX, aU, cX, aW, d1, d2, t4, e1, e2, e3, e4]
  exact fin (n * 16 + 12 + k) 3 _ (by omega) (by omega) (by omega) (by unfold wP; rw [if_neg h1, if_neg h2]) rfl
theorem atG {v : aEm} {l : List UInt8} {w : aEl} (h : Bs w v l) (hl : l.length <= 131072) :
 jE pg GV #[v] w (fun r w' => ∃ x, r = .tuple #[x, .int .i64 0] /\ yW w' w.heap.size 1 x (wP 0 l.length ++ l).length ((wP 0 l.length ++ l).map nT) /\ jN w w' mC) := by
 refine Wu ?_
 unfold WW Jv
 have hv := h
 obtain ⟨a, c, rfl, hc⟩ := h.len
 rw [aB6] at *
 have d1 : decide ((l.length : Int) > 131072) = false := decide_eq_false (by omega)
 have d2 : decide ((131072 : Int) < (l.length : Int)) = false := decide_eq_false (by omega)
 simp (disch := omega) only [gI, jD, dJ, stepR_skip, hJ, iC, iM, iP, iL, iN, jJ, iX, gM, iE, iG, iI, iH, gY, iO, hZ, iF, iV, iW, iJ, gR, iT, iQ, iD, jV, jW, kF, kD, kC, kG, kA, kB, kE, gD, Result.ok.injEq, Next.value.injEq, true_and, and_true, gX, iA, iU, iR, iS, jF, aB0, gV, gU, gW, gT, gO, gJ, gP, gN, gB, fV, if_true, if_false, aBZ, aB4, aB1, aB2, aB5, aB3, aBY, aBX, fQ, fL, fE, fR, cU, eS, eF, dK, bP, fS, eY, aP, dB, aX, bQ, bM, aO, cO, cJ, eQ, aE, gS, aJ, cK, aT, bU, fT, cI, cF, aD, gA, fD, aN, aF, bO, gQ, aI, eX, dT, dV, gF, dE, fB, cZ, eH, fF, fC, cG, dG, gK, dN, bZ, aS, bV, bT, fN, aG, aH, aQ, bA, bE, cP, bK, aA, fA, aR, cL, fJ, eU, gG, bJ, eL, eN, bY, fW, eZ, eJ, dH, cQ, dD, aY, bD, aL, fZ, aM, dA, eE, bB, cC, fK, dL, gC, fM, fG, fI, dS, aK, cH, cY, fY, fX, fH, dC, aV, dX, fU, cS, eT, fO, cD, bL, dR, aZ, dW, dQ, cM, eM, eK, bF, dF, bG, eD, dU, dZ, bN, cR, cN, dO, bS, cW, cV, fP, cB, eI, eP, gE, dY, dP, dM, dI, bH, bR, bW, bX, aU, cX, aW, d1, d2]
 refine (acE (k := 0) (n := l.length) (by omega) hl).mono ?_
 rintro r w1 ⟨o1, x1⟩
 have z1 := x1.size
 have hcl := (hv.ext x1 (kJ _)).cl
 rw [aB6] at hcl
 have hp := Qw 0 l.length
 refine mU o1 hcl (FT _) z1 (by omega) fun v2 w2 o2 x2 => ?_
 refine ⟨v2, rfl, ?_, x1.trans x2 fun y hy h => by omega⟩
 rw [aB7, aCC]
 exact o2
theorem aqE {c : UInt8} {n : Nat} {w : aEl} (hn : n <= 131072) :
 jE pg Ee #[nT c, .int .i64 n] w (fun r w' => ∃ x, r = .tuple #[x, .int .i64 0] /\ yW w' w.heap.size 1 x (wP 1 n ++ [c]).length ((wP 1 n ++ [c]).map nT) /\ jN w w' mC) := by
 refine VI ?_
 unfold Vs Ie
 have d0 : decide ((n : Int) < 0) = false := decide_eq_false (by omega)
 have d1 : decide ((n : Int) > 131072) = false := decide_eq_false (by omega)
 have d2 : decide ((131072 : Int) < (n : Int)) = false := decide_eq_false (by omega)
 simp (disch := omega) only [gI, jD, dJ, stepR_skip, hJ, iC, iM, iP, iL, iN, jJ, iX, gM, iE, iG, iI, iH, gY, iO, hZ, iF, iV, iW, iJ, gR, iT, iQ, iD, jV, jW, kF, kD, kC, kG, kA, kB, kE, gD, Result.ok.injEq, Next.value.injEq, true_and, and_true, gX, iA, iU, iR, iS, jF, aB0, gV, gU, gW, gT, gO, gJ, gP, gN, gB, fV, if_true, if_false, aBZ, aB4, aB1, aB2, aB5, aB3, aBY, aBX, fQ, fL, fE, fR, cU, eS, eF, dK, bP, fS, eY, aP, dB, aX, bQ, bM, aO, cO, cJ, eQ, aE, gS, aJ, cK, aT, bU, fT, cI, cF, aD, gA, fD, aN, aF, bO, gQ, aI, eX, dT, dV, gF, dE, fB, cZ, eH, fF, fC, cG, dG, gK, dN, bZ, aS, bV, bT, fN, aG, aH, aQ, bA, bE, cP, bK, aA, fA, aR, cL, fJ, eU, gG, bJ, eL, eN, bY, fW, eZ, eJ, dH, cQ, dD, aY, bD, aL, fZ, aM, dA, eE, bB, cC, fK, dL, gC, fM, fG, fI, dS, aK, cH, cY, fY, fX, fH, dC, aV, dX, fU, cS, eT, fO, cD, bL, dR, aZ, dW, dQ, cM, eM, eK, bF, dF, bG, eD, dU, dZ, bN, cR, cN, dO, bS, cW, cV, fP, cB, eI, eP, gE, dY, dP, dM, dI, bH, bR, bW, bX, aU, cX, aW, d0, d1, d2]
 refine (acE (k := 1) (n := n) (by omega) hn).mono ?_
 rintro r w1 ⟨o1, x1⟩
 have z1 := x1.size
 have hp := Qw 1 n
 refine uD (cells := #[nT c]) (by decide) (by decide) (by kernel_rfl) fun w2 o2 x2 s2 => ?_
 have z2 := x2.size
 refine mU (m := 1) (news := [nT c]) (o1.ext x2 (fun _ _ h => h)) (o2.cl (off := 0) (l := [nT c]) (n := 1) rfl (fun i hi => by rw [aB4])) (by simp [one, nT]) (by omega) (by omega) fun v2 w3 o3 x3 => ?_
 refine ⟨v2, rfl, ?_, (x1.seq x2).trans x3 fun y hy h => by omega⟩
 rw [aB7, aCC]
 exact o3
end Go.Proofs.YtoecppploooloaaGreatDoor
namespace Go.En
open Go
section
variable {P : Program}
theorem aaA {a : Array aEm} {t x : Nat} {v : aEm} (h : t < a.size) : RP (a.setIfInBounds t v) x = if x = t then v else RP a x := by
 unfold RP
 rw [aCd, aCd]
 by_cases hx : x = t
 .subst hx; rw [aCy h, if_pos rfl] <;> rfl
 .rw [aCG (fun e => hx e.symm), if_neg hx]
theorem apS {N x : Nat} {g : Env} (h : x < N) : RP (tmpsOf N g) x = g x := by
 unfold RP tmpsOf
 rw [aCd, aCo (by simpa using h)]
 simp
theorem Z7 {f : FuncId} {fn : Func} (hf : P.funcs[f]? = some fn) (hb : fn.body.isSome = true) (hn : (fn.name == "runtime.NumGoroutine") = false) (cap : Array aEm) (args : List aEm) (w : aEl) :
 (EC (.func (.func f) #[] cap) args).run P w = .ok (.enter f (args.toArray ++ cap)) w := by
 unfold EC Deferred.ofValue
 simp only [pure_bind, invoke, Array.empty_append]
 exact XG hf hb hn _ _
def abO (r : Loop) (args : List aEm) : Array aEm := (r.params.zip args.toArray).foldl (fun tmps (t, a) => tmps.setIfInBounds t a) r.tmps
theorem axQ {r : Loop} {a b : Tmp} {t : Array aEm} (hp : r.params = #[a, b]) (ht : r.tmps = t) (x y : aEm) : abO r [x, y] = (t.setIfInBounds a x).setIfInBounds b y := by
 unfold abO; rw [hp, ht]; simp
theorem avX {l : Nat} {r : Loop} {args : List aEm} {w : aEl} (h : w.heap[l]? = some (.loop r)) (hs : args.length = r.params.size) :
 (EC (KP l) args).run P w = .ok (.round l r.fn (abO r args) r.assign r.body) w := by
 unfold EC KP Deferred.ofValue
 simp only [pure_bind, invoke, Array.empty_append]
 exact run_yield h (by simpa using hs)
theorem asU {f fi : FuncId} {fn : Func} {gf : Operand} {ps : Array Tmp} {aBW bd : Code} {Q : Exit -> Env -> aEl -> Prop} {g : Env} {w : aEl} {cap : Array aEm}
 (hm : noMark (g DS) = true) (he : ev g gf = .func (.func fi) #[] cap) (hf : P.funcs[fi]? = some fn) (hb : fn.body.isSome = true) (hn : (fn.name == "runtime.NumGoroutine") = false)
 (h : jE P fi (#[KP (w.heap.size + 1)] ++ cap) (rfW f (Yi P f) ps aBW bd g w) fun _ w3 => asW (w.heap.size + 1) Q (put g (some DS) (.pointer (some ⟨w.heap.size, 0, none⟩))) w3) :
 RF P f gf ps aBW bd Q g w := by
 unfold RF
 rw [hm]
 simp only
 rw [he, Z7 hf hb hn]
 exact h
theorem jN.putObj (w : aEl) (l : Nat) (o : Obj) : jN w (w.putObj l o) (fun y => y = l) :=
 ⟨rfl, rfl, rfl, by simp, fun b hb hM => World.putObj_heap_other hM⟩
theorem HJ {w w' : aEl} {l : Nat} {o : Obj} {M : Nat -> Prop} (h : w.heap[l]? = some o) (hx : jN w w' M) (hM : ¬ M l) : w'.heap[l]? = some o := by
 have : l < w.heap.size := by
  rcases aCk l w.heap.size with h' | h'
  .exact h'
  .rw [aC1 h'] at h; cases h
 rw [hx.keep l this hM]; exact h
theorem ayD {w : aEl} {l : Nat} {o : Obj} (h : w.heap[l]? = some o) : l < w.heap.size := by
 rcases aCk l w.heap.size with h' | h'
 .exact h'
 .rw [aC1 h'] at h; cases h
theorem apY (f : FuncId) (N : Nat) (ps : Array Tmp) (aBW bd : Code) (g : Env) (w : aEl) :
 jN w (rfW f N ps aBW bd g w) mC /\ (rfW f N ps aBW bd g w).heap.size = w.heap.size + 2 /\ (rfW f N ps aBW bd g w).heap[w.heap.size]? = some (.deferred (some [])) /\
  (rfW f N ps aBW bd g w).heap[w.heap.size + 1]? = some (.loop { state := .ready, pending := none, fn := f, tmps := tmpsOf N g, params := ps, assign := aBW, body := bd, defers := w.heap.size }) := by
 unfold rfW
 have x1 := jN.alloc w (.deferred (some [])) mC
 have h1 := World.alloc_heap_new w (.deferred (some []))
 have z1 : (w.alloc (.deferred (some []))).heap.size = w.heap.size + 1 := by simp
 generalize w.alloc (.deferred (some [])) = w1 at *
 refine ⟨x1.seq (jN.alloc w1 _ mC), by simp [z1], HJ h1 (jN.alloc w1 _ mC) (fun h => h), ?_⟩
 have := World.alloc_heap_new w1 (.loop { state := .ready, pending := none, fn := f, tmps := tmpsOf N g, params := ps, assign := aBW, body := bd, defers := w.heap.size })
 rw [z1] at this
 exact this
theorem anS {l : Nat} {r : Loop} {w : aEl} {K : aEl -> Prop} (h : w.heap[l]? = some (.loop r)) (hr : r.state = .ready)
 (hk : ∀ w', w'.heap[l]? = some (.loop { r with state := .busy }) -> jN w w' (fun y => y = l) -> w'.heap.size = w.heap.size -> K w') : Rdy l w K :=
 ⟨r, h, hr, hk _ (World.putObj_heap_same (ayD h)) (jN.putObj _ _ _) (by simp)⟩
theorem abP {l : Nat} {r : Loop} {j : Option Code} {w : aEl} {R : aEm -> aEl -> Prop} (h : w.heap[l]? = some (.loop r))
 (hk : ∀ w', w'.heap[l]? = some (.loop { r with state := jSt j, pending := j }) -> jN w w' (fun y => y = l) -> w'.heap.size = w.heap.size -> R (.bool j.isNone) w') : ahK l j R w :=
 ⟨r, h, hk _ (World.putObj_heap_same (ayD h)) (jN.putObj _ _ _) (by simp)⟩
theorem Zz {l : Nat} {r : Loop} {w : aEl} {Q : Exit -> Env -> aEl -> Prop} {g : Env} (h : w.heap[l]? = some (.loop r)) (hb : r.state ≠ .busy)
 (hk : ∀ w', jN w w' (fun y => y = l) -> w'.heap.size = w.heap.size -> ayP Q g r.pending w') : asW l Q g w :=
 ⟨r, h, hb, hk _ (jN.putObj _ _ _) (by simp)⟩
theorem abE {b : Nat} {w : aEl} {K : aEl -> Prop} (h : w.heap[b]? = some (.deferred (some []))) (hk : ∀ w', jN w w' (fun y => y = b) -> w'.heap.size = w.heap.size -> K w') :
 G3 (.pointer (some ⟨b, 0, none⟩)) w K := ⟨h, hk _ (jN.putObj _ _ _) (by simp)⟩
theorem akM {f : FuncId} (first captured : List aEm) (w : aEl) : (abT (.func f) first captured).run P w = .ok (.value (.func (.func f) first.toArray captured.toArray)) w := by
 unfold abT V Instr.makeFunc
 simp [Sem.run_bind, Sem.run_pure]
end
end Go.En
namespace Go.Proofs.YtoecppploooloaaGreatDoor
open Go Go.En Go.Pu
set_option maxRecDepth 4000
theorem aAf : nM 4247762216 4 = [40, 181, 47, 253] := by decide
theorem afV {n : Nat} {s : Bool} {w : aEl} (hn : n < 65792) :
 jE pg IG #[.int .u64 (n : Nat), .bool s] w (fun r w' => yW w' w.heap.size 1 r (FZ n s).length ((FZ n s).map nT) /\ jN w w' mC) := by
 refine Yh ?_
 obtain ⟨RR, hRR⟩ : ∃ RR : aEm -> aEl -> Prop, RR = fun r w' => yW w' w.heap.size 1 r (FZ n s).length ((FZ n s).map nT) /\ jN w w' mC := ⟨_, rfl⟩
 rw [<- hRR]
 unfold Zl KL J8 LI Kj
 have fin : ∀ (d m less : Nat), d < 256 -> 1 <= m /\ m <= 2 -> less <= n -> [40, 181, 47, 253] ++ nM d 1 ++ nM (n - less) m = FZ n s -> Cg RR (.int .u64 (n : Nat)) (.int .u64 (d : Nat)) (.int .i64 (m : Nat)) (.int .u64 (less : Nat)) w := by
  intro d m less hd hm hle he
  unfold Cg
  refine (HK w).mono ?_
  rintro r w1 ⟨rfl, hlt, h1, x1⟩
  have z1 := x1.size
  have e1 : (n : Int) - (less : Int) = ((n - less : Nat) : Int) := by omega
  refine (B2 (x := 4247762216) (n := 4) h1 (fun b hb => by omega) (by decide) ⟨by omega, by omega⟩ (by simp)).mono ?_
  rintro r w2 ⟨rfl, h2, x2⟩
  have z2 := x2.size
  rw [aCT, aAf] at h2
  refine (B2 (x := d) (n := 1) h2 (fun b hb => by omega) (by omega) ⟨by omega, by omega⟩ (by simp)).mono ?_
  rintro r w3 ⟨rfl, h3, x3⟩
  have z3 := x3.size
  simp (disch := omega) only [gI, jD, dJ, stepR_skip, hJ, iC, iM, iP, iL, iN, jJ, iX, gM, iE, iG, iI, iH, gY, iO, hZ, iF, iV, iW, iJ, gR, iT, iQ, iD, jV, jW, kF, kD, kC, kG, kA, kB, kE, gD, Result.ok.injEq, Next.value.injEq, true_and, and_true, gX, iA, iU, iR, iS, jF, aB0, gV, gU, gW, gT, gO, gJ, gP, gN, gB, fV, if_true, if_false, aBZ, aB4, aB1, aB2, aB5, aB3, aBY, aBX, fQ, fL, fE, fR, cU, eS, eF, dK, bP, fS, eY, aP, dB, aX, bQ, bM, aO, cO, cJ, eQ, aE, gS, aJ, cK, aT, bU, fT, cI, cF, aD, gA, fD, aN, aF, bO, gQ, aI, eX, dT, dV, gF, dE, fB, cZ, eH, fF, fC, cG, dG, gK, dN, bZ, aS, bV, bT, fN, aG, aH, aQ, bA, bE, cP, bK, aA, fA, aR, cL, fJ, eU, gG, bJ, eL, eN, bY, fW, eZ, eJ, dH, cQ, dD, aY, bD, aL, fZ, aM, dA, eE, bB, cC, fK, dL, gC, fM, fG, fI, dS, aK, cH, cY, fY, fX, fH, dC, aV, dX, fU, cS, eT, fO, cD, bL, dR, aZ, dW, dQ, cM, eM, eK, bF, dF, bG, eD, dU, dZ, bN, cR, cN, dO, bS, cW, cV, fP, cB, eI, eP, gE, dY, dP, dM, dI, bH, bR, bW, bX, aU, cX, aW, e1]
  refine (B2 (x := n - less) (n := m) h3 (fun b hb => by omega) (by omega) ⟨by omega, by omega⟩ (by simp [lA])).mono ?_
  rintro r w4 ⟨rfl, h4, x4⟩
  rw [he] at h4
  refine (Tf h4 (by have := aaC n s; omega)).mono ?_
  rintro r w5 ⟨o5, x5⟩
  have x04 : jN w w4 mC := ((x1.trans x2 fun y hy h => by omega).trans x3 fun y hy h => by omega).trans x4 fun y hy h => by omega
  rw [hRR]
  exact ⟨Pt o5 x04.size, x04.seq x5⟩
 have o1 : Z6 .u64 32 64 = 96 := by decide
 have o2 : Z6 .u64 32 4 = 36 := by decide
 have o3 : Z6 .u64 96 4 = 100 := by decide
 by_cases h1 : n < 256
 .have d1 : decide ((n : Int) < 256) = true := decide_eq_true (by omega)
  cases s with
  | true =>
    simp (disch := omega) only [gI, jD, dJ, stepR_skip, hJ, iC, iM, iP, iL, iN, jJ, iX, gM, iE, iG, iI, iH, gY, iO, hZ, iF, iV, iW, iJ, gR, iT, iQ, iD, jV, jW, kF, kD, kC, kG, kA, kB, kE, gD, Result.ok.injEq, Next.value.injEq, true_and, and_true, gX, iA, iU, iR, iS, jF, aB0, gV, gU, gW, gT, gO, gJ, gP, gN, gB, fV, if_true, if_false, aBZ, aB4, aB1, aB2, aB5, aB3, aBY, aBX, fQ, fL, fE, fR, cU, eS, eF, dK, bP, fS, eY, aP, dB, aX, bQ, bM, aO, cO, cJ, eQ, aE, gS, aJ, cK, aT, bU, fT, cI, cF, aD, gA, fD, aN, aF, bO, gQ, aI, eX, dT, dV, gF, dE, fB, cZ, eH, fF, fC, cG, dG, gK, dN, bZ, aS, bV, bT, fN, aG, aH, aQ, bA, bE, cP, bK, aA, fA, aR, cL, fJ, eU, gG, bJ, eL, eN, bY, fW, eZ, eJ, dH, cQ, dD, aY, bD, aL, fZ, aM, dA, eE, bB, cC, fK, dL, gC, fM, fG, fI, dS, aK, cH, cY, fY, fX, fH, dC, aV, dX, fU, cS, eT, fO, cD, bL, dR, aZ, dW, dQ, cM, eM, eK, bF, dF, bG, eD, dU, dZ, bN, cR, cN, dO, bS, cW, cV, fP, cB, eI, eP, gE, dY, dP, dM, dI, bH, bR, bW, bX, aU, cX, aW, d1, o1, o2, o3]
    exact fin 36 1 0 (by omega) (by omega) (by omega) (by unfold FZ; rw [if_pos h1] <;> rfl)
  | false =>
    simp (disch := omega) only [gI, jD, dJ, stepR_skip, hJ, iC, iM, iP, iL, iN, jJ, iX, gM, iE, iG, iI, iH, gY, iO, hZ, iF, iV, iW, iJ, gR, iT, iQ, iD, jV, jW, kF, kD, kC, kG, kA, kB, kE, gD, Result.ok.injEq, Next.value.injEq, true_and, and_true, gX, iA, iU, iR, iS, jF, aB0, gV, gU, gW, gT, gO, gJ, gP, gN, gB, fV, if_true, if_false, aBZ, aB4, aB1, aB2, aB5, aB3, aBY, aBX, fQ, fL, fE, fR, cU, eS, eF, dK, bP, fS, eY, aP, dB, aX, bQ, bM, aO, cO, cJ, eQ, aE, gS, aJ, cK, aT, bU, fT, cI, cF, aD, gA, fD, aN, aF, bO, gQ, aI, eX, dT, dV, gF, dE, fB, cZ, eH, fF, fC, cG, dG, gK, dN, bZ, aS, bV, bT, fN, aG, aH, aQ, bA, bE, cP, bK, aA, fA, aR, cL, fJ, eU, gG, bJ, eL, eN, bY, fW, eZ, eJ, dH, cQ, dD, aY, bD, aL, fZ, aM, dA, eE, bB, cC, fK, dL, gC, fM, fG, fI, dS, aK, cH, cY, fY, fX, fH, dC, aV, dX, fU, cS, eT, fO, cD, bL, dR, aZ, dW, dQ, cM, eM, eK, bF, dF, bG, eD, dU, dZ, bN, cR, cN, dO, bS, cW, cV, fP, cB, eI, eP, gE, dY, dP, dM, dI, bH, bR, bW, bX, aU, cX, aW, d1, o1, o2, o3]
    exact fin 32 1 0 (by omega) (by omega) (by omega) (by unfold FZ; rw [if_pos h1] <;> rfl)
 .have d1 : decide ((n : Int) < 256) = false := decide_eq_false (by omega)
  have d2 : decide ((n : Int) < 65792) = true := decide_eq_true (by omega)
  cases s with
  | true =>
    simp (disch := omega) only [gI, jD, dJ, stepR_skip, hJ, iC, iM, iP, iL, iN, jJ, iX, gM, iE, iG, iI, iH, gY, iO, hZ, iF, iV, iW, iJ, gR, iT, iQ, iD, jV, jW, kF, kD, kC, kG, kA, kB, kE, gD, Result.ok.injEq, Next.value.injEq, true_and, and_true, gX, iA, iU, iR, iS, jF, aB0, gV, gU, gW, gT, gO, gJ, gP, gN, gB, fV, if_true, if_false, aBZ, aB4, aB1, aB2, aB5, aB3, aBY, aBX, fQ, fL, fE, fR, cU, eS, eF, dK, bP, fS, eY, aP, dB, aX, bQ, bM, aO, cO, cJ, eQ, aE, gS, aJ, cK, aT, bU, fT, cI, cF, aD, gA, fD, aN, aF, bO, gQ, aI, eX, dT, dV, gF, dE, fB, cZ, eH, fF, fC, cG, dG, gK, dN, bZ, aS, bV, bT, fN, aG, aH, aQ, bA, bE, cP, bK, aA, fA, aR, cL, fJ, eU, gG, bJ, eL, eN, bY, fW, eZ, eJ, dH, cQ, dD, aY, bD, aL, fZ, aM, dA, eE, bB, cC, fK, dL, gC, fM, fG, fI, dS, aK, cH, cY, fY, fX, fH, dC, aV, dX, fU, cS, eT, fO, cD, bL, dR, aZ, dW, dQ, cM, eM, eK, bF, dF, bG, eD, dU, dZ, bN, cR, cN, dO, bS, cW, cV, fP, cB, eI, eP, gE, dY, dP, dM, dI, bH, bR, bW, bX, aU, cX, aW, d1, d2, o1, o2, o3]
    exact fin 100 2 256 (by omega) (by omega) (by omega) (by unfold FZ; rw [if_neg h1] <;> rfl)
  | false =>
    simp (disch := omega) only [gI, jD, dJ, stepR_skip, hJ, iC, iM, iP, iL, iN, jJ, iX, gM, iE, iG, iI, iH, gY, iO, hZ, iF, iV, iW, iJ, gR, iT, iQ, iD, jV, jW, kF, kD, kC, kG, kA, kB, kE, gD, Result.ok.injEq, Next.value.injEq, true_and, and_true, gX, iA, iU, iR, iS, jF, aB0, gV, gU, gW, gT, gO, gJ, gP, gN, gB, fV, if_true, if_false, aBZ, aB4, aB1, aB2, aB5, aB3, aBY, aBX, fQ, fL, fE, fR, cU, eS, eF, dK, bP, fS, eY, aP, dB, aX, bQ, bM, aO, cO, cJ, eQ, aE, gS, aJ, cK, aT, bU, fT, cI, cF, aD, gA, fD, aN, aF, bO, gQ, aI, eX, dT, dV, gF, dE, fB, cZ, eH, fF, fC, cG, dG, gK, dN, bZ, aS, bV, bT, fN, aG, aH, aQ, bA, bE, cP, bK, aA, fA, aR, cL, fJ, eU, gG, bJ, eL, eN, bY, fW, eZ, eJ, dH, cQ, dD, aY, bD, aL, fZ, aM, dA, eE, bB, cC, fK, dL, gC, fM, fG, fI, dS, aK, cH, cY, fY, fX, fH, dC, aV, dX, fU, cS, eT, fO, cD, bL, dR, aZ, dW, dQ, cM, eM, eK, bF, dF, bG, eD, dU, dZ, bN, cR, cN, dO, bS, cW, cV, fP, cB, eI, eP, gE, dY, dP, dM, dI, bH, bR, bW, bX, aU, cX, aW, d1, d2, o1, o2, o3]
    exact fin 96 2 256 (by omega) (by omega) (by omega) (by unfold FZ; rw [if_neg h1] <;> rfl)
theorem axK (x : Nat) : nM x 3 = b3 x := by
 unfold b3
 simp only [nM]
 rw [show x / 256 / 256 = x / 65536 from by omega]
theorem afL {k z : Nat} {t : Bool} {w : aEl} (hk : k <= 2) (hz : z < 2097152) :
 jE pg Ar #[.agg #[.bool t, .int .i64 (k : Nat), .int .i64 (z : Nat)]] w (fun r w' => ∃ v, r = .tuple #[v, .int .i64 0] /\ yW w' w.heap.size 1 v 3 ((b3 (8 * z + 2 * k + if t then 1 else 0)).map nT) /\ jN w w' mC) := by
 refine Ru ?_
 obtain ⟨RR, hRR⟩ : ∃ RR : aEm -> aEl -> Prop, RR = fun r w' => ∃ v, r = .tuple #[v, .int .i64 0] /\ yW w' w.heap.size 1 v 3 ((b3 (8 * z + 2 * k + if t then 1 else 0)).map nT) /\ jN w w' mC := ⟨_, rfl⟩
 rw [<- hRR]
 unfold O2 CX CY
 refine Ah fun w1 o1 x1 s1 => ?_
 have o1 : lN w1 w.heap.size [.bool t, .int .i64 (k : Nat), .int .i64 (z : Nat)] := o1
 obtain ⟨p, hp⟩ : ∃ p, p = w.heap.size := ⟨_, rfl⟩
 rw [<- hp] at o1 ⊢
 have c0 : w1.cell? ⟨p, 0, none⟩ = some (.bool t) := o1.cell (off := 0)
 have c1 : w1.cell? ⟨p, 1, none⟩ = some (.int .i64 (k : Nat)) := o1.cell (off := 1)
 have c2 : w1.cell? ⟨p, 2, none⟩ = some (.int .i64 (z : Nat)) := o1.cell (off := 2)
 have fin : ∀ X : Nat, X = 8 * z + 2 * k + (if t then 1 else 0) -> tL RR (.int .i64 (X : Nat)) w1 := by
  intro X hX
  unfold tL
  refine (HK w1).mono ?_
  rintro r w2 ⟨rfl, hlt, h1, x2⟩
  have z2 := x2.size
  have hXb : X < 2 ^ 25 := by rw [hX]; split <;> omega
  have e1 : IntKind.u64.wrap (X : Int) = (X : Int) := iA (by omega) (by omega)
  simp (disch := omega) only [gI, jD, dJ, stepR_skip, hJ, iC, iM, iP, iL, iN, jJ, iX, gM, iE, iG, iI, iH, gY, iO, hZ, iF, iV, iW, iJ, gR, iT, iQ, iD, jV, jW, kF, kD, kC, kG, kA, kB, kE, gD, Result.ok.injEq, Next.value.injEq, true_and, and_true, gX, iA, iU, iR, iS, jF, aB0, gV, gU, gW, gT, gO, gJ, gP, gN, gB, fV, if_true, if_false, aBZ, aB4, aB1, aB2, aB5, aB3, aBY, aBX, fQ, fL, fE, fR, cU, eS, eF, dK, bP, fS, eY, aP, dB, aX, bQ, bM, aO, cO, cJ, eQ, aE, gS, aJ, cK, aT, bU, fT, cI, cF, aD, gA, fD, aN, aF, bO, gQ, aI, eX, dT, dV, gF, dE, fB, cZ, eH, fF, fC, cG, dG, gK, dN, bZ, aS, bV, bT, fN, aG, aH, aQ, bA, bE, cP, bK, aA, fA, aR, cL, fJ, eU, gG, bJ, eL, eN, bY, fW, eZ, eJ, dH, cQ, dD, aY, bD, aL, fZ, aM, dA, eE, bB, cC, fK, dL, gC, fM, fG, fI, dS, aK, cH, cY, fY, fX, fH, dC, aV, dX, fU, cS, eT, fO, cD, bL, dR, aZ, dW, dQ, cM, eM, eK, bF, dF, bG, eD, dU, dZ, bN, cR, cN, dO, bS, cW, cV, fP, cB, eI, eP, gE, dY, dP, dM, dI, bH, bR, bW, bX, aU, cX, aW, e1]
  refine (B2 (x := X) (n := 3) h1 (fun b hb => by omega) (by omega) ⟨by omega, by omega⟩ (by simp)).mono ?_
  rintro r w3 ⟨rfl, h3, x3⟩
  rw [aCT, axK, hX] at h3
  refine (Tf h3 (by simp [b3])).mono ?_
  rintro r w4 ⟨o4, x4⟩
  have x03 : jN w w3 mC := (x1.seq x2).trans x3 fun y hy h => by omega
  rw [hRR]
  exact ⟨r, rfl, Pt o4 x03.size, x03.seq x4⟩
 have d1 : decide (((k : Nat) : Int) < 0) = false := decide_eq_false (by omega)
 have d2 : decide ((2 : Int) < ((k : Nat) : Int)) = false := decide_eq_false (by omega)
 have d3 : decide (((z : Nat) : Int) < 0) = false := decide_eq_false (by omega)
 have d4 : decide ((2097152 : Int) <= ((z : Nat) : Int)) = false := decide_eq_false (by omega)
 have t3 : (3 : Int).toNat = 3 := rfl
 have t1 : (1 : Int).toNat = 1 := rfl
 have e1 := aeL (a := z) (n := 3) (by omega) (by omega)
 have e2 := aeL (a := k) (n := 1) (by omega) (by omega)
 have e3 : Z6 .i64 ((z * 2 ^ 3 : Nat) : Int) ((k * 2 ^ 1 : Nat) : Int) = ((z * 2 ^ 3 + k * 2 ^ 1 : Nat) : Int) := by
  rw [XP (by omega) (by omega), QC 3 (by omega)]
 have e4 : Z6 .i64 ((z * 2 ^ 3 + k * 2 ^ 1 : Nat) : Int) 1 = ((z * 2 ^ 3 + k * 2 ^ 1 + 1 : Nat) : Int) := by
  have := XP (a := z * 2 ^ 3 + k * 2 ^ 1) (b := 1) (by omega) (by omega)
  rw [show z * 2 ^ 3 + k * 2 ^ 1 = (z * 4 + k) * 2 ^ 1 from by omega, QC 1 (by omega)] at this
  rw [show z * 2 ^ 3 + k * 2 ^ 1 = (z * 4 + k) * 2 ^ 1 from by omega]
  exact this
 cases t with
 | true =>
   simp (disch := omega) only [gI, jD, dJ, stepR_skip, hJ, iC, iM, iP, iL, iN, jJ, iX, gM, iE, iG, iI, iH, gY, iO, hZ, iF, iV, iW, iJ, gR, iT, iQ, iD, jV, jW, kF, kD, kC, kG, kA, kB, kE, gD, Result.ok.injEq, Next.value.injEq, true_and, and_true, gX, iA, iU, iR, iS, jF, aB0, gV, gU, gW, gT, gO, gJ, gP, gN, gB, fV, if_true, if_false, aBZ, aB4, aB1, aB2, aB5, aB3, aBY, aBX, fQ, fL, fE, fR, cU, eS, eF, dK, bP, fS, eY, aP, dB, aX, bQ, bM, aO, cO, cJ, eQ, aE, gS, aJ, cK, aT, bU, fT, cI, cF, aD, gA, fD, aN, aF, bO, gQ, aI, eX, dT, dV, gF, dE, fB, cZ, eH, fF, fC, cG, dG, gK, dN, bZ, aS, bV, bT, fN, aG, aH, aQ, bA, bE, cP, bK, aA, fA, aR, cL, fJ, eU, gG, bJ, eL, eN, bY, fW, eZ, eJ, dH, cQ, dD, aY, bD, aL, fZ, aM, dA, eE, bB, cC, fK, dL, gC, fM, fG, fI, dS, aK, cH, cY, fY, fX, fH, dC, aV, dX, fU, cS, eT, fO, cD, bL, dR, aZ, dW, dQ, cM, eM, eK, bF, dF, bG, eD, dU, dZ, bN, cR, cN, dO, bS, cW, cV, fP, cB, eI, eP, gE, dY, dP, dM, dI, bH, bR, bW, bX, aU, cX, aW, c0, c1, c2, d1, d2, d3, d4, t3, t1, e1, e2, e3, e4]
   exact fin _ (by simp; omega)
 | false =>
   simp (disch := omega) only [gI, jD, dJ, stepR_skip, hJ, iC, iM, iP, iL, iN, jJ, iX, gM, iE, iG, iI, iH, gY, iO, hZ, iF, iV, iW, iJ, gR, iT, iQ, iD, jV, jW, kF, kD, kC, kG, kA, kB, kE, gD, Result.ok.injEq, Next.value.injEq, true_and, and_true, gX, iA, iU, iR, iS, jF, aB0, gV, gU, gW, gT, gO, gJ, gP, gN, gB, fV, if_true, if_false, aBZ, aB4, aB1, aB2, aB5, aB3, aBY, aBX, fQ, fL, fE, fR, cU, eS, eF, dK, bP, fS, eY, aP, dB, aX, bQ, bM, aO, cO, cJ, eQ, aE, gS, aJ, cK, aT, bU, fT, cI, cF, aD, gA, fD, aN, aF, bO, gQ, aI, eX, dT, dV, gF, dE, fB, cZ, eH, fF, fC, cG, dG, gK, dN, bZ, aS, bV, bT, fN, aG, aH, aQ, bA, bE, cP, bK, aA, fA, aR, cL, fJ, eU, gG, bJ, eL, eN, bY, fW, eZ, eJ, dH, cQ, dD, aY, bD, aL, fZ, aM, dA, eE, bB, cC, fK, dL, gC, fM, fG, fI, dS, aK, cH, cY, fY, fX, fH, dC, aV, dX, fU, cS, eT, fO, cD, bL, dR, aZ, dW, dQ, cM, eM, eK, bF, dF, bG, eD, dU, dZ, bN, cR, cN, dO, bS, cW, cV, fP, cB, eI, eP, gE, dY, dP, dM, dI, bH, bR, bW, bX, aU, cX, aW, c0, c1, c2, d1, d2, d3, d4, t3, t1, e1, e2, e3, e4]
   exact fin _ (by simp; omega)
def Dn (l : List UInt8) : Bool := match l with | [] => false | c :: r => r.all (· == c)
theorem alW {n : Nat} {c : UInt8} (h : 0 < n) : Dn (List.replicate n c) = true := by
 obtain ⟨m, rfl⟩ : ∃ m, n = m + 1 := ⟨n - 1, by omega⟩
 rw [aC9]
 simp [Dn]
theorem alP {l : List UInt8} (h0 : 0 < l.length) (h : ∀ i (hi : i < l.length), l[i] = l[0]) : Dn l = true := by
 cases l with
 | nil => cases h0
 | cons c r =>
   simp only [Dn, aCE, beq_iff_eq]
   intro x hx
   obtain ⟨i, hi, rfl⟩ := aCX hx
   exact h (i + 1) (by simpa using hi)
theorem aqL {l : List UInt8} {i : Nat} (hi : i < l.length) (h : l[i] ≠ l[0]) : Dn l = false := by
 cases l with
 | nil => cases hi
 | cons c r =>
   cases hq : Dn (c :: r) with
   | false => rfl
   | true =>
     simp only [Dn, aCE, beq_iff_eq] at hq
     cases i with
     | zero => exact absurd rfl h
     | succ i => exact absurd (hq _ (aCW (by simpa using hi))) h
theorem amF {v : aEm} {l : List UInt8} {w : aEl} (hb : Bs w v l) (hl : l.length <= 100000000) :
 jE pg B6 #[v] w (fun r w' => r = .bool (Dn l) /\ jN w w' mC) := by
 refine WM ?_
 obtain ⟨RR, hRR⟩ : ∃ RR : aEm -> aEl -> Prop, RR = fun r w' => r = .bool (Dn l) /\ jN w w' mC := ⟨_, rfl⟩
 rw [<- hRR]
 unfold XF Ju
 have hv := hb
 obtain ⟨a, c, rfl, hc⟩ := hb.len
 rw [aB6] at hv hc ⊢
 refine Ah fun w1 o1 x1 s1 => ?_
 have o1 : lN w1 w.heap.size [.slice a l.length c] := o1
 obtain ⟨p, hp⟩ : ∃ p, p = w.heap.size := ⟨_, rfl⟩
 rw [<- hp] at o1 ⊢
 have c1 : w1.cell? ⟨p, 0, none⟩ = some (.slice a l.length c) := o1.cell (off := 0)
 by_cases h0 : 0 < l.length
 rotate_left
 .have d1 : decide ((0 : Int) < (l.length : Int)) = false := decide_eq_false (by omega)
  simp (disch := omega) only [gI, jD, dJ, stepR_skip, hJ, iC, iM, iP, iL, iN, jJ, iX, gM, iE, iG, iI, iH, gY, iO, hZ, iF, iV, iW, iJ, gR, iT, iQ, iD, jV, jW, kF, kD, kC, kG, kA, kB, kE, gD, Result.ok.injEq, Next.value.injEq, true_and, and_true, gX, iA, iU, iR, iS, jF, aB0, gV, gU, gW, gT, gO, gJ, gP, gN, gB, fV, if_true, if_false, aBZ, aB4, aB1, aB2, aB5, aB3, aBY, aBX, fQ, fL, fE, fR, cU, eS, eF, dK, bP, fS, eY, aP, dB, aX, bQ, bM, aO, cO, cJ, eQ, aE, gS, aJ, cK, aT, bU, fT, cI, cF, aD, gA, fD, aN, aF, bO, gQ, aI, eX, dT, dV, gF, dE, fB, cZ, eH, fF, fC, cG, dG, gK, dN, bZ, aS, bV, bT, fN, aG, aH, aQ, bA, bE, cP, bK, aA, fA, aR, cL, fJ, eU, gG, bJ, eL, eN, bY, fW, eZ, eJ, dH, cQ, dD, aY, bD, aL, fZ, aM, dA, eE, bB, cC, fK, dL, gC, fM, fG, fI, dS, aK, cH, cY, fY, fX, fH, dC, aV, dX, fU, cS, eT, fO, cD, bL, dR, aZ, dW, dQ, cM, eM, eK, bF, dF, bG, eD, dU, dZ, bN, cR, cN, dO, bS, cW, cV, fP, cB, eI, eP, gE, dY, dP, dM, dI, bH, bR, bW, bX, aU, cX, aW, c1, d1]
  rw [hRR]
  refine ⟨?_, x1⟩
  have : l = [] := aCK.1 (by omega)
  rw [this] <;> rfl
 have d1 : decide ((0 : Int) < (l.length : Int)) = true := decide_eq_true (by omega)
 have q1 := fun w => akM (P := pg) (f := yN) [] [.pointer (some ⟨p, 0, none⟩)] w
 simp (disch := omega) only [gI, jD, dJ, stepR_skip, hJ, iC, iM, iP, iL, iN, jJ, iX, gM, iE, iG, iI, iH, gY, iO, hZ, iF, iV, iW, iJ, gR, iT, iQ, iD, jV, jW, kF, kD, kC, kG, kA, kB, kE, gD, Result.ok.injEq, Next.value.injEq, true_and, and_true, gX, iA, iU, iR, iS, jF, aB0, gV, gU, gW, gT, gO, gJ, gP, gN, gB, fV, if_true, if_false, aBZ, aB4, aB1, aB2, aB5, aB3, aBY, aBX, fQ, fL, fE, fR, cU, eS, eF, dK, bP, fS, eY, aP, dB, aX, bQ, bM, aO, cO, cJ, eQ, aE, gS, aJ, cK, aT, bU, fT, cI, cF, aD, gA, fD, aN, aF, bO, gQ, aI, eX, dT, dV, gF, dE, fB, cZ, eH, fF, fC, cG, dG, gK, dN, bZ, aS, bV, bT, fN, aG, aH, aQ, bA, bE, cP, bK, aA, fA, aR, cL, fJ, eU, gG, bJ, eL, eN, bY, fW, eZ, eJ, dH, cQ, dD, aY, bD, aL, fZ, aM, dA, eE, bB, cC, fK, dL, gC, fM, fG, fI, dS, aK, cH, cY, fY, fX, fH, dC, aV, dX, fU, cS, eT, fO, cD, bL, dR, aZ, dW, dQ, cM, eM, eK, bF, dF, bG, eD, dU, dZ, bN, cR, cN, dO, bS, cW, cV, fP, cB, eI, eP, gE, dY, dP, dM, dI, bH, bR, bW, bX, aU, cX, aW, c1, d1, q1]
 refine IQ ?_
 unfold DH tV
 refine J4 ?_
 unfold Hb wK wM wO wN wJ wL wI
 simp (disch := omega) only [gI, jD, dJ, stepR_skip, hJ, iC, iM, iP, iL, iN, jJ, iX, gM, iE, iG, iI, iH, gY, iO, hZ, iF, iV, iW, iJ, gR, iT, iQ, iD, jV, jW, kF, kD, kC, kG, kA, kB, kE, gD, Result.ok.injEq, Next.value.injEq, true_and, and_true, gX, iA, iU, iR, iS, jF, aB0, gV, gU, gW, gT, gO, gJ, gP, gN, gB, fV, if_true, if_false, aBZ, aB4, aB1, aB2, aB5, aB3, aBY, aBX, fQ, fL, fE, fR, cU, eS, eF, dK, bP, fS, eY, aP, dB, aX, bQ, bM, aO, cO, cJ, eQ, aE, gS, aJ, cK, aT, bU, fT, cI, cF, aD, gA, fD, aN, aF, bO, gQ, aI, eX, dT, dV, gF, dE, fB, cZ, eH, fF, fC, cG, dG, gK, dN, bZ, aS, bV, bT, fN, aG, aH, aQ, bA, bE, cP, bK, aA, fA, aR, cL, fJ, eU, gG, bJ, eL, eN, bY, fW, eZ, eJ, dH, cQ, dD, aY, bD, aL, fZ, aM, dA, eE, bB, cC, fK, dL, gC, fM, fG, fI, dS, aK, cH, cY, fY, fX, fH, dC, aV, dX, fU, cS, eT, fO, cD, bL, dR, aZ, dW, dQ, cM, eM, eK, bF, dF, bG, eD, dU, dZ, bN, cR, cN, dO, bS, cW, cV, fP, cB, eI, eP, gE, dY, dP, dM, dI, bH, bR, bW, bX, aU, cX, aW]
 have hv1 := hv.ext x1 (kJ _)
 have hcells : ∀ i (hi : i < l.length), ∃ b off, a = some ⟨b, off, none⟩ /\ w1.cell? ⟨b, off + i, none⟩ = some (.int .u8 (l[i].toNat : Nat)) := fun i hi => by
  obtain ⟨a', n', c', he, hn', hc', hh⟩ := hv1
  simp only [Value.slice.injEq] at he
  obtain ⟨rfl, rfl, rfl⟩ := he
  obtain ⟨kb, koff, rfl, h2⟩ := hh (by omega)
  refine ⟨kb, koff, rfl, ?_⟩
  rw [h2 i (by omega), aCp, aB8 hi]
  rfl
 refine kP.rule (fun m (t : aEm) w' => ∃ i : Nat, m = l.length - i /\ i <= l.length /\ t = .int .i64 (i : Nat) /\ w' = w1 /\ (∀ j (hj : j < l.length), j < i -> l[j] = l[0])) l.length ⟨0, rfl, by omega, rfl, rfl, fun j _ hj => by omega⟩ ?_
 rintro m t w' ⟨i, rfl, hi, rfl, rfl, hall⟩
 unfold sK
 by_cases hlt : i < l.length
 .have d2 : decide ((i : Int) < (l.length : Int)) = true := decide_eq_true (by omega)
  have hin : (i : Int).toNat = i := aB0 _
  have e1 : (i : Int) + 1 = ((i + 1 : Nat) : Int) := by omega
  obtain ⟨kb, koff, rfl, hci⟩ := hcells i hlt
  obtain ⟨_, _, he, hc0⟩ := hcells 0 h0
  simp only [Option.some.injEq, Addr.mk.injEq] at he
  obtain ⟨rfl, rfl, -⟩ := he
  have q2 := Z7 (P := pg) (f := yN) Tryz.func43 (by kernel_rfl) (by kernel_rfl) #[.pointer (some ⟨p, 0, none⟩)] [.int .u8 (l[i].toNat : Nat)] w'
  have q3 : (List.toArray [Value.int .u8 (l[i].toNat : Nat)] ++ #[.pointer (some ⟨p, 0, none⟩)]) = #[.int .u8 (l[i].toNat : Nat), .pointer (some ⟨p, 0, none⟩)] := rfl
  rw [q3] at q2
  have call : ∀ K : aEm -> aEl -> Prop, K (.bool (l[i] != l[0])) w' -> jE pg yN #[.int .u8 (l[i].toNat : Nat), .pointer (some ⟨p, 0, none⟩)] w' K := fun K hK => by
   refine Us ?_
   unfold SU GO
   rw [aCR] at hc0
   have d0 : decide ((0 : Int) < (l.length : Int)) = true := decide_eq_true (by omega)
   have e0 : (((l[i].toNat : Nat) : Int) != ((l[0].toNat : Nat) : Int)) = (l[i] != l[0]) := by
    by_cases h : l[i] = l[0]
    .rw [h]; simp
    .have h2 : l[i].toNat ≠ l[0].toNat := fun e => h (UInt8.toNat_inj.1 e)
     rw [bne_iff_ne.2 h, bne_iff_ne]; omega
   have t0 : (0 : Int).toNat = 0 := rfl
   simp (disch := omega) only [gI, jD, dJ, stepR_skip, hJ, iC, iM, iP, iL, iN, jJ, iX, gM, iE, iG, iI, iH, gY, iO, hZ, iF, iV, iW, iJ, gR, iT, iQ, iD, jV, jW, kF, kD, kC, kG, kA, kB, kE, gD, Result.ok.injEq, Next.value.injEq, true_and, and_true, gX, iA, iU, iR, iS, jF, aB0, gV, gU, gW, gT, gO, gJ, gP, gN, gB, fV, if_true, if_false, aBZ, aB4, aB1, aB2, aB5, aB3, aBY, aBX, fQ, fL, fE, fR, cU, eS, eF, dK, bP, fS, eY, aP, dB, aX, bQ, bM, aO, cO, cJ, eQ, aE, gS, aJ, cK, aT, bU, fT, cI, cF, aD, gA, fD, aN, aF, bO, gQ, aI, eX, dT, dV, gF, dE, fB, cZ, eH, fF, fC, cG, dG, gK, dN, bZ, aS, bV, bT, fN, aG, aH, aQ, bA, bE, cP, bK, aA, fA, aR, cL, fJ, eU, gG, bJ, eL, eN, bY, fW, eZ, eJ, dH, cQ, dD, aY, bD, aL, fZ, aM, dA, eE, bB, cC, fK, dL, gC, fM, fG, fI, dS, aK, cH, cY, fY, fX, fH, dC, aV, dX, fU, cS, eT, fO, cD, bL, dR, aZ, dW, dQ, cM, eM, eK, bF, dF, bG, eD, dU, dZ, bN, cR, cN, dO, bS, cW, cV, fP, cB, eI, eP, gE, dY, dP, dM, dI, bH, bR, bW, bX, aU, cX, aW, c1, hc0, e0, t0, aCR]
   exact hK
  simp (disch := omega) only [gI, jD, dJ, stepR_skip, hJ, iC, iM, iP, iL, iN, jJ, iX, gM, iE, iG, iI, iH, gY, iO, hZ, iF, iV, iW, iJ, gR, iT, iQ, iD, jV, jW, kF, kD, kC, kG, kA, kB, kE, gD, Result.ok.injEq, Next.value.injEq, true_and, and_true, gX, iA, iU, iR, iS, jF, aB0, gV, gU, gW, gT, gO, gJ, gP, gN, gB, fV, if_true, if_false, aBZ, aB4, aB1, aB2, aB5, aB3, aBY, aBX, fQ, fL, fE, fR, cU, eS, eF, dK, bP, fS, eY, aP, dB, aX, bQ, bM, aO, cO, cJ, eQ, aE, gS, aJ, cK, aT, bU, fT, cI, cF, aD, gA, fD, aN, aF, bO, gQ, aI, eX, dT, dV, gF, dE, fB, cZ, eH, fF, fC, cG, dG, gK, dN, bZ, aS, bV, bT, fN, aG, aH, aQ, bA, bE, cP, bK, aA, fA, aR, cL, fJ, eU, gG, bJ, eL, eN, bY, fW, eZ, eJ, dH, cQ, dD, aY, bD, aL, fZ, aM, dA, eE, bB, cC, fK, dL, gC, fM, fG, fI, dS, aK, cH, cY, fY, fX, fH, dC, aV, dX, fU, cS, eT, fO, cD, bL, dR, aZ, dW, dQ, cM, eM, eK, bF, dF, bG, eD, dU, dZ, bN, cR, cN, dO, bS, cW, cV, fP, cB, eI, eP, gE, dY, dP, dM, dI, bH, bR, bW, bX, aU, cX, aW, d2, hin, hci, q2, IP]
  refine call _ ?_
  by_cases h : l[i] = l[0]
  .have e2 : (l[i] != l[0]) = false := by rw [h]; simp
   have hq : ∀ j (hj : j < l.length), j < i + 1 -> l[j] = l[0] := fun j hj hji => by
    by_cases hj2 : j = i
    .subst hj2; exact h
    .exact hall j hj (by omega)
   simp (disch := omega) only [gI, jD, dJ, stepR_skip, hJ, iC, iM, iP, iL, iN, jJ, iX, gM, iE, iG, iI, iH, gY, iO, hZ, iF, iV, iW, iJ, gR, iT, iQ, iD, jV, jW, kF, kD, kC, kG, kA, kB, kE, gD, Result.ok.injEq, Next.value.injEq, true_and, and_true, gX, iA, iU, iR, iS, jF, aB0, gV, gU, gW, gT, gO, gJ, gP, gN, gB, fV, if_true, if_false, aBZ, aB4, aB1, aB2, aB5, aB3, aBY, aBX, fQ, fL, fE, fR, cU, eS, eF, dK, bP, fS, eY, aP, dB, aX, bQ, bM, aO, cO, cJ, eQ, aE, gS, aJ, cK, aT, bU, fT, cI, cF, aD, gA, fD, aN, aF, bO, gQ, aI, eX, dT, dV, gF, dE, fB, cZ, eH, fF, fC, cG, dG, gK, dN, bZ, aS, bV, bT, fN, aG, aH, aQ, bA, bE, cP, bK, aA, fA, aR, cL, fJ, eU, gG, bJ, eL, eN, bY, fW, eZ, eJ, dH, cQ, dD, aY, bD, aL, fZ, aM, dA, eE, bB, cC, fK, dL, gC, fM, fG, fI, dS, aK, cH, cY, fY, fX, fH, dC, aV, dX, fU, cS, eT, fO, cD, bL, dR, aZ, dW, dQ, cM, eM, eK, bF, dF, bG, eD, dU, dZ, bN, cR, cN, dO, bS, cW, cV, fP, cB, eI, eP, gE, dY, dP, dM, dI, bH, bR, bW, bX, aU, cX, aW, e2, e1]
   first
    | exact ⟨l.length - (i + 1), by omega, i + 1, rfl, by omega, rfl, rfl, hq⟩
    | exact ⟨l.length - (i + 1), by omega, i + 1, rfl, by omega, rfl, hq⟩
  .have e2 : (l[i] != l[0]) = true := bne_iff_ne.2 h
   have d3 : decide ((0 : Int) <= (i : Int)) = true := decide_eq_true (by omega)
   simp (disch := omega) only [gI, jD, dJ, stepR_skip, hJ, iC, iM, iP, iL, iN, jJ, iX, gM, iE, iG, iI, iH, gY, iO, hZ, iF, iV, iW, iJ, gR, iT, iQ, iD, jV, jW, kF, kD, kC, kG, kA, kB, kE, gD, Result.ok.injEq, Next.value.injEq, true_and, and_true, gX, iA, iU, iR, iS, jF, aB0, gV, gU, gW, gT, gO, gJ, gP, gN, gB, fV, if_true, if_false, aBZ, aB4, aB1, aB2, aB5, aB3, aBY, aBX, fQ, fL, fE, fR, cU, eS, eF, dK, bP, fS, eY, aP, dB, aX, bQ, bM, aO, cO, cJ, eQ, aE, gS, aJ, cK, aT, bU, fT, cI, cF, aD, gA, fD, aN, aF, bO, gQ, aI, eX, dT, dV, gF, dE, fB, cZ, eH, fF, fC, cG, dG, gK, dN, bZ, aS, bV, bT, fN, aG, aH, aQ, bA, bE, cP, bK, aA, fA, aR, cL, fJ, eU, gG, bJ, eL, eN, bY, fW, eZ, eJ, dH, cQ, dD, aY, bD, aL, fZ, aM, dA, eE, bB, cC, fK, dL, gC, fM, fG, fI, dS, aK, cH, cY, fY, fX, fH, dC, aV, dX, fU, cS, eT, fO, cD, bL, dR, aZ, dW, dQ, cM, eM, eK, bF, dF, bG, eD, dU, dZ, bN, cR, cN, dO, bS, cW, cV, fP, cB, eI, eP, gE, dY, dP, dM, dI, bH, bR, bW, bX, aU, cX, aW, e2, d3]
   rw [hRR, aqL hlt h]
   exact ⟨rfl, x1⟩
 .have d2 : decide ((i : Int) < (l.length : Int)) = false := decide_eq_false (by omega)
  have d3 : decide ((0 : Int) <= (-1 : Int)) = false := rfl
  unfold sJ
  simp (disch := omega) only [gI, jD, dJ, stepR_skip, hJ, iC, iM, iP, iL, iN, jJ, iX, gM, iE, iG, iI, iH, gY, iO, hZ, iF, iV, iW, iJ, gR, iT, iQ, iD, jV, jW, kF, kD, kC, kG, kA, kB, kE, gD, Result.ok.injEq, Next.value.injEq, true_and, and_true, gX, iA, iU, iR, iS, jF, aB0, gV, gU, gW, gT, gO, gJ, gP, gN, gB, fV, if_true, if_false, aBZ, aB4, aB1, aB2, aB5, aB3, aBY, aBX, fQ, fL, fE, fR, cU, eS, eF, dK, bP, fS, eY, aP, dB, aX, bQ, bM, aO, cO, cJ, eQ, aE, gS, aJ, cK, aT, bU, fT, cI, cF, aD, gA, fD, aN, aF, bO, gQ, aI, eX, dT, dV, gF, dE, fB, cZ, eH, fF, fC, cG, dG, gK, dN, bZ, aS, bV, bT, fN, aG, aH, aQ, bA, bE, cP, bK, aA, fA, aR, cL, fJ, eU, gG, bJ, eL, eN, bY, fW, eZ, eJ, dH, cQ, dD, aY, bD, aL, fZ, aM, dA, eE, bB, cC, fK, dL, gC, fM, fG, fI, dS, aK, cH, cY, fY, fX, fH, dC, aV, dX, fU, cS, eT, fO, cD, bL, dR, aZ, dW, dQ, cM, eM, eK, bF, dF, bG, eD, dU, dZ, bN, cR, cN, dO, bS, cW, cV, fP, cB, eI, eP, gE, dY, dP, dM, dI, bH, bR, bW, bX, aU, cX, aW, d2, d3]
  rw [hRR, alP h0 fun j hj => hall j hj (by omega)]
  exact ⟨rfl, x1⟩
theorem ajM {l : List UInt8} {v : aEm} {box lp : Nat} {r0 : Loop} {w : aEl} (I : Nat -> aEl -> Prop) (S : aEl -> Prop)
 (hI : ∀ i W, I i W -> lN W box [v] /\ Bs W v l /\ W.heap[lp]? = some (.loop r0)) (hp : r0.params.size = 2) (hl : l.length <= 1000000000) (h0 : I l.length w)
 (hs : ∀ i W, (hi : i < l.length) -> I (i + 1) W -> adV pg lp r0.fn (abO r0 [.int .i64 i, .int .u8 ((l[i]'hi).toNat : Nat)]) r0.assign r0.body W (fun b W' => (b = .bool true /\ I i W') ∨ (b = .bool false /\ S W'))) :
 jE pg pS #[KP lp, .pointer (some ⟨box, 0, none⟩)] w (fun r W => r = .tuple #[] /\ (I 0 W ∨ S W)) := by
 refine Ja ?_
 obtain ⟨o, hb, hlp⟩ := hI _ _ h0
 have c0 := o.cell (off := 0)
 simp only [aBX] at c0
 obtain ⟨a, n, c, hv, hn, hc, _⟩ := id hb
 rw [aB6] at hn
 unfold DE tZ tW
 subst hn
 have e1 : (l.length : Int) - 1 = (l.length : Int) - 1 := rfl
 subst hv
 simp (disch := omega) only [gI, fS, c0, gD, true_and, dJ, fQ, iC, gX]
 unfold tS uB
 refine kP.rule (fun m (t : aEm) w' => ∃ i : Nat, m = i /\ t = .int .i64 ((i : Int) - 1) /\ i <= l.length /\ I i w') l.length ⟨l.length, rfl, rfl, aCb _, h0⟩ ?_
 rintro i t w1 ⟨i', rfl, rfl, hi, hIw⟩
 unfold rE
 cases i with
 | zero =>
   have d1 : decide ((0 : Int) <= ((0 : Nat) : Int) - 1) = false := rfl
   simp (disch := omega) only [gI, iF, d1, fS, true_and, iC, gX, dJ, fV]
   exact .inl hIw
 | succ j =>
   have e0 : ((j + 1 : Nat) : Int) - 1 = (j : Int) := by omega
   have d1 : decide ((0 : Int) <= (j : Int)) = true := by simp
   obtain ⟨o1, hb1, hlp1⟩ := hI _ _ hIw
   have c1 := o1.cell (off := 0)
   simp only [aBX] at c1
   obtain ⟨b, off, c', hv', hc', hcell⟩ := hb1.openV (by simp; omega)
   simp only [aB6, Value.slice.injEq] at hv'
   obtain ⟨rfl, _, rfl⟩ := hv'
   have g1 := hcell j (by rw [aB6]; omega)
   simp only [aEe, nT] at g1
   have q1 := avX (P := pg) (args := [.int .i64 (j : Nat), .int .u8 ((l[j]'hi).toNat : Nat)]) hlp1 (by rw [hp] <;> rfl)
   rw [e0]
   simp (disch := omega) only [gI, iF, d1, fS, true_and, iC, gX, dJ, c1, gD, fR, aB0, gK, g1, q1, aiD, gB]
   obtain ⟨b', w2, hret, hR⟩ := hs j w1 hi hIw
   refine ⟨b', w2, hret, ?_⟩
   rcases hR with ⟨rfl, hI2⟩ | ⟨rfl, hS⟩
   .simp (disch := omega) only [iJ, aB5, dJ, fV]
    exact ⟨j, by omega, j, rfl, rfl, by omega, hI2⟩
   .simp (disch := omega) only [iJ, aB3, dJ, gB]
    exact .inr hS
def Ws (w : aEl) (S : Nat -> Prop) (p : Nat) (B : List Bool) : Prop := ¬ S p /\ ∃ v bytes, lN w p [v, .int .i64 B.length] /\ GX w S 1 v bytes.length (bytes.map nT) /\ ZP B bytes
def Rs (w : aEl) (S : Nat -> Prop) (p : Nat) (B : List Bool) : Prop := ¬ S p /\ ∃ v bytes, lN w p [v, .int .i64 B.length] /\ GX w S 1 v bytes.length (bytes.map nT) /\
 vG bytes = B ++ List.replicate (8 * bytes.length - B.length) false /\ bytes.length = (B.length + 1 + 7) / 8
theorem Ws.ext {w w' : aEl} {S M : Nat -> Prop} {p : Nat} {B : List Bool} (h : Ws w S p B) (hx : jN w w' M) (hp : ¬ M p) (hM : ∀ b, S b -> ¬ M b) : Ws w' S p B := by
 obtain ⟨h0, v, bytes, h1, h2, h3⟩ := h
 exact ⟨h0, v, bytes, h1.ext hx hp, Jj h2 hx hM, h3⟩
theorem Ws.turn {w : aEl} {S T : Nat -> Prop} {p : Nat} {B : List Bool} (h : Ws w S p B) (hp : ¬ T p) (hT : ∀ b, S b -> b < w.heap.size -> T b) : Ws w T p B := by
 obtain ⟨h0, v, bytes, h1, h2, h3⟩ := h
 refine ⟨hp, v, bytes, h1, ⟨h2.1, ?_⟩, h3⟩
 rcases h2.2 with h2 | ⟨b, c, rest, e, hb, o, hc, hn⟩
 .exact .inl h2
 .exact .inr ⟨b, c, rest, e, hT b hb o.lt, o, hc, hn⟩
theorem auT {S : Nat -> Prop} {p x i : Nat} {B : List Bool} {t17 : aEm} {w : aEl} (h : Rs w S p B) (hx : x < 2 ^ 64) (hi : i <= 60) (hB : B.length <= 1000000000)
 {kn : aEm -> aEm -> aEm -> aEm -> aEl -> Prop} (hR : ∀ w', Ws w' S p (B ++ [x.testBit i]) -> jN w w' (fun y => y = p ∨ S y) -> kn (.pointer (some ⟨p, 0, none⟩)) (.int .u64 x) t17 (.int .i64 i) w') :
 pU kn (.pointer (some ⟨p, 0, none⟩)) (.int .u64 x) (.int .i64 i) t17 (.int .i64 i) w := by
 obtain ⟨h0, v, bytes, o, os, hbits, hlen⟩ := h
 obtain ⟨hlt, hheld, hval, hor⟩ := agT (y := x.testBit i) hbits hlen
 rcases os.2 with ⟨rfl, hz⟩ | ⟨b, c, rest, rfl, hS, ob, hc, hn⟩
 .rw [hlen] at hz; omega
 generalize hq : B.length = q at *
 have hcell : (bytes.map nT ++ rest)[q / 8]? = some (.int .u8 ((bytes[q / 8]'hlt).toNat : Nat)) := by
  rw [aCm (by rw [aB6]; exact hlt), aCp, aB8 hlt] <;> rfl
 have hcl : (bytes[q / 8]'hlt).toNat < 2 ^ 8 := aC7 _
 have hset : (bytes.map nT ++ rest).set (q / 8) (.int .u8 (((bytes[q / 8]'hlt).toNat + 2 ^ (q % 8) * (x.testBit i).toNat : Nat))) = (bytes.set (q / 8) (UInt8.ofNat ((bytes[q / 8]'hlt).toNat + 2 ^ (q % 8) * (x.testBit i).toNat))).map nT ++ rest := by
  rw [aDC _ _ (by rw [aB6]; exact hlt), aDS, nT, aD3 (by simpa using hval)]
 have hbl : (bytes.set (q / 8) (UInt8.ofNat ((bytes[q / 8]'hlt).toNat + 2 ^ (q % 8) * (x.testBit i).toNat))).length = bytes.length := aDq
 generalize bytes.set (q / 8) (UInt8.ofNat ((bytes[q / 8]'hlt).toNat + 2 ^ (q % 8) * (x.testBit i).toNat)) = bytes' at *
 generalize (bytes[q / 8]'hlt).toNat = y at *
 have e1 : (q : Int).tdiv 8 = ((q / 8 : Nat) : Int) := by rw [aDz (by omega)]; omega
 have e2 : (q : Int).tmod 8 = ((q % 8 : Nat) : Int) := by rw [aDA (by omega)]; omega
 have e3 := T1 x i (by omega)
 have hxl : x / 2 ^ i < 2 ^ 64 := by have := aD2 x (2 ^ i); omega
 have e4 := ahT hxl
 rw [<- adE] at e4
 have hbt : (x.testBit i).toNat <= 1 := Bool.toNat_le _
 have hp8 : 2 ^ (q % 8) <= 2 ^ 7 := aCn (by omega) (by omega)
 have hm : (x.testBit i).toNat * 2 ^ (q % 8) <= 2 ^ (q % 8) := by
  have := aCv (2 ^ (q % 8)) hbt
  omega
 have e5 : IntKind.u8.wrap (((x.testBit i).toNat : Int) * 2 ^ (min (q % 8) IntKind.u8.bits)) = (((x.testBit i).toNat * 2 ^ (q % 8) : Nat) : Int) := by
  rw [show min (q % 8) IntKind.u8.bits = q % 8 from aCL (by have h8 : IntKind.u8.bits = 8 := rfl; omega)]
  have e : ((x.testBit i).toNat : Int) * 2 ^ (q % 8) = (((x.testBit i).toNat * 2 ^ (q % 8) : Nat) : Int) := by simp
  rw [e]
  exact jF (by omega) (by omega)
 have e6 := aaY (a := y) (b := (x.testBit i).toNat * 2 ^ (q % 8)) hcl (by omega)
 rw [hor] at e6
 have e7 : (q : Int) + 1 = ((q + 1 : Nat) : Int) := by omega
 have od := nP o
 have obd := nP ob
 have c0 := od.cell (off := 0)
 have c1 := od.cell (off := 1)
 have g := obd.cell (off := q / 8)
 rw [hcell] at g
 simp only [aBX, aBY] at c0 c1
 unfold pU
 simp (disch := omega) only [gI, iD, fT, iA, dJ, cW, aB4, gS, c1, gD, iL, e2, true_and, iG, aB0, e3, iN, e4, dK, jF, iE, e5, iP, e1, gX, cV, fS, c0, fR, gK, g, jJ, e6]
 refine acC obd rfl (by rw [aB7, aB6]; omega) fun w2 o2 x2 s2 => ?_
 rw [hset] at o2
 have op2 := od.ext x2 (fun h => h0 (h ▸ hS))
 have c12 := op2.cell (off := 1)
 simp only [aBX, aBY] at c12
 simp (disch := omega) only [c12, gD, dJ, hJ, e7, gX]
 refine LC op2 rfl (by simp) fun w3 o3 x3 s3 => ?_
 simp only [aCa, aCc] at o3
 have hBl : (B ++ [x.testBit i]).length = q + 1 := by rw [aB7, hq] <;> rfl
 refine hR _ ⟨h0, _, bytes', by rw [hBl]; exact o3, ⟨by simp, .inr ⟨b, c, rest, by rw [hbl], hS, o2.ext x3 (fun h => h0 (h ▸ hS)), ?_, by rw [hbl]; exact hn⟩⟩, hheld⟩ ?_
 .rw [aB7, aB6] at hc ⊢; rw [hbl]; exact hc
 .exact ((jN.dr _ _).seq (x2.mono fun z _ h => .inr (h ▸ hS))).seq (x3.mono fun z _ h => .inl h)
theorem azW {S : Nat -> Prop} {p x i n : Nat} {B : List Bool} {w : aEl} (hw : Ws w S p B) (hN : ∀ b, w.heap.size <= b -> S b) (hx : x < 2 ^ 64) (hi : i <= 60) (hB : B.length <= 1000000000)
 {kn : aEm -> aEm -> aEm -> aEm -> aEl -> Prop} (hR : ∀ w', Ws w' S p (B ++ [x.testBit i]) -> jN w w' (fun y => y = p ∨ S y) -> kn (.pointer (some ⟨p, 0, none⟩)) (.int .u64 x) (.int .i64 n) (.int .i64 i) w') :
 sO kn (.pointer (some ⟨p, 0, none⟩)) (.int .u64 x) (.int .i64 n) (.int .i64 i) w := by
 unfold sO vS
 obtain ⟨h0, v, bytes, o, os, hh⟩ := hw
 have c1 := o.cell (off := 1)
 have c0 := o.cell (off := 0)
 simp only [aBX, aBY] at c0 c1
 have e2 : (B.length : Int).tmod 8 = ((B.length % 8 : Nat) : Int) := by rw [aDA (by omega)]; omega
 by_cases h8 : B.length % 8 = 0
 .have d4 : (((B.length % 8 : Nat) : Int) == 0) = true := by rw [h8] <;> rfl
  obtain ⟨hr1, hr2⟩ := adR hh h8
  have hl2 := hh.len
  have lp := o.lt
  simp (disch := omega) only [gI, iD, dJ, cV, fS, cW, aB4, gS, c1, gD, iL, e2, iI, d4, c0, gB]
  refine uD (cells := #[.int .u8 0]) (by decide) (by decide) (by kernel_rfl) fun w2 o2 x2 s2 => ?_
  refine B9 (m := 1) (news := [nT 0]) (i := Tryz.t5) Tryz.underlying22 Tryz.underlying22 JX rfl rfl rfl (Jj os x2 (fun _ _ h => h)) (o2.cl (off := 0) (l := [nT 0]) (n := 1) rfl (fun i hi => by rw [aB4] <;> rfl)) (by simp [one, nT]) (fun b hb => hN b (by omega)) (by omega) (by rw [show Tryz.t5.bytes = 1 from rfl]; omega) (by decide) fun v3 w3 o3 x3 => ?_
  have x13 : jN w w3 S := (x2.mono fun _ _ h => h.elim).seq x3
  have op3 := o.ext x13 h0
  have hv3 : ∃ a n c, v3 = .slice a n c := by
   rcases o3.2 with ⟨rfl, _⟩ | ⟨b, c, rest, rfl, _⟩
   .exact ⟨_, _, _, rfl⟩
   .exact ⟨_, _, _, rfl⟩
  obtain ⟨a3, n3, c3, rfl⟩ := hv3
  refine sL op3 rfl (by simp) fun w4 o4 x4 s4 => ?_
  simp only [aCa, aCc] at o4
  have x14 : jN w w4 (fun y => y = p ∨ S y) := (x13.mono fun y _ h => .inr h).seq (x4.mono fun y _ h => .inl h)
  refine auT (w := w4) ⟨h0, _, bytes ++ [0], o4, ?_, ?_, hr2⟩ hx hi hB fun w5 h5 x5 => hR w5 h5 (x14.seq x5)
  .have := Jj o3 x4 (fun b hb h => h0 (h ▸ hb))
   rw [aB7, aCC]
   exact this
  .rw [aB7]; exact hr1
 .have d4 : (((B.length % 8 : Nat) : Int) == 0) = false := by simp; omega
  simp (disch := omega) only [gI, iD, dJ, cV, fS, cW, aB4, gS, c1, gD, iL, e2, iI, d4, fV]
  refine auT (w := w) ⟨h0, v, bytes, o, os, hh.bits, ?_⟩ hx hi hB fun w5 h5 x5 => hR w5 h5 x5
  rw [hh.len]; omega
theorem arX {S : Nat -> Prop} {p x n : Nat} {B : List Bool} {w : aEl} (h : Ws w S p B) (hN : ∀ b, w.heap.size <= b -> S b) (hx : x < 2 ^ 64) (hn : n <= 56) (hB : B.length <= 100000000) :
 jE pg rO #[.pointer (some ⟨p, 0, none⟩), .int .u64 x, .int .i64 n] w (fun r w' => r = .tuple #[] /\ Ws w' S p (B ++ BH x n) /\ jN w w' (fun y => y = p ∨ S y)) := by
 refine GH ?_
 unfold GI vB vA
 by_cases hn0 : n = 0
 .subst hn0
  have d1 : decide (((0 : Nat) : Int) < 1) = true := rfl
  simp (disch := omega) only [gI, bS, aB1, true_and, dJ, gT, gR, aBZ, if_false, gO, gY, d1, gU, if_true, gB, gJ]
  exact ⟨by rw [P3, aCM]; exact h, jN.refl _ _⟩
 have d1 : decide ((n : Int) < 1) = false := by simp; omega
 have d2 : decide ((56 : Int) < (n : Int)) = false := by simp; omega
 simp (disch := omega) only [gI, bS, aB1, true_and, dJ, gT, gR, aBZ, if_false, gO, gY, d1, hZ, d2, fV]
 unfold uW vU
 refine kP.rule (fun m (t : aEm) w' => ∃ i : Nat, m = n - i /\ t = .int .i64 i /\ i <= n /\ Ws w' S p (B ++ BH x i) /\ jN w w' (fun y => y = p ∨ S y)) n
  ⟨0, rfl, rfl, by omega, by rw [P3, aCM]; exact h, jN.refl _ _⟩ ?_
 rintro m t w1 ⟨i, rfl, rfl, hi, hw, x1⟩
 unfold sY vT
 by_cases hlt : i < n
 .have d3 : decide ((i : Int) < (n : Int)) = true := by simp; omega
  simp (disch := omega) only [gI, gY, d3, dJ, gB]
  unfold vM wE
  refine azW hw (fun b hb => hN b (by have := x1.size; omega)) hx (by omega) (by rw [aB7, GU]; omega) fun w3 hw3 x3 => ?_
  unfold sS
  simp (disch := omega) only [gI, hJ, gX, dJ]
  refine ⟨n - (i + 1), by omega, i + 1, rfl, rfl, by omega, ?_, x1.seq x3⟩
  rw [aaU, <- aCr]
  exact hw3
 .have d3 : decide ((i : Int) < (n : Int)) = false := by simp; omega
  obtain rfl : i = n := by omega
  simp (disch := omega) only [gI, gY, d3, dJ, fV]
  exact ⟨hw, x1⟩
theorem Ws.wr {w : aEl} {S : Nat -> Prop} {p : Nat} {B : List Bool} (h : Ws w S p B) : Wr w 0 p B := by
 have h1 := h.turn (T := fun b => 0 <= b /\ b ≠ p) (fun h => h.2 rfl) (fun b hb _ => ⟨aDX _, fun e => h.1 (e ▸ hb)⟩)
 obtain ⟨h0, v, bytes, a, b, c⟩ := h1
 exact ⟨aDX _, v, bytes, a, b, c⟩
theorem afW (w : aEl) : jE pg Cu #[] w (fun r w' => r = .pointer (some ⟨w.heap.size, 0, none⟩) /\ w'.heap.size = w.heap.size + 1 /\ Ws w' (fun _ => False) w.heap.size [] /\ jN w w' mC) := by
 refine Uc ?_
 unfold Tp FC
 simp (disch := omega) only [gI, dO, dJ]
 refine Ah fun w1 o1 x1 s1 => ?_
 simp only [Value.cells] at o1
 exact ⟨rfl, by omega, ⟨fun h => h, _, [], o1, ⟨rfl, .inl ⟨rfl, rfl⟩⟩, arT⟩, x1⟩
theorem asO {lo p : Nat} {B : List Bool} {w : aEl} (h : Wr w lo p B) (hB : B.length <= 10000000) :
 jE pg vV #[.pointer (some ⟨p, 0, none⟩)] w (fun r w' => ∃ bytes, Bs w' r bytes /\ ZP (B ++ [true]) bytes /\ AtI r w.heap.size w'.heap.size /\ jN w w' mC) := by
 refine O8 ?_
 obtain ⟨h0, v, bytes, o, os, hh⟩ := h
 have c0 := (nP o).cell (off := 0)
 have c1 := (nP o).cell (off := 1)
 simp only [aBX, aBY] at c0 c1
 have hs : Bs w v bytes := by
  have h1 := os.1
  rcases os.2 with ⟨rfl, h2⟩ | ⟨b, c, rest, rfl, h2, h3, h4, h5⟩
  .exact ⟨_, _, _, rfl, by omega, by omega, fun h => by omega⟩
  .refine ⟨_, _, _, rfl, by omega, h5, fun _ => ⟨b, 0, rfl, fun i hi => ?_⟩⟩
   rw [h3.cell, aB4, aCm (by omega)]
 have hl := hh.len
 unfold Ku Bf
 simp (disch := omega) only [gI, bS, aB1, iD, jD, Result.ok.injEq, Next.value.injEq, and_true, true_and, dJ, cW, aB4, gS, cV, fS, c0, gD, c1, fV]
 refine (Xr (hs.ext (jN.dr _ mC) (kJ _)) (by omega)).mono ?_
 rintro r w1 ⟨o1, x1⟩
 have z1 := x1.size
 have x01 : jN w w1 mC := (jN.dr w mC).seq x1
 have c11 := (o.ext x01 (fun h => h)).cell (off := 1)
 simp only [aBX, aBY] at c11
 have hdr : (dr w).heap.size = w.heap.size := rfl
 rw [hdr] at o1 z1
 obtain ⟨a1, cc1, rfl⟩ := o1.len
 simp (disch := omega) only [c11, gD, dJ, cB, true_and]
 refine Ah fun w2 o2 x2 s2 => ?_
 simp only [Value.cells] at o2
 have hw : Wr w2 w.heap.size w1.heap.size B := by
  refine ⟨z1, _, bytes, o2, ⟨o1.1, ?_⟩, hh⟩
  rcases o1.2 with h2 | ⟨b, c, rest, h1, h2, h3, h4, h5⟩
  .exact .inl h2
  .have := h3.lt
   exact .inr ⟨b, c, rest, h1, ⟨h2, by omega⟩, h3.ext x2 (fun h => h), h4, h5⟩
 refine (axE (x := 1) (n := 1) hw (by omega) (by omega) (by omega)).mono ?_
 rintro r w3 ⟨rfl, ⟨h0', v3, bytes3, o3, os3, hh3⟩, x3⟩
 have c03 := o3.cell (off := 0)
 simp only [aBX, aBY] at c03
 simp (disch := omega) only [iD, dJ, cV, fS, c03, gD]
 have e1 : BH 1 1 = [true] := by decide
 rw [e1] at hh3
 refine ⟨bytes3, ?_, hh3, ?_, ?_⟩
 .have h1 := os3.1
  rcases os3.2 with ⟨rfl, h2⟩ | ⟨b, c, rest, rfl, h2, h3, h4, h5⟩
  .exact ⟨_, _, _, rfl, by omega, by omega, fun h => by omega⟩
  .refine ⟨_, _, _, rfl, by omega, h5, fun _ => ⟨b, 0, rfl, fun i hi => ?_⟩⟩
   rw [h3.cell, aB4, aCm (by omega)]
 .intro M hM
  rcases os3.2 with ⟨rfl, h2⟩ | ⟨b, c, rest, rfl, h2, h3, h4, h5⟩
  .exact fun h => h
  .exact At.at b 0 _ c M (hM b h2.1 h3.lt)
 .exact (x01.seq x2).trans x3 fun b hb h => by omega
theorem amH {w : aEl} {b i : Nat} {C : List (Nat × Nat)} {e : Nat × Nat} (o : lN w b (cc C)) (h : C[i]? = some e) :
 w.cell? ⟨b, i * 2, none⟩ = some (.int .i64 (e.1 : Nat)) /\ w.cell? ⟨b, i * 2 + 1, none⟩ = some (.int .i64 (e.2 : Nat)) := by
 have ht := arI h
 obtain ⟨hi, rfl⟩ := aDn.1 h
 have h0 := congrArg (fun l => l[0]?) ht
 have h1 := congrArg (fun l => l[1]?) ht
 simp only [List.getElem?_take, aDI, aCR, aBX, aBY] at h0 h1
 rw [o.cell, o.cell]
 exact ⟨by simpa using h0, by simpa using h1⟩
def WrC (C : List (Nat × Nat)) : Prop := C.length <= 256 /\ ∀ (s : Nat) (e : Nat × Nat), C[s]? = some e -> e.1 <= 11 /\ (0 < e.1 -> e.2 < 2 ^ 11)
def aA2 (w : aEl) (base : Nat) (C : List (Nat × Nat)) (l : List UInt8) (r : aEm) : Prop :=
 ((∃ s ∈ kR l, bitsOf C s = 0) /\ r = .tuple #[.slice none 0 0, .int .i64 1]) ∨
 ((∀ s ∈ kR l, 0 < bitsOf C s) /\ ∃ v bytes, r = .tuple #[v, .int .i64 0] /\ Bs w v bytes /\ ZP (Pv C (kR l) ++ [true]) bytes /\ AtI v base w.heap.size)
theorem axW : avE jU = #[12, 13] := by kernel_rfl
theorem aAK : Yi pg oI = 42 := by kernel_rfl
theorem aoX {C : List (Nat × Nat)} {l : List Nat} {i s : Nat} (h : l[i]? = some s) : Pv C (l.drop i) = Pv C (l.drop (i + 1)) ++ BH (C.getD s (0, 0)).2 (C.getD s (0, 0)).1 := by
 obtain ⟨hi, rfl⟩ := aDn.1 h
 rw [aDa hi, Pv]
theorem aiT {C : List (Nat × Nat)} {l : List UInt8} {b : Nat} {v : aEm} {w : aEl} (ho : lN w b (cc C)) (hb : Bs w v l) (hC : WrC C) (hl : l.length <= 200000) :
 jE pg oI #[.slice (some ⟨b, 0, none⟩) C.length C.length, v] w (fun r w' => aA2 w' w.heap.size C l r /\ jN w w' mC) := by
 refine Yf ?_
 obtain ⟨RR, hRR⟩ : ∃ RR : aEm -> aEl -> Prop, RR = fun r w' => aA2 w' w.heap.size C l r /\ jN w w' mC := ⟨_, rfl⟩
 rw [<- hRR]
 unfold ZH Ln Lu
 refine Ah fun w1 o1 x1 s1 => ?_
 simp only [Value.cells] at o1
 refine Zq fun w2 o2 x2 s2 => ?_
 refine afO fun w3 o3 x3 s3 => ?_
 refine (afW w3).mono ?_
 rintro r w4 ⟨rfl, s4, hW4, x4⟩
 refine YS fun w5 o5 x5 s5 => ?_
 refine YB o5 rfl (by simp) fun w6 o6 x6 s6 => ?_
 simp only [aCa] at o6
 unfold LL LR LB
 refine Me ?_
 unfold IM xR
 obtain ⟨va, vn, vc, hv, -⟩ := id hb
 subst hv
 refine Ah fun w7 o7 x7 s7 => ?_
 simp only [Value.cells] at o7
 have q1 := fun w => akM (P := pg) (f := pS) [] [.pointer (some ⟨w6.heap.size, 0, none⟩)] w
 simp (disch := omega) only [gI, q1, dJ]
 unfold Kq Le
 intro g g2 g4 g5 g6 g11 gm
 generalize hn0 : w.heap.size = n0 at *
 have e1 : w1.heap.size = n0 + 1 := by omega
 have e2 : w2.heap.size = n0 + 2 := by omega
 have e3 : w3.heap.size = n0 + 3 := by omega
 have e4 : w4.heap.size = n0 + 4 := by omega
 have e6 : w6.heap.size = n0 + 5 := by omega
 have e7 : w7.heap.size = n0 + 6 := by omega
 rw [e1] at o2 g4
 rw [e2] at o3 g5
 rw [e3] at hW4 o6
 rw [e4] at o6 g6
 rw [e6] at o7 g11
 have x06 : jN w w6 mC := ((((x1.seq x2).seq x3).seq x4).seq x5).trans x6 fun y hy h => by omega
 have x07 : jN w w7 mC := x06.seq x7
 have hv7 : Bs w7 (.slice va vn vc) l := hb.ext x07 (kJ _)
 have lb := ho.lt
 have b1 : lN w7 n0 [.slice (some ⟨b, 0, none⟩) C.length C.length] := ((((((o1.ext x2 (fun h => h)).ext x3 (fun h => h)).ext x4 (fun h => h)).ext x5 (fun h => h)).ext x6 (by omega))).ext x7 (fun h => h)
 have b2 : lN w7 (n0 + 1) [.slice none 0 0] := (((((o2.ext x3 (fun h => h)).ext x4 (fun h => h)).ext x5 (fun h => h)).ext x6 (by omega))).ext x7 (fun h => h)
 have b3 : lN w7 (n0 + 2) [.int .i64 0] := ((((o3.ext x4 (fun h => h)).ext x5 (fun h => h)).ext x6 (by omega))).ext x7 (fun h => h)
 have b6 : lN w7 (n0 + 4) [.pointer (some ⟨n0 + 3, 0, none⟩)] := o6.ext x7 (fun h => h)
 have bC : lN w7 b (cc C) := ho.ext x07 (fun h => h)
 have hW7 : Ws w7 (fun y => n0 + 7 < y) (n0 + 3) [] :=
  ((hW4.ext x5 (fun h => h) (fun _ h => h.elim)).ext x6 (by omega) (fun _ h => h.elim)).ext x7 (fun h => h) (fun _ h => h.elim) |>.turn (by omega) (fun _ h => h.elim)
 refine asU (fi := pS) (cap := #[.pointer (some ⟨n0 + 5, 0, none⟩)]) (by show noMark (g 1000003) = true; rw [gm] <;> rfl) g11 Tryz.func151 (by kernel_rfl) (by kernel_rfl) ?_
 obtain ⟨x8, s8, d8, l8⟩ := apY oI (Yi pg oI) (avE jU) (aoP jU) (akQ jU) g w7
 rw [e7] at s8 d8 l8 ⊢
 generalize rfW oI (Yi pg oI) (avE jU) (aoP jU) (akQ jU) g w7 = w8 at *
 obtain ⟨r0, hr0⟩ : ∃ r0 : Loop, r0 = { state := .ready, pending := none, fn := oI, tmps := tmpsOf (Yi pg oI) g, params := avE jU, assign := aoP jU, body := akQ jU, defers := n0 + 6 } := ⟨_, rfl⟩
 rw [<- hr0] at l8
 let I : Nat -> aEl -> Prop := fun i W => W.heap[n0 + 7]? = some (.loop r0) /\ jN w8 W (fun y => y = n0 + 7 ∨ y = n0 + 3 ∨ n0 + 7 < y) /\ Ws W (fun y => n0 + 7 < y) (n0 + 3) (Pv C ((kR l).drop i)) /\ ∀ s ∈ (kR l).drop i, 0 < bitsOf C s
 let S : aEl -> Prop := fun W => (∃ s ∈ kR l, bitsOf C s = 0) /\ W.heap[n0 + 7]? = some (.loop { r0 with state := .done, pending := some .ret }) /\ lN W (n0 + 1) [.slice none 0 0] /\ lN W (n0 + 2) [.int .i64 1] /\ jN w W mC /\ W.heap[n0 + 6]? = some (.deferred (some []))
 have hbits : ∀ s, bitsOf C s <= 11 := fun s => by
  unfold bitsOf
  rw [aB9]
  cases h : C[s]? with
  | none => simp
  | some e => exact (hC.2 s e h).1
 have x08 : jN w w8 mC := x07.seq x8
 have hmain := ajM (l := l) (v := .slice va vn vc) (box := n0 + 5) (lp := n0 + 7) (r0 := r0) (w := w8) I S ?hI ?hp (by omega) ?h0 ?hs
 case hI =>
  rintro i W ⟨hlp, hx, _⟩
  exact ⟨(o7.ext x8 (fun h => h)).ext hx (by omega), hb.ext (x08.trans hx fun y hy h => by omega) (kJ _), hlp⟩
 case hp => rw [hr0, axW] <;> rfl
 case h0 =>
  refine ⟨l8, jN.refl _ _, ?_, ?_⟩
  .rw [aDM (by rw [nV]; omega)]; exact hW7.ext x8 (fun h => h) (fun _ _ h => h)
  .rw [aDM (by rw [nV]; omega)]; intro s hs; cases hs
 case hs =>
  rintro i W hi ⟨hlp, hx, hW, hall⟩
  have zW := hx.size
  have y08 : jN w W mC := x08.trans hx fun y hy h => by omega
  have hT : abO r0 [.int .i64 i, .int .u8 ((l[i]'hi).toNat : Nat)] = ((tmpsOf 42 g).setIfInBounds 12 (.int .i64 i)).setIfInBounds 13 (.int .u8 ((l[i]'hi).toNat : Nat)) := by
   exact axQ (by rw [hr0]; exact axW) (by rw [hr0]; simp only; rw [aAK]) _ _
  have hE : ∀ {x : Nat} {u v z : aEm}, x < 12 -> g x = u -> RP (((tmpsOf 42 g).setIfInBounds 12 v).setIfInBounds 13 z) x = u := fun {x u v z} h1 h2 => by
   rw [aaA (by simp [tmpsOf]), if_neg (by omega), aaA (by simp [tmpsOf]), if_neg (by omega), apS (by omega), h2]
  have hE13 : ∀ {v z : aEm}, RP (((tmpsOf 42 g).setIfInBounds 12 v).setIfInBounds 13 z) 13 = z := fun {v z} => by
   rw [aaA (by simp [tmpsOf]), if_pos rfl]
  rw [hT]
  have a0 := (b1.ext x8 (fun h => h)).ext hx (by omega)
  have a1 := (b2.ext x8 (fun h => h)).ext hx (by omega)
  have a2 := (b3.ext x8 (fun h => h)).ext hx (by omega)
  have a6 := (b6.ext x8 (fun h => h)).ext hx (by omega)
  have aC := (bC.ext x8 (fun h => h)).ext hx (by omega)
  have ad := HJ d8 hx (by omega)
  have hlt : n0 + 7 < W.heap.size := by omega
  subst hr0
  refine Xy (by simp [tmpsOf]) ?_
  rw [hE (by omega) g2, hE (by omega) g4, hE (by omega) g5, hE (by omega) g6, hE13]
  unfold QV Fy
  refine anS hlp rfl fun W1 l1 y1 z1 => ?_
  have a0 := a0.ext y1 (by omega)
  have a1 := a1.ext y1 (by omega)
  have a2 := a2.ext y1 (by omega)
  have a6 := a6.ext y1 (by omega)
  have aC := aC.ext y1 (by omega)
  have ad := HJ ad y1 (by omega)
  have hW := hW.ext y1 (by omega) (fun _ h => by omega)
  have y01 : jN w W1 mC := y08.trans y1 fun y hy h => by omega
  have hs256 : (l[i]'hi).toNat < 256 := aC7 _
  have hget : (kR l)[i]? = some (l[i]'hi).toNat := by unfold kR; rw [aCp, aB8 hi] <;> rfl
  have hmem : (l[i]'hi).toNat ∈ kR l := aDe hget
  have hdr := aoX (C := C) hget
  have hcons : (kR l).drop i = (l[i]'hi).toNat :: (kR l).drop (i + 1) := by
   obtain ⟨hj, e⟩ := aDn.1 hget
   rw [aDa hj, e]
  generalize (l[i]'hi).toNat = s at *
  have c0 := a0.cell (off := 0)
  simp only [aBX] at c0
  have hbad : bitsOf C s = 0 -> ∀ W2, jN W1 W2 (fun y => y = n0 + 1 ∨ y = n0 + 2) -> lN W2 (n0 + 1) [.slice none 0 0] -> lN W2 (n0 + 2) [.int .i64 1] -> ahK (n0 + 7) (some .ret) (fun b W' => (b = .bool true /\ I i W') ∨ (b = .bool false /\ S W')) W2 := by
   intro h0 W2 y2 k1 k2
   refine abP (HJ l1 y2 (by omega)) fun W3 l3 y3 z3 => .inr ⟨rfl, ⟨s, hmem, h0⟩, l3, k1.ext y3 (by omega), k2.ext y3 (by omega), ?_, ?_⟩
   .exact (y01.trans y2 fun y hy h => by omega).trans y3 fun y hy h => by omega
   .exact HJ (HJ ad y2 (by omega)) y3 (by omega)
  unfold BP
  by_cases hge : C.length <= s
  .have d1 : decide ((C.length : Int) <= (s : Int)) = true := by simp; omega
   simp (disch := omega) only [gI, fL, gX, bW, cX, true_and, dJ, c0, gD, bX, iF, d1, gU, gR, if_true, gB, gJ]
   refine sL a1 rfl (by simp) fun W2 k1 y2 z2 => ?_
   refine JW (a2.ext y2 (by omega)) rfl (by simp) fun W3 k2 y3 z3 => ?_
   simp only [aCa] at k1 k2
   refine hbad ?_ W3 ((y2.mono fun _ _ h => .inl h).seq (y3.mono fun _ _ h => .inr h)) (k1.ext y3 (by omega)) k2
   unfold bitsOf; rw [aB9, aCj hge] <;> rfl
  .have d1 : decide ((C.length : Int) <= (s : Int)) = false := by simp; omega
   obtain ⟨e, he⟩ : ∃ e, C[s]? = some e := ⟨_, aB8 (by omega)⟩
   obtain ⟨p0, p1⟩ := amH aC he
   obtain ⟨hc1, hc2⟩ := hC.2 s e he
   have hbo := anQ (b := e.1) (c := e.2) he
   by_cases h0 : e.1 = 0
   .have n1 : (((e.1 : Nat) : Int) == 0) = true := by simp; omega
    simp (disch := omega) only [gI, fL, gX, bW, cX, true_and, dJ, c0, gD, bX, iF, d1, gT, gR, aBZ, if_false, gO, bR, aB0, aB4, aU, gS, p0, iI, n1, gB]
    refine sL a1 rfl (by simp) fun W2 k1 y2 z2 => ?_
    refine JW (a2.ext y2 (by omega)) rfl (by simp) fun W3 k2 y3 z3 => ?_
    simp only [aCa] at k1 k2
    exact hbad (by rw [hbo]; exact h0) W3 ((y2.mono fun _ _ h => .inl h).seq (y3.mono fun _ _ h => .inr h)) (k1.ext y3 (by omega)) k2
   .have n1 : (((e.1 : Nat) : Int) == 0) = false := by simp; omega
    have hc2 := hc2 (by omega)
    have c0d := (nP a0).cell (off := 0)
    have c6d := (nP a6).cell (off := 0)
    simp only [aBX] at c0d c6d
    obtain ⟨p0d, p1d⟩ := amH (nP aC) he
    simp (disch := omega) only [gI, fL, gX, bW, cX, true_and, dJ, c0, gD, bX, iF, d1, gT, gR, aBZ, if_false, gO, bR, aB0, aB4, aU, gS, p0, iI, n1, c6d, c0d, p0d, aW, p1d, eS, iA, fV]
    have hlen := sT hbits ((kR l).drop (i + 1))
    rw [aCi, nV] at hlen
    refine (arX (x := e.2) (n := e.1) (hW.ext (jN.dr W1 mC) (fun h => h) (fun _ _ h => h)) (fun y hy => by have : (dr W1).heap.size = W1.heap.size := rfl; omega) (by omega) (by omega) (by omega)).mono ?_
    rintro r W2 ⟨rfl, hW2, y2⟩
    have y12 : jN W1 W2 (fun y => y = n0 + 3 ∨ n0 + 7 < y) := (jN.dr W1 _).seq y2
    refine abP (HJ l1 y12 (by omega)) fun W3 l3 y3 z3 => .inl ⟨rfl, l3, ?_, ?_, ?_⟩
    .refine ((hx.trans y1 fun y _ h => by omega).trans y12 fun y _ h => by omega).trans y3 fun y _ h => by omega
    .rw [hdr]
     have hg : C.getD s (0, 0) = e := by rw [aB9, he] <;> rfl
     rw [hg]
     exact hW2.ext y3 (by omega) (fun _ h => by omega)
    .rw [hcons]
     intro t ht
     rcases aCS.1 ht with rfl | ht
     .rw [hbo]; omega
     .exact hall t ht
 refine hmain.mono ?_
 rintro r w9 ⟨rfl, h⟩
 rcases h with ⟨hlp, hx, hW, hall⟩ | ⟨hbad, hlp, k1, k2, hx, hd⟩
 .have a1 := (b2.ext x8 (fun h => h)).ext hx (by omega)
  have a2 := (b3.ext x8 (fun h => h)).ext hx (by omega)
  have a6 := (b6.ext x8 (fun h => h)).ext hx (by omega)
  have ad := HJ d8 hx (by omega)
  have y09 : jN w w9 mC := x08.trans hx fun y hy h => by omega
  refine Zz hlp (by rw [hr0]; simp) fun wa ya za => ?_
  rw [hr0]
  have hz : put g (some DS) (.pointer (some ⟨n0 + 6, 0, none⟩)) 4 = g 4 := rfl
  have hz5 : put g (some DS) (.pointer (some ⟨n0 + 6, 0, none⟩)) 5 = g 5 := rfl
  have hz6 : put g (some DS) (.pointer (some ⟨n0 + 6, 0, none⟩)) 6 = g 6 := rfl
  have hzm : put g (some DS) (.pointer (some ⟨n0 + 6, 0, none⟩)) 1000003 = .pointer (some ⟨n0 + 6, 0, none⟩) := rfl
  show Ck RR (put g (some DS) (.pointer (some ⟨n0 + 6, 0, none⟩)) 4) (put g (some DS) (.pointer (some ⟨n0 + 6, 0, none⟩)) 5) (put g (some DS) (.pointer (some ⟨n0 + 6, 0, none⟩)) 6) (put g (some DS) (.pointer (some ⟨n0 + 6, 0, none⟩)) 1000003) wa
  rw [hz, hz5, hz6, hzm, g4, g5, g6]
  unfold Ck
  have a1 := a1.ext ya (by omega)
  have a2 := a2.ext ya (by omega)
  have a6 := a6.ext ya (by omega)
  have ad := HJ ad ya (by omega)
  have hW := hW.ext ya (by omega) (fun _ h => by omega)
  have y0a : jN w wa mC := y09.trans ya fun y hy h => by omega
  have c6 := a6.cell (off := 0)
  simp only [aBX] at c6
  simp (disch := omega) only [gI, cX, c6, gD, dJ]
  have hlen := sT hbits (kR l)
  rw [nV] at hlen
  rw [aCs] at hW hall
  refine (asO hW.wr (by omega)).mono ?_
  rintro r wb ⟨bytes, hbs, hheld, hat, yb⟩
  refine sL (a1.ext yb (fun h => h)) ?_ (by simp) fun wc kc yc zc => ?_
  .obtain ⟨a, n, c, rfl, _⟩ := hbs; rfl
  refine JW ((a2.ext yb (fun h => h)).ext yc (by omega)) rfl (by simp) fun wd kd yd zd => ?_
  simp only [aCa] at kc kd
  refine abE (HJ (HJ (HJ ad yb (fun h => h)) yc (by omega)) yd (by omega)) fun we ye ze => ?_
  refine XT ((kc.ext yd (by omega)).ext ye (by omega)) rfl ?_
  refine Vq (kd.ext ye (by omega)) rfl ?_
  have y0b : jN w wb mC := y0a.seq yb
  have zb := yb.size
  have z0a := y0a.size
  have z89 := hx.size
  have zcd := yc.size
  have zdd := yd.size
  have zee := ye.size
  rw [hRR]
  refine ⟨.inr ⟨hall, _, bytes, rfl, ?_, hheld, ?_⟩, ((y0b.trans yc fun y hy h => by omega).trans yd fun y hy h => by omega).trans ye fun y hy h => by omega⟩
  .refine ((hbs.ext yc ?_).ext yd ?_).ext ye ?_ <;> exact hat _ fun y h1 h2 => by omega
  .exact fun M hM => hat M fun y h1 h2 => hM y (by omega) (by omega)
 .refine Zz hlp (by simp) fun wa ya za => ?_
  show G3 (put g (some DS) (.pointer (some ⟨n0 + 6, 0, none⟩)) 1000003) wa fun w => Nq pg 22 (put g (some DS) (.pointer (some ⟨n0 + 6, 0, none⟩)) 4) w fun r0 => Nq pg 24 (put g (some DS) (.pointer (some ⟨n0 + 6, 0, none⟩)) 5) w fun r1 => RR (.tuple #[r0, r1]) w
  have hz : put g (some DS) (.pointer (some ⟨n0 + 6, 0, none⟩)) 4 = g 4 := rfl
  have hz5 : put g (some DS) (.pointer (some ⟨n0 + 6, 0, none⟩)) 5 = g 5 := rfl
  have hzm : put g (some DS) (.pointer (some ⟨n0 + 6, 0, none⟩)) 1000003 = .pointer (some ⟨n0 + 6, 0, none⟩) := rfl
  rw [hz, hz5, hzm, g4, g5]
  refine abE (HJ hd ya (by omega)) fun we ye ze => ?_
  refine XT ((k1.ext ya (by omega)).ext ye (by omega)) rfl ?_
  refine Vq ((k2.ext ya (by omega)).ext ye (by omega)) rfl ?_
  rw [hRR]
  exact ⟨.inl ⟨hbad, rfl⟩, (hx.trans ya fun y hy h => by omega).trans ye fun y hy h => by omega⟩
theorem auX {wl : List UInt8} (h : pI (kR wl) ≠ 0) : WrC (wC wl) := by
 obtain ⟨hF, hm, hC⟩ := WOk.full h
 refine ⟨hC, fun s e he => ?_⟩
 obtain ⟨h1, h2⟩ := hF.le s e.1 e.2 he
 exact ⟨by omega, fun h0 => aDv (h2 h0) (aCn (by omega) (by omega))⟩
theorem afJ {wl : List UInt8} (h : pI (kR wl) ≠ 0) (s : Nat) : bitsOf (wC wl) s <= 11 := by
 unfold bitsOf
 rw [aB9]
 cases he : (wC wl)[s]? with
 | none => simp
 | some e => exact ((auX h).2 s e he).1
theorem adZ {wl l bytes : List UInt8} (h : pI (kR wl) ≠ 0) (hall : ∀ s ∈ kR l, 0 < bitsOf (wC wl) s) (hb : ZP (Pv (wC wl) (kR l) ++ [true]) bytes) : Xg (wC wl) bytes l.length = .ok (kR l) := by
 obtain ⟨hF, hm, hC⟩ := WOk.full h
 obtain ⟨h1, h2⟩ := avB hb
 have h3 := anG hF (T := vG bytes) hall h2
 rw [nV] at h3
 unfold Xg
 rw [h1]
 simp only
 rw [h3]
 simp
theorem atM {wl l bytes : List UInt8} (h : pI (kR wl) ≠ 0) (hb : ZP (Pv (wC wl) (kR l) ++ [true]) bytes) : bytes.length <= (11 * l.length + 8) / 8 := by
 have h1 := sT (afJ h) (kR l)
 rw [nV] at h1
 rw [hb.len, aB7, aCJ]
 omega
def aAw (w : aEl) (base : Nat) (wl l : List UInt8) (back : List UInt8 -> Except Int (List Nat)) (lim : Nat) (bad : Prop) (r : aEm) : Prop :=
 ((pI (kR wl) = 0 ∨ bad ∨ ∃ s ∈ kR l, bitsOf (wC wl) s = 0) /\ r = .tuple #[.slice none 0 0, .int .i64 1]) ∨
 (pI (kR wl) ≠ 0 /\ (∀ s ∈ kR l, 0 < bitsOf (wC wl) s) /\ ∃ v bytes, r = .tuple #[v, .int .i64 0] /\ Bs w v bytes /\ AtI v base w.heap.size /\ bytes.length <= lim /\ back bytes = .ok (kR l))
theorem agZ {lv sv : aEm} {wl l : List UInt8} {w : aEl} (hw : Bs w lv wl) (hwl : wl.length <= 100000) (h : Bs w sv l) (hl : l.length <= 131072) :
 jE pg It #[lv, sv] w (fun r w' => aAw w' w.heap.size wl l (fun b => azO wl b l.length) ((11 * l.length + 8) / 8) False r /\ jN w w' mC) := by
 refine Yv ?_
 unfold Zm LA
 by_cases hd : pI (kR wl) = 0
 .refine (aeB hw hwl hd).mono ?_
  rintro r w1 ⟨rfl, rfl⟩
  have n0 : ((1 : Int) != 0) = true := rfl
  simp (disch := omega) only [gI, jV, jW, dJ, iH, n0, gB]
  exact ⟨.inl ⟨.inl hd, rfl⟩, jN.refl _ _⟩
 .refine (amI hw rfl hd).mono ?_
  rintro r w1 ⟨b, rfl, hb, ob, x1⟩
  have n0 : ((0 : Int) != 0) = false := rfl
  have h1 := h.ext x1 (kJ _)
  have hv := h1
  obtain ⟨a, c, rfl, hc⟩ := h1.len
  rw [aB6] at hv ⊢
  have d1 : decide ((l.length : Int) > 131072) = false := decide_eq_false (by omega)
  have d2 : decide ((131072 : Int) < (l.length : Int)) = false := decide_eq_false (by omega)
  simp (disch := omega) only [gI, jV, jW, fQ, dJ, hZ, d1, fV, iH, n0]
  have hcl : wl.length = (wC wl).length := by rw [DJ, nV]
  rw [hcl]
  refine (aiT ob hv (auX hd) (by omega)).mono ?_
  rintro r w2 ⟨he, x2⟩
  have z1 := x1.size
  rcases he with ⟨hbad, rfl⟩ | ⟨hall, v, bytes, rfl, hbs, hheld, hat⟩
  .simp (disch := omega) only [jV, jW, dJ]
   exact ⟨.inl ⟨.inr (.inr hbad), rfl⟩, x1.seq x2⟩
  .simp (disch := omega) only [jV, jW, dJ]
   refine ⟨.inr ⟨hd, hall, _, bytes, rfl, hbs, fun M hM => hat M fun y h1 h2 => hM y (by omega) h2, atM hd hheld, ?_⟩, x1.seq x2⟩
   show azO wl bytes l.length = _
   unfold azO
   rw [if_neg hd]
   exact adZ hd hall hheld
def sg (l : List UInt8) (q i : Nat) : List UInt8 := if i < 3 then (l.drop (i * q)).take q else l.drop (3 * q)
theorem SJ {l : List UInt8} {q i : Nat} (h : 3 * q <= l.length) : (sg l q i).length = if i < 3 then q else l.length - 3 * q := by
 unfold sg
 split
 .rename_i hi
  have : i * q <= 2 * q := aCv q (by omega)
  rw [aCf, aCi]; omega
 .rw [aCi]
theorem avI {l : List UInt8} {q : Nat} : sg l q 0 ++ (sg l q 1 ++ (sg l q 2 ++ sg l q 3)) = l := by
 unfold sg
 simp only [show (0 : Nat) < 3 from by omega, show (1 : Nat) < 3 from by omega, show (2 : Nat) < 3 from by omega, if_true, Nat.lt_irrefl, if_false, aDQ, Nat.one_mul, aCs]
 have e2 : l.drop (3 * q) = (l.drop (2 * q)).drop q := by rw [aDm]; congr 1; omega
 have e1 : l.drop (2 * q) = (l.drop q).drop q := by rw [aDm]; congr 1; omega
 rw [e2, aDy, e1, aDy, aDy]
def szs (P : List (List UInt8)) : List UInt8 := (P.take 3).flatMap fun s => nM s.length 2
theorem Yx {x n : Nat} {r : List UInt8} : (nM x n ++ r).drop n = r := aDK (lA n x)
theorem YJ {x n : Nat} {r : List UInt8} : (nM x n ++ r).take n = nM x n := aD1 (lA n x)
theorem anV {wl l a b c d : List UInt8} (h : pI (kR wl) ≠ 0) (hq : 3 * ((l.length + 3) / 4) <= l.length) (hl : l.length <= 131072)
 (ha : Xg (wC wl) a (sg l ((l.length + 3) / 4) 0).length = .ok (kR (sg l ((l.length + 3) / 4) 0))) (hb : Xg (wC wl) b (sg l ((l.length + 3) / 4) 1).length = .ok (kR (sg l ((l.length + 3) / 4) 1)))
 (hc : Xg (wC wl) c (sg l ((l.length + 3) / 4) 2).length = .ok (kR (sg l ((l.length + 3) / 4) 2))) (hd : Xg (wC wl) d (sg l ((l.length + 3) / 4) 3).length = .ok (kR (sg l ((l.length + 3) / 4) 3)))
 (la : a.length < 65536) (lb : b.length < 65536) (lc : c.length < 65536) :
 awR wl (szs [a, b, c, d] ++ (a ++ (b ++ (c ++ d)))) l.length = .ok (kR l) := by
 have hs : szs [a, b, c, d] = nM a.length 2 ++ (nM b.length 2 ++ nM c.length 2) := by unfold szs; simp
 generalize hq' : (l.length + 3) / 4 = q at *
 have l0 := SJ (i := 0) hq
 have l1 := SJ (i := 1) hq
 have l2 := SJ (i := 2) hq
 have l3 := SJ (i := 3) hq
 simp only [show (0 : Nat) < 3 from by omega, show (1 : Nat) < 3 from by omega, show (2 : Nat) < 3 from by omega, if_true, Nat.lt_irrefl, if_false] at l0 l1 l2 l3
 rw [l0] at ha
 rw [l1] at hb
 rw [l2] at hc
 rw [l3] at hd
 rw [hs, aCr, aCr]
 generalize hY : a ++ (b ++ (c ++ d)) = Y
 have hYl : Y.length = a.length + (b.length + (c.length + d.length)) := by rw [<- hY]; simp
 have d2 : (nM a.length 2 ++ (nM b.length 2 ++ (nM c.length 2 ++ Y))).drop 2 = nM b.length 2 ++ (nM c.length 2 ++ Y) := Yx
 have d4 : (nM a.length 2 ++ (nM b.length 2 ++ (nM c.length 2 ++ Y))).drop 4 = nM c.length 2 ++ Y := by
  rw [show 4 = 2 + 2 from rfl, <- aDm, d2]; exact Yx
 have d6 : (nM a.length 2 ++ (nM b.length 2 ++ (nM c.length 2 ++ Y))).drop 6 = Y := by
  rw [show 6 = 4 + 2 from rfl, <- aDm, d4]; exact Yx
 have hlen : (nM a.length 2 ++ (nM b.length 2 ++ (nM c.length 2 ++ Y))).length = 6 + Y.length := by simp [lA]; omega
 have nm : ∀ x, x < 65536 -> rZ (nM x 2) = x := fun x hx => by rw [JZ]; exact aCt hx
 have eA : nA (nM a.length 2 ++ (nM b.length 2 ++ (nM c.length 2 ++ Y))) = a.length := by unfold nA; rw [YJ, nm _ la]
 have eB : nB (nM a.length 2 ++ (nM b.length 2 ++ (nM c.length 2 ++ Y))) = b.length := by unfold nB; rw [d2, YJ, nm _ lb]
 have eC : nC (nM a.length 2 ++ (nM b.length 2 ++ (nM c.length 2 ++ Y))) = c.length := by unfold nC; rw [d4, YJ, nm _ lc]
 unfold awR
 rw [if_neg h, hq', if_neg (by omega), if_neg (by rw [hlen]; omega), d6, eA, eB, eC, if_neg (by omega)]
 have ed : Y.length - (a.length + b.length + c.length) = d.length := by omega
 rw [ed, <- hY, akS, aD1 rfl, ha]
 simp only
 rw [aDK rfl, akS, aD1 rfl, hb]
 simp only
 rw [aDK rfl, akS, aD1 rfl, hc]
 simp only
 rw [aDK rfl, akS, aCg (aCb _), hd]
 simp only [akS, aCM]
 have := avI (l := l) (q := q)
 conv => rhs; rw [<- this]
 simp only [kR, aCC]
theorem awX {l : List UInt8} {q i : Nat} (hi : i < 4) (hq : 3 * q <= l.length) : (l.drop (i * q)).take (if i < 3 then q else l.length - 3 * q) = sg l q i /\
 (l.drop (i * q)).drop (if i < 3 then q else l.length - 3 * q) = if i < 3 then l.drop ((i + 1) * q) else [] := by
 unfold sg
 by_cases h : i < 3
 .simp only [if_pos h]
  refine ⟨trivial, ?_⟩
  rw [aDm]; congr 1; rw [aCQ]; omega
 .simp only [if_neg h]
  obtain rfl : i = 3 := by omega
  refine ⟨aCg (by rw [aCi]; omega), aDM (by rw [aCi]; omega)⟩
structure avD (W : aEl) (p n0 : Nat) (C : List (Nat × Nat)) (l : List UInt8) (q : Nat) (av : aEm) (P : List (List UInt8)) (SA SW : Nat -> Prop) : Prop where
 a0 : ∀ b, SA b -> n0 <= b /\ b ≠ p /\ ¬ SW b
 aw : ∀ b, SA b -> b < W.heap.size
 s0 : ∀ b, SW b -> n0 <= b /\ b < W.heap.size
 al : GX W SA 1 av P.flatten.length (P.flatten.map nT)
 wr : Cw W p SW (szs P)
 held : ∀ j s, P[j]? = some s -> ZP (Pv C (kR (sg l q j)) ++ [true]) s
 all : ∀ j, j < P.length -> ∀ s ∈ kR (sg l q j), 0 < bitsOf C s
theorem ahJ {P : List (List UInt8)} {s : List UInt8} : szs (P ++ [s]) = if P.length < 3 then szs P ++ nM s.length 2 else szs P := by
 unfold szs
 by_cases h : P.length < 3
 .rw [if_pos h, aCg (by simp; omega), aCg (by omega), List.flatMap_append]; simp
 .rw [if_neg h, aC2 (by omega)]
theorem afR (P : List (List UInt8)) : (szs P).length <= 6 := by
 have : ∀ Q : List (List UInt8), (Q.flatMap fun s => nM s.length 2).length = 2 * Q.length := by
  intro Q
  induction Q with
  | nil => rfl
  | cons s Q ih => rw [List.flatMap_cons, aB7, ih, lA, aCl]; omega
 unfold szs
 rw [this, aCf]; omega
theorem anI {w : aEl} {S T : Nat -> Prop} {sz n : Nat} {v : aEm} {l : List aEm} (h : GX w S sz v n l) (hT : ∀ b, S b -> b < w.heap.size -> T b) : GX w T sz v n l := by
 refine ⟨h.1, ?_⟩
 rcases h.2 with h2 | ⟨b, c, rest, e, hb, o, hc, hn⟩
 .exact .inl h2
 .exact .inr ⟨b, c, rest, e, hT b hb o.lt, o, hc, hn⟩
theorem Zf {a : Option Addr} {n c m c' k : Nat} {M : Nat -> Prop} (h : ¬ MO (.slice a n c) M) (hm : m <= n) : ¬ MO (.slice (mY a c k 1) m c') M := by
 have := AtS.sub (a := a) (n := n) (c := c) (m := m) (c' := c') (k := k) (mx := c) (sz := 1) (S := fun y => ¬ M y) (fun N hN hh => h (DC hh fun b hb => Classical.byContradiction fun hm => hN b hm hb)) hm
 exact this M fun b hb => hb
theorem aoN {RR : aEm -> aEl -> Prop} {l : List UInt8} {q b p n0 : Nat} {C : List (Nat × Nat)} {sv : aEm} {w0 : aEl} (hC : WrC C) (ho : lN w0 b (cc C)) (hs : Bs w0 sv l) (hq : 3 * q <= l.length) (hq2 : l.length <= 4 * q) (hq3 : q <= 32768) (hl : l.length <= 131072)
 (hn0 : n0 <= w0.heap.size) (hp : n0 <= p) (hb : b < n0) (hsv : ¬ MO sv (fun y => n0 <= y)) {SW0 : Nat -> Prop} (hw : Cw w0 p SW0 []) (hSW : ∀ y, SW0 y -> n0 <= y /\ y < w0.heap.size)
 (hbad : ∀ W, (∃ s ∈ kR l, bitsOf C s = 0) -> jN w0 W (fun y => n0 <= y) -> RR (.tuple #[.slice none 0 0, .int .i64 1]) W)
 (hok : ∀ W v P, P.length = 4 -> (∀ j s, P[j]? = some s -> ZP (Pv C (kR (sg l q j)) ++ [true]) s) -> (∀ s ∈ kR l, 0 < bitsOf C s) -> Bs W v (szs P ++ P.flatten) -> AtI v w0.heap.size W.heap.size -> jN w0 W (fun y => n0 <= y) -> RR (.tuple #[v, .int .i64 0]) W) :
 Cs (fun rU lJ w => AL RR rU lJ w) RR sv (.slice (some ⟨b, 0, none⟩) C.length C.length) (.pointer (some ⟨p, 0, none⟩)) (.slice none 0 0)
  (.agg #[.int .i64 (q : Nat), .int .i64 (q : Nat), .int .i64 (q : Nat), .int .i64 ((l.length : Int) - 3 * (q : Int))]) (.int .i64 0) w0 := by
 unfold Cs HC
 have hbits : ∀ s, bitsOf C s <= 11 := fun s => by
  unfold bitsOf
  rw [aB9]
  cases h : C[s]? with
  | none => simp
  | some e => exact (hC.2 s e h).1
 refine kP.rule (fun m (t : aEm × aEm × aEm) W => ∃ (i : Nat) (sv' av : aEm) (P : List (List UInt8)) (SA SW : Nat -> Prop), m = 4 - i /\ t = (sv', av, .int .i64 i) /\ i <= 4 /\ P.length = i /\ (i < 4 -> Bs W sv' (l.drop (i * q)) /\ ¬ MO sv' (fun y => n0 <= y)) /\
  avD W p n0 C l q av P SA SW /\ jN w0 W (fun y => n0 <= y)) 4
  ⟨0, sv, .slice none 0 0, [], fun _ => False, SW0, rfl, rfl, by omega, rfl, fun _ => ⟨by rw [aDQ]; exact hs, hsv⟩, ⟨fun _ h => h.elim, fun _ h => h.elim, hSW, ⟨rfl, .inl ⟨rfl, rfl⟩⟩, hw, fun j s h => by simp at h, fun j h => by simp at h⟩, jN.refl _ _⟩ ?_
 rintro m t W ⟨i, sv', av, P, SA, SW, rfl, rfl, hi, hPl, hsv', hE, hx⟩
 obtain ⟨hA0, hAw, hS0, hal, hwr, hheld, hall⟩ := hE
 have zW := hx.size
 unfold DZ Jn
 have hpW := hwr.lt
 have hal2 := hal
 obtain ⟨aa, ac, rfl⟩ := Px hal
 have hfl : P.flatten.length <= 262144 := by
  have key : ∀ (Q : List (List UInt8)), (∀ s ∈ Q, s.length <= 65536) -> Q.flatten.length <= 65536 * Q.length := by
   intro Q
   induction Q with
   | nil => intro _; simp
   | cons s Q ih =>
     intro h
     have h1 := h s (aCA ..)
     have h2 := ih fun t ht => h t (aCh _ ht)
     rw [aEa, aB7, aCl]; omega
  have := key P fun s hs => by
   obtain ⟨j, hj⟩ := List.getElem?_of_mem hs
   have h1 := hheld j s hj
   have h2 := sT hbits (kR (sg l q j))
   have h3 : (sg l q j).length <= 32768 := by rw [SJ hq]; split <;> omega
   rw [nV] at h2
   rw [h1.len, aB7, aCJ]
   omega
  omega
 by_cases hlt : i < 4
 .have d1 : decide ((i : Int) < 4) = true := decide_eq_true (by omega)
  obtain ⟨hsb, hin⟩ := hsv' hlt
  obtain ⟨z, hz⟩ : ∃ z, z = if i < 3 then q else l.length - 3 * q := ⟨_, rfl⟩
  obtain ⟨hsg, hsd⟩ := awX hlt hq
  rw [<- hz] at hsg hsd
  have hsl := SJ (i := i) hq
  rw [<- hz] at hsl
  have hzq : z <= 32768 := by rw [hz]; split <;> omega
  have hiq : i * q <= 3 * q := aCv q (by omega)
  have hzl : z <= (l.drop (i * q)).length := by
   rw [aCi, hz]
   split
   .have : i * q <= 2 * q := aCv q (by omega)
    omega
   .omega
  have hix : (#[.int .i64 (q : Nat), .int .i64 (q : Nat), .int .i64 (q : Nat), .int .i64 ((l.length : Int) - 3 * (q : Int))] : Array aEm)[i]? = some (.int .i64 (z : Nat)) := by
   rcases (show i = 0 ∨ i = 1 ∨ i = 2 ∨ i = 3 by omega) with rfl | rfl | rfl | rfl
   .rw [hz] <;> rfl
   .rw [hz] <;> rfl
   .rw [hz] <;> rfl
   .rw [hz]
    have : ((l.length : Int) - 3 * (q : Int)) = ((l.length - 3 * q : Nat) : Int) := by omega
    simp [this]
  have hv := hsb
  obtain ⟨a, c, rfl, hc⟩ := hsb.len
  rw [aB6] at hv hc hin
  generalize hn : (l.drop (i * q)).length = n at *
  unfold Je Jm Rj Jk
  simp (disch := omega) only [gI, gY, d1, fW, aB0, hix, gD, aB6, hn, dJ, eF, eH, gB]
  have hseg : Bs W (.slice (mY a c 0 1) (z - 0) (c - 0)) (sg l q i) := by
   have := Sl.take' hv (k := z) hzl
   rw [<- aDF, hsg] at this
   exact this
  refine (aiT (ho.ext hx (by omega)) hseg hC (by rw [hsl]; omega)).mono ?_
  rintro r W1 ⟨he, x1⟩
  have z1 := x1.size
  have y1 : jN w0 W1 (fun y => n0 <= y) := hx.trans x1 fun _ _ h => h.elim
  rcases he with ⟨⟨s, hs1, hs2⟩, rfl⟩ | ⟨hal1, v, bytes, rfl, hbs, hheld1, hat⟩
  .have n1 : ((1 : Int) != 0) = true := rfl
   simp (disch := omega) only [jV, jW, dJ, iH, n1, gB]
   refine hbad W1 ⟨s, ?_, hs2⟩ y1
   have hsub : ∀ x ∈ sg l q i, x ∈ l := fun x hx => by
    unfold sg at hx
    split at hx
    .exact aDV (aC5 hx)
    .exact aDV hx
   obtain ⟨x, hx1, hx2⟩ := aCU.1 hs1
   exact aCU.2 ⟨x, hsub x hx1, hx2⟩
  .have n1 : ((0 : Int) != 0) = false := rfl
   have hbl : bytes.length < 65536 := by
    have h1 := sT hbits (kR (sg l q i))
    rw [nV, hsl] at h1
    rw [hheld1.len, aB7, aCJ]
    omega
   have hbv := hbs
   obtain ⟨a2, c2, rfl, hc2⟩ := hbs.len
   rw [aB6] at hbv hat
   have e1 : (i : Int) + 1 = ((i + 1 : Nat) : Int) := by omega
   have hszl := afR P
   have fin : ∀ (W2 : aEl) (SW2 : Nat -> Prop), Cw W2 p SW2 (szs (P ++ [bytes])) -> jN W1 W2 (fun y => y = p ∨ SW y ∨ W1.heap.size <= y) -> (∀ y, SW2 y -> (SW y ∨ W1.heap.size <= y) /\ y < W2.heap.size) →
       gI pg (nX .append #[22, 22] 22 [.slice aa P.flatten.length ac, .slice a2 bytes.length c2]) W2 fun t69 w =>
        gI pg (hU .add 3 jC jC (.int .i64 i) (.int .i64 1)) w fun t70 w =>
         ∃ m, m < 4 - i /\ ∃ (i' : Nat) (sv' av : aEm) (P : List (List UInt8)) (SA SW : Nat -> Prop), m = 4 - i' /\ ((.slice (mY a c z 1) (n - z) (c - z) : aEm), t69, t70) = (sv', av, .int .i64 i') /\ i' <= 4 /\ P.length = i' /\ (i' < 4 -> Bs w sv' (l.drop (i' * q)) /\ ¬ MO sv' (fun y => n0 <= y)) /\
           avD w p n0 C l q av P SA SW /\ jN w0 w (fun y => n0 <= y) := by
    intro W2 SW2 hw2 x2 hS2
    have z2 := x2.size
    have hbs2 : Bs W2 (.slice a2 bytes.length c2) bytes := hbv.ext x2 (hat _ fun y h1 h2 h3 => by
     rcases h3 with h3 | h3 | h3
     .omega
     .have := (hS0 y h3).2; omega
     .omega)
    have hcl := hbs2.cl
    rw [aB6] at hcl
    have hal3 : GX W2 (fun y => SA y ∨ W2.heap.size <= y) 1 (.slice aa P.flatten.length ac) P.flatten.length (P.flatten.map nT) := by
     refine anI (Jj (Jj hal2 x1 (fun _ _ h => h)) x2 fun y hy h3 => ?_) fun y hy _ => .inl hy
     have h4 := hA0 y hy
     have h5 := hAw y hy
     rcases h3 with h3 | h3 | h3
     .exact h4.2.1 h3
     .exact h4.2.2 h3
     .omega
    refine B9 (m := bytes.length) (news := bytes.map nT) (i := Tryz.t5) Tryz.underlying22 Tryz.underlying22 JX rfl rfl rfl hal3 hcl (FT _) (fun y hy => .inr hy) (by omega) (by rw [show Tryz.t5.bytes = 1 from rfl]; omega) (by decide) fun v3 W3 o3 x3 => ?_
    have z3 := x3.size
    simp (disch := omega) only [gI, hJ, e1, gX, dJ]
    have y3 : jN w0 W3 (fun y => n0 <= y) := (y1.trans x2 fun y _ h => by
     rcases h with h | h | h
     .omega
     .exact (hS0 y h).1
     .omega).trans x3 fun y _ h => by
     rcases h with h | h
     .exact (hA0 y h).1
     .omega
    refine ⟨4 - (i + 1), by omega, i + 1, _, v3, P ++ [bytes], fun y => (SA y ∨ W2.heap.size <= y) /\ y < W3.heap.size, SW2, rfl, rfl, by omega, by rw [aB7, aCJ, hPl], ?_, ⟨?_, fun y hy => hy.2, fun y hy => ?_, ?_, ?_, ?_, ?_⟩, y3⟩
    .intro hi4
     have hlt3 : i < 3 := by omega
     rw [if_pos hlt3] at hsd
     refine ⟨?_, Zf hin (by omega)⟩
     have := Sl.drop' hv (k := z) hzl
     rw [<- aDW, hsd] at this
     refine Sl.ext (Sl.ext (Sl.ext this x1 (kJ _)) x2 ?_) x3 ?_
     .exact fun h => Zf hin (by omega) (DC h fun y hy => by
       rcases hy with hy | hy | hy
       .omega
       .exact (hS0 y hy).1
       .omega)
     .exact fun h => Zf hin (by omega) (DC h fun y hy => by
       rcases hy with hy | hy
       .exact (hA0 y hy).1
       .omega)
    .rintro y ⟨hy | hy, hy2⟩
     .have h4 := hA0 y hy
      refine ⟨h4.1, h4.2.1, fun h => ?_⟩
      have h5 := hAw y hy
      rcases (hS2 y h).1 with h6 | h6
      .exact h4.2.2 h6
      .omega
     .refine ⟨by omega, fun h => ?_, fun h => ?_⟩
      .have := hw2.lt; omega
      .have := (hS2 y h).2; omega
    .obtain ⟨h1, h2⟩ := hS2 y hy
     refine ⟨?_, by omega⟩
     rcases h1 with h1 | h1
     .exact (hS0 y h1).1
     .omega
    .rw [List.flatten_append, List.flatten_singleton, aB7, aCC]
     exact anI o3 fun y hy h => ⟨hy, h⟩
    .refine hw2.ext x3 (fun h => ?_) fun y hy h => ?_
     .rcases h with h | h
      .exact (hA0 p h).2.1 rfl
      .have := hw2.lt; omega
     .obtain ⟨h1, h2⟩ := hS2 y hy
      rcases h with h | h
      .rcases h1 with h1 | h1
       .exact (hA0 y h).2.2 h1
       .have := hAw y h; omega
      .omega
    .intro j s hj
     rcases aCk j P.length with hjl | hjl
     .rw [aCm hjl] at hj; exact hheld j s hj
     .rw [aCu hjl] at hj
      have : j - P.length = 0 := by
       rcases aDc (j - P.length) with h | h
       .exact h
       .rw [aCj (by simp; omega)] at hj; cases hj
      rw [this] at hj
      obtain rfl : bytes = s := by simpa using hj
      obtain rfl : j = i := by omega
      exact hheld1
    .intro j hj s hs
     rw [aB7, aCJ] at hj
     rcases aCk j P.length with hjl | hjl
     .exact hall j hjl s hs
     .obtain rfl : j = i := by omega
      exact hal1 s hs
   have hwr1 : Cw W1 p (fun y => SW y ∨ W1.heap.size <= y) (szs P) := (hwr.ext x1 (fun h => h) (fun _ _ h => h)).turn (fun y hy _ => .inl hy) (fun h => by
    rcases h with h | h
    .exact hwr.1 h
    .omega)
   by_cases hi3 : i < 3
   .have d3 : decide ((i : Int) < 3) = true := decide_eq_true (by omega)
    have d4 : decide ((65536 : Int) <= (bytes.length : Int)) = false := decide_eq_false (by omega)
    have d5 : decide ((bytes.length : Int) ≥ 65536) = false := decide_eq_false (by omega)
    simp (disch := omega) only [aB6, jV, jW, d3, gB, dJ, iH, n1, fV, fQ, eS, iA, iF, d4]
    refine (B2 (x := bytes.length) (n := 2) hwr1 (fun y hy => .inr hy) (by omega) (by omega) (by omega)).mono ?_
    rintro r W2 ⟨rfl, hw2, x2⟩
    unfold AM AJ
    have hsz : szs (P ++ [bytes]) = szs P ++ nM bytes.length 2 := by rw [ahJ, if_pos (by omega)]
    rw [<- hsz] at hw2
    exact fin W2 (fun y => (SW y ∨ W1.heap.size <= y) /\ y < W2.heap.size) (hw2.turn (fun y hy h => ⟨hy, h⟩) (fun h => hw2.1 h.1)) x2 (fun y hy => hy)
   .have d3 : decide ((i : Int) < 3) = false := decide_eq_false (by omega)
    simp (disch := omega) only [aB6, jV, jW, d3, fV, dJ, iH, n1]
    unfold AM AJ
    have hsz : szs (P ++ [bytes]) = szs P := by rw [ahJ, if_neg (by omega)]
    rw [<- hsz] at hwr1
    exact fin W1 (fun y => (SW y ∨ W1.heap.size <= y) /\ y < W1.heap.size) (hwr1.turn (fun y hy h => ⟨hy, h⟩) (fun h => hwr1.1 h.1)) (jN.refl _ _) (fun y hy => hy)
 .have d1 : decide ((i : Int) < 4) = false := decide_eq_false (by omega)
  obtain rfl : i = 4 := by omega
  simp (disch := omega) only [gI, gY, d1, dJ, fV]
  unfold AL
  have hwr1 : Cw W p (fun y => SW y ∨ W.heap.size <= y) (szs P) := hwr.turn (fun y hy _ => .inl hy) (fun h => by
   rcases h with h | h
   .exact hwr.1 h
   .omega)
  have hszl := afR P
  refine (abC hwr1 (fun y hy => .inr hy) (afK hal2) (by omega)).mono ?_
  rintro r W2 ⟨rfl, hw2, x2⟩
  refine (Tf hw2 (by rw [aB7]; omega)).mono ?_
  rintro r W3 ⟨o3, x3⟩
  have z2 := x2.size
  have hat := yW.atI o3
  obtain ⟨a3, c3, rfl⟩ := o3.len
  refine hok W3 _ P hPl hheld ?_ o3.sl (fun M hM => hat M fun y h1 h2 => hM y (by omega) h2) ((hx.trans x2 fun y _ h => ?_).trans x3 fun _ _ h => h.elim)
  .intro s hs
   have hall' : ∀ j, j < 4 -> ∀ s ∈ kR (sg l q j), 0 < bitsOf C s := fun j hj => hall j (by omega)
   have := avI (l := l) (q := q)
   rw [<- this] at hs
   simp only [kR, aCC, aC3] at hs
   rcases hs with hs | hs | hs | hs
   .exact hall' 0 (by omega) s hs
   .exact hall' 1 (by omega) s hs
   .exact hall' 2 (by omega) s hs
   .exact hall' 3 (by omega) s hs
  .rcases h with h | h | h
   .omega
   .exact (hS0 y h).1
   .omega
theorem aeQ {lv sv : aEm} {wl l : List UInt8} {w : aEl} (hw : Bs w lv wl) (hwl : wl.length <= 100000) (h : Bs w sv l) (hl : l.length <= 131072) :
 jE pg Gh #[lv, sv] w (fun r w' => aAw w' w.heap.size wl l (fun b => awR wl b l.length) (11 * l.length / 8 + 12) (l.length < 3 * ((l.length + 3) / 4)) r /\ jN w w' mC) := by
 refine Xv ?_
 unfold Xu HN HL
 by_cases hd : pI (kR wl) = 0
 .refine (aeB hw hwl hd).mono ?_
  rintro r w1 ⟨rfl, rfl⟩
  have n0 : ((1 : Int) != 0) = true := rfl
  simp (disch := omega) only [gI, jV, jW, dJ, iH, n0, gB]
  exact ⟨.inl ⟨.inl hd, rfl⟩, jN.refl _ _⟩
 .refine (amI hw rfl hd).mono ?_
  rintro r w1 ⟨b, rfl, hb, ob, x1⟩
  have n0 : ((0 : Int) != 0) = false := rfl
  have h1 := h.ext x1 (kJ _)
  have hv := h1
  obtain ⟨a, c, rfl, hc⟩ := h1.len
  rw [aB6] at hv ⊢
  obtain ⟨q, hq⟩ : ∃ q, q = (l.length + 3) / 4 := ⟨_, rfl⟩
  simp (disch := omega) only [gI, jV, jW, fQ, dJ, iH, n0, fV]
  refine (arO hl hq w1).mono ?_
  rintro r w2 ⟨rfl, x2⟩
  simp (disch := omega) only [jV, jW, dJ, iJ, gR]
  refine aaR fun w3 o3 x3 s3 => ?_
  refine Zn o3 rfl (by simp [one]) (by simp) fun w4 o4 x4 s4 => ?_
  simp only [kW, aCa, aCc] at o4
  have x14 : jN w1 w4 mC := (x2.seq x3).trans x4 fun y hy h => by have := x2.size; omega
  have z1 := x1.size
  have z2 := x2.size
  have z14 := x14.size
  by_cases hbad : l.length < 3 * q
  .have d1 : decide (3 * (q : Int) <= (l.length : Int)) = false := decide_eq_false (by omega)
   simp (disch := omega) only [d1, aB3, gU, if_true, gB, gJ]
   exact ⟨.inl ⟨.inr (.inl (by rw [<- hq]; exact hbad)), rfl⟩, x1.seq x14⟩
  .have d1 : decide (3 * (q : Int) <= (l.length : Int)) = true := decide_eq_true (by omega)
   have d2 : decide ((l.length : Int) > 131072) = false := decide_eq_false (by omega)
   have d3 : decide ((131072 : Int) < (l.length : Int)) = false := decide_eq_false (by omega)
   simp (disch := omega) only [d1, aB5, gT, aBZ, if_false, gO, fQ, dJ, hZ, d2, fV]
   refine (HK w4).mono ?_
   rintro r w5 ⟨rfl, hlt5, hw5, x5⟩
   have z5 := x5.size
   unfold Ht Ii HO
   have q1 := agS (off := 0) (o4.ext x5 (fun h => h)) (by simp)
   simp only [aCs, aCq, aCw] at q1
   simp (disch := omega) only [gI, q1, dJ]
   have x15 : jN w1 w5 mC := x14.seq x5
   have hlc : wl.length = (wC wl).length := by rw [DJ, nV]
   rw [hlc]
   have hb1 := ob.lt
   refine aoN (b := b) (n0 := w4.heap.size) (q := q) (auX hd) (ob.ext x15 (fun h => h)) (hv.ext x15 (kJ _)) (by omega) (by omega) (by omega) hl z5 (aCb _) (by omega) ?_ (SW0 := fun y => w4.heap.size < y /\ y < w5.heap.size) ?_ (fun y hy => ⟨by omega, hy.2⟩) ?_ ?_
   .exact fun hh => (hv.ext x14 (kJ _)).old hh
   .exact hw5.turn (fun y hy h => ⟨hy, h⟩) (fun h => by omega)
   .intro W hbd x6
    exact ⟨.inl ⟨.inr (.inr hbd), rfl⟩, ((x1.seq x15).trans x6 fun y hy h => by omega)⟩
   .intro W v P hP hheld hall hbs hat x6
    have z6 := x6.size
    refine ⟨.inr ⟨hd, hall, v, _, rfl, hbs, fun M hM => hat M fun y h1 h2 => hM y (by omega) h2, ?_, ?_⟩, (x1.seq x15).trans x6 fun y hy h => by omega⟩
    .have hP4 : ∀ (j : Nat) (s : List UInt8), P[j]? = some s -> 8 * s.length <= 11 * (if j < 3 then q else l.length - 3 * q) + 8 := fun j s hj => by
      have h1 := hheld j s hj
      have h2 := sT (afJ hd) (kR (sg l q j))
      have h3 := SJ (l := l) (q := q) (i := j) (by omega)
      rw [nV, h3] at h2
      rw [h1.len, aB7, aCJ]
      omega
     have hs6 := afR P
     match P, hP with
     | [a, b, c, d], _ =>
       have h1 := hP4 0 a rfl
       have h2 := hP4 1 b rfl
       have h3 := hP4 2 c rfl
       have h4 := hP4 3 d rfl
       simp only [show (0 : Nat) < 3 from by omega, show (1 : Nat) < 3 from by omega, show (2 : Nat) < 3 from by omega, if_true, Nat.lt_irrefl, if_false] at h1 h2 h3 h4
       simp only [aB7, aEa, List.flatten_nil, List.length_nil]
       omega
    .show awR wl (szs P ++ P.flatten) l.length = _
     match P, hP with
     | [a, b, c, d], _ =>
       have e : [a, b, c, d].flatten = a ++ (b ++ (c ++ d)) := by simp
       rw [e]
       have hlen : ∀ (j : Nat) (s : List UInt8), [a, b, c, d][j]? = some s -> s.length < 65536 /\ Xg (wC wl) s (sg l q j).length = .ok (kR (sg l q j)) := fun j s hj => by
        have hj4 : j < 4 := by
         rcases aCk j 4 with h | h
         .exact h
         .rw [aCj (by simpa using h)] at hj; cases hj
        have h1 := hheld j s hj
        have h2 := sT (afJ hd) (kR (sg l q j))
        have h3 : (sg l q j).length <= 32768 := by rw [SJ (by omega)]; split <;> omega
        rw [nV] at h2
        refine ⟨by rw [h1.len, aB7, aCJ]; omega, adZ hd (fun x hx => hall x ?_) h1⟩
        have hsub : ∀ x ∈ sg l q j, x ∈ l := fun x hx => by
         unfold sg at hx
         split at hx
         .exact aDV (aC5 hx)
         .exact aDV hx
        obtain ⟨y, hy1, hy2⟩ := aCU.1 hx
        exact aCU.2 ⟨y, hsub y hy1, hy2⟩
       obtain ⟨la, ha⟩ := hlen 0 a rfl
       obtain ⟨lb, hb⟩ := hlen 1 b rfl
       obtain ⟨lc, hc⟩ := hlen 2 c rfl
       obtain ⟨-, hdd⟩ := hlen 3 d rfl
       rw [hq] at ha hb hc hdd hbad
       exact anV hd (by omega) hl ha hb hc hdd la lb lc
end Go.Proofs.YtoecppploooloaaGreatDoor
namespace Go.Pu
open Go Go.En
def Q3 (m : List Nat) : List Nat := (List.range ((m.length + 1) / 2)).map fun j => m.getD (2 * j) 0 * 16 + m.getD (2 * j + 1) 0
theorem Wz (m : List Nat) : (Q3 m).length = (m.length + 1) / 2 := by simp [Q3]
theorem aqF {m : List Nat} {j : Nat} (h : j < (m.length + 1) / 2) : (Q3 m).getD j 0 = m.getD (2 * j) 0 * 16 + m.getD (2 * j + 1) 0 := by
 rw [aB9]
 unfold Q3
 rw [aCp, aDY h] <;> rfl
theorem axG {m : List Nat} (h : ∀ x ∈ m, x < 16) (i : Nat) : m.getD i 0 < 16 := by
 rcases aCk i m.length with hi | hi
 .exact h _ (Gk hi)
 .rw [aB9, aCj hi]; decide
end Go.Pu
namespace Go.Proofs.YtoecppploooloaaGreatDoor
open Go Go.En Go.Pu
set_option maxRecDepth 4000
abbrev SH (m : List Nat) : List UInt8 := m.map UInt8.ofNat
theorem ajZ {x : Nat} (h : x < 256) : nT (UInt8.ofNat x) = .int .u8 (x : Nat) := by
 unfold nT; rw [aD3 h]
end Go.Proofs.YtoecppploooloaaGreatDoor
namespace Go.Pu
theorem ajP {B : Nat} : ∀ {l : List Nat}, (∀ n ∈ l, n <= B) -> l.sum <= l.length * B
 | [], _ => by simp
 | n :: l, h => by
   have h1 := h n (aCA ..)
   have h2 := ajP (l := l) fun m hm => h m (aCh _ hm)
   rw [aDG, aCl, Nat.succ_mul]; omega
theorem asH {n : Nat} : ∀ {l : List Nat}, n ∈ l -> n <= l.sum
 | [], h => by cases h
 | m :: l, h => by
   rw [aDG]
   rcases aCS.1 h with rfl | h
   .omega
   .have := asH h; omega
def GY (n : Nat) : Bool := decide (0 < n)
def XI (ns : List Nat) (i last : Nat) : Prop := (last = 0 /\ ∀ j, j < i -> ns.getD j 0 = 0) ∨ (last < i /\ 0 < ns.getD last 0 /\ ∀ j, last < j -> j < i -> ns.getD j 0 = 0)
theorem XI.step {ns : List Nat} {i last : Nat} (h : XI ns i last) : XI ns (i + 1) (if 0 < ns.getD i 0 then i else last) := by
 split
 .rename_i h0
  exact .inr ⟨by omega, h0, fun j h1 h2 => by omega⟩
 .rename_i h0
  rcases h with ⟨rfl, h⟩ | ⟨h1, h2, h3⟩
  .refine .inl ⟨rfl, fun j hj => ?_⟩
   rcases aCk j i with h' | h'
   .exact h j h'
   .have : j = i := by omega
    subst this; omega
  .refine .inr ⟨by omega, h2, fun j hj hj2 => ?_⟩
   rcases aCk j i with h' | h'
   .exact h3 j hj h'
   .have : j = i := by omega
    subst this; omega
theorem XI.one {ns : List Nat} {i a b : Nat} (ha : XI ns i a) (hb : XI ns i b) : a = b := by
 rcases ha with ⟨rfl, h⟩ | ⟨h1, h2, h3⟩
 .rcases hb with ⟨rfl, _⟩ | ⟨k1, k2, _⟩
  .rfl
  .have := h b k1; omega
 .rcases hb with ⟨rfl, k⟩ | ⟨k1, k2, k3⟩
  .have := k a h1; omega
  .rcases aD9 a b with h | h | h
   .have := h3 b h k1; omega
   .exact h
   .have := k3 a h h1; omega
theorem qI {ns : List Nat} {i : Nat} (h : i < ns.length) : ns.getD i 0 = ns[i] := by rw [aB9, aB8 h] <;> rfl
theorem aqR {α : Type} {ns : List α} {i : Nat} (h : i < ns.length) : ns.take (i + 1) = ns.take i ++ [ns[i]] := by
 rw [aDB, aB8 h] <;> rfl
theorem Eh {ns : List Nat} {i : Nat} (h : i < ns.length) : ns.take (i + 1) = ns.take i ++ [ns.getD i 0] := by rw [aqR h, qI h]
theorem Y2 : ∀ {l : List Nat}, (∀ n ∈ l, n = 0) -> l.sum = 0
 | [], _ => rfl
 | n :: l, h => by rw [aDG, h n (aCA ..), Y2 fun m hm => h m (aCh _ hm)]
theorem YR : ∀ {l : List Nat}, (∀ n ∈ l, n = 0) -> l.countP GY = 0
 | [], _ => rfl
 | n :: l, h => by
   rw [List.countP_cons, h n (aCA ..), YR fun m hm => h m (aCh _ hm)] <;> rfl
theorem PE {P : List Nat} {gr i : Nat} (x : Nat) (hg : gr < P.length) (hi : i < P.length) : (P.set gr x).getD i 0 = if i = gr then x else P.getD i 0 := by
 rw [aB9, aB9, List.getElem?_set]
 by_cases h : i = gr
 .subst h; simp [hi]
 .rw [if_neg (fun e => h e.symm), if_neg h]
end Go.Pu
namespace Go.Pu
open Go Go.En
theorem Zt (f : Nat -> Nat) : ∀ {l : List Nat} {i : Nat} (o : Nat) (h : i < l.length), ((l.set i o).map f).sum + f l[i] = (l.map f).sum + f o
 | [], i, o, h => by simp at h
 | x :: l, 0, o, h => by rw [aCa, aCz, aCz, aDG, aDG, aEc]; omega
 | x :: l, i + 1, o, h => by
   rw [aCc, aCz, aCz, aDG, aDG, aDj]
   have := Zt f (l := l) (i := i) o (by simpa using h)
   omega
def aiS (out : List Nat) : Nat := (out.map fun o => 11 - o).sum
structure PZ (ns out : List Nat) : Prop where
 len : out.length = ns.length
 off : ∀ i, i < ns.length -> ns.getD i 0 = 0 -> out.getD i 0 = 0
 on : ∀ i, i < ns.length -> 0 < ns.getD i 0 -> 1 <= out.getD i 0 /\ out.getD i 0 <= 11
theorem PZ.set {ns out : List Nat} {i o : Nat} (h : PZ ns out) (hi : i < ns.length) (hn : 0 < ns.getD i 0) (h1 : 1 <= o) (h2 : o <= 11) : PZ ns (out.set i o) := by
 have hl := h.len
 refine ⟨by rw [aDq]; exact hl, fun j hj h0 => ?_, fun j hj h0 => ?_⟩
 .rw [PE _ (by omega) (by omega)]
  split
  .rename_i e; subst e; omega
  .exact h.off j hj h0
 .rw [PE _ (by omega) (by omega)]
  split
  .exact ⟨h1, h2⟩
  .exact h.on j hj h0
theorem PZ.le {ns out : List Nat} (h : PZ ns out) {i : Nat} (hi : i < out.length) : out[i] <= 11 := by
 rw [<- qI hi]
 have hl := h.len
 rcases aDc (ns.getD i 0) with h0 | h0
 .rw [h.off i (by omega) h0]; omega
 .exact (h.on i (by omega) h0).2
theorem aiN {ns out : List Nat} (h : PZ ns out) (hl : ns.length <= 256) (hno : ∀ j, j < ns.length -> ¬ (0 < ns.getD j 0 /\ out.getD j 0 < 11)) : nL out <= 256 := by
 have hlen := h.len
 refine aCV (WV fun o ho => ?_) (by omega)
 obtain ⟨i, hi, rfl⟩ := aCX ho
 rw [<- qI hi]
 rcases aDc (ns.getD i 0) with h0 | h0
 .exact .inl (h.off i (by omega) h0)
 .have := hno i (by omega)
  have := h.on i (by omega) h0
  omega
theorem afC {ns out : List Nat} (h : PZ ns out) {there : Nat} (hth : there < ns.length) (hth0 : 0 < ns.getD there 0) (hroom : nL out < 2048) : ∃ j, j < ns.length /\ 0 < ns.getD j 0 /\ 2 ^ (11 - out.getD j 0) <= 2048 - nL out := by
 have hlen := h.len
 have hmax : ∀ k, k <= ns.length -> (∃ j, j < k /\ 0 < ns.getD j 0) -> ∃ j, j < k /\ 0 < ns.getD j 0 /\ ∀ i, i < k -> 0 < ns.getD i 0 -> out.getD i 0 <= out.getD j 0 := by
  intro k
  induction k with
  | zero => rintro _ ⟨j, hj, _⟩; omega
  | succ k ih =>
    intro hk hex
    by_cases hex2 : ∃ j, j < k /\ 0 < ns.getD j 0
    .obtain ⟨j, h1, h2, h3⟩ := ih (by omega) hex2
     by_cases hb : 0 < ns.getD k 0 /\ out.getD j 0 < out.getD k 0
     .refine ⟨k, by omega, hb.1, fun i hi hi0 => ?_⟩
      by_cases hik : i = k
      .subst hik; omega
      .have := h3 i (by omega) hi0; omega
     .refine ⟨j, by omega, h2, fun i hi hi0 => ?_⟩
      by_cases hik : i = k
      .subst hik; omega
      .exact h3 i (by omega) hi0
    .obtain ⟨j, h1, h2⟩ := hex
     have hjk : j = k := by
      rcases aCk j k with h' | h'
      .exact absurd ⟨j, h', h2⟩ hex2
      .omega
     subst hjk
     refine ⟨j, by omega, h2, fun i hi hi0 => ?_⟩
     rcases aCk i j with h' | h'
     .exact absurd ⟨i, h', hi0⟩ hex2
     .have : i = j := by omega
      subst this; omega
 obtain ⟨j, hj, hj0, hjm⟩ := hmax ns.length (aCb _) ⟨there, hth, hth0⟩
 obtain ⟨q1, q2⟩ := h.on j hj hj0
 refine ⟨j, hj, hj0, ?_⟩
 have hd := adQ (M := out.getD j 0) q2 (l := out) fun o ho => by
  obtain ⟨i, hi, rfl⟩ := aCX ho
  rw [<- qI hi]
  rcases aDc (ns.getD i 0) with h0 | h0
  .rw [h.off i (by omega) h0]; omega
  .exact hjm i (by omega) h0
 have h2048 : 2 ^ (11 - out.getD j 0) ∣ 2048 := by
  rw [show (2048 : Nat) = 2 ^ 11 from rfl]
  exact aEk 2 (by omega)
 have hd2 := Nat.dvd_sub h2048 hd
 exact Nat.le_of_dvd (by omega) hd2
theorem aqA {ns out : List Nat} (h : PZ ns out) {a b : Nat} (ha : a < ns.length) (hb : b < ns.length) (hab : a ≠ b) (ha0 : 0 < ns.getD a 0) (hb0 : 0 < ns.getD b 0) (hr : 2 ^ (11 - out.getD a 0) <= 2048 - nL out) (hk : nL out <= 2048) : 2 <= out.getD a 0 := by
 have hlen := h.len
 obtain ⟨q1, q2⟩ := h.on a ha ha0
 obtain ⟨r1, r2⟩ := h.on b hb hb0
 rcases aCk (out.getD a 0) 2 with h1 | h1
 .exfalso
  have ea : out.getD a 0 = 1 := by omega
  rw [ea] at hr
  have hka : vY (out[a]'(by omega)) = 1024 := by rw [<- qI (by omega), ea] <;> rfl
  have hkb : 1 <= vY (out[b]'(by omega)) := apV (by rw [<- qI (by omega)]; omega)
  have : vY (out[a]'(by omega)) + vY (out[b]'(by omega)) <= nL out := by
   rcases Nat.lt_or_gt_of_ne hab with h | h
   .exact Za (by omega) (by omega) h
   .have := Za (l := out) (i := b) (j := a) (by omega) (by omega) h; omega
  have : (2 : Nat) ^ (11 - 1) = 1024 := rfl
  omega
 .exact h1
theorem arB {ns : List Nat} : ∀ {c : Nat}, 2 <= ns.countP GY -> ∃ b, b < ns.length /\ 0 < ns.getD b 0 /\ b ≠ c := by
 intro c h
 induction ns generalizing c with
 | nil => simp at h
 | cons x ns ih =>
   rw [List.countP_cons] at h
   by_cases hx : 0 < x
   .cases c with
    | succ c => exact ⟨0, by simp, by simpa using hx, by omega⟩
    | zero =>
      have h1 : 1 <= ns.countP GY := by
       split at h <;> omega
      have : ∃ y ∈ ns, GY y = true := by
       rw [<- List.countP_pos_iff]; omega
      obtain ⟨y, hy, hy0⟩ := this
      obtain ⟨i, hi, rfl⟩ := aCX hy
      refine ⟨i + 1, by simpa using hi, ?_, by omega⟩
      rw [qI (by simpa using hi)]
      simpa [GY] using hy0
   .have hon : GY x = false := by unfold GY; simpa using hx
    rw [hon] at h
    simp only [aBZ, if_false, aCR] at h
    obtain ⟨b, h1, h2, h3⟩ := ih (c := c - 1) h
    cases c with
    | zero => exact ⟨b + 1, by simpa using h1, by simpa using h2, by omega⟩
    | succ c => exact ⟨b + 1, by simpa using h1, by simpa using h2, by simp at h3; omega⟩
end Go.Pu
namespace Go.Proofs.YtoecppploooloaaGreatDoor
open Go Go.En Go.Pu
set_option maxRecDepth 4000
abbrev oc (out : List Nat) : List aEm := out.map fun (n : Nat) => Value.int .i64 n
theorem NW {out : List Nat} {i : Nat} (h : i < out.length) : (oc out)[i]? = some (.int .i64 (out.getD i 0 : Nat)) := by
 rw [aCp, aB8 h, <- qI h] <;> rfl
theorem alS (out : List Nat) (i x : Nat) : (oc out).set i (.int .i64 x) = oc (out.set i x) := by unfold oc; rw [aDS]
abbrev Tq (ns : List Nat) : List aEm := ns.map fun (n : Nat) => Value.int .u32 n
theorem Qx {ns : List Nat} {i : Nat} (h : i < ns.length) : (Tq ns)[i]? = some (.int .u32 (ns.getD i 0 : Nat)) := by
 rw [aCp, aB8 h, <- qI h] <;> rfl
theorem apC {pb S : Nat} {ov : aEm} {ns : List Nat} {w : aEl} (hs : Sl w ov (Tq ns)) (hn : ∀ n ∈ ns, n <= 4294967295) (hl : ns.length <= 256) (hS0 : 0 < S) (hS : S <= 2147483647) (ob : lN w pb (oc (List.replicate ns.length 0))) (hat : ¬ MO ov (fun y => y = pb)) {RR : aEm -> aEl -> Prop}
 (hK : ∀ out w', PZ ns out -> lN w' pb (oc out) -> jN w w' (fun y => y = pb) -> tO RR ov (.slice (some ⟨pb, 0, none⟩) ns.length ns.length) (.int .i64 (2048 - (nL out : Nat))) w') :
 xH RR ov (.int .u64 S) (.slice (some ⟨pb, 0, none⟩) ns.length ns.length) (.int .i64 2048) w := by
 unfold xH Dt Ds
 obtain ⟨a, c, hv, hc⟩ := hs.len
 rw [aB6] at hv
 subst hv
 simp (disch := omega) only [gI, fK, dJ]
 unfold C5 Dp
 refine kP.rule (fun m (t : aEm × aEm) w' => ∃ (i : Nat) (out : List Nat), m = ns.length - i /\ t = (.int .i64 (2048 - (nL out : Nat)), .int .i64 i) /\ i <= ns.length /\ out.length = ns.length /\ (∀ j, i <= j -> out.getD j 0 = 0) /\
  (∀ j, j < i -> ns.getD j 0 = 0 -> out.getD j 0 = 0) /\ (∀ j, j < i -> 0 < ns.getD j 0 -> 1 <= out.getD j 0 /\ out.getD j 0 <= 11) /\ nL out <= 1024 * i /\ lN w' pb (oc out) /\ jN w w' (fun y => y = pb)) ns.length
  ⟨0, List.replicate ns.length 0, rfl, ?_, by omega, by simp, ?_, fun j h => by omega, fun j h => by omega, ?_, ob, jN.refl _ _⟩ ?_
 .have : nL (List.replicate ns.length 0) = 0 := by
   unfold nL
   rw [aDx]
   exact Y2 fun n hn => by rw [aD5 hn] <;> rfl
  rw [this] <;> rfl
 .intro j _
  rw [aB9, aDs]
  split <;> rfl
 .unfold nL
  rw [aDx, Y2 fun n hn => by rw [aD5 hn] <;> rfl]; omega
 rintro m t w1 ⟨i, out, rfl, rfl, hi, hlen, hz, hoff, hon, hkr, ob1, x1⟩
 unfold wX C1
 by_cases hlt : i < ns.length
 .have d1 : decide ((i : Int) < (ns.length : Int)) = true := by simp; omega
  obtain ⟨b1, off1, rfl, hcell1⟩ := slA (hs.ext x1 hat) (by omega)
  have g1 := hcell1 i hlt
  rw [Qx hlt] at g1
  have hni : ns.getD i 0 <= 4294967295 := by rw [qI hlt]; exact hn _ (aCW hlt)
  generalize hnv : ns.getD i 0 = n at *
  unfold xD
  by_cases h0 : 0 < n
  .have d2 : decide ((0 : Int) < (n : Int)) = true := by simp; omega
   have e1 : (S : Int) - 1 = ((S - 1 : Nat) : Int) := by omega
   have e2 : ((S - 1 : Nat) : Int).tdiv (n : Int) = (((S - 1) / n : Nat) : Int) := by rw [aDz (by omega)]; simp
   have n2 : ((n : Int) == 0) = false := beq_eq_false_iff_ne.2 (by omega)
   have hq : (S - 1) / n <= S - 1 := aD2 _ _
   generalize (S - 1) / n = qv at *
   simp (disch := omega) only [gI, gY, d1, fJ, aB0, iC, e1, iA, fZ, aB4, hJ, gX, dJ, gS, gA, g1, gD, hZ, d2, cU, iP, e2, gB]
   refine (anB qv (by omega) w1).mono ?_
   rintro r w2 ⟨rfl, rfl⟩
   have hbl : bl qv <= 32 := SR (by omega)
   generalize bl qv = y at *
   have hmx : (if (1 : Int) > (y : Int) then (1 : Int) else (y : Int)) = ((max y 1 : Nat) : Int) := by split <;> omega
   have hmn : (if (11 : Int) < ((max y 1 : Nat) : Int) then (11 : Int) else ((max y 1 : Nat) : Int)) = ((min (max y 1) 11 : Nat) : Int) := by split <;> omega
   have hxb : 1 <= min (max y 1) 11 /\ min (max y 1) 11 <= 11 := by omega
   generalize min (max y 1) 11 = x at *
   have hks := TZ (l := out) (i := i) x (by omega)
   have hoi : out[i]'(by omega) = 0 := by rw [<- qI (by omega)]; exact hz i (aCb _)
   rw [hoi] at hks
   have hk0 : vY 0 = 0 := rfl
   have hkx : vY x = 2 ^ (11 - x) := by unfold vY; rw [if_neg (by omega)]
   have hpx : 2 ^ (11 - x) <= 2 ^ 10 := aCn (by omega) (by omega)
   rw [hk0, hkx, aCR] at hks
   simp only [gt_iff_lt] at hmx
   simp (disch := omega) only [iQ, gt_iff_lt, hmx, dJ, iT, hmn]
   refine LC ob1 rfl (by rw [aB6]; omega) fun w3 ob3 x3 s3 => ?_
   rw [alS] at ob3
   have f1 := ob3.cell (off := i)
   rw [NW (by rw [aDq]; omega), PE x (by omega) (by omega), if_pos rfl] at f1
   have e3 : (11 : Int) - (x : Int) = ((11 - x : Nat) : Int) := by omega
   have hsh := apE (n := 11 - x) (by omega)
   have e4 : (2048 : Int) - ((nL out : Nat) : Int) - ((2 ^ (11 - x) : Nat) : Int) = 2048 - ((nL (out.set i x) : Nat) : Int) := by omega
   simp (disch := omega) only [f1, gD, dJ, iC, e3, gX, iE, aB0, hsh, e4]
   refine ⟨ns.length - (i + 1), by omega, i + 1, out.set i x, rfl, rfl, by omega, by rw [aDq]; exact hlen, ?_, ?_, ?_, by omega, ob3, x1.trans x3 fun _ _ h => h⟩
   .intro j hj
    rcases aCk j out.length with h | h
    .rw [PE x (by omega) h, if_neg (by omega)]; exact hz j (by omega)
    .rw [aB9, aCj (by rw [aDq]; exact h)] <;> rfl
   .intro j hj h0'
    rw [PE x (by omega) (by omega)]
    split
    .rename_i e; subst e; omega
    .exact hoff j (by omega) h0'
   .intro j hj h0'
    rw [PE x (by omega) (by omega)]
    split
    .exact hxb
    .exact hon j (by omega) h0'
  .have d2 : decide ((0 : Int) < (n : Int)) = false := by simp; omega
   simp (disch := omega) only [gI, gY, d1, fJ, aB0, iC, iA, fZ, aB4, hJ, gX, dJ, gS, gA, g1, gD, hZ, d2, cU, fV, gB]
   refine ⟨ns.length - (i + 1), by omega, i + 1, out, rfl, rfl, by omega, hlen, fun j hj => hz j (by omega), ?_, ?_, by omega, ob1, x1⟩
   .intro j hj h0'
    rcases aCk j i with h | h
    .exact hoff j h h0'
    .exact hz j h
   .intro j hj h0'
    rcases aCk j i with h | h
    .exact hon j h h0'
    .have : j = i := by omega
     subst this; omega
 .have d1 : decide ((i : Int) < (ns.length : Int)) = false := by simp; omega
  obtain rfl : i = ns.length := by omega
  simp (disch := omega) only [gI, gY, d1, iC, iA, dJ, fV]
  exact hK out w1 ⟨hlen, hoff, hon⟩ ob1 x1
end Go.Proofs.YtoecppploooloaaGreatDoor
