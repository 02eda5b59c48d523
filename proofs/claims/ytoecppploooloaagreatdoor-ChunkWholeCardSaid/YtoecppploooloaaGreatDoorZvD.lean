/- Parts of the proof of ChunkWhole: merged and given short names by a program of ours. -/
import Derived.WalkKit
import Derived.ProofKit
import Derived.OpenShut
import Derived.Test.YtoecppploooloaaGreatDoorZvC
set_option linter.unusedVariables false
set_option linter.unusedSimpArgs false
open Array renaming length_toList → aqU
open Bool renaming false_eq_true → anO, not_false → anT, not_true → anU, and_eq_true → aoB
open Int renaming toNat_natCast → anP, fdiv_eq_ediv_of_nonneg → aqL
open List renaming getElem?_cons_zero → anM, getElem?_cons_succ → anN, length_map → anV, length_append → anW, getElem?_eq_getElem → anX, getD_eq_getElem?_getD → anY, getElem?_eq_none → aoD, take_of_length_le → aoF, length_cons → aoG, getElem?_append_left → aoI, getElem?_map → aoJ, set_cons_zero → aoK, set_cons_succ → aoM, map_cons → aoT, append_assoc → aoU, map_append → aoX, length_eq_zero_iff → apE, nil_append → apL, mem_map → apM, getElem?_take_of_lt → apO, getElem_mem → apP, getElem?_toArray → apR, append_nil → aqC, ext_getElem? → aqI, drop_zero → aqQ, mem_append_left → aqS, getElem?_drop → arH, mem_append_right → arM, map_set → arT, eq_of_mem_replicate → asI, map_nil → asV
open Nat renaming zero_add → anS, le_refl → aoA, lt_or_ge → aoE, pow_le_pow_right → aoO, mul_le_mul_right → aoQ, add_mul → apG, add_zero → apI, mul_comm → apJ, le_trans → apN, mul_one → apT, pow_add → apY, min_eq_left → aqD, div_div_eq_div_mul → aqJ, eq_zero_or_pos → aqP, add_assoc → aqY, mul_add → arC, sub_zero → arP, zero_mul → arQ, mul_le_mul_left → asC, div_le_self → asF, zero_le → asN, mod_lt → asU
open Option renaming isNone_some → anQ, isNone_none → anR, map_some → aoW, getD_some → aqV
open Option.some renaming inj → aoZ
open UInt8 renaming toNat_lt → aqG
namespace Go.Proofs.YtoecppploooloaaGreatDoor
open Go Go.En Go.Pu
set_option maxRecDepth 4000
def aiB (w : asY) (base n : Nat) (r : asZ) : Prop :=
 (∃ e : Int, e ≠ 0 /\ r = .tuple #[.slice none 0 0, .int .i64 e]) ∨
 (∃ (v : asZ) (bytes : List UInt8), r = .tuple #[v, .int .i64 0] /\ xH w base 1 v bytes.length (bytes.map pB) /\ 1 <= bytes.length /\ bytes.length <= 11 * n / 8 + 100)
def L6 (kind form n m bits : Nat) : Nat := kind + form * 4 + n * 2 ^ 4 + m * 2 ^ (4 + bits)
theorem afL {a b : Nat} (ha : a < 2 ^ 64) (hb : b < 2 ^ 64) : UI .u64 (a : Int) (b : Int) = ((a ||| b : Nat) : Int) := ahS ha hb
theorem Xw {RR : asZ -> asY -> Prop} {sv bv : asZ} {l B : List UInt8} {kind form bits size : Nat} {w : asY} (h : Bs w sv l) (hb : Bs w bv B) (hl : l.length <= 131072) (hk : kind < 4) (hf : form < 4) (hbits : bits <= 18) (hsz : 1 <= size /\ size <= 8) (hB : B.length < 2 ^ 18) (hn : l.length < 2 ^ bits)
 (hk' : ∀ r w', xH w' w.heap.size 1 r (pD (L6 kind form l.length B.length bits) size ++ B).length ((pD (L6 kind form l.length B.length bits) size ++ B).map pB) -> jM w w' mM -> RR (.tuple #[r, .int .i64 0]) w') :
 qT RR sv (.int .i64 (kind : Nat)) bv (.int .i64 (form : Nat)) (.int .i64 (bits : Nat)) (.int .i64 (size : Nat)) w := by
 unfold qT
 refine (FH w).mono ?_
 rintro r w1 ⟨rfl, hlt1, hw1, x1⟩
 have z1 := x1.size
 have h1 := h.ext x1 (kJ _)
 have hb1 := hb.ext x1 (kJ _)
 have hbv := hb1
 obtain ⟨a, c, rfl, hc⟩ := h1.len
 obtain ⟨a2, c2, rfl, hc2⟩ := hb1.len
 rw [anV] at hbv
 have t2 : (2 : Int).toNat = 2 := rfl
 have t4 : (4 : Int).toNat = 4 := rfl
 have e1 := Wy (a := form) (n := 2) (by omega) (by omega)
 have e2 := Wy (a := l.length) (n := 4) (by omega) (by omega)
 have e3 : UI .i64 (kind : Int) ((form * 2 ^ 2 : Nat) : Int) = ((kind + form * 4 : Nat) : Int) := by
  rw [SC (by omega) (by omega), Nat.or_comm, LL 2 (by omega)]; congr 1; omega
 have e4 : UI .i64 ((kind + form * 4 : Nat) : Int) ((l.length * 2 ^ 4 : Nat) : Int) = ((kind + form * 4 + l.length * 2 ^ 4 : Nat) : Int) := by
  rw [SC (by omega) (by omega), Nat.or_comm, LL 4 (by omega)]; congr 1; omega
 have e5 : IntKind.u64.wrap ((kind + form * 4 + l.length * 2 ^ 4 : Nat) : Int) = ((kind + form * 4 + l.length * 2 ^ 4 : Nat) : Int) := hZ (by omega) (by omega)
 have e6 : IntKind.u64.wrap (B.length : Int) = (B.length : Int) := hZ (by omega) (by omega)
 have e7 : (4 : Int) + (bits : Int) = ((4 + bits : Nat) : Int) := by omega
 have hp22 : 2 ^ (4 + bits) <= 2 ^ 22 := aoO (by omega) (by omega)
 have hm40 : B.length * 2 ^ (4 + bits) < 2 ^ 40 := by
  have h1 : B.length * 2 ^ (4 + bits) <= (2 ^ 18 - 1) * 2 ^ 22 := Nat.mul_le_mul (by omega) hp22
  have : (2 ^ 18 - 1) * 2 ^ 22 < 2 ^ 40 := by decide
  omega
 have e8 : IntKind.u64.wrap ((B.length : Int) * 2 ^ (min (4 + bits) IntKind.u64.bits)) = ((B.length * 2 ^ (4 + bits) : Nat) : Int) := by
  have hmin : min (4 + bits) IntKind.u64.bits = 4 + bits := by
   have : IntKind.u64.bits = 64 := rfl
   omega
  rw [hmin]
  have : (B.length : Int) * 2 ^ (4 + bits) = ((B.length * 2 ^ (4 + bits) : Nat) : Int) := by push_cast; rfl
  rw [this]
  exact hZ (by omega) (by omega)
 have hlow : kind + form * 4 + l.length * 2 ^ 4 < 2 ^ (4 + bits) := by
  rw [apY]
  generalize 2 ^ bits = Y at *
  omega
 have e9 : UI .u64 ((kind + form * 4 + l.length * 2 ^ 4 : Nat) : Int) ((B.length * 2 ^ (4 + bits) : Nat) : Int) = ((L6 kind form l.length B.length bits : Nat) : Int) := by
  rw [afL (by omega) (by omega), aeD hlow, L6, apJ (2 ^ (4 + bits))]
 have hX : L6 kind form l.length B.length bits < 2 ^ 64 := by unfold L6; omega
 have t8 : ((4 + bits : Nat) : Int).toNat = 4 + bits := anP _
 simp (disch := omega) only [gD, jF, cJ, stepR_skip, hO, iB, iP, iN, iK, iO, jI, iV, gK, iC, iF, iD, iH, hJ, iM, hU, iE, iW, iS, iJ, gQ, iR, iQ, iG, kU, kV, lF, lC, lH, lE, lJ, lG, lD, gB, Result.ok.injEq, Next.value.injEq, true_and, and_true, gZ, hZ, iX, iT, iU, jG, anP, gW, gU, gX, gT, gM, gI, gN, gL, fZ, fT, if_true, if_false, anO, anS, anQ, anR, anU, anT, anN, anM, fM, fK, fB, fQ, cU, eQ, eE, dJ, bJ, fR, fE, aL, dD, aZ, bM, bP, aO, cQ, cF, eP, aF, gS, aP, cK, aR, bS, fS, cI, cC, aB, gC, fA, aI, aG, bN, gO, aN, eU, dZ, dV, gG, dH, fC, dC, eF, eZ, eY, cB, cY, gJ, eD, bZ, bF, bY, bX, fO, aD, aE, aM, aV, bE, cS, bK, aA, fF, aH, cO, fI, eT, gH, bO, eM, eK, bW, fW, eS, eI, cZ, cL, dF, aX, bD, aQ, gA, aJ, dB, dY, bB, cH, fJ, dK, gE, fL, fH, fG, dS, aK, cG, dG, fX, fY, fD, dE, aT, dT, fV, cP, eX, fN, cD, bL, dP, aW, dX, dR, cN, eN, eL, aY, dI, bA, dO, dW, dN, bH, cR, cM, dM, bR, cW, cV, fP, bV, eH, eJ, gF, dU, dQ, dL, dA, bG, bQ, bU, bT, aS, cX, aU, t2, t4, e1, e2, e3, e4, e5, e6, e7, e8, e9, t8, anV]
 refine (Ar (x := L6 kind form l.length B.length bits) (n := size) hw1 (fun y hy => by omega) hX hsz (asN _)).mono ?_
 rintro r w2 ⟨rfl, hw2, x2⟩
 have z2 := x2.size
 rw [apL] at hw2
 have x02 : jM w w2 mM := x1.trans x2 fun y hy h => by omega
 have hb2 := hb.ext x02 (kJ _)
 rw [anV] at hb2
 have hp5 : (pD (L6 kind form l.length B.length bits) size).length <= 8 := by rw [mE]; exact hsz.2
 refine (U5 hw2 (fun y hy => by omega) hb2 (by omega)).mono ?_
 rintro r w3 ⟨rfl, hw3, x3⟩
 have z3 := x3.size
 refine (OZ hw3 (by rw [anW]; omega)).mono ?_
 rintro r w4 ⟨o4, x4⟩
 refine hk' r w4 (Kp o4 (by omega)) ((x02.trans x3 fun y hy h => by omega).seq x4)
def amC (w : asY) (base lim : Nat) (r : asZ) : Prop :=
 r = .tuple #[.slice none 0 0, .int .i64 1] ∨ ∃ (v : asZ) (bytes : List UInt8), r = .tuple #[v, .int .i64 0] /\ Bs w v bytes /\ AtI v base w.heap.size /\ bytes.length <= lim
theorem XP {lv sv : asZ} {wl l : List UInt8} {w : asY} (hw : Bs w lv wl) (hwl : wl.length <= 100000) (h : Bs w sv l) (hl : l.length <= 131072) :
 jD pg vD #[lv, sv] w (fun r w' => amC w' w.heap.size (11 * l.length / 8 + 12) r /\ jM w w' mM) := by
 refine Ml ?_
 unfold I8 Al
 have hv := h
 obtain ⟨a, c, rfl, hc⟩ := h.len
 rw [anV] at hv ⊢
 by_cases hlt : l.length < 256
 .have d1 : decide ((l.length : Int) < 256) = true := decide_eq_true (by omega)
  simp (disch := omega) only [gD, jF, cJ, stepR_skip, hO, iB, iP, iN, iK, iO, jI, iV, gK, iC, iF, iD, iH, hJ, iM, hU, iE, iW, iS, iJ, gQ, iR, iQ, iG, kU, kV, lF, lC, lH, lE, lJ, lG, lD, gB, Result.ok.injEq, Next.value.injEq, true_and, and_true, gZ, hZ, iX, iT, iU, jG, anP, gW, gU, gX, gT, gM, gI, gN, gL, fZ, fT, if_true, if_false, anO, anS, anQ, anR, anU, anT, anN, anM, fM, fK, fB, fQ, cU, eQ, eE, dJ, bJ, fR, fE, aL, dD, aZ, bM, bP, aO, cQ, cF, eP, aF, gS, aP, cK, aR, bS, fS, cI, cC, aB, gC, fA, aI, aG, bN, gO, aN, eU, dZ, dV, gG, dH, fC, dC, eF, eZ, eY, cB, cY, gJ, eD, bZ, bF, bY, bX, fO, aD, aE, aM, aV, bE, cS, bK, aA, fF, aH, cO, fI, eT, gH, bO, eM, eK, bW, fW, eS, eI, cZ, cL, dF, aX, bD, aQ, gA, aJ, dB, dY, bB, cH, fJ, dK, gE, fL, fH, fG, dS, aK, cG, dG, fX, fY, fD, dE, aT, dT, fV, cP, eX, fN, cD, bL, dP, aW, dX, dR, cN, eN, eL, aY, dI, bA, dO, dW, dN, bH, cR, cM, dM, bR, cW, cV, fP, bV, eH, eJ, gF, dU, dQ, dL, dA, bG, bQ, bU, bT, aS, cX, aU, d1]
  refine (XC hw hwl hv hl).mono ?_
  rintro r w1 ⟨ho, x1⟩
  rcases ho with ⟨hb, rfl⟩ | ⟨hd, hall, v, bytes, rfl, hbs, hat, hlen, hback⟩
  .simp (disch := omega) only [gD, jF, cJ, stepR_skip, hO, iB, iP, iN, iK, iO, jI, iV, gK, iC, iF, iD, iH, hJ, iM, hU, iE, iW, iS, iJ, gQ, iR, iQ, iG, kU, kV, lF, lC, lH, lE, lJ, lG, lD, gB, Result.ok.injEq, Next.value.injEq, true_and, and_true, gZ, hZ, iX, iT, iU, jG, anP, gW, gU, gX, gT, gM, gI, gN, gL, fZ, fT, if_true, if_false, anO, anS, anQ, anR, anU, anT, anN, anM, fM, fK, fB, fQ, cU, eQ, eE, dJ, bJ, fR, fE, aL, dD, aZ, bM, bP, aO, cQ, cF, eP, aF, gS, aP, cK, aR, bS, fS, cI, cC, aB, gC, fA, aI, aG, bN, gO, aN, eU, dZ, dV, gG, dH, fC, dC, eF, eZ, eY, cB, cY, gJ, eD, bZ, bF, bY, bX, fO, aD, aE, aM, aV, bE, cS, bK, aA, fF, aH, cO, fI, eT, gH, bO, eM, eK, bW, fW, eS, eI, cZ, cL, dF, aX, bD, aQ, gA, aJ, dB, dY, bB, cH, fJ, dK, gE, fL, fH, fG, dS, aK, cG, dG, fX, fY, fD, dE, aT, dT, fV, cP, eX, fN, cD, bL, dP, aW, dX, dR, cN, eN, eL, aY, dI, bA, dO, dW, dN, bH, cR, cM, dM, bR, cW, cV, fP, bV, eH, eJ, gF, dU, dQ, dL, dA, bG, bQ, bU, bT, aS, cX, aU]
   exact ⟨.inl rfl, x1⟩
  .simp (disch := omega) only [gD, jF, cJ, stepR_skip, hO, iB, iP, iN, iK, iO, jI, iV, gK, iC, iF, iD, iH, hJ, iM, hU, iE, iW, iS, iJ, gQ, iR, iQ, iG, kU, kV, lF, lC, lH, lE, lJ, lG, lD, gB, Result.ok.injEq, Next.value.injEq, true_and, and_true, gZ, hZ, iX, iT, iU, jG, anP, gW, gU, gX, gT, gM, gI, gN, gL, fZ, fT, if_true, if_false, anO, anS, anQ, anR, anU, anT, anN, anM, fM, fK, fB, fQ, cU, eQ, eE, dJ, bJ, fR, fE, aL, dD, aZ, bM, bP, aO, cQ, cF, eP, aF, gS, aP, cK, aR, bS, fS, cI, cC, aB, gC, fA, aI, aG, bN, gO, aN, eU, dZ, dV, gG, dH, fC, dC, eF, eZ, eY, cB, cY, gJ, eD, bZ, bF, bY, bX, fO, aD, aE, aM, aV, bE, cS, bK, aA, fF, aH, cO, fI, eT, gH, bO, eM, eK, bW, fW, eS, eI, cZ, cL, dF, aX, bD, aQ, gA, aJ, dB, dY, bB, cH, fJ, dK, gE, fL, fH, fG, dS, aK, cG, dG, fX, fY, fD, dE, aT, dT, fV, cP, eX, fN, cD, bL, dP, aW, dX, dR, cN, eN, eL, aY, dI, bA, dO, dW, dN, bH, cR, cM, dM, bR, cW, cV, fP, bV, eH, eJ, gF, dU, dQ, dL, dA, bG, bQ, bU, bT, aS, cX, aU]
   exact ⟨.inr ⟨v, bytes, rfl, hbs, hat, by omega⟩, x1⟩
 .have d1 : decide ((l.length : Int) < 256) = false := decide_eq_false (by omega)
  simp (disch := omega) only [gD, jF, cJ, stepR_skip, hO, iB, iP, iN, iK, iO, jI, iV, gK, iC, iF, iD, iH, hJ, iM, hU, iE, iW, iS, iJ, gQ, iR, iQ, iG, kU, kV, lF, lC, lH, lE, lJ, lG, lD, gB, Result.ok.injEq, Next.value.injEq, true_and, and_true, gZ, hZ, iX, iT, iU, jG, anP, gW, gU, gX, gT, gM, gI, gN, gL, fZ, fT, if_true, if_false, anO, anS, anQ, anR, anU, anT, anN, anM, fM, fK, fB, fQ, cU, eQ, eE, dJ, bJ, fR, fE, aL, dD, aZ, bM, bP, aO, cQ, cF, eP, aF, gS, aP, cK, aR, bS, fS, cI, cC, aB, gC, fA, aI, aG, bN, gO, aN, eU, dZ, dV, gG, dH, fC, dC, eF, eZ, eY, cB, cY, gJ, eD, bZ, bF, bY, bX, fO, aD, aE, aM, aV, bE, cS, bK, aA, fF, aH, cO, fI, eT, gH, bO, eM, eK, bW, fW, eS, eI, cZ, cL, dF, aX, bD, aQ, gA, aJ, dB, dY, bB, cH, fJ, dK, gE, fL, fH, fG, dS, aK, cG, dG, fX, fY, fD, dE, aT, dT, fV, cP, eX, fN, cD, bL, dP, aW, dX, dR, cN, eN, eL, aY, dI, bA, dO, dW, dN, bH, cR, cM, dM, bR, cW, cV, fP, bV, eH, eJ, gF, dU, dQ, dL, dA, bG, bQ, bU, bT, aS, cX, aU, d1]
  refine (WI hw hwl hv hl).mono ?_
  rintro r w1 ⟨ho, x1⟩
  rcases ho with ⟨hb, rfl⟩ | ⟨hd, hall, v, bytes, rfl, hbs, hat, hlen, hback⟩
  .simp (disch := omega) only [gD, jF, cJ, stepR_skip, hO, iB, iP, iN, iK, iO, jI, iV, gK, iC, iF, iD, iH, hJ, iM, hU, iE, iW, iS, iJ, gQ, iR, iQ, iG, kU, kV, lF, lC, lH, lE, lJ, lG, lD, gB, Result.ok.injEq, Next.value.injEq, true_and, and_true, gZ, hZ, iX, iT, iU, jG, anP, gW, gU, gX, gT, gM, gI, gN, gL, fZ, fT, if_true, if_false, anO, anS, anQ, anR, anU, anT, anN, anM, fM, fK, fB, fQ, cU, eQ, eE, dJ, bJ, fR, fE, aL, dD, aZ, bM, bP, aO, cQ, cF, eP, aF, gS, aP, cK, aR, bS, fS, cI, cC, aB, gC, fA, aI, aG, bN, gO, aN, eU, dZ, dV, gG, dH, fC, dC, eF, eZ, eY, cB, cY, gJ, eD, bZ, bF, bY, bX, fO, aD, aE, aM, aV, bE, cS, bK, aA, fF, aH, cO, fI, eT, gH, bO, eM, eK, bW, fW, eS, eI, cZ, cL, dF, aX, bD, aQ, gA, aJ, dB, dY, bB, cH, fJ, dK, gE, fL, fH, fG, dS, aK, cG, dG, fX, fY, fD, dE, aT, dT, fV, cP, eX, fN, cD, bL, dP, aW, dX, dR, cN, eN, eL, aY, dI, bA, dO, dW, dN, bH, cR, cM, dM, bR, cW, cV, fP, bV, eH, eJ, gF, dU, dQ, dL, dA, bG, bQ, bU, bT, aS, cX, aU]
   exact ⟨.inl rfl, x1⟩
  .simp (disch := omega) only [gD, jF, cJ, stepR_skip, hO, iB, iP, iN, iK, iO, jI, iV, gK, iC, iF, iD, iH, hJ, iM, hU, iE, iW, iS, iJ, gQ, iR, iQ, iG, kU, kV, lF, lC, lH, lE, lJ, lG, lD, gB, Result.ok.injEq, Next.value.injEq, true_and, and_true, gZ, hZ, iX, iT, iU, jG, anP, gW, gU, gX, gT, gM, gI, gN, gL, fZ, fT, if_true, if_false, anO, anS, anQ, anR, anU, anT, anN, anM, fM, fK, fB, fQ, cU, eQ, eE, dJ, bJ, fR, fE, aL, dD, aZ, bM, bP, aO, cQ, cF, eP, aF, gS, aP, cK, aR, bS, fS, cI, cC, aB, gC, fA, aI, aG, bN, gO, aN, eU, dZ, dV, gG, dH, fC, dC, eF, eZ, eY, cB, cY, gJ, eD, bZ, bF, bY, bX, fO, aD, aE, aM, aV, bE, cS, bK, aA, fF, aH, cO, fI, eT, gH, bO, eM, eK, bW, fW, eS, eI, cZ, cL, dF, aX, bD, aQ, gA, aJ, dB, dY, bB, cH, fJ, dK, gE, fL, fH, fG, dS, aK, cG, dG, fX, fY, fD, dE, aT, dT, fV, cP, eX, fN, cD, bL, dP, aW, dX, dR, cN, eN, eL, aY, dI, bA, dO, dW, dN, bH, cR, cM, dM, bR, cW, cV, fP, bV, eH, eJ, gF, dU, dQ, dL, dA, bG, bQ, bU, bT, aS, cX, aU]
   exact ⟨.inr ⟨v, bytes, rfl, hbs, hat, hlen⟩, x1⟩
theorem Z7 {sv lv : asZ} {l wl : List UInt8} {w : asY} (h : Bs w sv l) (hl : l.length <= 131072) (hw : Bs w lv wl) (hwl : wl.length <= 100000) :
 jD pg Ad #[sv, lv, .bool true] w (fun r w' => aiB w' w.heap.size l.length r /\ jM w w' mM) := by
 refine Ot ?_
 obtain ⟨RR, hRR⟩ : ∃ RR : asZ -> asY -> Prop, RR = fun r w' => aiB w' w.heap.size l.length r /\ jM w w' mM := ⟨_, rfl⟩
 rw [<- hRR]
 unfold Mo CY CV
 have hv := h
 obtain ⟨a, c, rfl, hc⟩ := h.len
 rw [anV] at hv ⊢
 by_cases h0 : l.length = 0
 .have n0 : ((l.length : Int) == 0) = true := by rw [h0] <;> rfl
  simp (disch := omega) only [gD, jF, cJ, stepR_skip, hO, iB, iP, iN, iK, iO, jI, iV, gK, iC, iF, iD, iH, hJ, iM, hU, iE, iW, iS, iJ, gQ, iR, iQ, iG, kU, kV, lF, lC, lH, lE, lJ, lG, lD, gB, Result.ok.injEq, Next.value.injEq, true_and, and_true, gZ, hZ, iX, iT, iU, jG, anP, gW, gU, gX, gT, gM, gI, gN, gL, fZ, fT, if_true, if_false, anO, anS, anQ, anR, anU, anT, anN, anM, fM, fK, fB, fQ, cU, eQ, eE, dJ, bJ, fR, fE, aL, dD, aZ, bM, bP, aO, cQ, cF, eP, aF, gS, aP, cK, aR, bS, fS, cI, cC, aB, gC, fA, aI, aG, bN, gO, aN, eU, dZ, dV, gG, dH, fC, dC, eF, eZ, eY, cB, cY, gJ, eD, bZ, bF, bY, bX, fO, aD, aE, aM, aV, bE, cS, bK, aA, fF, aH, cO, fI, eT, gH, bO, eM, eK, bW, fW, eS, eI, cZ, cL, dF, aX, bD, aQ, gA, aJ, dB, dY, bB, cH, fJ, dK, gE, fL, fH, fG, dS, aK, cG, dG, fX, fY, fD, dE, aT, dT, fV, cP, eX, fN, cD, bL, dP, aW, dX, dR, cN, eN, eL, aY, dI, bA, dO, dW, dN, bH, cR, cM, dM, bR, cW, cV, fP, bV, eH, eJ, gF, dU, dQ, dL, dA, bG, bQ, bU, bT, aS, cX, aU, n0]
  rw [hRR]
  exact ⟨.inl ⟨1, by decide, rfl⟩, jM.refl _ _⟩
 have hne : l ≠ [] := fun e => h0 (by rw [e] <;> rfl)
 have n0 : ((l.length : Int) == 0) = false := beq_eq_false_iff_ne.2 (by omega)
 have d1 : decide ((l.length : Int) > 131072) = false := decide_eq_false (by omega)
 have d2 : decide ((131072 : Int) < (l.length : Int)) = false := decide_eq_false (by omega)
 have tail : ∀ (kind : Nat) (d : List UInt8) (dv : asZ) (w1 : asY), kind < 4 -> jM w w1 mM -> xH w1 w.heap.size 1 dv d.length (d.map pB) -> d.length <= 66 →
     xO RR (.slice a l.length c) lv (.int .i64 (kind : Nat)) dv w1 := by
  intro kind d dv w1 hk4 x1 od hdl
  have z1 := x1.size
  unfold xO Cx
  have hv1 := hv.ext x1 (kJ _)
  have hw1 := hw.ext x1 (kJ _)
  refine (XP hw1 hwl hv1 hl).mono ?_
  rintro r w2 ⟨ho, x2⟩
  have z2 := x2.size
  rcases ho with rfl | ⟨v, bytes, rfl, hbs, hat, hlen⟩
  .have n1 : ((1 : Int) != 0) = true := rfl
   simp (disch := omega) only [gD, jF, cJ, stepR_skip, hO, iB, iP, iN, iK, iO, jI, iV, gK, iC, iF, iD, iH, hJ, iM, hU, iE, iW, iS, iJ, gQ, iR, iQ, iG, kU, kV, lF, lC, lH, lE, lJ, lG, lD, gB, Result.ok.injEq, Next.value.injEq, true_and, and_true, gZ, hZ, iX, iT, iU, jG, anP, gW, gU, gX, gT, gM, gI, gN, gL, fZ, fT, if_true, if_false, anO, anS, anQ, anR, anU, anT, anN, anM, fM, fK, fB, fQ, cU, eQ, eE, dJ, bJ, fR, fE, aL, dD, aZ, bM, bP, aO, cQ, cF, eP, aF, gS, aP, cK, aR, bS, fS, cI, cC, aB, gC, fA, aI, aG, bN, gO, aN, eU, dZ, dV, gG, dH, fC, dC, eF, eZ, eY, cB, cY, gJ, eD, bZ, bF, bY, bX, fO, aD, aE, aM, aV, bE, cS, bK, aA, fF, aH, cO, fI, eT, gH, bO, eM, eK, bW, fW, eS, eI, cZ, cL, dF, aX, bD, aQ, gA, aJ, dB, dY, bB, cH, fJ, dK, gE, fL, fH, fG, dS, aK, cG, dG, fX, fY, fD, dE, aT, dT, fV, cP, eX, fN, cD, bL, dP, aW, dX, dR, cN, eN, eL, aY, dI, bA, dO, dW, dN, bH, cR, cM, dM, bR, cW, cV, fP, bV, eH, eJ, gF, dU, dQ, dL, dA, bG, bQ, bU, bT, aS, cX, aU, n1]
   rw [hRR]
   exact ⟨.inl ⟨1, by decide, rfl⟩, x1.seq x2⟩
  .have n1 : ((0 : Int) != 0) = false := rfl
   have od2 := od.ext x2 (fun _ _ h => h)
   have hbv := hbs
   obtain ⟨a2, c2, rfl, hc2⟩ := hbs.len
   rw [anV] at hbv
   have hcl := hbv.cl
   rw [anV] at hcl
   simp (disch := omega) only [gD, jF, cJ, stepR_skip, hO, iB, iP, iN, iK, iO, jI, iV, gK, iC, iF, iD, iH, hJ, iM, hU, iE, iW, iS, iJ, gQ, iR, iQ, iG, kU, kV, lF, lC, lH, lE, lJ, lG, lD, gB, Result.ok.injEq, Next.value.injEq, true_and, and_true, gZ, hZ, iX, iT, iU, jG, anP, gW, gU, gX, gT, gM, gI, gN, gL, fZ, fT, if_true, if_false, anO, anS, anQ, anR, anU, anT, anN, anM, fM, fK, fB, fQ, cU, eQ, eE, dJ, bJ, fR, fE, aL, dD, aZ, bM, bP, aO, cQ, cF, eP, aF, gS, aP, cK, aR, bS, fS, cI, cC, aB, gC, fA, aI, aG, bN, gO, aN, eU, dZ, dV, gG, dH, fC, dC, eF, eZ, eY, cB, cY, gJ, eD, bZ, bF, bY, bX, fO, aD, aE, aM, aV, bE, cS, bK, aA, fF, aH, cO, fI, eT, gH, bO, eM, eK, bW, fW, eS, eI, cZ, cL, dF, aX, bD, aQ, gA, aJ, dB, dY, bB, cH, fJ, dK, gE, fL, fH, fG, dS, aK, cG, dG, fX, fY, fD, dE, aT, dT, fV, cP, eX, fN, cD, bL, dP, aW, dX, dR, cN, eN, eL, aY, dI, bA, dO, dW, dN, bH, cR, cM, dM, bR, cW, cV, fP, bV, eH, eJ, gF, dU, dQ, dL, dA, bG, bQ, bU, bT, aS, cX, aU, n1, anV]
   refine mC od2 hcl (DE _) (by omega) (by omega) fun v3 w3 o3 x3 => ?_
   have z3 := x3.size
   have hs3 : Bs w3 v3 (d ++ bytes) := by
    have := o3.sl
    rw [<- aoX] at this
    exact this
   obtain ⟨a3, c3, rfl⟩ := o3.len
   have hml : (d ++ bytes).length = d.length + bytes.length := anW
   rw [<- hml]
   have x03 : jM w w3 mM := (x1.seq x2).trans x3 fun y hy h => by omega
   have hv3 := hv.ext x03 (kJ _)
   have d3 : decide ((262144 : Int) <= ((d ++ bytes).length : Int)) = false := decide_eq_false (by omega)
   have d4 : decide (((d ++ bytes).length : Int) ≥ 262144) = false := decide_eq_false (by omega)
   have fin : ∀ (form bits size : Nat), form < 4 -> bits <= 18 -> 1 <= size /\ size <= 8 -> l.length < 2 ^ bits →
       qT RR (.slice a l.length c) (.int .i64 (kind : Nat)) (.slice a3 (d ++ bytes).length c3) (.int .i64 (form : Nat)) (.int .i64 (bits : Nat)) (.int .i64 (size : Nat)) w3 := by
    intro form bits size hf hb hsz hn
    have hs3' := hs3
    rw [<- hml] at hs3'
    refine Xw (l := l) (B := d ++ bytes) hv3 hs3' hl hk4 hf hb hsz (by omega) hn fun r w4 o4 x4 => ?_
    rw [hRR]
    have hpl : (pD (L6 kind form l.length (d ++ bytes).length bits) size ++ (d ++ bytes)).length = size + (d ++ bytes).length := by rw [anW, mE]
    exact ⟨.inr ⟨r, _, rfl, Kp o4 (by omega), by rw [hpl]; omega, by rw [hpl]; omega⟩, x03.seq x4⟩
   have hmx : (if (((d ++ bytes).length : Nat) : Int) > ((l.length : Nat) : Int) then (((d ++ bytes).length : Nat) : Int) else ((l.length : Nat) : Int)) = ((max l.length (d ++ bytes).length : Nat) : Int) := by split <;> omega
   obtain ⟨M, hM⟩ : ∃ M, M = max l.length (d ++ bytes).length := ⟨_, rfl⟩
   rw [<- hM] at hmx
   by_cases hlt : l.length < 256
   .have d5 : decide ((l.length : Int) < 256) = true := decide_eq_true (by omega)
    have d6 : decide ((M : Int) < 1024) = true := decide_eq_true (by omega)
    simp (disch := omega) only [gD, jF, cJ, stepR_skip, hO, iB, iP, iN, iK, iO, jI, iV, gK, iC, iF, iD, iH, hJ, iM, hU, iE, iW, iS, iJ, gQ, iR, iQ, iG, kU, kV, lF, lC, lH, lE, lJ, lG, lD, gB, Result.ok.injEq, Next.value.injEq, true_and, and_true, gZ, hZ, iX, iT, iU, jG, anP, gW, gU, gX, gT, gM, gI, gN, gL, fZ, fT, if_true, if_false, anO, anS, anQ, anR, anU, anT, anN, anM, fM, fK, fB, fQ, cU, eQ, eE, dJ, bJ, fR, fE, aL, dD, aZ, bM, bP, aO, cQ, cF, eP, aF, gS, aP, cK, aR, bS, fS, cI, cC, aB, gC, fA, aI, aG, bN, gO, aN, eU, dZ, dV, gG, dH, fC, dC, eF, eZ, eY, cB, cY, gJ, eD, bZ, bF, bY, bX, fO, aD, aE, aM, aV, bE, cS, bK, aA, fF, aH, cO, fI, eT, gH, bO, eM, eK, bW, fW, eS, eI, cZ, cL, dF, aX, bD, aQ, gA, aJ, dB, dY, bB, cH, fJ, dK, gE, fL, fH, fG, dS, aK, cG, dG, fX, fY, fD, dE, aT, dT, fV, cP, eX, fN, cD, bL, dP, aW, dX, dR, cN, eN, eL, aY, dI, bA, dO, dW, dN, bH, cR, cM, dM, bR, cW, cV, fP, bV, eH, eJ, gF, dU, dQ, dL, dA, bG, bQ, bU, bT, aS, cX, aU, d3, d4, d5, hmx, d6]
    exact fin 0 10 3 (by omega) (by omega) (by omega) (by omega)
   have d5 : decide ((l.length : Int) < 256) = false := decide_eq_false (by omega)
   by_cases h1 : M < 1024
   .have d6 : decide ((M : Int) < 1024) = true := decide_eq_true (by omega)
    simp (disch := omega) only [gD, jF, cJ, stepR_skip, hO, iB, iP, iN, iK, iO, jI, iV, gK, iC, iF, iD, iH, hJ, iM, hU, iE, iW, iS, iJ, gQ, iR, iQ, iG, kU, kV, lF, lC, lH, lE, lJ, lG, lD, gB, Result.ok.injEq, Next.value.injEq, true_and, and_true, gZ, hZ, iX, iT, iU, jG, anP, gW, gU, gX, gT, gM, gI, gN, gL, fZ, fT, if_true, if_false, anO, anS, anQ, anR, anU, anT, anN, anM, fM, fK, fB, fQ, cU, eQ, eE, dJ, bJ, fR, fE, aL, dD, aZ, bM, bP, aO, cQ, cF, eP, aF, gS, aP, cK, aR, bS, fS, cI, cC, aB, gC, fA, aI, aG, bN, gO, aN, eU, dZ, dV, gG, dH, fC, dC, eF, eZ, eY, cB, cY, gJ, eD, bZ, bF, bY, bX, fO, aD, aE, aM, aV, bE, cS, bK, aA, fF, aH, cO, fI, eT, gH, bO, eM, eK, bW, fW, eS, eI, cZ, cL, dF, aX, bD, aQ, gA, aJ, dB, dY, bB, cH, fJ, dK, gE, fL, fH, fG, dS, aK, cG, dG, fX, fY, fD, dE, aT, dT, fV, cP, eX, fN, cD, bL, dP, aW, dX, dR, cN, eN, eL, aY, dI, bA, dO, dW, dN, bH, cR, cM, dM, bR, cW, cV, fP, bV, eH, eJ, gF, dU, dQ, dL, dA, bG, bQ, bU, bT, aS, cX, aU, d3, d4, d5, hmx, d6]
    exact fin 1 10 3 (by omega) (by omega) (by omega) (by omega)
   have d6 : decide ((M : Int) < 1024) = false := decide_eq_false (by omega)
   by_cases h2 : M < 16384
   .have d7 : decide ((M : Int) < 16384) = true := decide_eq_true (by omega)
    simp (disch := omega) only [gD, jF, cJ, stepR_skip, hO, iB, iP, iN, iK, iO, jI, iV, gK, iC, iF, iD, iH, hJ, iM, hU, iE, iW, iS, iJ, gQ, iR, iQ, iG, kU, kV, lF, lC, lH, lE, lJ, lG, lD, gB, Result.ok.injEq, Next.value.injEq, true_and, and_true, gZ, hZ, iX, iT, iU, jG, anP, gW, gU, gX, gT, gM, gI, gN, gL, fZ, fT, if_true, if_false, anO, anS, anQ, anR, anU, anT, anN, anM, fM, fK, fB, fQ, cU, eQ, eE, dJ, bJ, fR, fE, aL, dD, aZ, bM, bP, aO, cQ, cF, eP, aF, gS, aP, cK, aR, bS, fS, cI, cC, aB, gC, fA, aI, aG, bN, gO, aN, eU, dZ, dV, gG, dH, fC, dC, eF, eZ, eY, cB, cY, gJ, eD, bZ, bF, bY, bX, fO, aD, aE, aM, aV, bE, cS, bK, aA, fF, aH, cO, fI, eT, gH, bO, eM, eK, bW, fW, eS, eI, cZ, cL, dF, aX, bD, aQ, gA, aJ, dB, dY, bB, cH, fJ, dK, gE, fL, fH, fG, dS, aK, cG, dG, fX, fY, fD, dE, aT, dT, fV, cP, eX, fN, cD, bL, dP, aW, dX, dR, cN, eN, eL, aY, dI, bA, dO, dW, dN, bH, cR, cM, dM, bR, cW, cV, fP, bV, eH, eJ, gF, dU, dQ, dL, dA, bG, bQ, bU, bT, aS, cX, aU, d3, d4, d5, hmx, d6, d7]
    exact fin 2 14 4 (by omega) (by omega) (by omega) (by omega)
   .have d7 : decide ((M : Int) < 16384) = false := decide_eq_false (by omega)
    simp (disch := omega) only [gD, jF, cJ, stepR_skip, hO, iB, iP, iN, iK, iO, jI, iV, gK, iC, iF, iD, iH, hJ, iM, hU, iE, iW, iS, iJ, gQ, iR, iQ, iG, kU, kV, lF, lC, lH, lE, lJ, lG, lD, gB, Result.ok.injEq, Next.value.injEq, true_and, and_true, gZ, hZ, iX, iT, iU, jG, anP, gW, gU, gX, gT, gM, gI, gN, gL, fZ, fT, if_true, if_false, anO, anS, anQ, anR, anU, anT, anN, anM, fM, fK, fB, fQ, cU, eQ, eE, dJ, bJ, fR, fE, aL, dD, aZ, bM, bP, aO, cQ, cF, eP, aF, gS, aP, cK, aR, bS, fS, cI, cC, aB, gC, fA, aI, aG, bN, gO, aN, eU, dZ, dV, gG, dH, fC, dC, eF, eZ, eY, cB, cY, gJ, eD, bZ, bF, bY, bX, fO, aD, aE, aM, aV, bE, cS, bK, aA, fF, aH, cO, fI, eT, gH, bO, eM, eK, bW, fW, eS, eI, cZ, cL, dF, aX, bD, aQ, gA, aJ, dB, dY, bB, cH, fJ, dK, gE, fL, fH, fG, dS, aK, cG, dG, fX, fY, fD, dE, aT, dT, fV, cP, eX, fN, cD, bL, dP, aW, dX, dR, cN, eN, eL, aY, dI, bA, dO, dW, dN, bH, cR, cM, dM, bR, cW, cV, fP, bV, eH, eJ, gF, dU, dQ, dL, dA, bG, bQ, bU, bT, aS, cX, aU, d3, d4, d5, hmx, d6, d7]
    exact fin 3 18 5 (by omega) (by omega) (by omega) (by omega)
 simp (disch := omega) only [gD, jF, cJ, stepR_skip, hO, iB, iP, iN, iK, iO, jI, iV, gK, iC, iF, iD, iH, hJ, iM, hU, iE, iW, iS, iJ, gQ, iR, iQ, iG, kU, kV, lF, lC, lH, lE, lJ, lG, lD, gB, Result.ok.injEq, Next.value.injEq, true_and, and_true, gZ, hZ, iX, iT, iU, jG, anP, gW, gU, gX, gT, gM, gI, gN, gL, fZ, fT, if_true, if_false, anO, anS, anQ, anR, anU, anT, anN, anM, fM, fK, fB, fQ, cU, eQ, eE, dJ, bJ, fR, fE, aL, dD, aZ, bM, bP, aO, cQ, cF, eP, aF, gS, aP, cK, aR, bS, fS, cI, cC, aB, gC, fA, aI, aG, bN, gO, aN, eU, dZ, dV, gG, dH, fC, dC, eF, eZ, eY, cB, cY, gJ, eD, bZ, bF, bY, bX, fO, aD, aE, aM, aV, bE, cS, bK, aA, fF, aH, cO, fI, eT, gH, bO, eM, eK, bW, fW, eS, eI, cZ, cL, dF, aX, bD, aQ, gA, aJ, dB, dY, bB, cH, fJ, dK, gE, fL, fH, fG, dS, aK, cG, dG, fX, fY, fD, dE, aT, dT, fV, cP, eX, fN, cD, bL, dP, aW, dX, dR, cN, eN, eL, aY, dI, bA, dO, dW, dN, bH, cR, cM, dM, bR, cW, cV, fP, bV, eH, eJ, gF, dU, dQ, dL, dA, bG, bQ, bU, bT, aS, cX, aU, n0, d1, d2]
 by_cases hbad : oC (kA wl) = 0 ∨ 129 < wl.length
 .refine (Zg hw hwl hbad).mono ?_
  rintro r w1 ⟨rfl, rfl⟩
  by_cases hd : oC (kA wl) = 0
  .rw [if_pos hd]
   have n1 : ((1 : Int) != 0) = true := rfl
   simp (disch := omega) only [gD, jF, cJ, stepR_skip, hO, iB, iP, iN, iK, iO, jI, iV, gK, iC, iF, iD, iH, hJ, iM, hU, iE, iW, iS, iJ, gQ, iR, iQ, iG, kU, kV, lF, lC, lH, lE, lJ, lG, lD, gB, Result.ok.injEq, Next.value.injEq, true_and, and_true, gZ, hZ, iX, iT, iU, jG, anP, gW, gU, gX, gT, gM, gI, gN, gL, fZ, fT, if_true, if_false, anO, anS, anQ, anR, anU, anT, anN, anM, fM, fK, fB, fQ, cU, eQ, eE, dJ, bJ, fR, fE, aL, dD, aZ, bM, bP, aO, cQ, cF, eP, aF, gS, aP, cK, aR, bS, fS, cI, cC, aB, gC, fA, aI, aG, bN, gO, aN, eU, dZ, dV, gG, dH, fC, dC, eF, eZ, eY, cB, cY, gJ, eD, bZ, bF, bY, bX, fO, aD, aE, aM, aV, bE, cS, bK, aA, fF, aH, cO, fI, eT, gH, bO, eM, eK, bW, fW, eS, eI, cZ, cL, dF, aX, bD, aQ, gA, aJ, dB, dY, bB, cH, fJ, dK, gE, fL, fH, fG, dS, aK, cG, dG, fX, fY, fD, dE, aT, dT, fV, cP, eX, fN, cD, bL, dP, aW, dX, dR, cN, eN, eL, aY, dI, bA, dO, dW, dN, bH, cR, cM, dM, bR, cW, cV, fP, bV, eH, eJ, gF, dU, dQ, dL, dA, bG, bQ, bU, bT, aS, cX, aU, n1]
   rw [hRR]
   exact ⟨.inl ⟨1, by decide, rfl⟩, jM.refl _ _⟩
  .rw [if_neg hd]
   have n1 : ((12 : Int) != 0) = true := rfl
   simp (disch := omega) only [gD, jF, cJ, stepR_skip, hO, iB, iP, iN, iK, iO, jI, iV, gK, iC, iF, iD, iH, hJ, iM, hU, iE, iW, iS, iJ, gQ, iR, iQ, iG, kU, kV, lF, lC, lH, lE, lJ, lG, lD, gB, Result.ok.injEq, Next.value.injEq, true_and, and_true, gZ, hZ, iX, iT, iU, jG, anP, gW, gU, gX, gT, gM, gI, gN, gL, fZ, fT, if_true, if_false, anO, anS, anQ, anR, anU, anT, anN, anM, fM, fK, fB, fQ, cU, eQ, eE, dJ, bJ, fR, fE, aL, dD, aZ, bM, bP, aO, cQ, cF, eP, aF, gS, aP, cK, aR, bS, fS, cI, cC, aB, gC, fA, aI, aG, bN, gO, aN, eU, dZ, dV, gG, dH, fC, dC, eF, eZ, eY, cB, cY, gJ, eD, bZ, bF, bY, bX, fO, aD, aE, aM, aV, bE, cS, bK, aA, fF, aH, cO, fI, eT, gH, bO, eM, eK, bW, fW, eS, eI, cZ, cL, dF, aX, bD, aQ, gA, aJ, dB, dY, bB, cH, fJ, dK, gE, fL, fH, fG, dS, aK, cG, dG, fX, fY, fD, dE, aT, dT, fV, cP, eX, fN, cD, bL, dP, aW, dX, dR, cN, eN, eL, aY, dI, bA, dO, dW, dN, bH, cR, cM, dM, bR, cW, cV, fP, bV, eH, eJ, gF, dU, dQ, dL, dA, bG, bQ, bU, bT, aS, cX, aU, n1]
   rw [hRR]
   exact ⟨.inl ⟨12, by decide, rfl⟩, jM.refl _ _⟩
 .have hd : oC (kA wl) ≠ 0 := fun h => hbad (.inl h)
  refine (acM hw rfl hd (by omega)).mono ?_
  rintro r w1 ⟨v', rfl, o1, x1⟩
  have n1 : ((0 : Int) != 0) = false := rfl
  have hbl : (Og (wrB (kA wl))).length = (wrB (kA wl)).length := by simp [Og]
  have hwl2 := Yv (kA wl)
  rw [mX] at hwl2
  obtain ⟨a1, c1, rfl⟩ := o1.len
  simp (disch := omega) only [gD, jF, cJ, stepR_skip, hO, iB, iP, iN, iK, iO, jI, iV, gK, iC, iF, iD, iH, hJ, iM, hU, iE, iW, iS, iJ, gQ, iR, iQ, iG, kU, kV, lF, lC, lH, lE, lJ, lG, lD, gB, Result.ok.injEq, Next.value.injEq, true_and, and_true, gZ, hZ, iX, iT, iU, jG, anP, gW, gU, gX, gT, gM, gI, gN, gL, fZ, fT, if_true, if_false, anO, anS, anQ, anR, anU, anT, anN, anM, fM, fK, fB, fQ, cU, eQ, eE, dJ, bJ, fR, fE, aL, dD, aZ, bM, bP, aO, cQ, cF, eP, aF, gS, aP, cK, aR, bS, fS, cI, cC, aB, gC, fA, aI, aG, bN, gO, aN, eU, dZ, dV, gG, dH, fC, dC, eF, eZ, eY, cB, cY, gJ, eD, bZ, bF, bY, bX, fO, aD, aE, aM, aV, bE, cS, bK, aA, fF, aH, cO, fI, eT, gH, bO, eM, eK, bW, fW, eS, eI, cZ, cL, dF, aX, bD, aQ, gA, aJ, dB, dY, bB, cH, fJ, dK, gE, fL, fH, fG, dS, aK, cG, dG, fX, fY, fD, dE, aT, dT, fV, cP, eX, fN, cD, bL, dP, aW, dX, dR, cN, eN, eL, aY, dI, bA, dO, dW, dN, bH, cR, cM, dM, bR, cW, cV, fP, bV, eH, eJ, gF, dU, dQ, dL, dA, bG, bQ, bU, bT, aS, cX, aU, n1]
  exact tail 2 (Og (wrB (kA wl))) _ w1 (by omega) x1 (by rw [hbl]; exact o1) (by omega)
def shV (a : Option Addr) (n c : Nat) (a' : Option Addr) (n' c' : Nat) : asZ := if n' < n then .slice a' n' c' else .slice a n c
theorem akJ {a a' : Option Addr} {n c n' c' : Nat} {w : asY} {K : asZ -> asY -> Prop} (hn : n <= 1000000000) (hn' : n' <= 1000000000) (hK : K (.int .i64 ((n : Int) - (n' : Int))) w) :
 jD pg uX #[.slice a n c, .slice a' n' c'] w K := by
 refine Mm ?_
 unfold Jc Ai
 simp (disch := omega) only [gD, jF, cJ, stepR_skip, hO, iB, iP, iN, iK, iO, jI, iV, gK, iC, iF, iD, iH, hJ, iM, hU, iE, iW, iS, iJ, gQ, iR, iQ, iG, kU, kV, lF, lC, lH, lE, lJ, lG, lD, gB, Result.ok.injEq, Next.value.injEq, true_and, and_true, gZ, hZ, iX, iT, iU, jG, anP, gW, gU, gX, gT, gM, gI, gN, gL, fZ, fT, if_true, if_false, anO, anS, anQ, anR, anU, anT, anN, anM, fM, fK, fB, fQ, cU, eQ, eE, dJ, bJ, fR, fE, aL, dD, aZ, bM, bP, aO, cQ, cF, eP, aF, gS, aP, cK, aR, bS, fS, cI, cC, aB, gC, fA, aI, aG, bN, gO, aN, eU, dZ, dV, gG, dH, fC, dC, eF, eZ, eY, cB, cY, gJ, eD, bZ, bF, bY, bX, fO, aD, aE, aM, aV, bE, cS, bK, aA, fF, aH, cO, fI, eT, gH, bO, eM, eK, bW, fW, eS, eI, cZ, cL, dF, aX, bD, aQ, gA, aJ, dB, dY, bB, cH, fJ, dK, gE, fL, fH, fG, dS, aK, cG, dG, fX, fY, fD, dE, aT, dT, fV, cP, eX, fN, cD, bL, dP, aW, dX, dR, cN, eN, eL, aY, dI, bA, dO, dW, dN, bH, cR, cM, dM, bR, cW, cV, fP, bV, eH, eJ, gF, dU, dQ, dL, dA, bG, bQ, bU, bT, aS, cX, aU]
 exact hK
theorem Y4 {a a' : Option Addr} {n c n' c' b : Nat} {w : asY} (ho : mP w b [.slice a n c, .slice a' n' c']) (hn : n <= 1000000000) (hn' : n' <= 1000000000) :
 jD pg Ab #[.slice (some ⟨b, 0, none⟩) 2 2] w (fun r w' => r = shV a n c a' n' c' /\ w' = w) := by
 refine NT ?_
 unfold MC CW
 refine JY ?_
 obtain ⟨RR, hRR⟩ : ∃ RR : asZ -> asY -> Prop, RR = fun r w' => r = shV a n c a' n' c' /\ w' = w := ⟨_, rfl⟩
 unfold GW vW vR
 have d1 : decide ((2 : Int) < 1) = false := rfl
 have c0 : w.cell? ⟨b, 0, none⟩ = some (.slice a n c) := ho.cell (off := 0)
 have c1 : w.cell? ⟨b, 1, none⟩ = some (.slice a' n' c') := ho.cell (off := 1)
 have z0 : (0 : Int).toNat = 0 := rfl
 have z1 : (1 : Int).toNat = 1 := rfl
 have n2 : ((2 : Nat) : Int) = 2 := rfl
 unfold wH wB
 simp (disch := omega) only [gD, jF, cJ, stepR_skip, hO, iB, iP, iN, iK, iO, jI, iV, gK, iC, iF, iD, iH, hJ, iM, hU, iE, iW, iS, iJ, gQ, iR, iQ, iG, kU, kV, lF, lC, lH, lE, lJ, lG, lD, gB, Result.ok.injEq, Next.value.injEq, true_and, and_true, gZ, hZ, iX, iT, iU, jG, anP, gW, gU, gX, gT, gM, gI, gN, gL, fZ, fT, if_true, if_false, anO, anS, anQ, anR, anU, anT, anN, anM, fM, fK, fB, fQ, cU, eQ, eE, dJ, bJ, fR, fE, aL, dD, aZ, bM, bP, aO, cQ, cF, eP, aF, gS, aP, cK, aR, bS, fS, cI, cC, aB, gC, fA, aI, aG, bN, gO, aN, eU, dZ, dV, gG, dH, fC, dC, eF, eZ, eY, cB, cY, gJ, eD, bZ, bF, bY, bX, fO, aD, aE, aM, aV, bE, cS, bK, aA, fF, aH, cO, fI, eT, gH, bO, eM, eK, bW, fW, eS, eI, cZ, cL, dF, aX, bD, aQ, gA, aJ, dB, dY, bB, cH, fJ, dK, gE, fL, fH, fG, dS, aK, cG, dG, fX, fY, fD, dE, aT, dT, fV, cP, eX, fN, cD, bL, dP, aW, dX, dR, cN, eN, eL, aY, dI, bA, dO, dW, dN, bH, cR, cM, dM, bR, cW, cV, fP, bV, eH, eJ, gF, dU, dQ, dL, dA, bG, bQ, bU, bT, aS, cX, aU, d1, z0, z1, n2, c0, arQ, apI]
 unfold wY xC xD xR yB
 refine kE.rule (fun m (t : asZ × asZ) w' => (m = 1 /\ t = (.slice a n c, .int .i64 1) /\ w' = w) ∨ (m = 0 /\ t = (shV a n c a' n' c', .int .i64 2) /\ w' = w)) 1 (.inl ⟨rfl, rfl, rfl⟩) ?_
 rintro m t w' (⟨rfl, rfl, rfl⟩ | ⟨rfl, rfl, rfl⟩)
 .unfold qC sE sF
  have d2 : decide ((1 : Int) < 2) = true := rfl
  have q2 := UG (P := pg) (f := uX) Tryz.func83 (by kernel_rfl) (by kernel_rfl) #[] [.slice a' n' c', .slice a n c] w'
  have q3 : (List.toArray [Value.slice a' n' c', .slice a n c] ++ #[]) = #[.slice a' n' c', .slice a n c] := rfl
  rw [q3] at q2
  have e1 : (1 : Int) + 1 = 2 := rfl
  simp (disch := omega) only [gD, jF, cJ, stepR_skip, hO, iB, iP, iN, iK, iO, jI, iV, gK, iC, iF, iD, iH, hJ, iM, hU, iE, iW, iS, iJ, gQ, iR, iQ, iG, kU, kV, lF, lC, lH, lE, lJ, lG, lD, gB, Result.ok.injEq, Next.value.injEq, true_and, and_true, gZ, hZ, iX, iT, iU, jG, anP, gW, gU, gX, gT, gM, gI, gN, gL, fZ, fT, if_true, if_false, anO, anS, anQ, anR, anU, anT, anN, anM, fM, fK, fB, fQ, cU, eQ, eE, dJ, bJ, fR, fE, aL, dD, aZ, bM, bP, aO, cQ, cF, eP, aF, gS, aP, cK, aR, bS, fS, cI, cC, aB, gC, fA, aI, aG, bN, gO, aN, eU, dZ, dV, gG, dH, fC, dC, eF, eZ, eY, cB, cY, gJ, eD, bZ, bF, bY, bX, fO, aD, aE, aM, aV, bE, cS, bK, aA, fF, aH, cO, fI, eT, gH, bO, eM, eK, bW, fW, eS, eI, cZ, cL, dF, aX, bD, aQ, gA, aJ, dB, dY, bB, cH, fJ, dK, gE, fL, fH, fG, dS, aK, cG, dG, fX, fY, fD, dE, aT, dT, fV, cP, eX, fN, cD, bL, dP, aW, dX, dR, cN, eN, eL, aY, dI, bA, dO, dW, dN, bH, cR, cM, dM, bR, cW, cV, fP, bV, eH, eJ, gF, dU, dQ, dL, dA, bG, bQ, bU, bT, aS, cX, aU, d2, z1, n2, c1, q2, Gf, Nat.one_mul, apT, anS]
  refine akJ hn' hn ?_
  by_cases h : n' < n
  .have d3 : decide ((n' : Int) - (n : Int) < 0) = true := decide_eq_true (by omega)
   have : shV a n c a' n' c' = .slice a' n' c' := by unfold shV; rw [if_pos h]
   rw [this]
   simp (disch := omega) only [gD, jF, cJ, stepR_skip, hO, iB, iP, iN, iK, iO, jI, iV, gK, iC, iF, iD, iH, hJ, iM, hU, iE, iW, iS, iJ, gQ, iR, iQ, iG, kU, kV, lF, lC, lH, lE, lJ, lG, lD, gB, Result.ok.injEq, Next.value.injEq, true_and, and_true, gZ, hZ, iX, iT, iU, jG, anP, gW, gU, gX, gT, gM, gI, gN, gL, fZ, fT, if_true, if_false, anO, anS, anQ, anR, anU, anT, anN, anM, fM, fK, fB, fQ, cU, eQ, eE, dJ, bJ, fR, fE, aL, dD, aZ, bM, bP, aO, cQ, cF, eP, aF, gS, aP, cK, aR, bS, fS, cI, cC, aB, gC, fA, aI, aG, bN, gO, aN, eU, dZ, dV, gG, dH, fC, dC, eF, eZ, eY, cB, cY, gJ, eD, bZ, bF, bY, bX, fO, aD, aE, aM, aV, bE, cS, bK, aA, fF, aH, cO, fI, eT, gH, bO, eM, eK, bW, fW, eS, eI, cZ, cL, dF, aX, bD, aQ, gA, aJ, dB, dY, bB, cH, fJ, dK, gE, fL, fH, fG, dS, aK, cG, dG, fX, fY, fD, dE, aT, dT, fV, cP, eX, fN, cD, bL, dP, aW, dX, dR, cN, eN, eL, aY, dI, bA, dO, dW, dN, bH, cR, cM, dM, bR, cW, cV, fP, bV, eH, eJ, gF, dU, dQ, dL, dA, bG, bQ, bU, bT, aS, cX, aU, d3, z1, n2, c1, e1, Nat.one_mul, apT, anS]
   first
    | exact ⟨0, by omega, .inr ⟨rfl, rfl, rfl⟩⟩
    | exact ⟨0, by omega, .inr ⟨rfl, rfl⟩⟩
    | exact ⟨0, by omega, .inr rfl⟩
  .have d3 : decide ((n' : Int) - (n : Int) < 0) = false := decide_eq_false (by omega)
   have : shV a n c a' n' c' = .slice a n c := by unfold shV; rw [if_neg h]
   rw [this]
   simp (disch := omega) only [gD, jF, cJ, stepR_skip, hO, iB, iP, iN, iK, iO, jI, iV, gK, iC, iF, iD, iH, hJ, iM, hU, iE, iW, iS, iJ, gQ, iR, iQ, iG, kU, kV, lF, lC, lH, lE, lJ, lG, lD, gB, Result.ok.injEq, Next.value.injEq, true_and, and_true, gZ, hZ, iX, iT, iU, jG, anP, gW, gU, gX, gT, gM, gI, gN, gL, fZ, fT, if_true, if_false, anO, anS, anQ, anR, anU, anT, anN, anM, fM, fK, fB, fQ, cU, eQ, eE, dJ, bJ, fR, fE, aL, dD, aZ, bM, bP, aO, cQ, cF, eP, aF, gS, aP, cK, aR, bS, fS, cI, cC, aB, gC, fA, aI, aG, bN, gO, aN, eU, dZ, dV, gG, dH, fC, dC, eF, eZ, eY, cB, cY, gJ, eD, bZ, bF, bY, bX, fO, aD, aE, aM, aV, bE, cS, bK, aA, fF, aH, cO, fI, eT, gH, bO, eM, eK, bW, fW, eS, eI, cZ, cL, dF, aX, bD, aQ, gA, aJ, dB, dY, bB, cH, fJ, dK, gE, fL, fH, fG, dS, aK, cG, dG, fX, fY, fD, dE, aT, dT, fV, cP, eX, fN, cD, bL, dP, aW, dX, dR, cN, eN, eL, aY, dI, bA, dO, dW, dN, bH, cR, cM, dM, bR, cW, cV, fP, bV, eH, eJ, gF, dU, dQ, dL, dA, bG, bQ, bU, bT, aS, cX, aU, d3, e1]
   first
    | exact ⟨0, by omega, .inr ⟨rfl, rfl, rfl⟩⟩
    | exact ⟨0, by omega, .inr ⟨rfl, rfl⟩⟩
    | exact ⟨0, by omega, .inr rfl⟩
 .unfold qC sE sH
  have d2 : decide ((2 : Int) < 2) = false := rfl
  simp (disch := omega) only [gD, jF, cJ, stepR_skip, hO, iB, iP, iN, iK, iO, jI, iV, gK, iC, iF, iD, iH, hJ, iM, hU, iE, iW, iS, iJ, gQ, iR, iQ, iG, kU, kV, lF, lC, lH, lE, lJ, lG, lD, gB, Result.ok.injEq, Next.value.injEq, true_and, and_true, gZ, hZ, iX, iT, iU, jG, anP, gW, gU, gX, gT, gM, gI, gN, gL, fZ, fT, if_true, if_false, anO, anS, anQ, anR, anU, anT, anN, anM, fM, fK, fB, fQ, cU, eQ, eE, dJ, bJ, fR, fE, aL, dD, aZ, bM, bP, aO, cQ, cF, eP, aF, gS, aP, cK, aR, bS, fS, cI, cC, aB, gC, fA, aI, aG, bN, gO, aN, eU, dZ, dV, gG, dH, fC, dC, eF, eZ, eY, cB, cY, gJ, eD, bZ, bF, bY, bX, fO, aD, aE, aM, aV, bE, cS, bK, aA, fF, aH, cO, fI, eT, gH, bO, eM, eK, bW, fW, eS, eI, cZ, cL, dF, aX, bD, aQ, gA, aJ, dB, dY, bB, cH, fJ, dK, gE, fL, fH, fG, dS, aK, cG, dG, fX, fY, fD, dE, aT, dT, fV, cP, eX, fN, cD, bL, dP, aW, dX, dR, cN, eN, eL, aY, dI, bA, dO, dW, dN, bH, cR, cM, dM, bR, cW, cV, fP, bV, eH, eJ, gF, dU, dQ, dL, dA, bG, bQ, bU, bT, aS, cX, aU, d2, n2]
theorem aeX {p : Nat} {a a' : Option Addr} {n c n' c' : Nat} {w : asY} (o : mP w p [.slice a n c]) (hn : n <= 1000000000) (hn' : n' <= 1000000000) :
 jD pg pO #[.slice a' n' c', .int .i64 0, .pointer (some ⟨p, 0, none⟩)] w (fun r w' => r = .tuple #[] /\ mP w' p [shV a n c a' n' c'] /\ jM w w' (fun y => y = p)) := by
 refine Ex ?_
 unfold Fy uU
 have c0 : w.cell? ⟨p, 0, none⟩ = some (.slice a n c) := o.cell (off := 0)
 have n1 : ((0 : Int) == 0) = true := rfl
 simp (disch := omega) only [gD, jF, cJ, stepR_skip, hO, iB, iP, iN, iK, iO, jI, iV, gK, iC, iF, iD, iH, hJ, iM, hU, iE, iW, iS, iJ, gQ, iR, iQ, iG, kU, kV, lF, lC, lH, lE, lJ, lG, lD, gB, Result.ok.injEq, Next.value.injEq, true_and, and_true, gZ, hZ, iX, iT, iU, jG, anP, gW, gU, gX, gT, gM, gI, gN, gL, fZ, fT, if_true, if_false, anO, anS, anQ, anR, anU, anT, anN, anM, fM, fK, fB, fQ, cU, eQ, eE, dJ, bJ, fR, fE, aL, dD, aZ, bM, bP, aO, cQ, cF, eP, aF, gS, aP, cK, aR, bS, fS, cI, cC, aB, gC, fA, aI, aG, bN, gO, aN, eU, dZ, dV, gG, dH, fC, dC, eF, eZ, eY, cB, cY, gJ, eD, bZ, bF, bY, bX, fO, aD, aE, aM, aV, bE, cS, bK, aA, fF, aH, cO, fI, eT, gH, bO, eM, eK, bW, fW, eS, eI, cZ, cL, dF, aX, bD, aQ, gA, aJ, dB, dY, bB, cH, fJ, dK, gE, fL, fH, fG, dS, aK, cG, dG, fX, fY, fD, dE, aT, dT, fV, cP, eX, fN, cD, bL, dP, aW, dX, dR, cN, eN, eL, aY, dI, bA, dO, dW, dN, bH, cR, cM, dM, bR, cW, cV, fP, bV, eH, eJ, gF, dU, dQ, dL, dA, bG, bQ, bU, bT, aS, cX, aU, c0, n1]
 refine O4 (cells := #[.slice a n c, .slice a' n' c']) (by decide) (by decide) (by kernel_rfl) fun w1 o1 x1 s1 => ?_
 refine (Y4 o1 hn hn').mono ?_
 rintro r w2 ⟨rfl, hw⟩
 rw [hw]; clear hw w2
 refine uC (o.ext x1 (fun h => h)) (by unfold shV; split <;> rfl) (by simp) fun w3 o3 x3 s3 => ?_
 simp only [aoK] at o3
 have x13 : jM w w3 (fun y => y = p) := (x1.mono fun _ _ h => h.elim).seq x3
 try simp (disch := omega) only [gD, jF, cJ, stepR_skip, hO, iB, iP, iN, iK, iO, jI, iV, gK, iC, iF, iD, iH, hJ, iM, hU, iE, iW, iS, iJ, gQ, iR, iQ, iG, kU, kV, lF, lC, lH, lE, lJ, lG, lD, gB, Result.ok.injEq, Next.value.injEq, true_and, and_true, gZ, hZ, iX, iT, iU, jG, anP, gW, gU, gX, gT, gM, gI, gN, gL, fZ, fT, if_true, if_false, anO, anS, anQ, anR, anU, anT, anN, anM, fM, fK, fB, fQ, cU, eQ, eE, dJ, bJ, fR, fE, aL, dD, aZ, bM, bP, aO, cQ, cF, eP, aF, gS, aP, cK, aR, bS, fS, cI, cC, aB, gC, fA, aI, aG, bN, gO, aN, eU, dZ, dV, gG, dH, fC, dC, eF, eZ, eY, cB, cY, gJ, eD, bZ, bF, bY, bX, fO, aD, aE, aM, aV, bE, cS, bK, aA, fF, aH, cO, fI, eT, gH, bO, eM, eK, bW, fW, eS, eI, cZ, cL, dF, aX, bD, aQ, gA, aJ, dB, dY, bB, cH, fJ, dK, gE, fL, fH, fG, dS, aK, cG, dG, fX, fY, fD, dE, aT, dT, fV, cP, eX, fN, cD, bL, dP, aW, dX, dR, cN, eN, eL, aY, dI, bA, dO, dW, dN, bH, cR, cM, dM, bR, cW, cV, fP, bV, eH, eJ, gF, dU, dQ, dL, dA, bG, bQ, bU, bT, aS, cX, aU]
 first
  | exact ⟨rfl, o3, x13⟩
  | exact ⟨o3, x13⟩
theorem abP {p : Nat} {bv : asZ} {e : Int} {w : asY} (he : e ≠ 0) : jD pg pO #[bv, .int .i64 e, .pointer (some ⟨p, 0, none⟩)] w (fun r w' => r = .tuple #[] /\ w' = w) := by
 refine Ex ?_
 unfold Fy uU
 have n1 : (e == 0) = false := beq_eq_false_iff_ne.2 he
 simp (disch := omega) only [gD, jF, cJ, stepR_skip, hO, iB, iP, iN, iK, iO, jI, iV, gK, iC, iF, iD, iH, hJ, iM, hU, iE, iW, iS, iJ, gQ, iR, iQ, iG, kU, kV, lF, lC, lH, lE, lJ, lG, lD, gB, Result.ok.injEq, Next.value.injEq, true_and, and_true, gZ, hZ, iX, iT, iU, jG, anP, gW, gU, gX, gT, gM, gI, gN, gL, fZ, fT, if_true, if_false, anO, anS, anQ, anR, anU, anT, anN, anM, fM, fK, fB, fQ, cU, eQ, eE, dJ, bJ, fR, fE, aL, dD, aZ, bM, bP, aO, cQ, cF, eP, aF, gS, aP, cK, aR, bS, fS, cI, cC, aB, gC, fA, aI, aG, bN, gO, aN, eU, dZ, dV, gG, dH, fC, dC, eF, eZ, eY, cB, cY, gJ, eD, bZ, bF, bY, bX, fO, aD, aE, aM, aV, bE, cS, bK, aA, fF, aH, cO, fI, eT, gH, bO, eM, eK, bW, fW, eS, eI, cZ, cL, dF, aX, bD, aQ, gA, aJ, dB, dY, bB, cH, fJ, dK, gE, fL, fH, fG, dS, aK, cG, dG, fX, fY, fD, dE, aT, dT, fV, cP, eX, fN, cD, bL, dP, aW, dX, dR, cN, eN, eL, aY, dI, bA, dO, dW, dN, bH, cR, cM, dM, bR, cW, cV, fP, bV, eH, eJ, gF, dU, dQ, dL, dA, bG, bQ, bU, bT, aS, cX, aU, n1]
theorem YZ (k n : Nat) : 1 <= (uJ k n).length := by
 unfold uJ; split
 .simp [mE]
 .split <;> simp [mE]
def akR (w : asY) (base n : Nat) (r : asZ) : Prop := ∃ (x : asZ) (bytes : List UInt8), r = .tuple #[x, .int .i64 0] /\ xH w base 1 x bytes.length (bytes.map pB) /\ 1 <= bytes.length /\ bytes.length <= n + 3
theorem aaH {v : asZ} {l : List UInt8} {w : asY} (h : Bs w v l) (hl : l.length <= 131072) :
 jD pg AW #[v] w (fun r w' => akR w' w.heap.size l.length r /\ jM w w' mM) := by
 refine Pq ?_
 obtain ⟨RR, hRR⟩ : ∃ RR : asZ -> asY -> Prop, RR = fun r w' => akR w' w.heap.size l.length r /\ jM w w' mM := ⟨_, rfl⟩
 rw [<- hRR]
 unfold NX CP C1
 refine (acP h hl).mono ?_
 rintro r w1 ⟨x, rfl, o1, x1⟩
 have z1 := x1.size
 have hp := Mg 0 l.length
 have hp1 := YZ 0 l.length
 obtain ⟨rw_, hrw⟩ : ∃ rw_, rw_ = uJ 0 l.length ++ l := ⟨_, rfl⟩
 have hrl : rw_.length <= l.length + 3 := by rw [hrw, anW]; omega
 have hr1 : 1 <= rw_.length := by rw [hrw, anW]; omega
 rw [<- hrw] at o1
 clear hp hp1 hrw
 obtain ⟨ra, rc, rfl⟩ := o1.len
 obtain ⟨p, hpp⟩ : ∃ p, p = w1.heap.size := ⟨_, rfl⟩
 have os1 := xH.ne (p := p) o1 (by omega)
 have n0 : ((0 : Int) != 0) = false := rfl
 have q1 := fun w => Zm (P := pg) (f := pO) [] [.pointer (some ⟨p, 0, none⟩)] w
 have q2 := fun (x y : asZ) w => UG (P := pg) (f := pO) Tryz.func64 (by kernel_rfl) (by kernel_rfl) #[.pointer (some ⟨p, 0, none⟩)] [x, y] w
 have q3 : ∀ x y : asZ, (List.toArray [x, y] ++ #[.pointer (some ⟨p, 0, none⟩)]) = #[x, y, .pointer (some ⟨p, 0, none⟩)] := fun _ _ => rfl
 simp only [q3] at q2
 let S : Nat -> Prop := fun b => w.heap.size <= b /\ b ≠ p
 let St : asY -> Prop := fun W => ∃ (a : Option Addr) (c : Nat) (bs : List UInt8), mP W p [.slice a bs.length c] /\ LI W S 1 (.slice a bs.length c) bs.length (bs.map pB) /\ 1 <= bs.length /\ bs.length <= l.length + 3 /\ jM w W mM
 have fin : ∀ W, St W -> rI RR (.pointer (some ⟨p, 0, none⟩)) W := by
  rintro W ⟨a, c, bs, o, os, hb1, hb2, x⟩
  unfold rI
  have c0 : W.cell? ⟨p, 0, none⟩ = some (.slice a bs.length c) := o.cell (off := 0)
  simp (disch := omega) only [gD, jF, cJ, stepR_skip, hO, iB, iP, iN, iK, iO, jI, iV, gK, iC, iF, iD, iH, hJ, iM, hU, iE, iW, iS, iJ, gQ, iR, iQ, iG, kU, kV, lF, lC, lH, lE, lJ, lG, lD, gB, Result.ok.injEq, Next.value.injEq, true_and, and_true, gZ, hZ, iX, iT, iU, jG, anP, gW, gU, gX, gT, gM, gI, gN, gL, fZ, fT, if_true, if_false, anO, anS, anQ, anR, anU, anT, anN, anM, fM, fK, fB, fQ, cU, eQ, eE, dJ, bJ, fR, fE, aL, dD, aZ, bM, bP, aO, cQ, cF, eP, aF, gS, aP, cK, aR, bS, fS, cI, cC, aB, gC, fA, aI, aG, bN, gO, aN, eU, dZ, dV, gG, dH, fC, dC, eF, eZ, eY, cB, cY, gJ, eD, bZ, bF, bY, bX, fO, aD, aE, aM, aV, bE, cS, bK, aA, fF, aH, cO, fI, eT, gH, bO, eM, eK, bW, fW, eS, eI, cZ, cL, dF, aX, bD, aQ, gA, aJ, dB, dY, bB, cH, fJ, dK, gE, fL, fH, fG, dS, aK, cG, dG, fX, fY, fD, dE, aT, dT, fV, cP, eX, fN, cD, bL, dP, aW, dX, dR, cN, eN, eL, aY, dI, bA, dO, dW, dN, bH, cR, cM, dM, bR, cW, cV, fP, bV, eH, eJ, gF, dU, dQ, dL, dA, bG, bQ, bU, bT, aS, cX, aU, c0]
  rw [hRR]
  refine ⟨⟨_, bs, rfl, ⟨os.1, ?_⟩, hb1, hb2⟩, x⟩
  rcases os.2 with h | ⟨b, c', rest, h1, h2, h3⟩
  .exact .inl h
  .exact .inr ⟨b, c', rest, h1, h2.1, h3⟩
 have bet : ∀ (W : asY) (a' : Option Addr) (c' : Nat) (bs' : List UInt8) (K : asZ -> asY -> Prop), St W -> LI W S 1 (.slice a' bs'.length c') bs'.length (bs'.map pB) -> 1 <= bs'.length -> bs'.length <= 1000000 -> (∀ r W', St W' -> K r W') →
     jD pg pO #[.slice a' bs'.length c', .int .i64 0, .pointer (some ⟨p, 0, none⟩)] W K := by
  rintro W a' c' bs' K ⟨a, c, bs, o, os, hb1, hb2, x⟩ os' hb1' hb2' hK
  refine (aeX o (by omega) (by omega)).mono ?_
  rintro r W' ⟨rfl, o2, x2⟩
  refine hK _ _ ?_
  have xx : jM w W' mM := x.trans x2 fun y hy hh => by omega
  unfold shV at o2
  split at o2
  .exact ⟨a', c', bs', o2, os'.ext x2 (fun b hb hh => hb.2 hh), hb1', by omega, xx⟩
  .exact ⟨a, c, bs, o2, os.ext x2 (fun b hb hh => hb.2 hh), hb1, hb2, xx⟩
 have hv := h
 obtain ⟨va, vc, rfl, hvc⟩ := h.len
 rw [anV] at hv hvc ⊢
 simp (disch := omega) only [gD, jF, cJ, stepR_skip, hO, iB, iP, iN, iK, iO, jI, iV, gK, iC, iF, iD, iH, hJ, iM, hU, iE, iW, iS, iJ, gQ, iR, iQ, iG, kU, kV, lF, lC, lH, lE, lJ, lG, lD, gB, Result.ok.injEq, Next.value.injEq, true_and, and_true, gZ, hZ, iX, iT, iU, jG, anP, gW, gU, gX, gT, gM, gI, gN, gL, fZ, fT, if_true, if_false, anO, anS, anQ, anR, anU, anT, anN, anM, fM, fK, fB, fQ, cU, eQ, eE, dJ, bJ, fR, fE, aL, dD, aZ, bM, bP, aO, cQ, cF, eP, aF, gS, aP, cK, aR, bS, fS, cI, cC, aB, gC, fA, aI, aG, bN, gO, aN, eU, dZ, dV, gG, dH, fC, dC, eF, eZ, eY, cB, cY, gJ, eD, bZ, bF, bY, bX, fO, aD, aE, aM, aV, bE, cS, bK, aA, fF, aH, cO, fI, eT, gH, bO, eM, eK, bW, fW, eS, eI, cZ, cL, dF, aX, bD, aQ, gA, aJ, dB, dY, bB, cH, fJ, dK, gE, fL, fH, fG, dS, aK, cG, dG, fX, fY, fD, dE, aT, dT, fV, cP, eX, fN, cD, bL, dP, aW, dX, dR, cN, eN, eL, aY, dI, bA, dO, dW, dN, bH, cR, cM, dM, bR, cW, cV, fP, bV, eH, eJ, gF, dU, dQ, dL, dA, bG, bQ, bU, bT, aS, cX, aU, n0]
 refine TV fun w2 o2 x2 s2 => ?_
 rw [<- hpp] at o2 ⊢
 refine uC o2 rfl (by simp) fun w3 o3 x3 s3 => ?_
 simp only [aoK] at o3
 have x13 : jM w1 w3 mM := x2.trans x3 fun y hy h => by omega
 have x03 := x1.seq x13
 have h3 := hv.ext x03 (kJ _)
 have z3 := x03.size
 have os3 : LI w3 S 1 (.slice ra rw_.length rc) rw_.length (rw_.map pB) := (os1.ext x2 (fun _ _ h => h)).ext x3 (fun b hb hh => hb.2 hh)
 have st3 : St w3 := ⟨ra, rc, rw_, o3, os3, hr1, hrl, x03⟩
 have lt3 : p < w3.heap.size := o3.lt
 simp (disch := omega) only [gD, jF, cJ, stepR_skip, hO, iB, iP, iN, iK, iO, jI, iV, gK, iC, iF, iD, iH, hJ, iM, hU, iE, iW, iS, iJ, gQ, iR, iQ, iG, kU, kV, lF, lC, lH, lE, lJ, lG, lD, gB, Result.ok.injEq, Next.value.injEq, true_and, and_true, gZ, hZ, iX, iT, iU, jG, anP, gW, gU, gX, gT, gM, gI, gN, gL, fZ, fT, if_true, if_false, anO, anS, anQ, anR, anU, anT, anN, anM, fM, fK, fB, fQ, cU, eQ, eE, dJ, bJ, fR, fE, aL, dD, aZ, bM, bP, aO, cQ, cF, eP, aF, gS, aP, cK, aR, bS, fS, cI, cC, aB, gC, fA, aI, aG, bN, gO, aN, eU, dZ, dV, gG, dH, fC, dC, eF, eZ, eY, cB, cY, gJ, eD, bZ, bF, bY, bX, fO, aD, aE, aM, aV, bE, cS, bK, aA, fF, aH, cO, fI, eT, gH, bO, eM, eK, bW, fW, eS, eI, cZ, cL, dF, aX, bD, aQ, gA, aJ, dB, dY, bB, cH, fJ, dK, gE, fL, fH, fG, dS, aK, cG, dG, fX, fY, fD, dE, aT, dT, fV, cP, eX, fN, cD, bL, dP, aW, dX, dR, cN, eN, eL, aY, dI, bA, dO, dW, dN, bH, cR, cM, dM, bR, cW, cV, fP, bV, eH, eJ, gF, dU, dQ, dL, dA, bG, bQ, bU, bT, aS, cX, aU, n0, q1]
 refine (ZB h3 (by omega)).mono ?_
 rintro r w4 ⟨rfl, x4⟩
 have x04 := x03.seq x4
 have st4 : ∀ {W}, jM w3 W mM -> St W := fun {W} x => ⟨ra, rc, rw_, o3.ext x (fun h => h), os3.ext x (fun _ _ h => h), hr1, hrl, x03.seq x⟩
 have h4 := hv.ext x04 (kJ _)
 have z4 := x4.size
 have hosl : ∀ {W W' : asY} {x : asZ} {bs : List UInt8}, jM w W mM -> p < W.heap.size -> xH W' W.heap.size 1 x bs.length (bs.map pB) -> LI W' S 1 x bs.length (bs.map pB) := fun {W W' x bs} xx hlt ho => by
  refine ⟨ho.1, ?_⟩
  rcases ho.2 with h | ⟨b, c', rest, h1, h2, h3⟩
  .exact .inl h
  .exact .inr ⟨b, c', rest, h1, ⟨by have := xx.size; omega, by omega⟩, h3⟩
 cases hal : EX l with
 | true =>
   have h0 : 0 < l.length := by
    cases l with
    | nil => cases hal
    | cons c r => simp
   obtain ⟨kb, koff, hka, hcell⟩ : ∃ kb koff, va = some ⟨kb, koff, none⟩ /\ w4.cell? ⟨kb, koff, none⟩ = some (pB l[0]) := by
    obtain ⟨a', n', c', he, hn', hc', hh⟩ := h4
    simp only [Value.slice.injEq] at he
    obtain ⟨rfl, rfl, rfl⟩ := he
    obtain ⟨kb, koff, rfl, h2⟩ := hh (by omega)
    refine ⟨kb, koff, rfl, ?_⟩
    have := h2 0 (by omega)
    rw [apI] at this
    rw [this, aoJ, anX h0]
    rfl
   subst hka
   have z0 : (0 : Int).toNat = 0 := rfl
   simp (disch := omega) only [gD, jF, cJ, stepR_skip, hO, iB, iP, iN, iK, iO, jI, iV, gK, iC, iF, iD, iH, hJ, iM, hU, iE, iW, iS, iJ, gQ, iR, iQ, iG, kU, kV, lF, lC, lH, lE, lJ, lG, lD, gB, Result.ok.injEq, Next.value.injEq, true_and, and_true, gZ, hZ, iX, iT, iU, jG, anP, gW, gU, gX, gT, gM, gI, gN, gL, fZ, fT, if_true, if_false, anO, anS, anQ, anR, anU, anT, anN, anM, fM, fK, fB, fQ, cU, eQ, eE, dJ, bJ, fR, fE, aL, dD, aZ, bM, bP, aO, cQ, cF, eP, aF, gS, aP, cK, aR, bS, fS, cI, cC, aB, gC, fA, aI, aG, bN, gO, aN, eU, dZ, dV, gG, dH, fC, dC, eF, eZ, eY, cB, cY, gJ, eD, bZ, bF, bY, bX, fO, aD, aE, aM, aV, bE, cS, bK, aA, fF, aH, cO, fI, eT, gH, bO, eM, eK, bW, fW, eS, eI, cZ, cL, dF, aX, bD, aQ, gA, aJ, dB, dY, bB, cH, fJ, dK, gE, fL, fH, fG, dS, aK, cG, dG, fX, fY, fD, dE, aT, dT, fV, cP, eX, fN, cD, bL, dP, aW, dX, dR, cN, eN, eL, aY, dI, bA, dO, dW, dN, bH, cR, cM, dM, bR, cW, cV, fP, bV, eH, eJ, gF, dU, dQ, dL, dA, bG, bQ, bU, bT, aS, cX, aU, hcell, z0, apI]
   refine (aaZ (n := l.length) hl).mono ?_
   rintro r w5 ⟨x, rfl, o5, x5⟩
   have hp2 := Mg 1 l.length
   have os5 := hosl x04 (by omega) o5
   obtain ⟨a5, c5, rfl⟩ := o5.len
   simp (disch := omega) only [gD, jF, cJ, stepR_skip, hO, iB, iP, iN, iK, iO, jI, iV, gK, iC, iF, iD, iH, hJ, iM, hU, iE, iW, iS, iJ, gQ, iR, iQ, iG, kU, kV, lF, lC, lH, lE, lJ, lG, lD, gB, Result.ok.injEq, Next.value.injEq, true_and, and_true, gZ, hZ, iX, iT, iU, jG, anP, gW, gU, gX, gT, gM, gI, gN, gL, fZ, fT, if_true, if_false, anO, anS, anQ, anR, anU, anT, anN, anM, fM, fK, fB, fQ, cU, eQ, eE, dJ, bJ, fR, fE, aL, dD, aZ, bM, bP, aO, cQ, cF, eP, aF, gS, aP, cK, aR, bS, fS, cI, cC, aB, gC, fA, aI, aG, bN, gO, aN, eU, dZ, dV, gG, dH, fC, dC, eF, eZ, eY, cB, cY, gJ, eD, bZ, bF, bY, bX, fO, aD, aE, aM, aV, bE, cS, bK, aA, fF, aH, cO, fI, eT, gH, bO, eM, eK, bW, fW, eS, eI, cZ, cL, dF, aX, bD, aQ, gA, aJ, dB, dY, bB, cH, fJ, dK, gE, fL, fH, fG, dS, aK, cG, dG, fX, fY, fD, dE, aT, dT, fV, cP, eX, fN, cD, bL, dP, aW, dX, dR, cN, eN, eL, aY, dI, bA, dO, dW, dN, bH, cR, cM, dM, bR, cW, cV, fP, bV, eH, eJ, gF, dU, dQ, dL, dA, bG, bQ, bU, bT, aS, cX, aU, q2, Gf]
   refine bet w5 a5 c5 _ _ (st4 (x4.seq x5)) os5 (by rw [anW]; simp) (by rw [anW]; simp; omega) fun r W hW => ?_
   have hf := fin W hW
   obtain ⟨a, c, bs, o, -⟩ := hW
   have c0 : W.cell? ⟨p, 0, none⟩ = some (.slice a bs.length c) := o.cell (off := 0)
   have hf : gD pg (jE 22 (.pointer (some ⟨p, 0, none⟩))) W fun t w => RR (.tuple #[t, .int .i64 0]) w := by
    unfold rI at hf
    first | exact hf | skip
   simp only [gD, fR, c0, gB, cJ] at hf
   simp (disch := omega) only [gD, jF, cJ, stepR_skip, hO, iB, iP, iN, iK, iO, jI, iV, gK, iC, iF, iD, iH, hJ, iM, hU, iE, iW, iS, iJ, gQ, iR, iQ, iG, kU, kV, lF, lC, lH, lE, lJ, lG, lD, gB, Result.ok.injEq, Next.value.injEq, true_and, and_true, gZ, hZ, iX, iT, iU, jG, anP, gW, gU, gX, gT, gM, gI, gN, gL, fZ, fT, if_true, if_false, anO, anS, anQ, anR, anU, anT, anN, anM, fM, fK, fB, fQ, cU, eQ, eE, dJ, bJ, fR, fE, aL, dD, aZ, bM, bP, aO, cQ, cF, eP, aF, gS, aP, cK, aR, bS, fS, cI, cC, aB, gC, fA, aI, aG, bN, gO, aN, eU, dZ, dV, gG, dH, fC, dC, eF, eZ, eY, cB, cY, gJ, eD, bZ, bF, bY, bX, fO, aD, aE, aM, aV, bE, cS, bK, aA, fF, aH, cO, fI, eT, gH, bO, eM, eK, bW, fW, eS, eI, cZ, cL, dF, aX, bD, aQ, gA, aJ, dB, dY, bB, cH, fJ, dK, gE, fL, fH, fG, dS, aK, cG, dG, fX, fY, fD, dE, aT, dT, fV, cP, eX, fN, cD, bL, dP, aW, dX, dR, cN, eN, eL, aY, dI, bA, dO, dW, dN, bH, cR, cM, dM, bR, cW, cV, fP, bV, eH, eJ, gF, dU, dQ, dL, dA, bG, bQ, bU, bT, aS, cX, aU, c0]
   exact hf
 | false =>
   simp (disch := omega) only [gD, jF, cJ, stepR_skip, hO, iB, iP, iN, iK, iO, jI, iV, gK, iC, iF, iD, iH, hJ, iM, hU, iE, iW, iS, iJ, gQ, iR, iQ, iG, kU, kV, lF, lC, lH, lE, lJ, lG, lD, gB, Result.ok.injEq, Next.value.injEq, true_and, and_true, gZ, hZ, iX, iT, iU, jG, anP, gW, gU, gX, gT, gM, gI, gN, gL, fZ, fT, if_true, if_false, anO, anS, anQ, anR, anU, anT, anN, anM, fM, fK, fB, fQ, cU, eQ, eE, dJ, bJ, fR, fE, aL, dD, aZ, bM, bP, aO, cQ, cF, eP, aF, gS, aP, cK, aR, bS, fS, cI, cC, aB, gC, fA, aI, aG, bN, gO, aN, eU, dZ, dV, gG, dH, fC, dC, eF, eZ, eY, cB, cY, gJ, eD, bZ, bF, bY, bX, fO, aD, aE, aM, aV, bE, cS, bK, aA, fF, aH, cO, fI, eT, gH, bO, eM, eK, bW, fW, eS, eI, cZ, cL, dF, aX, bD, aQ, gA, aJ, dB, dY, bB, cH, fJ, dK, gE, fL, fH, fG, dS, aK, cG, dG, fX, fY, fD, dE, aT, dT, fV, cP, eX, fN, cD, bL, dP, aW, dX, dR, cN, eN, eL, aY, dI, bA, dO, dW, dN, bH, cR, cM, dM, bR, cW, cV, fP, bV, eH, eJ, gF, dU, dQ, dL, dA, bG, bQ, bU, bT, aS, cX, aU]
   refine WT (by omega) (by omega) fun w5 o5 x5 s5 => ?_
   obtain ⟨q, hq⟩ : ∃ q, q = w4.heap.size := ⟨_, rfl⟩
   have t256 : (256 : Int).toNat = 256 := rfl
   rw [<- hq, t256] at o5
   rw [<- hq, t256]
   unfold DD Dk D0 D4 DU
   simp (disch := omega) only [gD, jF, cJ, stepR_skip, hO, iB, iP, iN, iK, iO, jI, iV, gK, iC, iF, iD, iH, hJ, iM, hU, iE, iW, iS, iJ, gQ, iR, iQ, iG, kU, kV, lF, lC, lH, lE, lJ, lG, lD, gB, Result.ok.injEq, Next.value.injEq, true_and, and_true, gZ, hZ, iX, iT, iU, jG, anP, gW, gU, gX, gT, gM, gI, gN, gL, fZ, fT, if_true, if_false, anO, anS, anQ, anR, anU, anT, anN, anM, fM, fK, fB, fQ, cU, eQ, eE, dJ, bJ, fR, fE, aL, dD, aZ, bM, bP, aO, cQ, cF, eP, aF, gS, aP, cK, aR, bS, fS, cI, cC, aB, gC, fA, aI, aG, bN, gO, aN, eU, dZ, dV, gG, dH, fC, dC, eF, eZ, eY, cB, cY, gJ, eD, bZ, bF, bY, bX, fO, aD, aE, aM, aV, bE, cS, bK, aA, fF, aH, cO, fI, eT, gH, bO, eM, eK, bW, fW, eS, eI, cZ, cL, dF, aX, bD, aQ, gA, aJ, dB, dY, bB, cH, fJ, dK, gE, fL, fH, fG, dS, aK, cG, dG, fX, fY, fD, dE, aT, dT, fV, cP, eX, fN, cD, bL, dP, aW, dX, dR, cN, eN, eL, aY, dI, bA, dO, dW, dN, bH, cR, cM, dM, bR, cW, cV, fP, bV, eH, eJ, gF, dU, dQ, dL, dA, bG, bQ, bU, bT, aS, cX, aU]
   have x45 := x4.seq x5
   have hqp : q ≠ p := by omega
   refine kE.rule (fun m (t : asZ) W => ∃ (i : Nat) (ns : List Nat), m = l.length - i /\ i <= l.length /\ t = .int .i64 (i : Nat) /\ mP W q (Ow ns) /\ ns.length = 256 /\ (∀ n ∈ ns, n <= i) /\ jM w5 W (fun y => y = q)) l.length
    ⟨0, List.replicate 256 0, rfl, by omega, rfl, by simpa using o5, by simp, fun n hn => by rw [asI hn]; omega, jM.refl _ _⟩ ?_
   rintro m t w6 ⟨i, ns, rfl, hi, rfl, o6, hnl, hns, x6⟩
   have x36 : jM w3 w6 mM := x45.trans x6 fun y hy h => by omega
   have x06 := x03.seq x36
   unfold zN
   by_cases hlt : i < l.length
   .have d1 : decide ((i : Int) < (l.length : Int)) = true := decide_eq_true (by omega)
    have hin : (i : Int).toNat = i := anP _
    have e1 : (i : Int) + 1 = ((i + 1 : Nat) : Int) := by omega
    obtain ⟨kb, koff, hka, hcell⟩ : ∃ kb koff, va = some ⟨kb, koff, none⟩ /\ w6.cell? ⟨kb, koff + i, none⟩ = some (.int .u8 (l[i].toNat : Nat)) := by
     obtain ⟨a', n', c', he, hn', hc', hh⟩ := hv.ext x06 (kJ _)
     simp only [Value.slice.injEq] at he
     obtain ⟨rfl, rfl, rfl⟩ := he
     obtain ⟨kb, koff, rfl, h2⟩ := hh (by omega)
     refine ⟨kb, koff, rfl, ?_⟩
     rw [h2 i (by omega), aoJ, anX hlt]
     rfl
    subst hka
    have hc256 : l[i].toNat < 256 := aqG _
    obtain ⟨cc_, hcc⟩ : ∃ c, c = l[i].toNat := ⟨_, rfl⟩
    rw [<- hcc] at hcell hc256
    have hcn : (cc_ : Int).toNat = cc_ := anP _
    have d2 : ((cc_ : Nat) : Int) < ((256 : Nat) : Int) := by omega
    have hng : (Ow ns)[cc_]? = some (.int .u32 (ns.getD cc_ 0 : Nat)) := La (by omega)
    have hc6 : w6.cell? ⟨q, 0 + cc_, none⟩ = some (.int .u32 (ns.getD cc_ 0 : Nat)) := by
     rw [anS, o6.cell]; exact hng
    have hgd : ns.getD cc_ 0 <= i := by
     rw [anY, anX (by omega)]
     exact hns _ (apP _)
    rw [anS] at hc6
    obtain ⟨G, hG⟩ : ∃ G, G = ns.getD cc_ 0 := ⟨_, rfl⟩
    rw [<- hG] at hc6 hgd
    have e2 : (G : Int) + 1 = ((G + 1 : Nat) : Int) := by omega
    simp (disch := omega) only [gD, jF, cJ, stepR_skip, hO, iB, iP, iN, iK, iO, jI, iV, gK, iC, iF, iD, iH, hJ, iM, hU, iE, iW, iS, iJ, gQ, iR, iQ, iG, kU, kV, lF, lC, lH, lE, lJ, lG, lD, gB, Result.ok.injEq, Next.value.injEq, true_and, and_true, gZ, hZ, iX, iT, iU, jG, anP, gW, gU, gX, gT, gM, gI, gN, gL, fZ, fT, if_true, if_false, anO, anS, anQ, anR, anU, anT, anN, anM, fM, fK, fB, fQ, cU, eQ, eE, dJ, bJ, fR, fE, aL, dD, aZ, bM, bP, aO, cQ, cF, eP, aF, gS, aP, cK, aR, bS, fS, cI, cC, aB, gC, fA, aI, aG, bN, gO, aN, eU, dZ, dV, gG, dH, fC, dC, eF, eZ, eY, cB, cY, gJ, eD, bZ, bF, bY, bX, fO, aD, aE, aM, aV, bE, cS, bK, aA, fF, aH, cO, fI, eT, gH, bO, eM, eK, bW, fW, eS, eI, cZ, cL, dF, aX, bD, aQ, gA, aJ, dB, dY, bB, cH, fJ, dK, gE, fL, fH, fG, dS, aK, cG, dG, fX, fY, fD, dE, aT, dT, fV, cP, eX, fN, cD, bL, dP, aW, dX, dR, cN, eN, eL, aY, dI, bA, dO, dW, dN, bH, cR, cM, dM, bR, cW, cV, fP, bV, eH, eJ, gF, dU, dQ, dL, dA, bG, bQ, bU, bT, aS, cX, aU, d1, hin, hcell, hcn, hc6, e2, anS]
    refine abC o6 rfl (by simp [hnl]; omega) fun w7 o7 x7 s7 => ?_
    simp (disch := omega) only [gD, jF, cJ, stepR_skip, hO, iB, iP, iN, iK, iO, jI, iV, gK, iC, iF, iD, iH, hJ, iM, hU, iE, iW, iS, iJ, gQ, iR, iQ, iG, kU, kV, lF, lC, lH, lE, lJ, lG, lD, gB, Result.ok.injEq, Next.value.injEq, true_and, and_true, gZ, hZ, iX, iT, iU, jG, anP, gW, gU, gX, gT, gM, gI, gN, gL, fZ, fT, if_true, if_false, anO, anS, anQ, anR, anU, anT, anN, anM, fM, fK, fB, fQ, cU, eQ, eE, dJ, bJ, fR, fE, aL, dD, aZ, bM, bP, aO, cQ, cF, eP, aF, gS, aP, cK, aR, bS, fS, cI, cC, aB, gC, fA, aI, aG, bN, gO, aN, eU, dZ, dV, gG, dH, fC, dC, eF, eZ, eY, cB, cY, gJ, eD, bZ, bF, bY, bX, fO, aD, aE, aM, aV, bE, cS, bK, aA, fF, aH, cO, fI, eT, gH, bO, eM, eK, bW, fW, eS, eI, cZ, cL, dF, aX, bD, aQ, gA, aJ, dB, dY, bB, cH, fJ, dK, gE, fL, fH, fG, dS, aK, cG, dG, fX, fY, fD, dE, aT, dT, fV, cP, eX, fN, cD, bL, dP, aW, dX, dR, cN, eN, eL, aY, dI, bA, dO, dW, dN, bH, cR, cM, dM, bR, cW, cV, fP, bV, eH, eJ, gF, dU, dQ, dL, dA, bG, bQ, bU, bT, aS, cX, aU, e1]
    have o7 : mP w7 q (Ow (ns.set cc_ (G + 1))) := by
     have e : Ow (ns.set cc_ (G + 1)) = (Ow ns).set cc_ (.int .u32 ((G + 1 : Nat) : Int)) := by
      unfold Ow
      rw [arT]
     rw [e]; exact o7
    refine ⟨l.length - (i + 1), by omega, i + 1, _, rfl, by omega, rfl, o7, by simp [hnl], fun n hn => ?_, x6.seq x7⟩
    rcases List.mem_or_eq_of_mem_set hn with h | h
    .have := hns n h; omega
    .omega
   .have d1 : decide ((i : Int) < (l.length : Int)) = false := decide_eq_false (by omega)
    unfold Du Dq
    simp (disch := omega) only [gD, jF, cJ, stepR_skip, hO, iB, iP, iN, iK, iO, jI, iV, gK, iC, iF, iD, iH, hJ, iM, hU, iE, iW, iS, iJ, gQ, iR, iQ, iG, kU, kV, lF, lC, lH, lE, lJ, lG, lD, gB, Result.ok.injEq, Next.value.injEq, true_and, and_true, gZ, hZ, iX, iT, iU, jG, anP, gW, gU, gX, gT, gM, gI, gN, gL, fZ, fT, if_true, if_false, anO, anS, anQ, anR, anU, anT, anN, anM, fM, fK, fB, fQ, cU, eQ, eE, dJ, bJ, fR, fE, aL, dD, aZ, bM, bP, aO, cQ, cF, eP, aF, gS, aP, cK, aR, bS, fS, cI, cC, aB, gC, fA, aI, aG, bN, gO, aN, eU, dZ, dV, gG, dH, fC, dC, eF, eZ, eY, cB, cY, gJ, eD, bZ, bF, bY, bX, fO, aD, aE, aM, aV, bE, cS, bK, aA, fF, aH, cO, fI, eT, gH, bO, eM, eK, bW, fW, eS, eI, cZ, cL, dF, aX, bD, aQ, gA, aJ, dB, dY, bB, cH, fJ, dK, gE, fL, fH, fG, dS, aK, cG, dG, fX, fY, fD, dE, aT, dT, fV, cP, eX, fN, cD, bL, dP, aW, dX, dR, cN, eN, eL, aY, dI, bA, dO, dW, dN, bH, cR, cM, dM, bR, cW, cV, fP, bV, eH, eJ, gF, dU, dQ, dL, dA, bG, bQ, bU, bT, aS, cX, aU, d1]
    have hsl : Sl w6 (.slice (some ⟨q, 0, none⟩) 256 256) (Ow ns) := ⟨_, _, _, rfl, by simp [hnl], aoA _, fun _ => ⟨q, 0, rfl, fun j hj => by rw [anS, o6.cell]⟩⟩
    refine (akI hsl (fun n hn => by have := hns n hn; omega) (by omega)).mono ?_
    rintro r w7 ⟨ho, x7⟩
    have st7 := st4 (x36.seq x7)
    have x07 := x06.seq x7
    have z7 := x7.size
    have z6 := x36.size
    rcases ho with ⟨-, rfl⟩ | ⟨-, last, wv, wl, -, hlast, hwl, -, -, -, rfl, ow⟩
    .have n1 : ((1 : Int) == 0) = false := rfl
     simp (disch := omega) only [gD, jF, cJ, stepR_skip, hO, iB, iP, iN, iK, iO, jI, iV, gK, iC, iF, iD, iH, hJ, iM, hU, iE, iW, iS, iJ, gQ, iR, iQ, iG, kU, kV, lF, lC, lH, lE, lJ, lG, lD, gB, Result.ok.injEq, Next.value.injEq, true_and, and_true, gZ, hZ, iX, iT, iU, jG, anP, gW, gU, gX, gT, gM, gI, gN, gL, fZ, fT, if_true, if_false, anO, anS, anQ, anR, anU, anT, anN, anM, fM, fK, fB, fQ, cU, eQ, eE, dJ, bJ, fR, fE, aL, dD, aZ, bM, bP, aO, cQ, cF, eP, aF, gS, aP, cK, aR, bS, fS, cI, cC, aB, gC, fA, aI, aG, bN, gO, aN, eU, dZ, dV, gG, dH, fC, dC, eF, eZ, eY, cB, cY, gJ, eD, bZ, bF, bY, bX, fO, aD, aE, aM, aV, bE, cS, bK, aA, fF, aH, cO, fI, eT, gH, bO, eM, eK, bW, fW, eS, eI, cZ, cL, dF, aX, bD, aQ, gA, aJ, dB, dY, bB, cH, fJ, dK, gE, fL, fH, fG, dS, aK, cG, dG, fX, fY, fD, dE, aT, dT, fV, cP, eX, fN, cD, bL, dP, aW, dX, dR, cN, eN, eL, aY, dI, bA, dO, dW, dN, bH, cR, cM, dM, bR, cW, cV, fP, bV, eH, eJ, gF, dU, dQ, dL, dA, bG, bQ, bU, bT, aS, cX, aU, n1]
     exact fin w7 st7
    .have n1 : ((0 : Int) == 0) = true := rfl
     have hbw : Bs w7 wv (Og wl) := ow.sl
     obtain ⟨wa, wc_, rfl⟩ := ow.len
     simp (disch := omega) only [gD, jF, cJ, stepR_skip, hO, iB, iP, iN, iK, iO, jI, iV, gK, iC, iF, iD, iH, hJ, iM, hU, iE, iW, iS, iJ, gQ, iR, iQ, iG, kU, kV, lF, lC, lH, lE, lJ, lG, lD, gB, Result.ok.injEq, Next.value.injEq, true_and, and_true, gZ, hZ, iX, iT, iU, jG, anP, gW, gU, gX, gT, gM, gI, gN, gL, fZ, fT, if_true, if_false, anO, anS, anQ, anR, anU, anT, anN, anM, fM, fK, fB, fQ, cU, eQ, eE, dJ, bJ, fR, fE, aL, dD, aZ, bM, bP, aO, cQ, cF, eP, aF, gS, aP, cK, aR, bS, fS, cI, cC, aB, gC, fA, aI, aG, bN, gO, aN, eU, dZ, dV, gG, dH, fC, dC, eF, eZ, eY, cB, cY, gJ, eD, bZ, bF, bY, bX, fO, aD, aE, aM, aV, bE, cS, bK, aA, fF, aH, cO, fI, eT, gH, bO, eM, eK, bW, fW, eS, eI, cZ, cL, dF, aX, bD, aQ, gA, aJ, dB, dY, bB, cH, fJ, dK, gE, fL, fH, fG, dS, aK, cG, dG, fX, fY, fD, dE, aT, dT, fV, cP, eX, fN, cD, bL, dP, aW, dX, dR, cN, eN, eL, aY, dI, bA, dO, dW, dN, bH, cR, cM, dM, bR, cW, cV, fP, bV, eH, eJ, gF, dU, dQ, dL, dA, bG, bQ, bU, bT, aS, cX, aU, n1]
     refine (Z7 (hv.ext x07 (kJ _)) hl hbw (by simp [Og]; omega)).mono ?_
     rintro r w8 ⟨hps, x8⟩
     have st8 := st4 ((x36.seq x7).seq x8)
     rcases hps with ⟨e, he, rfl⟩ | ⟨pv, bytes, rfl, op, hb1, hb2⟩
     .simp (disch := omega) only [gD, jF, cJ, stepR_skip, hO, iB, iP, iN, iK, iO, jI, iV, gK, iC, iF, iD, iH, hJ, iM, hU, iE, iW, iS, iJ, gQ, iR, iQ, iG, kU, kV, lF, lC, lH, lE, lJ, lG, lD, gB, Result.ok.injEq, Next.value.injEq, true_and, and_true, gZ, hZ, iX, iT, iU, jG, anP, gW, gU, gX, gT, gM, gI, gN, gL, fZ, fT, if_true, if_false, anO, anS, anQ, anR, anU, anT, anN, anM, fM, fK, fB, fQ, cU, eQ, eE, dJ, bJ, fR, fE, aL, dD, aZ, bM, bP, aO, cQ, cF, eP, aF, gS, aP, cK, aR, bS, fS, cI, cC, aB, gC, fA, aI, aG, bN, gO, aN, eU, dZ, dV, gG, dH, fC, dC, eF, eZ, eY, cB, cY, gJ, eD, bZ, bF, bY, bX, fO, aD, aE, aM, aV, bE, cS, bK, aA, fF, aH, cO, fI, eT, gH, bO, eM, eK, bW, fW, eS, eI, cZ, cL, dF, aX, bD, aQ, gA, aJ, dB, dY, bB, cH, fJ, dK, gE, fL, fH, fG, dS, aK, cG, dG, fX, fY, fD, dE, aT, dT, fV, cP, eX, fN, cD, bL, dP, aW, dX, dR, cN, eN, eL, aY, dI, bA, dO, dW, dN, bH, cR, cM, dM, bR, cW, cV, fP, bV, eH, eJ, gF, dU, dQ, dL, dA, bG, bQ, bU, bT, aS, cX, aU, q2, Gf]
      refine (abP he).mono ?_
      rintro r w9 ⟨rfl, hw⟩
      rw [hw]; clear hw w9
      exact fin w8 st8
     .have os8 := hosl x07 (by omega) op
      obtain ⟨a8, c8, rfl⟩ := op.len
      simp (disch := omega) only [gD, jF, cJ, stepR_skip, hO, iB, iP, iN, iK, iO, jI, iV, gK, iC, iF, iD, iH, hJ, iM, hU, iE, iW, iS, iJ, gQ, iR, iQ, iG, kU, kV, lF, lC, lH, lE, lJ, lG, lD, gB, Result.ok.injEq, Next.value.injEq, true_and, and_true, gZ, hZ, iX, iT, iU, jG, anP, gW, gU, gX, gT, gM, gI, gN, gL, fZ, fT, if_true, if_false, anO, anS, anQ, anR, anU, anT, anN, anM, fM, fK, fB, fQ, cU, eQ, eE, dJ, bJ, fR, fE, aL, dD, aZ, bM, bP, aO, cQ, cF, eP, aF, gS, aP, cK, aR, bS, fS, cI, cC, aB, gC, fA, aI, aG, bN, gO, aN, eU, dZ, dV, gG, dH, fC, dC, eF, eZ, eY, cB, cY, gJ, eD, bZ, bF, bY, bX, fO, aD, aE, aM, aV, bE, cS, bK, aA, fF, aH, cO, fI, eT, gH, bO, eM, eK, bW, fW, eS, eI, cZ, cL, dF, aX, bD, aQ, gA, aJ, dB, dY, bB, cH, fJ, dK, gE, fL, fH, fG, dS, aK, cG, dG, fX, fY, fD, dE, aT, dT, fV, cP, eX, fN, cD, bL, dP, aW, dX, dR, cN, eN, eL, aY, dI, bA, dO, dW, dN, bH, cR, cM, dM, bR, cW, cV, fP, bV, eH, eJ, gF, dU, dQ, dL, dA, bG, bQ, bU, bT, aS, cX, aU, q2, Gf]
      refine bet w8 a8 c8 bytes _ st8 os8 hb1 (by omega) fun r W hW => ?_
      exact fin W hW
end Go.Proofs.YtoecppploooloaaGreatDoor
namespace Go.Proofs.YtoecppploooloaaGreatDoor
open Go Go.En
set_option maxRecDepth 4000
structure VO (w : asY) (p mb ab : Nat) (bv : asZ) (B : List UInt8) (to tries : Nat) (es : List (Nw 4 × asZ)) (A : List Int) : Prop where
 own : mP w p [bv, .int .i64 to, .map (some mb), .slice (some ⟨ab, 0, none⟩) to to, .int .i64 tries]
 bs : Bs w bv B
 map : Mp w mb Rv es
 ah : mP w ab (A.map (Value.int .i64))
 len : A.length = to
 le : to <= B.length
 big : B.length <= 1099511627776
theorem VO.ext {w w' : asY} {p mb ab : Nat} {bv : asZ} {B : List UInt8} {to tries : Nat} {es : List (Nw 4 × asZ)} {A : List Int} {M : Nat -> Prop} (h : VO w p mb ab bv B to tries es A) (hx : jM w w' M)
 (h1 : ¬ M p) (h2 : ¬ M mb) (h3 : ¬ M ab) (h4 : ¬ KZ bv M) : VO w' p mb ab bv B to tries es A :=
 ⟨h.own.ext hx h1, h.bs.ext hx h4, h.map.ext hx h2, h.ah.ext hx h3, h.len, h.le, h.big⟩
theorem VO.same {w w' : asY} {p mb ab : Nat} {bv : asZ} {B : List UInt8} {to tries : Nat} {es : List (Nw 4 × asZ)} {A : List Int} (h : VO w p mb ab bv B to tries es A) (hx : jM w w' mM) : VO w' p mb ab bv B to tries es A :=
 h.ext hx (fun h => h) (fun h => h) (fun h => h) (kJ _)
theorem VO.dr {w : asY} {p mb ab : Nat} {bv : asZ} {B : List UInt8} {to tries : Nat} {es : List (Nw 4 × asZ)} {A : List Int} (h : VO w p mb ab bv B to tries es A) : VO (dr w) p mb ab bv B to tries es A :=
 h.same (jM.dr _ _)
structure Lng (B : List UInt8) (to old at_ n : Nat) : Prop where
 le : at_ + n <= to ∨ n = 0
 most : n <= 131074
 same : ∀ j, j < n -> B[old + j]? = B[at_ + j]?
 full : n = 131074 ∨ to <= at_ + n ∨ B[old + n]? ≠ B[at_ + n]?
theorem aiP {w : asY} {p mb ab : Nat} {bv : asZ} {B : List UInt8} {to tries : Nat} {es : List (Nw 4 × asZ)} {A : List Int} (hf : VO w p mb ab bv B to tries es A) (old at_ : Nat) (ho : old < at_) (ha : at_ <= to + 1) :
 jD pg vB #[.pointer (some ⟨p, 0, none⟩), .int .i64 old, .int .i64 at_] w (fun r w' => ∃ n : Nat, r = .int .i64 n /\ Lng B to old at_ n /\ jM w w' mM) := by
 have hle := hf.le
 have hbig := hf.big
 refine Ln ?_
 simp (disch := omega) only [tQ, Aw, Ao, AB, AF, Az, Jd, gD, jF, cJ, stepR_skip, hO, iB, iP, iN, iK, iO, jI, iV, gK, iC, iF, iD, iH, hJ, iM, hU, iE, iW, iS, iJ, gQ, iR, iQ, iG, kU, kV, lF, lC, lH, lE, lJ, lG, lD, gB, Result.ok.injEq, Next.value.injEq, true_and, and_true, gZ, hZ, iX, iT, iU, jG, anP, gW, gU, gX, gT, gM, gI, gN, gL, fZ, fT, if_true, if_false, anO, anS, anQ, anR, anU, anT, anN, anM, fM, fK, fB, fQ, cU, eQ, eE, dJ, bJ, fR, fE, aL, dD, aZ, bM, bP, aO, cQ, cF, eP, aF, gS, aP, cK, aR, bS, fS, cI, cC, aB, gC, fA, aI, aG, bN, gO, aN, eU, dZ, dV, gG, dH, fC, dC, eF, eZ, eY, cB, cY, gJ, eD, bZ, bF, bY, bX, fO, aD, aE, aM, aV, bE, cS, bK, aA, fF, aH, cO, fI, eT, gH, bO, eM, eK, bW, fW, eS, eI, cZ, cL, dF, aX, bD, aQ, gA, aJ, dB, dY, bB, cH, fJ, dK, gE, fL, fH, fG, dS, aK, cG, dG, fX, fY, fD, dE, aT, dT, fV, cP, eX, fN, cD, bL, dP, aW, dX, dR, cN, eN, eL, aY, dI, bA, dO, dW, dN, bH, cR, cM, dM, bR, cW, cV, fP, bV, eH, eJ, gF, dU, dQ, dL, dA, bG, bQ, bU, bT, aS, cX, aU]
 refine kE.rule (fun m t w' => ∃ n : Nat, m = 131074 - n /\ t = .int .i64 n /\ (at_ + n <= to ∨ n = 0) /\ n <= 131074 /\ (∀ j, j < n -> B[old + j]? = B[at_ + j]?) /\ jM w w' mM) 131074 ⟨0, rfl, rfl, .inr rfl, by omega, fun j h => by omega, jM.refl _ _⟩ ?_
 rintro m t w1 ⟨n, rfl, rfl, h1, h2, h3, hx⟩
 have hf := (hf.same hx).dr
 have c1 := hf.own.cell (off := 1)
 have c0 := hf.own.cell (off := 0)
 simp only [anM, anN] at c0 c1
 by_cases hlt : at_ + n < to
 .have d1 : decide ((at_ : Int) + (n : Int) < (to : Int)) = true := by simp; omega
  by_cases hm : n < 131074
  .have d2 : decide ((n : Int) < 131074) = true := by simp; omega
   obtain ⟨b, off, c, rfl, hc, hb⟩ := hf.bs.open (by omega)
   have e1 : ((old : Int) + (n : Int)).toNat = old + n := by omega
   have e2 : ((at_ : Int) + (n : Int)).toNat = at_ + n := by omega
   have g1 := hb (old + n) (by omega)
   have g2 := hb (at_ + n) (by omega)
   by_cases hq : B[old + n]'(by omega) = B[at_ + n]'(by omega)
   .have d3 : ((((B[old + n]'(by omega)).toNat : Int)) == (((B[at_ + n]'(by omega)).toNat : Nat) : Int)) = true := by rw [hq]; simp
    simp (disch := omega) only [oU, gD, jF, cJ, stepR_skip, hO, iB, iP, iN, iK, iO, jI, iV, gK, iC, iF, iD, iH, hJ, iM, hU, iE, iW, iS, iJ, gQ, iR, iQ, iG, kU, kV, lF, lC, lH, lE, lJ, lG, lD, gB, Result.ok.injEq, Next.value.injEq, true_and, and_true, gZ, hZ, iX, iT, iU, jG, anP, gW, gU, gX, gT, gM, gI, gN, gL, fZ, fT, if_true, if_false, anO, anS, anQ, anR, anU, anT, anN, anM, fM, fK, fB, fQ, cU, eQ, eE, dJ, bJ, fR, fE, aL, dD, aZ, bM, bP, aO, cQ, cF, eP, aF, gS, aP, cK, aR, bS, fS, cI, cC, aB, gC, fA, aI, aG, bN, gO, aN, eU, dZ, dV, gG, dH, fC, dC, eF, eZ, eY, cB, cY, gJ, eD, bZ, bF, bY, bX, fO, aD, aE, aM, aV, bE, cS, bK, aA, fF, aH, cO, fI, eT, gH, bO, eM, eK, bW, fW, eS, eI, cZ, cL, dF, aX, bD, aQ, gA, aJ, dB, dY, bB, cH, fJ, dK, gE, fL, fH, fG, dS, aK, cG, dG, fX, fY, fD, dE, aT, dT, fV, cP, eX, fN, cD, bL, dP, aW, dX, dR, cN, eN, eL, aY, dI, bA, dO, dW, dN, bH, cR, cM, dM, bR, cW, cV, fP, bV, eH, eJ, gF, dU, dQ, dL, dA, bG, bQ, bU, bT, aS, cX, aU, d1, d2, c0, c1, e1, e2, g1, g2, pB, d3]
    refine ⟨131074 - (n + 1), by omega, n + 1, rfl, rfl, .inl (by omega), by omega, fun j hj => ?_, hx.seq (jM.dr _ _)⟩
    by_cases hjn : j = n
    .subst hjn
     rw [anX (by omega), anX (by omega), hq]
    .exact h3 j (by omega)
   .have d3 : ((((B[old + n]'(by omega)).toNat : Int)) == (((B[at_ + n]'(by omega)).toNat : Nat) : Int)) = false := by
     rw [ZL]; simpa using hq
    simp (disch := omega) only [oU, gD, jF, cJ, stepR_skip, hO, iB, iP, iN, iK, iO, jI, iV, gK, iC, iF, iD, iH, hJ, iM, hU, iE, iW, iS, iJ, gQ, iR, iQ, iG, kU, kV, lF, lC, lH, lE, lJ, lG, lD, gB, Result.ok.injEq, Next.value.injEq, true_and, and_true, gZ, hZ, iX, iT, iU, jG, anP, gW, gU, gX, gT, gM, gI, gN, gL, fZ, fT, if_true, if_false, anO, anS, anQ, anR, anU, anT, anN, anM, fM, fK, fB, fQ, cU, eQ, eE, dJ, bJ, fR, fE, aL, dD, aZ, bM, bP, aO, cQ, cF, eP, aF, gS, aP, cK, aR, bS, fS, cI, cC, aB, gC, fA, aI, aG, bN, gO, aN, eU, dZ, dV, gG, dH, fC, dC, eF, eZ, eY, cB, cY, gJ, eD, bZ, bF, bY, bX, fO, aD, aE, aM, aV, bE, cS, bK, aA, fF, aH, cO, fI, eT, gH, bO, eM, eK, bW, fW, eS, eI, cZ, cL, dF, aX, bD, aQ, gA, aJ, dB, dY, bB, cH, fJ, dK, gE, fL, fH, fG, dS, aK, cG, dG, fX, fY, fD, dE, aT, dT, fV, cP, eX, fN, cD, bL, dP, aW, dX, dR, cN, eN, eL, aY, dI, bA, dO, dW, dN, bH, cR, cM, dM, bR, cW, cV, fP, bV, eH, eJ, gF, dU, dQ, dL, dA, bG, bQ, bU, bT, aS, cX, aU, d1, d2, c0, c1, e1, e2, g1, g2, pB, d3]
    refine ⟨n, rfl, ⟨h1, h2, h3, .inr (.inr ?_)⟩, hx.seq (jM.dr _ _)⟩
    rw [anX (by omega), anX (by omega)]
    exact fun h => hq (aoZ h)
  .have d2 : decide ((n : Int) < 131074) = false := by simp; omega
   simp (disch := omega) only [oU, gD, jF, cJ, stepR_skip, hO, iB, iP, iN, iK, iO, jI, iV, gK, iC, iF, iD, iH, hJ, iM, hU, iE, iW, iS, iJ, gQ, iR, iQ, iG, kU, kV, lF, lC, lH, lE, lJ, lG, lD, gB, Result.ok.injEq, Next.value.injEq, true_and, and_true, gZ, hZ, iX, iT, iU, jG, anP, gW, gU, gX, gT, gM, gI, gN, gL, fZ, fT, if_true, if_false, anO, anS, anQ, anR, anU, anT, anN, anM, fM, fK, fB, fQ, cU, eQ, eE, dJ, bJ, fR, fE, aL, dD, aZ, bM, bP, aO, cQ, cF, eP, aF, gS, aP, cK, aR, bS, fS, cI, cC, aB, gC, fA, aI, aG, bN, gO, aN, eU, dZ, dV, gG, dH, fC, dC, eF, eZ, eY, cB, cY, gJ, eD, bZ, bF, bY, bX, fO, aD, aE, aM, aV, bE, cS, bK, aA, fF, aH, cO, fI, eT, gH, bO, eM, eK, bW, fW, eS, eI, cZ, cL, dF, aX, bD, aQ, gA, aJ, dB, dY, bB, cH, fJ, dK, gE, fL, fH, fG, dS, aK, cG, dG, fX, fY, fD, dE, aT, dT, fV, cP, eX, fN, cD, bL, dP, aW, dX, dR, cN, eN, eL, aY, dI, bA, dO, dW, dN, bH, cR, cM, dM, bR, cW, cV, fP, bV, eH, eJ, gF, dU, dQ, dL, dA, bG, bQ, bU, bT, aS, cX, aU, d1, d2, c0, c1]
   exact ⟨n, rfl, ⟨h1, h2, h3, .inl (by omega)⟩, hx.seq (jM.dr _ _)⟩
 .have d1 : decide ((at_ : Int) + (n : Int) < (to : Int)) = false := by simp; omega
  simp (disch := omega) only [oU, gD, jF, cJ, stepR_skip, hO, iB, iP, iN, iK, iO, jI, iV, gK, iC, iF, iD, iH, hJ, iM, hU, iE, iW, iS, iJ, gQ, iR, iQ, iG, kU, kV, lF, lC, lH, lE, lJ, lG, lD, gB, Result.ok.injEq, Next.value.injEq, true_and, and_true, gZ, hZ, iX, iT, iU, jG, anP, gW, gU, gX, gT, gM, gI, gN, gL, fZ, fT, if_true, if_false, anO, anS, anQ, anR, anU, anT, anN, anM, fM, fK, fB, fQ, cU, eQ, eE, dJ, bJ, fR, fE, aL, dD, aZ, bM, bP, aO, cQ, cF, eP, aF, gS, aP, cK, aR, bS, fS, cI, cC, aB, gC, fA, aI, aG, bN, gO, aN, eU, dZ, dV, gG, dH, fC, dC, eF, eZ, eY, cB, cY, gJ, eD, bZ, bF, bY, bX, fO, aD, aE, aM, aV, bE, cS, bK, aA, fF, aH, cO, fI, eT, gH, bO, eM, eK, bW, fW, eS, eI, cZ, cL, dF, aX, bD, aQ, gA, aJ, dB, dY, bB, cH, fJ, dK, gE, fL, fH, fG, dS, aK, cG, dG, fX, fY, fD, dE, aT, dT, fV, cP, eX, fN, cD, bL, dP, aW, dX, dR, cN, eN, eL, aY, dI, bA, dO, dW, dN, bH, cR, cM, dM, bR, cW, cV, fP, bV, eH, eJ, gF, dU, dQ, dL, dA, bG, bQ, bU, bT, aS, cX, aU, d1, c0, c1]
  exact ⟨n, rfl, ⟨h1, h2, h3, .inr (.inl (by omega))⟩, hx.seq (jM.dr _ _)⟩
theorem Lng.le_of {B : List UInt8} {to old at_ m n : Nat} (h : Lng B to old at_ m) (k : Lng B to old at_ n) : m <= n := by
 rcases aoE n m with hlt | hge
 .exfalso
  have h1 := h.le
  have h2 := h.most
  rcases k.full with f | f | f
  .omega
  .omega
  .exact f (h.same n hlt)
 .exact hge
def rP (B : List UInt8) (at_ : Nat) : Nw 4 := if h : at_ + 4 <= B.length then ⟨(B.drop at_).take 4, by simp; omega⟩ else ⟨[0, 0, 0, 0], rfl⟩
theorem Zs {w : asY} {p mb ab : Nat} {bv : asZ} {B : List UInt8} {to tries : Nat} {es : List (Nw 4 × asZ)} {A : List Int} (hf : VO w p mb ab bv B to tries es A) (at_ : Nat) (ha : at_ <= B.length) :
 jD pg rB #[.pointer (some ⟨p, 0, none⟩), .int .i64 at_] w (fun r w' => r = .tuple #[Rv (rP B at_), .bool (decide (at_ + 4 <= B.length))] /\ jM w w' mM) := by
 have hbig := hf.big
 refine Kt ?_
 simp (disch := omega) only [yS, H2, gD, jF, cJ, stepR_skip, hO, iB, iP, iN, iK, iO, jI, iV, gK, iC, iF, iD, iH, hJ, iM, hU, iE, iW, iS, iJ, gQ, iR, iQ, iG, kU, kV, lF, lC, lH, lE, lJ, lG, lD, gB, Result.ok.injEq, Next.value.injEq, true_and, and_true, gZ, hZ, iX, iT, iU, jG, anP, gW, gU, gX, gT, gM, gI, gN, gL, fZ, fT, if_true, if_false, anO, anS, anQ, anR, anU, anT, anN, anM, fM, fK, fB, fQ, cU, eQ, eE, dJ, bJ, fR, fE, aL, dD, aZ, bM, bP, aO, cQ, cF, eP, aF, gS, aP, cK, aR, bS, fS, cI, cC, aB, gC, fA, aI, aG, bN, gO, aN, eU, dZ, dV, gG, dH, fC, dC, eF, eZ, eY, cB, cY, gJ, eD, bZ, bF, bY, bX, fO, aD, aE, aM, aV, bE, cS, bK, aA, fF, aH, cO, fI, eT, gH, bO, eM, eK, bW, fW, eS, eI, cZ, cL, dF, aX, bD, aQ, gA, aJ, dB, dY, bB, cH, fJ, dK, gE, fL, fH, fG, dS, aK, cG, dG, fX, fY, fD, dE, aT, dT, fV, cP, eX, fN, cD, bL, dP, aW, dX, dR, cN, eN, eL, aY, dI, bA, dO, dW, dN, bH, cR, cM, dM, bR, cW, cV, fP, bV, eH, eJ, gF, dU, dQ, dL, dA, bG, bQ, bU, bT, aS, cX, aU]
 refine Lj fun w1 o1 x1 s1 => ?_
 have hf := hf.same x1
 have c0 := hf.own.cell (off := 0)
 simp only [anM] at c0
 obtain ⟨a, c, hv, hc⟩ := hf.bs.len
 simp only [anV] at hv hc
 subst hv
 by_cases h4 : at_ + 4 <= B.length
 .have d : decide ((B.length : Int) < (at_ : Int) + 4) = false := by simp; omega
  obtain ⟨b, off, c', e, hc, hb⟩ := hf.bs.open (by omega)
  cases e
  have e1 : ((at_ : Int) + 4).toNat = at_ + 4 := by omega
  have e2 : at_ + 4 - at_ = 4 := by omega
  have sh := Vr (b := b) (o := off) (m := c) (l := at_) (by omega)
  have l1 := VN (w := w1) (b := b) (off := off + at_) (l := ((B.drop at_).take 4).map pB) (by simp; omega) (fun j hj => by
   have hj : j < 4 := by simp at hj; omega
   rw [aqY, hb (at_ + j) (by omega), aoJ, apO hj, arH, anX (by omega)] <;> rfl)
  simp (disch := omega) only [gD, jF, cJ, stepR_skip, hO, iB, iP, iN, iK, iO, jI, iV, gK, iC, iF, iD, iH, hJ, iM, hU, iE, iW, iS, iJ, gQ, iR, iQ, iG, kU, kV, lF, lC, lH, lE, lJ, lG, lD, gB, Result.ok.injEq, Next.value.injEq, true_and, and_true, gZ, hZ, iX, iT, iU, jG, anP, gW, gU, gX, gT, gM, gI, gN, gL, fZ, fT, if_true, if_false, anO, anS, anQ, anR, anU, anT, anN, anM, fM, fK, fB, fQ, cU, eQ, eE, dJ, bJ, fR, fE, aL, dD, aZ, bM, bP, aO, cQ, cF, eP, aF, gS, aP, cK, aR, bS, fS, cI, cC, aB, gC, fA, aI, aG, bN, gO, aN, eU, dZ, dV, gG, dH, fC, dC, eF, eZ, eY, cB, cY, gJ, eD, bZ, bF, bY, bX, fO, aD, aE, aM, aV, bE, cS, bK, aA, fF, aH, cO, fI, eT, gH, bO, eM, eK, bW, fW, eS, eI, cZ, cL, dF, aX, bD, aQ, gA, aJ, dB, dY, bB, cH, fJ, dK, gE, fL, fH, fG, dS, aK, cG, dG, fX, fY, fD, dE, aT, dT, fV, cP, eX, fN, cD, bL, dP, aW, dX, dR, cN, eN, eL, aY, dI, bA, dO, dW, dN, bH, cR, cM, dM, bR, cW, cV, fP, bV, eH, eJ, gF, dU, dQ, dL, dA, bG, bQ, bU, bT, aS, cX, aU, c0, d, e1, e2, sh, l1]
  refine F2 o1 (by simp; omega) (DE _) (by simp) fun w2 o2 x2 s2 => ?_
  refine Qr o2 (by simp [Qf]) ⟨?_, x1.new x2 (aoA _)⟩
  rw [decide_eq_true h4]
  unfold Rv rP
  rw [dif_pos h4]
  have : ∀ l : List asZ, l.length = 4 -> ((qM [.int .u8 0, .int .u8 0, .int .u8 0, .int .u8 0] 0 l).drop 0).take 4 = l := by
   intro l hl
   match l, hl with
   | [a, b, c, d], _ => rfl
  simp only [this _ (show (((B.drop at_).take 4).map pB).length = 4 by simp; omega)]
 .have d : decide ((B.length : Int) < (at_ : Int) + 4) = true := by simp; omega
  simp (disch := omega) only [gD, jF, cJ, stepR_skip, hO, iB, iP, iN, iK, iO, jI, iV, gK, iC, iF, iD, iH, hJ, iM, hU, iE, iW, iS, iJ, gQ, iR, iQ, iG, kU, kV, lF, lC, lH, lE, lJ, lG, lD, gB, Result.ok.injEq, Next.value.injEq, true_and, and_true, gZ, hZ, iX, iT, iU, jG, anP, gW, gU, gX, gT, gM, gI, gN, gL, fZ, fT, if_true, if_false, anO, anS, anQ, anR, anU, anT, anN, anM, fM, fK, fB, fQ, cU, eQ, eE, dJ, bJ, fR, fE, aL, dD, aZ, bM, bP, aO, cQ, cF, eP, aF, gS, aP, cK, aR, bS, fS, cI, cC, aB, gC, fA, aI, aG, bN, gO, aN, eU, dZ, dV, gG, dH, fC, dC, eF, eZ, eY, cB, cY, gJ, eD, bZ, bF, bY, bX, fO, aD, aE, aM, aV, bE, cS, bK, aA, fF, aH, cO, fI, eT, gH, bO, eM, eK, bW, fW, eS, eI, cZ, cL, dF, aX, bD, aQ, gA, aJ, dB, dY, bB, cH, fJ, dK, gE, fL, fH, fG, dS, aK, cG, dG, fX, fY, fD, dE, aT, dT, fV, cP, eX, fN, cD, bL, dP, aW, dX, dR, cN, eN, eL, aY, dI, bA, dO, dW, dN, bH, cR, cM, dM, bR, cW, cV, fP, bV, eH, eJ, gF, dU, dQ, dL, dA, bG, bQ, bU, bT, aS, cX, aU, c0, d]
  refine F2 o1 rfl (by simp [one]) (by simp) fun w2 o2 x2 s2 => ?_
  refine Qr o2 (by simp [Qf]) ⟨?_, x1.new x2 (aoA _)⟩
  rw [decide_eq_false h4]
  unfold Rv rP
  rw [dif_neg h4]
  rfl
structure Kept (n : Nat) (es : List (Nw 4 × asZ)) (A : List Int) : Prop where
 es : ∀ q ∈ es, ∃ x : Nat, q.2 = .int .i64 x /\ x < n
 ah : ∀ i (h : i < A.length), -1 <= A[i] /\ A[i] <= i
theorem Kept.mono {n m : Nat} {es : List (Nw 4 × asZ)} {A : List Int} (h : Kept n es A) (hm : n <= m) : Kept m es A :=
 ⟨fun q hq => let ⟨x, e, hx⟩ := h.es q hq; ⟨x, e, by omega⟩, h.ah⟩
theorem Kept.assoc {n : Nat} {es : List (Nw 4 × asZ)} {A : List Int} (h : Kept n es A) {k : Nw 4} {v : asZ} (he : En.assoc k es = some v) : ∃ x : Nat, v = .int .i64 x /\ x < n := h.es _ (abG he)
theorem Kept.set {n i : Nat} {es : List (Nw 4 × asZ)} {A : List Int} (h : Kept n es A) {x : Int} (h0 : -1 <= x) (h1 : x <= i) : Kept n es (A.set i x) :=
 ⟨h.es, fun j hj => by
   rw [List.getElem_set]
   split
   .rename_i e; subst e; exact ⟨h0, h1⟩
   .exact h.ah j _⟩
def noted (B : List UInt8) (at_ : Nat) (es : List (Nw 4 × asZ)) : List (Nw 4 × asZ) := if at_ + 4 <= B.length then Xc (rP B at_) (.int .i64 at_) es else es
theorem Kept.noted {at_ : Nat} {B : List UInt8} {es : List (Nw 4 × asZ)} {A : List Int} (h : Kept (at_ + 1) es A) : Kept (at_ + 1) (noted B at_ es) A := by
 refine ⟨fun q hq => ?_, h.ah⟩
 unfold Go.Proofs.YtoecppploooloaaGreatDoor.noted at hq
 split at hq
 .rcases ZJ hq with rfl | hq
  .exact ⟨at_, rfl, by omega⟩
  .exact h.es q hq
 .exact h.es q hq
theorem Wc {w w' : asY} {p mb ab : Nat} {bv : asZ} {B : List UInt8} {to tries at_ : Nat} {es : List (Nw 4 × asZ)} {A : List Int} (hf : VO w' p mb ab bv B to tries es A) (hk : Kept (at_ + 1) es A)
 (hd : p ≠ mb /\ p ≠ ab /\ mb ≠ ab) (hb : ¬ KZ bv fun b => b = mb ∨ b = ab) {kb : Nat} (hkb : mP w' kb ((rP B at_).1.map pB)) (hx : jM w w' fun b => b = mb ∨ b = ab)
 {R : asY -> Prop} (hR : ∀ w' A', VO w' p mb ab bv B to tries (noted B at_ es) A' -> Kept (at_ + 1) (noted B at_ es) A' -> jM w w' (fun b => b = mb ∨ b = ab) -> R w') :
 oT R (.pointer (some ⟨p, 0, none⟩)) (.int .i64 at_) (.pointer (some ⟨kb, 0, none⟩)) (.bool (decide (at_ + 4 <= B.length))) w' := by
 have hkept := hk.noted (B := B)
 have hn : noted B at_ es = if at_ + 4 <= B.length then Xc (rP B at_) (.int .i64 at_) es else es := rfl
 by_cases h4 : at_ + 4 <= B.length
 .rw [decide_eq_true h4]
  rw [if_pos h4] at hn
  rw [hn] at hR hkept
  have hf := hf.dr
  have hkb := GI hkb
  have c2 := hf.own.cell (off := 2)
  simp only [anM, anN] at c2
  have hlen := (rP B at_).2
  have l1 := JB (off := 0) hkb (by simp [hlen])
  have l2 : (((rP B at_).1.map pB).drop 0).take 4 = (rP B at_).1.map pB := by rw [aqQ, aoF (by simp [hlen])]
  rw [l2] at l1
  simp (disch := omega) only [oT, rF, qZ, zR, gD, jF, cJ, stepR_skip, hO, iB, iP, iN, iK, iO, jI, iV, gK, iC, iF, iD, iH, hJ, iM, hU, iE, iW, iS, iJ, gQ, iR, iQ, iG, kU, kV, lF, lC, lH, lE, lJ, lG, lD, gB, Result.ok.injEq, Next.value.injEq, true_and, and_true, gZ, hZ, iX, iT, iU, jG, anP, gW, gU, gX, gT, gM, gI, gN, gL, fZ, fT, if_true, if_false, anO, anS, anQ, anR, anU, anT, anN, anM, fM, fK, fB, fQ, cU, eQ, eE, dJ, bJ, fR, fE, aL, dD, aZ, bM, bP, aO, cQ, cF, eP, aF, gS, aP, cK, aR, bS, fS, cI, cC, aB, gC, fA, aI, aG, bN, gO, aN, eU, dZ, dV, gG, dH, fC, dC, eF, eZ, eY, cB, cY, gJ, eD, bZ, bF, bY, bX, fO, aD, aE, aM, aV, bE, cS, bK, aA, fF, aH, cO, fI, eT, gH, bO, eM, eK, bW, fW, eS, eI, cZ, cL, dF, aX, bD, aQ, gA, aJ, dB, dY, bB, cH, fJ, dK, gE, fL, fH, fG, dS, aK, cG, dG, fX, fY, fD, dE, aT, dT, fV, cP, eX, fN, cD, bL, dP, aW, dX, dR, cN, eN, eL, aY, dI, bA, dO, dW, dN, bH, cR, cM, dM, bR, cW, cV, fP, bV, eH, eJ, gF, dU, dQ, dL, dA, bG, bQ, bU, bT, aS, cX, aU, c2, l1]
  refine OO hf.map (rP B at_) _ fun w2 m2 x2 s2 => ?_
  refine hR w2 A ⟨hf.own.ext x2 hd.1, hf.bs.ext x2 (fun h => hb (B2 h fun _ => .inl)), m2, hf.ah.ext x2 (fun e => hd.2.2 e.symm), hf.len, hf.le, hf.big⟩ hkept ?_
  exact (hx.seq (jM.dr _ _)).seq (x2.mono fun b _ h => .inl h)
 .rw [decide_eq_false h4]
  rw [if_neg h4] at hn
  rw [hn] at hR hkept
  simp (disch := omega) only [oT, rF, qZ, zR, gD, jF, cJ, stepR_skip, hO, iB, iP, iN, iK, iO, jI, iV, gK, iC, iF, iD, iH, hJ, iM, hU, iE, iW, iS, iJ, gQ, iR, iQ, iG, kU, kV, lF, lC, lH, lE, lJ, lG, lD, gB, Result.ok.injEq, Next.value.injEq, true_and, and_true, gZ, hZ, iX, iT, iU, jG, anP, gW, gU, gX, gT, gM, gI, gN, gL, fZ, fT, if_true, if_false, anO, anS, anQ, anR, anU, anT, anN, anM, fM, fK, fB, fQ, cU, eQ, eE, dJ, bJ, fR, fE, aL, dD, aZ, bM, bP, aO, cQ, cF, eP, aF, gS, aP, cK, aR, bS, fS, cI, cC, aB, gC, fA, aI, aG, bN, gO, aN, eU, dZ, dV, gG, dH, fC, dC, eF, eZ, eY, cB, cY, gJ, eD, bZ, bF, bY, bX, fO, aD, aE, aM, aV, bE, cS, bK, aA, fF, aH, cO, fI, eT, gH, bO, eM, eK, bW, fW, eS, eI, cZ, cL, dF, aX, bD, aQ, gA, aJ, dB, dY, bB, cH, fJ, dK, gE, fL, fH, fG, dS, aK, cG, dG, fX, fY, fD, dE, aT, dT, fV, cP, eX, fN, cD, bL, dP, aW, dX, dR, cN, eN, eL, aY, dI, bA, dO, dW, dN, bH, cR, cM, dM, bR, cW, cV, fP, bV, eH, eJ, gF, dU, dQ, dL, dA, bG, bQ, bU, bT, aS, cX, aU]
  exact hR _ A hf hkept hx
theorem ajH {w : asY} {p mb ab : Nat} {bv : asZ} {B : List UInt8} {to tries at_ : Nat} {es : List (Nw 4 × asZ)} {A : List Int} (hf : VO w p mb ab bv B to tries es A) (hk : Kept (at_ + 1) es A)
 (hd : p ≠ mb /\ p ≠ ab /\ mb ≠ ab) (hb : ¬ KZ bv fun b => b = mb ∨ b = ab) (ha : at_ < to) :
 jD pg oA #[.pointer (some ⟨p, 0, none⟩), .int .i64 at_] w (fun _ w' => ∃ A', VO w' p mb ab bv B to tries (noted B at_ es) A' /\ Kept (at_ + 1) (noted B at_ es) A' /\ jM w w' (fun b => b = mb ∨ b = ab)) := by
 have hle := hf.le
 have hbig := hf.big
 refine LS ?_
 unfold zR qZ rF
 refine (Zs hf at_ (by omega)).mono ?_
 rintro r w1 ⟨rfl, x1⟩
 have hf := hf.same x1
 have hlen := (rP B at_).2
 simp (disch := omega) only [gD, jF, cJ, stepR_skip, hO, iB, iP, iN, iK, iO, jI, iV, gK, iC, iF, iD, iH, hJ, iM, hU, iE, iW, iS, iJ, gQ, iR, iQ, iG, kU, kV, lF, lC, lH, lE, lJ, lG, lD, gB, Result.ok.injEq, Next.value.injEq, true_and, and_true, gZ, hZ, iX, iT, iU, jG, anP, gW, gU, gX, gT, gM, gI, gN, gL, fZ, fT, if_true, if_false, anO, anS, anQ, anR, anU, anT, anN, anM, fM, fK, fB, fQ, cU, eQ, eE, dJ, bJ, fR, fE, aL, dD, aZ, bM, bP, aO, cQ, cF, eP, aF, gS, aP, cK, aR, bS, fS, cI, cC, aB, gC, fA, aI, aG, bN, gO, aN, eU, dZ, dV, gG, dH, fC, dC, eF, eZ, eY, cB, cY, gJ, eD, bZ, bF, bY, bX, fO, aD, aE, aM, aV, bE, cS, bK, aA, fF, aH, cO, fI, eT, gH, bO, eM, eK, bW, fW, eS, eI, cZ, cL, dF, aX, bD, aQ, gA, aJ, dB, dY, bB, cH, fJ, dK, gE, fL, fH, fG, dS, aK, cG, dG, fX, fY, fD, dE, aT, dT, fV, cP, eX, fN, cD, bL, dP, aW, dX, dR, cN, eN, eL, aY, dI, bA, dO, dW, dN, bH, cR, cM, dM, bR, cW, cV, fP, bV, eH, eJ, gF, dU, dQ, dL, dA, bG, bQ, bU, bT, aS, cX, aU]
 refine Lj fun w2 o2 x2 s2 => ?_
 have hp1 := hf.own.lt
 have hm1 := hf.map.lt
 have ha1 := hf.ah.lt
 refine F2 o2 (by simp [hlen]) (DE _) (by simp) fun w3 o3 x3 s3 => ?_
 have e3 : qM [.int .u8 0, .int .u8 0, .int .u8 0, .int .u8 0] 0 ((rP B at_).1.map pB) = (rP B at_).1.map pB := by
  generalize (rP B at_).1.map pB = l, (show ((rP B at_).1.map pB).length = 4 by simp [hlen]) = hl
  match l, hl with
  | [a, b, c, d], _ => rfl
 simp only [List.toList_toArray] at o3
 rw [e3] at o3
 have x13 : jM w1 w3 mM := (jM.refl _ _).seq (x2.new x3 (aoA _))
 have hf3 := (hf.same x13).dr
 have hkb := GI o3
 have c2 := hf3.own.cell (off := 2)
 have c3 := hf3.own.cell (off := 3)
 simp only [anM, anN] at c2 c3
 have l1 := JB (off := 0) hkb (by simp [hlen])
 have l2 : (((rP B at_).1.map pB).drop 0).take 4 = (rP B at_).1.map pB := by rw [aqQ, aoF (by simp [hlen])]
 rw [l2] at l1
 have l3 := Gl hf3.map (rP B at_)
 unfold Rv at l3
 have hx0 : jM w (dr w3) (fun b => b = mb ∨ b = ab) := ((x1.seq x13).seq (jM.dr _ _)).mono fun _ _ h => h.elim
 have hnew : ∀ x : Int, -1 <= x -> x <= at_ -> gD pg (jZ 3 (.pointer (some ⟨ab, at_, none⟩)) (.int .i64 x)) (dr w3) fun _ w' =>
     oT (fun w' => ∃ A', VO w' p mb ab bv B to tries (noted B at_ es) A' /\ Kept (at_ + 1) (noted B at_ es) A' /\ jM w w' (fun b => b = mb ∨ b = ab)) (.pointer (some ⟨p, 0, none⟩)) (.int .i64 at_) (.pointer (some ⟨w1.heap.size, 0, none⟩)) (.bool (decide (at_ + 4 <= B.length))) w' := by
  intro x h0 h1
  refine Mn hf3.ah rfl (by simp [hf3.len]; omega) fun w4 o4 x4 s4 => ?_
  rw [<- arT] at o4
  have hab : ¬ w1.heap.size = ab := by omega
  refine Wc (w := w) ⟨hf3.own.ext x4 hd.2.1, hf3.bs.ext x4 (fun h => hb (B2 h fun _ => .inr)), hf3.map.ext x4 hd.2.2, o4, by simp [hf3.len], hf3.le, hf3.big⟩ (hk.set h0 h1) hd hb (hkb.ext x4 hab) (hx0.seq (x4.mono fun b _ h => .inr h)) fun w' A' a b c => ⟨A', a, b, c⟩
 by_cases h4 : at_ + 4 <= B.length
 .rw [decide_eq_true h4] at hnew ⊢
  cases ha : En.assoc (rP B at_) es with
  | none =>
    rw [ha] at l3
    simp only [Option.getD_none, Option.isSome_none] at l3
    simp (disch := omega) only [gD, jF, cJ, stepR_skip, hO, iB, iP, iN, iK, iO, jI, iV, gK, iC, iF, iD, iH, hJ, iM, hU, iE, iW, iS, iJ, gQ, iR, iQ, iG, kU, kV, lF, lC, lH, lE, lJ, lG, lD, gB, Result.ok.injEq, Next.value.injEq, true_and, and_true, gZ, hZ, iX, iT, iU, jG, anP, gW, gU, gX, gT, gM, gI, gN, gL, fZ, fT, if_true, if_false, anO, anS, anQ, anR, anU, anT, anN, anM, fM, fK, fB, fQ, cU, eQ, eE, dJ, bJ, fR, fE, aL, dD, aZ, bM, bP, aO, cQ, cF, eP, aF, gS, aP, cK, aR, bS, fS, cI, cC, aB, gC, fA, aI, aG, bN, gO, aN, eU, dZ, dV, gG, dH, fC, dC, eF, eZ, eY, cB, cY, gJ, eD, bZ, bF, bY, bX, fO, aD, aE, aM, aV, bE, cS, bK, aA, fF, aH, cO, fI, eT, gH, bO, eM, eK, bW, fW, eS, eI, cZ, cL, dF, aX, bD, aQ, gA, aJ, dB, dY, bB, cH, fJ, dK, gE, fL, fH, fG, dS, aK, cG, dG, fX, fY, fD, dE, aT, dT, fV, cP, eX, fN, cD, bL, dP, aW, dX, dR, cN, eN, eL, aY, dI, bA, dO, dW, dN, bH, cR, cM, dM, bR, cW, cV, fP, bV, eH, eJ, gF, dU, dQ, dL, dA, bG, bQ, bU, bT, aS, cX, aU, c2, c3, l1, l3]
    exact hnew _ (by omega) (by omega)
  | some v =>
    obtain ⟨x, rfl, hx⟩ := hk.assoc ha
    rw [ha] at l3
    simp only [aqV, Option.isSome_some] at l3
    by_cases hxa : x < at_
    .have d : decide ((x : Int) < (at_ : Int)) = true := by simp; omega
     simp (disch := omega) only [gD, jF, cJ, stepR_skip, hO, iB, iP, iN, iK, iO, jI, iV, gK, iC, iF, iD, iH, hJ, iM, hU, iE, iW, iS, iJ, gQ, iR, iQ, iG, kU, kV, lF, lC, lH, lE, lJ, lG, lD, gB, Result.ok.injEq, Next.value.injEq, true_and, and_true, gZ, hZ, iX, iT, iU, jG, anP, gW, gU, gX, gT, gM, gI, gN, gL, fZ, fT, if_true, if_false, anO, anS, anQ, anR, anU, anT, anN, anM, fM, fK, fB, fQ, cU, eQ, eE, dJ, bJ, fR, fE, aL, dD, aZ, bM, bP, aO, cQ, cF, eP, aF, gS, aP, cK, aR, bS, fS, cI, cC, aB, gC, fA, aI, aG, bN, gO, aN, eU, dZ, dV, gG, dH, fC, dC, eF, eZ, eY, cB, cY, gJ, eD, bZ, bF, bY, bX, fO, aD, aE, aM, aV, bE, cS, bK, aA, fF, aH, cO, fI, eT, gH, bO, eM, eK, bW, fW, eS, eI, cZ, cL, dF, aX, bD, aQ, gA, aJ, dB, dY, bB, cH, fJ, dK, gE, fL, fH, fG, dS, aK, cG, dG, fX, fY, fD, dE, aT, dT, fV, cP, eX, fN, cD, bL, dP, aW, dX, dR, cN, eN, eL, aY, dI, bA, dO, dW, dN, bH, cR, cM, dM, bR, cW, cV, fP, bV, eH, eJ, gF, dU, dQ, dL, dA, bG, bQ, bU, bT, aS, cX, aU, c2, c3, l1, l3, d]
     exact hnew _ (by omega) (by omega)
    .have d : decide ((x : Int) < (at_ : Int)) = false := by simp; omega
     simp (disch := omega) only [gD, jF, cJ, stepR_skip, hO, iB, iP, iN, iK, iO, jI, iV, gK, iC, iF, iD, iH, hJ, iM, hU, iE, iW, iS, iJ, gQ, iR, iQ, iG, kU, kV, lF, lC, lH, lE, lJ, lG, lD, gB, Result.ok.injEq, Next.value.injEq, true_and, and_true, gZ, hZ, iX, iT, iU, jG, anP, gW, gU, gX, gT, gM, gI, gN, gL, fZ, fT, if_true, if_false, anO, anS, anQ, anR, anU, anT, anN, anM, fM, fK, fB, fQ, cU, eQ, eE, dJ, bJ, fR, fE, aL, dD, aZ, bM, bP, aO, cQ, cF, eP, aF, gS, aP, cK, aR, bS, fS, cI, cC, aB, gC, fA, aI, aG, bN, gO, aN, eU, dZ, dV, gG, dH, fC, dC, eF, eZ, eY, cB, cY, gJ, eD, bZ, bF, bY, bX, fO, aD, aE, aM, aV, bE, cS, bK, aA, fF, aH, cO, fI, eT, gH, bO, eM, eK, bW, fW, eS, eI, cZ, cL, dF, aX, bD, aQ, gA, aJ, dB, dY, bB, cH, fJ, dK, gE, fL, fH, fG, dS, aK, cG, dG, fX, fY, fD, dE, aT, dT, fV, cP, eX, fN, cD, bL, dP, aW, dX, dR, cN, eN, eL, aY, dI, bA, dO, dW, dN, bH, cR, cM, dM, bR, cW, cV, fP, bV, eH, eJ, gF, dU, dQ, dL, dA, bG, bQ, bU, bT, aS, cX, aU, c2, c3, l1, l3, d]
     have := Wc (w := w) hf3 hk hd hb hkb hx0 (R := fun w' => ∃ A', VO w' p mb ab bv B to tries (noted B at_ es) A' /\ Kept (at_ + 1) (noted B at_ es) A' /\ jM w w' (fun b => b = mb ∨ b = ab)) fun w' A' a b c => ⟨A', a, b, c⟩
     rwa [decide_eq_true h4] at this
 .rw [decide_eq_false h4] at hnew ⊢
  simp (disch := omega) only [gD, jF, cJ, stepR_skip, hO, iB, iP, iN, iK, iO, jI, iV, gK, iC, iF, iD, iH, hJ, iM, hU, iE, iW, iS, iJ, gQ, iR, iQ, iG, kU, kV, lF, lC, lH, lE, lJ, lG, lD, gB, Result.ok.injEq, Next.value.injEq, true_and, and_true, gZ, hZ, iX, iT, iU, jG, anP, gW, gU, gX, gT, gM, gI, gN, gL, fZ, fT, if_true, if_false, anO, anS, anQ, anR, anU, anT, anN, anM, fM, fK, fB, fQ, cU, eQ, eE, dJ, bJ, fR, fE, aL, dD, aZ, bM, bP, aO, cQ, cF, eP, aF, gS, aP, cK, aR, bS, fS, cI, cC, aB, gC, fA, aI, aG, bN, gO, aN, eU, dZ, dV, gG, dH, fC, dC, eF, eZ, eY, cB, cY, gJ, eD, bZ, bF, bY, bX, fO, aD, aE, aM, aV, bE, cS, bK, aA, fF, aH, cO, fI, eT, gH, bO, eM, eK, bW, fW, eS, eI, cZ, cL, dF, aX, bD, aQ, gA, aJ, dB, dY, bB, cH, fJ, dK, gE, fL, fH, fG, dS, aK, cG, dG, fX, fY, fD, dE, aT, dT, fV, cP, eX, fN, cD, bL, dP, aW, dX, dR, cN, eN, eL, aY, dI, bA, dO, dW, dN, bH, cR, cM, dM, bR, cW, cV, fP, bV, eH, eJ, gF, dU, dQ, dL, dA, bG, bQ, bU, bT, aS, cX, aU, c2, c3, l1, l3]
  exact hnew _ (by omega) (by omega)
structure Bst (B : List UInt8) (to at_ n off : Nat) : Prop where
 one : (n = 0 /\ off = 0) ∨ (0 < n /\ 1 <= off /\ off <= at_ /\ Lng B to (at_ - off) at_ n)
theorem aaI {w0 w : asY} {p mb ab : Nat} {bv : asZ} {B : List UInt8} {to tries at_ : Nat} {es : List (Nw 4 × asZ)} {A : List Int} (hf : VO w0 p mb ab bv B to tries es A) (hk : Kept at_ es A) (ha : at_ <= to) (ht : tries <= 1048576) (old0 : Nat) (ho : old0 < at_)
 (hx : jM w0 w mM) {k : asZ -> asZ -> asY -> Prop}
 (hR : ∀ (n off : Nat) w', Bst B to at_ n off -> (1 <= tries -> ∀ m, Lng B to old0 at_ m -> m <= n) -> jM w0 w' mM -> k (.int .i64 n) (.int .i64 off) w') :
 tD k (.pointer (some ⟨p, 0, none⟩)) (.int .i64 at_) (.int .i64 old0) (.int .i64 0) (.int .i64 0) (.int .i64 tries) (.int .i64 0) w := by
 have hle := hf.le
 have hbig := hf.big
 have hl := hf.len
 unfold tD
 refine kE.rule (fun m t w' => ∃ old n off i : Nat, m = tries - i /\ t = (.int .i64 old, .int .i64 n, .int .i64 off, .int .i64 i) /\ i <= tries /\ old < at_ /\ Bst B to at_ n off /\ (i = 0 -> old = old0) /\ (0 < i -> ∀ m, Lng B to old0 at_ m -> m <= n) /\ n <= 131074 /\ jM w0 w' mM) tries
  ⟨old0, 0, 0, 0, rfl, rfl, by omega, ho, ⟨.inl ⟨rfl, rfl⟩⟩, fun _ => rfl, fun h => by omega, by omega, hx⟩ ?_
 rintro m t w1 ⟨old, n, off, i, rfl, rfl, hi, hold, hb, h0, h1, hn, hx⟩
 by_cases hlt : i < tries
 .have d1 : decide ((i : Int) < (tries : Int)) = true := by simp; omega
  simp (disch := omega) only [pA, lZ, pS, rD, pU, pR, pQ, oR, gD, jF, cJ, stepR_skip, hO, iB, iP, iN, iK, iO, jI, iV, gK, iC, iF, iD, iH, hJ, iM, hU, iE, iW, iS, iJ, gQ, iR, iQ, iG, kU, kV, lF, lC, lH, lE, lJ, lG, lD, gB, Result.ok.injEq, Next.value.injEq, true_and, and_true, gZ, hZ, iX, iT, iU, jG, anP, gW, gU, gX, gT, gM, gI, gN, gL, fZ, fT, if_true, if_false, anO, anS, anQ, anR, anU, anT, anN, anM, fM, fK, fB, fQ, cU, eQ, eE, dJ, bJ, fR, fE, aL, dD, aZ, bM, bP, aO, cQ, cF, eP, aF, gS, aP, cK, aR, bS, fS, cI, cC, aB, gC, fA, aI, aG, bN, gO, aN, eU, dZ, dV, gG, dH, fC, dC, eF, eZ, eY, cB, cY, gJ, eD, bZ, bF, bY, bX, fO, aD, aE, aM, aV, bE, cS, bK, aA, fF, aH, cO, fI, eT, gH, bO, eM, eK, bW, fW, eS, eI, cZ, cL, dF, aX, bD, aQ, gA, aJ, dB, dY, bB, cH, fJ, dK, gE, fL, fH, fG, dS, aK, cG, dG, fX, fY, fD, dE, aT, dT, fV, cP, eX, fN, cD, bL, dP, aW, dX, dR, cN, eN, eL, aY, dI, bA, dO, dW, dN, bH, cR, cM, dM, bR, cW, cV, fP, bV, eH, eJ, gF, dU, dQ, dL, dA, bG, bQ, bU, bT, aS, cX, aU, d1]
  refine (aiP (hf.same hx) old at_ hold (by omega)).mono ?_
  rintro r w2 ⟨n2, rfl, hl2, x2⟩
  have hx := hx.seq x2
  have hf2 := hf.same hx
  have c3 := hf2.own.cell (off := 3)
  simp only [anM, anN] at c3
  have hA := hk.ah old (by omega)
  have cA := hf2.ah.cell (off := old)
  rw [aoJ, anX (by omega)] at cA
  simp only [aoW] at cA
  have step : ∀ (n3 off3 : Nat), Bst B to at_ n3 off3 -> (∀ m, Lng B to old at_ m -> m <= n3) -> n <= n3 -> n3 <= 131074 -> lZ (fun _ _ mW jU kS _ t36 w => ∃ m', m' < tries - i /\ ∃ old n off i : Nat, m' = tries - i /\ (mW, jU, kS, IntKind.i64 |> fun k => (match t36 with | .int _ x => Value.int k (k.wrap (x + 1)) | v => v)) = ((.int .i64 old : asZ), (.int .i64 n : asZ), (.int .i64 off : asZ), (.int .i64 i : asZ)) /\ i <= tries /\ old < at_ /\ Bst B to at_ n off /\ (i = 0 -> old = old0) /\ (0 < i -> ∀ m, Lng B to old0 at_ m -> m <= n) /\ n <= 131074 /\ jM w0 w mM) k (.pointer (some ⟨p, 0, none⟩)) (.int .i64 at_) (.int .i64 old) (.int .i64 n3) (.int .i64 off3) (.int .i64 tries) (.int .i64 i) w2 := by
   intro n3 off3 hb3 hm3 hn3 h3m
   have hbest : ∀ m, Lng B to old0 at_ m -> m <= n3 := fun m hm => by
    rcases aqP i with h | h
    .rw [<- h0 h] at hm; exact hm3 m hm
    .exact apN (h1 h m hm) hn3
   by_cases hneg : A[old] < 0
   .have d2 : decide (A[old] < 0) = true := by simpa using hneg
    simp (disch := omega) only [pA, lZ, pS, rD, pU, pR, pQ, oR, gD, jF, cJ, stepR_skip, hO, iB, iP, iN, iK, iO, jI, iV, gK, iC, iF, iD, iH, hJ, iM, hU, iE, iW, iS, iJ, gQ, iR, iQ, iG, kU, kV, lF, lC, lH, lE, lJ, lG, lD, gB, Result.ok.injEq, Next.value.injEq, true_and, and_true, gZ, hZ, iX, iT, iU, jG, anP, gW, gU, gX, gT, gM, gI, gN, gL, fZ, fT, if_true, if_false, anO, anS, anQ, anR, anU, anT, anN, anM, fM, fK, fB, fQ, cU, eQ, eE, dJ, bJ, fR, fE, aL, dD, aZ, bM, bP, aO, cQ, cF, eP, aF, gS, aP, cK, aR, bS, fS, cI, cC, aB, gC, fA, aI, aG, bN, gO, aN, eU, dZ, dV, gG, dH, fC, dC, eF, eZ, eY, cB, cY, gJ, eD, bZ, bF, bY, bX, fO, aD, aE, aM, aV, bE, cS, bK, aA, fF, aH, cO, fI, eT, gH, bO, eM, eK, bW, fW, eS, eI, cZ, cL, dF, aX, bD, aQ, gA, aJ, dB, dY, bB, cH, fJ, dK, gE, fL, fH, fG, dS, aK, cG, dG, fX, fY, fD, dE, aT, dT, fV, cP, eX, fN, cD, bL, dP, aW, dX, dR, cN, eN, eL, aY, dI, bA, dO, dW, dN, bH, cR, cM, dM, bR, cW, cV, fP, bV, eH, eJ, gF, dU, dQ, dL, dA, bG, bQ, bU, bT, aS, cX, aU, c3, cA, d2]
    exact hR _ _ _ hb3 (fun _ => hbest) hx
   .have d2 : decide (A[old] < 0) = false := by simpa using hneg
    simp (disch := omega) only [pA, lZ, pS, rD, pU, pR, pQ, oR, gD, jF, cJ, stepR_skip, hO, iB, iP, iN, iK, iO, jI, iV, gK, iC, iF, iD, iH, hJ, iM, hU, iE, iW, iS, iJ, gQ, iR, iQ, iG, kU, kV, lF, lC, lH, lE, lJ, lG, lD, gB, Result.ok.injEq, Next.value.injEq, true_and, and_true, gZ, hZ, iX, iT, iU, jG, anP, gW, gU, gX, gT, gM, gI, gN, gL, fZ, fT, if_true, if_false, anO, anS, anQ, anR, anU, anT, anN, anM, fM, fK, fB, fQ, cU, eQ, eE, dJ, bJ, fR, fE, aL, dD, aZ, bM, bP, aO, cQ, cF, eP, aF, gS, aP, cK, aR, bS, fS, cI, cC, aB, gC, fA, aI, aG, bN, gO, aN, eU, dZ, dV, gG, dH, fC, dC, eF, eZ, eY, cB, cY, gJ, eD, bZ, bF, bY, bX, fO, aD, aE, aM, aV, bE, cS, bK, aA, fF, aH, cO, fI, eT, gH, bO, eM, eK, bW, fW, eS, eI, cZ, cL, dF, aX, bD, aQ, gA, aJ, dB, dY, bB, cH, fJ, dK, gE, fL, fH, fG, dS, aK, cG, dG, fX, fY, fD, dE, aT, dT, fV, cP, eX, fN, cD, bL, dP, aW, dX, dR, cN, eN, eL, aY, dI, bA, dO, dW, dN, bH, cR, cM, dM, bR, cW, cV, fP, bV, eH, eJ, gF, dU, dQ, dL, dA, bG, bQ, bU, bT, aS, cX, aU, c3, cA, d2]
    have e : A[old] = ((A[old].toNat : Nat) : Int) := by omega
    refine ⟨tries - (i + 1), by omega, A[old].toNat, n3, off3, i + 1, rfl, ?_, by omega, by omega, hb3, fun h => by omega, fun _ => hbest, h3m, hx⟩
    rw [<- e]
    rfl
  by_cases hg : n < n2
  .have d2 : decide ((n : Int) < (n2 : Int)) = true := by simp; omega
   have := step n2 (at_ - old) ⟨.inr ⟨by omega, by omega, by omega, by rw [show at_ - (at_ - old) = old from by omega]; exact hl2⟩⟩ (fun m hm => hm.le_of hl2) (by omega) hl2.most
   have e1 : ((at_ : Int) - (old : Int)) = ((at_ - old : Nat) : Int) := by omega
   unfold lZ at this
   simp (disch := omega) only [gD, jF, cJ, stepR_skip, hO, iB, iP, iN, iK, iO, jI, iV, gK, iC, iF, iD, iH, hJ, iM, hU, iE, iW, iS, iJ, gQ, iR, iQ, iG, kU, kV, lF, lC, lH, lE, lJ, lG, lD, gB, Result.ok.injEq, Next.value.injEq, true_and, and_true, gZ, hZ, iX, iT, iU, jG, anP, gW, gU, gX, gT, gM, gI, gN, gL, fZ, fT, if_true, if_false, anO, anS, anQ, anR, anU, anT, anN, anM, fM, fK, fB, fQ, cU, eQ, eE, dJ, bJ, fR, fE, aL, dD, aZ, bM, bP, aO, cQ, cF, eP, aF, gS, aP, cK, aR, bS, fS, cI, cC, aB, gC, fA, aI, aG, bN, gO, aN, eU, dZ, dV, gG, dH, fC, dC, eF, eZ, eY, cB, cY, gJ, eD, bZ, bF, bY, bX, fO, aD, aE, aM, aV, bE, cS, bK, aA, fF, aH, cO, fI, eT, gH, bO, eM, eK, bW, fW, eS, eI, cZ, cL, dF, aX, bD, aQ, gA, aJ, dB, dY, bB, cH, fJ, dK, gE, fL, fH, fG, dS, aK, cG, dG, fX, fY, fD, dE, aT, dT, fV, cP, eX, fN, cD, bL, dP, aW, dX, dR, cN, eN, eL, aY, dI, bA, dO, dW, dN, bH, cR, cM, dM, bR, cW, cV, fP, bV, eH, eJ, gF, dU, dQ, dL, dA, bG, bQ, bU, bT, aS, cX, aU, d2, e1, c3, cA]
   simp (disch := omega) only [gD, jF, cJ, stepR_skip, hO, iB, iP, iN, iK, iO, jI, iV, gK, iC, iF, iD, iH, hJ, iM, hU, iE, iW, iS, iJ, gQ, iR, iQ, iG, kU, kV, lF, lC, lH, lE, lJ, lG, lD, gB, Result.ok.injEq, Next.value.injEq, true_and, and_true, gZ, hZ, iX, iT, iU, jG, anP, gW, gU, gX, gT, gM, gI, gN, gL, fZ, fT, if_true, if_false, anO, anS, anQ, anR, anU, anT, anN, anM, fM, fK, fB, fQ, cU, eQ, eE, dJ, bJ, fR, fE, aL, dD, aZ, bM, bP, aO, cQ, cF, eP, aF, gS, aP, cK, aR, bS, fS, cI, cC, aB, gC, fA, aI, aG, bN, gO, aN, eU, dZ, dV, gG, dH, fC, dC, eF, eZ, eY, cB, cY, gJ, eD, bZ, bF, bY, bX, fO, aD, aE, aM, aV, bE, cS, bK, aA, fF, aH, cO, fI, eT, gH, bO, eM, eK, bW, fW, eS, eI, cZ, cL, dF, aX, bD, aQ, gA, aJ, dB, dY, bB, cH, fJ, dK, gE, fL, fH, fG, dS, aK, cG, dG, fX, fY, fD, dE, aT, dT, fV, cP, eX, fN, cD, bL, dP, aW, dX, dR, cN, eN, eL, aY, dI, bA, dO, dW, dN, bH, cR, cM, dM, bR, cW, cV, fP, bV, eH, eJ, gF, dU, dQ, dL, dA, bG, bQ, bU, bT, aS, cX, aU, c3, cA] at this
   exact this
  .have d2 : decide ((n : Int) < (n2 : Int)) = false := by simp; omega
   have := step n off hb (fun m hm => apN (hm.le_of hl2) (by omega)) (aoA _) hn
   unfold lZ at this
   simp (disch := omega) only [gD, jF, cJ, stepR_skip, hO, iB, iP, iN, iK, iO, jI, iV, gK, iC, iF, iD, iH, hJ, iM, hU, iE, iW, iS, iJ, gQ, iR, iQ, iG, kU, kV, lF, lC, lH, lE, lJ, lG, lD, gB, Result.ok.injEq, Next.value.injEq, true_and, and_true, gZ, hZ, iX, iT, iU, jG, anP, gW, gU, gX, gT, gM, gI, gN, gL, fZ, fT, if_true, if_false, anO, anS, anQ, anR, anU, anT, anN, anM, fM, fK, fB, fQ, cU, eQ, eE, dJ, bJ, fR, fE, aL, dD, aZ, bM, bP, aO, cQ, cF, eP, aF, gS, aP, cK, aR, bS, fS, cI, cC, aB, gC, fA, aI, aG, bN, gO, aN, eU, dZ, dV, gG, dH, fC, dC, eF, eZ, eY, cB, cY, gJ, eD, bZ, bF, bY, bX, fO, aD, aE, aM, aV, bE, cS, bK, aA, fF, aH, cO, fI, eT, gH, bO, eM, eK, bW, fW, eS, eI, cZ, cL, dF, aX, bD, aQ, gA, aJ, dB, dY, bB, cH, fJ, dK, gE, fL, fH, fG, dS, aK, cG, dG, fX, fY, fD, dE, aT, dT, fV, cP, eX, fN, cD, bL, dP, aW, dX, dR, cN, eN, eL, aY, dI, bA, dO, dW, dN, bH, cR, cM, dM, bR, cW, cV, fP, bV, eH, eJ, gF, dU, dQ, dL, dA, bG, bQ, bU, bT, aS, cX, aU, d2, c3, cA]
   simp (disch := omega) only [gD, jF, cJ, stepR_skip, hO, iB, iP, iN, iK, iO, jI, iV, gK, iC, iF, iD, iH, hJ, iM, hU, iE, iW, iS, iJ, gQ, iR, iQ, iG, kU, kV, lF, lC, lH, lE, lJ, lG, lD, gB, Result.ok.injEq, Next.value.injEq, true_and, and_true, gZ, hZ, iX, iT, iU, jG, anP, gW, gU, gX, gT, gM, gI, gN, gL, fZ, fT, if_true, if_false, anO, anS, anQ, anR, anU, anT, anN, anM, fM, fK, fB, fQ, cU, eQ, eE, dJ, bJ, fR, fE, aL, dD, aZ, bM, bP, aO, cQ, cF, eP, aF, gS, aP, cK, aR, bS, fS, cI, cC, aB, gC, fA, aI, aG, bN, gO, aN, eU, dZ, dV, gG, dH, fC, dC, eF, eZ, eY, cB, cY, gJ, eD, bZ, bF, bY, bX, fO, aD, aE, aM, aV, bE, cS, bK, aA, fF, aH, cO, fI, eT, gH, bO, eM, eK, bW, fW, eS, eI, cZ, cL, dF, aX, bD, aQ, gA, aJ, dB, dY, bB, cH, fJ, dK, gE, fL, fH, fG, dS, aK, cG, dG, fX, fY, fD, dE, aT, dT, fV, cP, eX, fN, cD, bL, dP, aW, dX, dR, cN, eN, eL, aY, dI, bA, dO, dW, dN, bH, cR, cM, dM, bR, cW, cV, fP, bV, eH, eJ, gF, dU, dQ, dL, dA, bG, bQ, bU, bT, aS, cX, aU, c3, cA] at this
   exact this
 .have d1 : decide ((i : Int) < (tries : Int)) = false := by simp; omega
  simp (disch := omega) only [pA, lZ, pS, rD, pU, pR, pQ, oR, gD, jF, cJ, stepR_skip, hO, iB, iP, iN, iK, iO, jI, iV, gK, iC, iF, iD, iH, hJ, iM, hU, iE, iW, iS, iJ, gQ, iR, iQ, iG, kU, kV, lF, lC, lH, lE, lJ, lG, lD, gB, Result.ok.injEq, Next.value.injEq, true_and, and_true, gZ, hZ, iX, iT, iU, jG, anP, gW, gU, gX, gT, gM, gI, gN, gL, fZ, fT, if_true, if_false, anO, anS, anQ, anR, anU, anT, anN, anM, fM, fK, fB, fQ, cU, eQ, eE, dJ, bJ, fR, fE, aL, dD, aZ, bM, bP, aO, cQ, cF, eP, aF, gS, aP, cK, aR, bS, fS, cI, cC, aB, gC, fA, aI, aG, bN, gO, aN, eU, dZ, dV, gG, dH, fC, dC, eF, eZ, eY, cB, cY, gJ, eD, bZ, bF, bY, bX, fO, aD, aE, aM, aV, bE, cS, bK, aA, fF, aH, cO, fI, eT, gH, bO, eM, eK, bW, fW, eS, eI, cZ, cL, dF, aX, bD, aQ, gA, aJ, dB, dY, bB, cH, fJ, dK, gE, fL, fH, fG, dS, aK, cG, dG, fX, fY, fD, dE, aT, dT, fV, cP, eX, fN, cD, bL, dP, aW, dX, dR, cN, eN, eL, aY, dI, bA, dO, dW, dN, bH, cR, cM, dM, bR, cW, cV, fP, bV, eH, eJ, gF, dU, dQ, dL, dA, bG, bQ, bU, bT, aS, cX, aU, d1]
  exact hR _ _ _ hb (fun ht => h1 (by omega)) hx
theorem afR {w : asY} {p mb ab : Nat} {bv : asZ} {B : List UInt8} {to tries at_ : Nat} {es : List (Nw 4 × asZ)} {A : List Int} (hf : VO w p mb ab bv B to tries es A) (hk : Kept at_ es A) (ha : at_ <= to) (ht : tries <= 1048576) :
 jD pg rR #[.pointer (some ⟨p, 0, none⟩), .int .i64 at_] w (fun r w' => ∃ n off : Nat, r = .tuple #[.int .i64 n, .int .i64 off] /\ Bst B to at_ n off /\
  (at_ + 4 <= B.length -> 1 <= tries -> ∀ old : Nat, assoc (rP B at_) es = some (.int .i64 old) -> ∀ m, Lng B to old at_ m -> m <= n) /\ jM w w' mM) := by
 have hle := hf.le
 have hbig := hf.big
 refine Lw ?_
 unfold Jh yZ yP yX Ew yW
 refine (Zs hf at_ (by omega)).mono ?_
 rintro r w1 ⟨rfl, x1⟩
 have hf1 := hf.same x1
 have hlen := (rP B at_).2
 simp (disch := omega) only [gD, jF, cJ, stepR_skip, hO, iB, iP, iN, iK, iO, jI, iV, gK, iC, iF, iD, iH, hJ, iM, hU, iE, iW, iS, iJ, gQ, iR, iQ, iG, kU, kV, lF, lC, lH, lE, lJ, lG, lD, gB, Result.ok.injEq, Next.value.injEq, true_and, and_true, gZ, hZ, iX, iT, iU, jG, anP, gW, gU, gX, gT, gM, gI, gN, gL, fZ, fT, if_true, if_false, anO, anS, anQ, anR, anU, anT, anN, anM, fM, fK, fB, fQ, cU, eQ, eE, dJ, bJ, fR, fE, aL, dD, aZ, bM, bP, aO, cQ, cF, eP, aF, gS, aP, cK, aR, bS, fS, cI, cC, aB, gC, fA, aI, aG, bN, gO, aN, eU, dZ, dV, gG, dH, fC, dC, eF, eZ, eY, cB, cY, gJ, eD, bZ, bF, bY, bX, fO, aD, aE, aM, aV, bE, cS, bK, aA, fF, aH, cO, fI, eT, gH, bO, eM, eK, bW, fW, eS, eI, cZ, cL, dF, aX, bD, aQ, gA, aJ, dB, dY, bB, cH, fJ, dK, gE, fL, fH, fG, dS, aK, cG, dG, fX, fY, fD, dE, aT, dT, fV, cP, eX, fN, cD, bL, dP, aW, dX, dR, cN, eN, eL, aY, dI, bA, dO, dW, dN, bH, cR, cM, dM, bR, cW, cV, fP, bV, eH, eJ, gF, dU, dQ, dL, dA, bG, bQ, bU, bT, aS, cX, aU]
 refine Lj fun w2 o2 x2 s2 => ?_
 refine F2 o2 (by simp [hlen]) (DE _) (by simp) fun w3 o3 x3 s3 => ?_
 have e3 : qM [.int .u8 0, .int .u8 0, .int .u8 0, .int .u8 0] 0 ((rP B at_).1.map pB) = (rP B at_).1.map pB := by
  generalize (rP B at_).1.map pB = l, (show ((rP B at_).1.map pB).length = 4 by simp [hlen]) = hl
  match l, hl with
  | [a, b, c, d], _ => rfl
 simp only [List.toList_toArray] at o3
 rw [e3] at o3
 have x3 : jM w w3 mM := x1.seq (x2.new x3 (aoA _))
 by_cases h4 : at_ + 4 <= B.length
 .rw [decide_eq_true h4]
  have hf3 := (hf.same x3).dr
  have hkb := GI o3
  have c2 := hf3.own.cell (off := 2)
  have c4 := hf3.own.cell (off := 4)
  simp only [anM, anN] at c2 c4
  have l1 := JB (off := 0) hkb (by simp [hlen])
  have l2 : (((rP B at_).1.map pB).drop 0).take 4 = (rP B at_).1.map pB := by rw [aqQ, aoF (by simp [hlen])]
  rw [l2] at l1
  have l3 := Gl hf3.map (rP B at_)
  unfold Rv at l3
  cases has : En.assoc (rP B at_) es with
  | none =>
    rw [has] at l3
    simp only [Option.getD_none, Option.isSome_none] at l3
    simp (disch := omega) only [gD, jF, cJ, stepR_skip, hO, iB, iP, iN, iK, iO, jI, iV, gK, iC, iF, iD, iH, hJ, iM, hU, iE, iW, iS, iJ, gQ, iR, iQ, iG, kU, kV, lF, lC, lH, lE, lJ, lG, lD, gB, Result.ok.injEq, Next.value.injEq, true_and, and_true, gZ, hZ, iX, iT, iU, jG, anP, gW, gU, gX, gT, gM, gI, gN, gL, fZ, fT, if_true, if_false, anO, anS, anQ, anR, anU, anT, anN, anM, fM, fK, fB, fQ, cU, eQ, eE, dJ, bJ, fR, fE, aL, dD, aZ, bM, bP, aO, cQ, cF, eP, aF, gS, aP, cK, aR, bS, fS, cI, cC, aB, gC, fA, aI, aG, bN, gO, aN, eU, dZ, dV, gG, dH, fC, dC, eF, eZ, eY, cB, cY, gJ, eD, bZ, bF, bY, bX, fO, aD, aE, aM, aV, bE, cS, bK, aA, fF, aH, cO, fI, eT, gH, bO, eM, eK, bW, fW, eS, eI, cZ, cL, dF, aX, bD, aQ, gA, aJ, dB, dY, bB, cH, fJ, dK, gE, fL, fH, fG, dS, aK, cG, dG, fX, fY, fD, dE, aT, dT, fV, cP, eX, fN, cD, bL, dP, aW, dX, dR, cN, eN, eL, aY, dI, bA, dO, dW, dN, bH, cR, cM, dM, bR, cW, cV, fP, bV, eH, eJ, gF, dU, dQ, dL, dA, bG, bQ, bU, bT, aS, cX, aU, c2, l1, l3]
    exact ⟨0, 0, rfl, ⟨.inl ⟨rfl, rfl⟩⟩, (by intro _ _ old h; cases h), x3.seq (jM.dr _ _)⟩
  | some v =>
    obtain ⟨x, rfl, hxa⟩ := hk.assoc has
    rw [has] at l3
    simp only [aqV, Option.isSome_some] at l3
    simp (disch := omega) only [gD, jF, cJ, stepR_skip, hO, iB, iP, iN, iK, iO, jI, iV, gK, iC, iF, iD, iH, hJ, iM, hU, iE, iW, iS, iJ, gQ, iR, iQ, iG, kU, kV, lF, lC, lH, lE, lJ, lG, lD, gB, Result.ok.injEq, Next.value.injEq, true_and, and_true, gZ, hZ, iX, iT, iU, jG, anP, gW, gU, gX, gT, gM, gI, gN, gL, fZ, fT, if_true, if_false, anO, anS, anQ, anR, anU, anT, anN, anM, fM, fK, fB, fQ, cU, eQ, eE, dJ, bJ, fR, fE, aL, dD, aZ, bM, bP, aO, cQ, cF, eP, aF, gS, aP, cK, aR, bS, fS, cI, cC, aB, gC, fA, aI, aG, bN, gO, aN, eU, dZ, dV, gG, dH, fC, dC, eF, eZ, eY, cB, cY, gJ, eD, bZ, bF, bY, bX, fO, aD, aE, aM, aV, bE, cS, bK, aA, fF, aH, cO, fI, eT, gH, bO, eM, eK, bW, fW, eS, eI, cZ, cL, dF, aX, bD, aQ, gA, aJ, dB, dY, bB, cH, fJ, dK, gE, fL, fH, fG, dS, aK, cG, dG, fX, fY, fD, dE, aT, dT, fV, cP, eX, fN, cD, bL, dP, aW, dX, dR, cN, eN, eL, aY, dI, bA, dO, dW, dN, bH, cR, cM, dM, bR, cW, cV, fP, bV, eH, eJ, gF, dU, dQ, dL, dA, bG, bQ, bU, bT, aS, cX, aU, c2, l1, l3]
    unfold zF yY zE
    simp (disch := omega) only [gD, jF, cJ, stepR_skip, hO, iB, iP, iN, iK, iO, jI, iV, gK, iC, iF, iD, iH, hJ, iM, hU, iE, iW, iS, iJ, gQ, iR, iQ, iG, kU, kV, lF, lC, lH, lE, lJ, lG, lD, gB, Result.ok.injEq, Next.value.injEq, true_and, and_true, gZ, hZ, iX, iT, iU, jG, anP, gW, gU, gX, gT, gM, gI, gN, gL, fZ, fT, if_true, if_false, anO, anS, anQ, anR, anU, anT, anN, anM, fM, fK, fB, fQ, cU, eQ, eE, dJ, bJ, fR, fE, aL, dD, aZ, bM, bP, aO, cQ, cF, eP, aF, gS, aP, cK, aR, bS, fS, cI, cC, aB, gC, fA, aI, aG, bN, gO, aN, eU, dZ, dV, gG, dH, fC, dC, eF, eZ, eY, cB, cY, gJ, eD, bZ, bF, bY, bX, fO, aD, aE, aM, aV, bE, cS, bK, aA, fF, aH, cO, fI, eT, gH, bO, eM, eK, bW, fW, eS, eI, cZ, cL, dF, aX, bD, aQ, gA, aJ, dB, dY, bB, cH, fJ, dK, gE, fL, fH, fG, dS, aK, cG, dG, fX, fY, fD, dE, aT, dT, fV, cP, eX, fN, cD, bL, dP, aW, dX, dR, cN, eN, eL, aY, dI, bA, dO, dW, dN, bH, cR, cM, dM, bR, cW, cV, fP, bV, eH, eJ, gF, dU, dQ, dL, dA, bG, bQ, bU, bT, aS, cX, aU, c4]
    refine aaI hf hk ha ht x hxa (x3.seq (jM.dr _ _)) fun n off w' hb hm hx => ?_
    exact ⟨n, off, rfl, hb, fun _ ht old h m hl => (by cases h; exact hm ht m hl), hx⟩
 .rw [decide_eq_false h4]
  simp (disch := omega) only [gD, jF, cJ, stepR_skip, hO, iB, iP, iN, iK, iO, jI, iV, gK, iC, iF, iD, iH, hJ, iM, hU, iE, iW, iS, iJ, gQ, iR, iQ, iG, kU, kV, lF, lC, lH, lE, lJ, lG, lD, gB, Result.ok.injEq, Next.value.injEq, true_and, and_true, gZ, hZ, iX, iT, iU, jG, anP, gW, gU, gX, gT, gM, gI, gN, gL, fZ, fT, if_true, if_false, anO, anS, anQ, anR, anU, anT, anN, anM, fM, fK, fB, fQ, cU, eQ, eE, dJ, bJ, fR, fE, aL, dD, aZ, bM, bP, aO, cQ, cF, eP, aF, gS, aP, cK, aR, bS, fS, cI, cC, aB, gC, fA, aI, aG, bN, gO, aN, eU, dZ, dV, gG, dH, fC, dC, eF, eZ, eY, cB, cY, gJ, eD, bZ, bF, bY, bX, fO, aD, aE, aM, aV, bE, cS, bK, aA, fF, aH, cO, fI, eT, gH, bO, eM, eK, bW, fW, eS, eI, cZ, cL, dF, aX, bD, aQ, gA, aJ, dB, dY, bB, cH, fJ, dK, gE, fL, fH, fG, dS, aK, cG, dG, fX, fY, fD, dE, aT, dT, fV, cP, eX, fN, cD, bL, dP, aW, dX, dR, cN, eN, eL, aY, dI, bA, dO, dW, dN, bH, cR, cM, dM, bR, cW, cV, fP, bV, eH, eJ, gF, dU, dQ, dL, dA, bG, bQ, bU, bT, aS, cX, aU]
  exact ⟨0, 0, rfl, ⟨.inl ⟨rfl, rfl⟩⟩, fun h => absurd h h4, x3⟩
abbrev Sq := Nat × Nat × Nat
def YY (B : List UInt8) (to a : Nat) (s : Sq) : Prop := a + s.1 + s.2.1 <= to /\ 3 <= s.2.1 /\ s.2.1 <= 131074 /\ 1 <= s.2.2 /\ s.2.2 <= a + s.1 /\ ∀ k, k < s.2.1 -> B[a + s.1 + k]? = B[a + s.1 + k - s.2.2]?
def X0 (B : List UInt8) (to : Nat) : Nat -> List Sq -> Nat -> Prop
 | a, [], b => a = b
 | a, s :: r, b => YY B to a s /\ X0 B to (a + s.1 + s.2.1) r b
def flat : List Sq -> List asZ
 | [] => []
 | s :: r => .int .u32 s.1 :: .int .u32 s.2.1 :: .int .u32 s.2.2 :: flat r
theorem V6 (s : Sq) : ∀ L : List Sq, flat (L ++ [s]) = flat L ++ [.int .u32 s.1, .int .u32 s.2.1, .int .u32 s.2.2]
 | [] => rfl
 | x :: r => by simp [flat, V6 s r]
theorem Wz {B : List UInt8} {to : Nat} {s : Sq} : ∀ {L : List Sq} {a b : Nat}, X0 B to a L b -> YY B to b s -> X0 B to a (L ++ [s]) (b + s.1 + s.2.1)
 | [], a, b, h, hs => by obtain rfl : a = b := h; exact ⟨hs, rfl⟩
 | x :: r, a, b, h, hs => ⟨h.1, Wz h.2 hs⟩
theorem UK {B : List UInt8} {to : Nat} : ∀ {L : List Sq} {a b : Nat}, X0 B to a L b -> a <= to -> a + 3 * L.length <= b /\ b <= to
 | [], a, b, h, hs => by obtain rfl : a = b := h; simp; omega
 | x :: r, a, b, h, hs => by
   have h1 := h.1
   unfold YY at h1
   have := UK h.2 h1.1
   simp only [aoG]
   omega
structure Dst (w0 : asY) (p mb ab base : Nat) (bv : asZ) : Prop where
 ne : p ≠ mb /\ p ≠ ab /\ mb ≠ ab
 lo : w0.heap.size <= p /\ w0.heap.size <= mb /\ w0.heap.size <= ab
 hi : p < base /\ mb < base /\ ab < base
 bo : ¬ KZ bv (fun b => w0.heap.size <= b)
structure XR (w0 w : asY) (p mb ab base : Nat) (bv : asZ) (B : List UInt8) (to tries : Nat) (es : List (Nw 4 × asZ)) (A : List Int) (out : asZ) (L : List Sq) (a0 begun : Nat) : Prop where
 f : VO w p mb ab bv B to tries es A
 o : xH w base 3 out L.length (flat L)
 pl : X0 B to a0 L begun
 x : jM w0 w mM
 hs : base <= w.heap.size
section
variable {w0 w : asY} {p mb ab base : Nat} {bv : asZ} {B : List UInt8} {to tries : Nat} {es : List (Nw 4 × asZ)} {A : List Int} {out : asZ} {L : List Sq} {a0 begun : Nat}
theorem XR.same {w' : asY} (h : XR w0 w p mb ab base bv B to tries es A out L a0 begun) (hx : jM w w' mM) : XR w0 w' p mb ab base bv B to tries es A out L a0 begun :=
 ⟨h.f.same hx, h.o.ext hx (fun _ _ h => h), h.pl, h.x.seq hx, apN h.hs hx.size⟩
theorem UJ (D : Dst w0 p mb ab base bv) (h : XR w0 w p mb ab base bv B to tries es A out L a0 begun) {j : Nat} (hk : Kept (j + 1) es A) (hj : j < to) :
 jD pg oA #[.pointer (some ⟨p, 0, none⟩), .int .i64 j] w (fun _ w' => ∃ A', XR w0 w' p mb ab base bv B to tries (noted B j es) A' out L a0 begun /\ Kept (j + 1) (noted B j es) A') := by
 have d1 := D.lo
 have d2 := D.hi
 refine (ajH h.f hk D.ne (fun hh => D.bo (B2 hh fun b hb => by rcases hb with rfl | rfl <;> omega)) hj).mono ?_
 rintro r w' ⟨A', f, k, x⟩
 refine ⟨A', ⟨f, h.o.ext x (fun b hb hh => by omega), h.pl, h.x.trans x (fun b hb hh => by omega), apN h.hs x.size⟩, k⟩
theorem adC (D : Dst w0 p mb ab base bv) {at_ e q : Nat} (h : XR w0 w p mb ab base bv B to tries es A out L a0 begun) (hk : Kept q es A) (hq : q <= at_ + 1) (hlt : at_ < e) (he : e <= to) (hb : B.length <= 4294967295)
 {t2 lv : asZ} {k : asZ -> asZ -> asZ -> asZ -> asZ -> asY -> Prop}
 (hR : ∀ w' es' A', XR w0 w' p mb ab base bv B to tries es' A' out L a0 begun -> Kept e es' A' -> k t2 lv (.pointer (some ⟨p, 0, none⟩)) out (.int .i64 e) w') :
 F8 k t2 lv (.pointer (some ⟨p, 0, none⟩)) out (.int .i64 at_) (.int .i64 e) w := by
 have hle := h.f.le
 unfold F8
 refine kE.rule (fun m t w' => ∃ (j q : Nat) (es' : List (Nw 4 × asZ)) (A' : List Int), m = e - j /\ t = .int .i64 j /\ at_ <= j /\ j <= e /\ XR w0 w' p mb ab base bv B to tries es' A' out L a0 begun /\ Kept q es' A' /\ q <= j + 1 /\ (at_ < j -> q <= j)) (e - at_)
  ⟨at_, q, es, A, rfl, rfl, aoA _, by omega, h, hk, hq, fun h => by omega⟩ ?_
 rintro m t w1 ⟨j, q, es1, A1, rfl, rfl, h1, h2, h3, h4, h5, h6⟩
 by_cases hj : j < e
 .have d1 : decide ((j : Int) < (e : Int)) = true := by simp; omega
  simp (disch := omega) only [B1, gD, jF, cJ, stepR_skip, hO, iB, iP, iN, iK, iO, jI, iV, gK, iC, iF, iD, iH, hJ, iM, hU, iE, iW, iS, iJ, gQ, iR, iQ, iG, kU, kV, lF, lC, lH, lE, lJ, lG, lD, gB, Result.ok.injEq, Next.value.injEq, true_and, and_true, gZ, hZ, iX, iT, iU, jG, anP, gW, gU, gX, gT, gM, gI, gN, gL, fZ, fT, if_true, if_false, anO, anS, anQ, anR, anU, anT, anN, anM, fM, fK, fB, fQ, cU, eQ, eE, dJ, bJ, fR, fE, aL, dD, aZ, bM, bP, aO, cQ, cF, eP, aF, gS, aP, cK, aR, bS, fS, cI, cC, aB, gC, fA, aI, aG, bN, gO, aN, eU, dZ, dV, gG, dH, fC, dC, eF, eZ, eY, cB, cY, gJ, eD, bZ, bF, bY, bX, fO, aD, aE, aM, aV, bE, cS, bK, aA, fF, aH, cO, fI, eT, gH, bO, eM, eK, bW, fW, eS, eI, cZ, cL, dF, aX, bD, aQ, gA, aJ, dB, dY, bB, cH, fJ, dK, gE, fL, fH, fG, dS, aK, cG, dG, fX, fY, fD, dE, aT, dT, fV, cP, eX, fN, cD, bL, dP, aW, dX, dR, cN, eN, eL, aY, dI, bA, dO, dW, dN, bH, cR, cM, dM, bR, cW, cV, fP, bV, eH, eJ, gF, dU, dQ, dL, dA, bG, bQ, bU, bT, aS, cX, aU, d1]
  refine (UJ D h3 (h4.mono h5) (by omega)).mono ?_
  rintro r w2 ⟨A2, f2, k2⟩
  exact ⟨e - (j + 1), by omega, j + 1, j + 1, _, A2, rfl, rfl, by omega, by omega, f2, k2, by omega, fun _ => aoA _⟩
 .have d1 : decide ((j : Int) < (e : Int)) = false := by simp; omega
  have : j = e := by omega
  subst this
  simp (disch := omega) only [B1, gD, jF, cJ, stepR_skip, hO, iB, iP, iN, iK, iO, jI, iV, gK, iC, iF, iD, iH, hJ, iM, hU, iE, iW, iS, iJ, gQ, iR, iQ, iG, kU, kV, lF, lC, lH, lE, lJ, lG, lD, gB, Result.ok.injEq, Next.value.injEq, true_and, and_true, gZ, hZ, iX, iT, iU, jG, anP, gW, gU, gX, gT, gM, gI, gN, gL, fZ, fT, if_true, if_false, anO, anS, anQ, anR, anU, anT, anN, anM, fM, fK, fB, fQ, cU, eQ, eE, dJ, bJ, fR, fE, aL, dD, aZ, bM, bP, aO, cQ, cF, eP, aF, gS, aP, cK, aR, bS, fS, cI, cC, aB, gC, fA, aI, aG, bN, gO, aN, eU, dZ, dV, gG, dH, fC, dC, eF, eZ, eY, cB, cY, gJ, eD, bZ, bF, bY, bX, fO, aD, aE, aM, aV, bE, cS, bK, aA, fF, aH, cO, fI, eT, gH, bO, eM, eK, bW, fW, eS, eI, cZ, cL, dF, aX, bD, aQ, gA, aJ, dB, dY, bB, cH, fJ, dK, gE, fL, fH, fG, dS, aK, cG, dG, fX, fY, fD, dE, aT, dT, fV, cP, eX, fN, cD, bL, dP, aW, dX, dR, cN, eN, eL, aY, dI, bA, dO, dW, dN, bH, cR, cM, dM, bR, cW, cV, fP, bV, eH, eJ, gF, dU, dQ, dL, dA, bG, bQ, bU, bT, aS, cX, aU, d1]
  exact hR _ _ _ h3 (h4.mono (h6 hlt))
theorem ahT (D : Dst w0 p mb ab base bv) {at_ n off q : Nat} (h : XR w0 w p mb ab base bv B to tries es A out L a0 begun) (h0 : a0 <= to) (hk : Kept q es A) (hq : q <= at_ + 1) (hbe : begun <= at_) (hbst : Bst B to at_ n off) (hn : 4 <= n) (hb : B.length <= 4294967295)
 {t2 lv : asZ} {k : asZ -> asZ -> asZ -> asZ -> asZ -> asZ -> asY -> Prop}
 (hR : ∀ w' es' A' out' s, XR w0 w' p mb ab base bv B to tries es' A' out' (L ++ [s]) a0 (at_ + n) -> at_ + n <= to -> Kept (at_ + n) es' A' -> k t2 lv (.pointer (some ⟨p, 0, none⟩)) out' (.int .i64 ((at_ + n : Nat) : Int)) (.int .i64 ((at_ + n : Nat) : Int)) w') :
 AD k t2 lv (.pointer (some ⟨p, 0, none⟩)) out (.int .i64 begun) (.int .i64 at_) (.int .i64 n) (.int .i64 off) w := by
 have hle := h.f.le
 rcases hbst.one with ⟨rfl, rfl⟩ | ⟨hn0, ho1, ho2, hl⟩
 .omega
 have hend : at_ + n <= to := by rcases hl.le with h | h <;> omega
 have hm := hl.most
 have hpl := UK h.pl h0
 unfold AD Jw
 have e1 : (at_ : Int) - (begun : Int) = ((at_ - begun : Nat) : Int) := by omega
 simp (disch := omega) only [gD, jF, cJ, stepR_skip, hO, iB, iP, iN, iK, iO, jI, iV, gK, iC, iF, iD, iH, hJ, iM, hU, iE, iW, iS, iJ, gQ, iR, iQ, iG, kU, kV, lF, lC, lH, lE, lJ, lG, lD, gB, Result.ok.injEq, Next.value.injEq, true_and, and_true, gZ, hZ, iX, iT, iU, jG, anP, gW, gU, gX, gT, gM, gI, gN, gL, fZ, fT, if_true, if_false, anO, anS, anQ, anR, anU, anT, anN, anM, fM, fK, fB, fQ, cU, eQ, eE, dJ, bJ, fR, fE, aL, dD, aZ, bM, bP, aO, cQ, cF, eP, aF, gS, aP, cK, aR, bS, fS, cI, cC, aB, gC, fA, aI, aG, bN, gO, aN, eU, dZ, dV, gG, dH, fC, dC, eF, eZ, eY, cB, cY, gJ, eD, bZ, bF, bY, bX, fO, aD, aE, aM, aV, bE, cS, bK, aA, fF, aH, cO, fI, eT, gH, bO, eM, eK, bW, fW, eS, eI, cZ, cL, dF, aX, bD, aQ, gA, aJ, dB, dY, bB, cH, fJ, dK, gE, fL, fH, fG, dS, aK, cG, dG, fX, fY, fD, dE, aT, dT, fV, cP, eX, fN, cD, bL, dP, aW, dX, dR, cN, eN, eL, aY, dI, bA, dO, dW, dN, bH, cR, cM, dM, bR, cW, cV, fP, bV, eH, eJ, gF, dU, dQ, dL, dA, bG, bQ, bU, bT, aS, cX, aU, e1]
 refine Q6 (cells := #[.int .u32 ((at_ - begun : Nat) : Int), .int .u32 n, .int .u32 off]) (by decide) (by decide) (by kernel_rfl) fun w2 o2 x2 s2 => ?_
 refine CN (h.o.ext x2 (fun _ _ h => h)) (o2.cl (off := 0) (l := [.int .u32 ((at_ - begun : Nat) : Int), .int .u32 n, .int .u32 off]) rfl (fun i hi => by rw [anS])) (by simp [one]) (apN h.hs x2.size) (by omega) fun v3 w3 o3 x3 => ?_
 unfold JL Jr Jo Ju
 have e2 : (at_ : Int) + (n : Int) = ((at_ + n : Nat) : Int) := by omega
 simp (disch := omega) only [gD, jF, cJ, stepR_skip, hO, iB, iP, iN, iK, iO, jI, iV, gK, iC, iF, iD, iH, hJ, iM, hU, iE, iW, iS, iJ, gQ, iR, iQ, iG, kU, kV, lF, lC, lH, lE, lJ, lG, lD, gB, Result.ok.injEq, Next.value.injEq, true_and, and_true, gZ, hZ, iX, iT, iU, jG, anP, gW, gU, gX, gT, gM, gI, gN, gL, fZ, fT, if_true, if_false, anO, anS, anQ, anR, anU, anT, anN, anM, fM, fK, fB, fQ, cU, eQ, eE, dJ, bJ, fR, fE, aL, dD, aZ, bM, bP, aO, cQ, cF, eP, aF, gS, aP, cK, aR, bS, fS, cI, cC, aB, gC, fA, aI, aG, bN, gO, aN, eU, dZ, dV, gG, dH, fC, dC, eF, eZ, eY, cB, cY, gJ, eD, bZ, bF, bY, bX, fO, aD, aE, aM, aV, bE, cS, bK, aA, fF, aH, cO, fI, eT, gH, bO, eM, eK, bW, fW, eS, eI, cZ, cL, dF, aX, bD, aQ, gA, aJ, dB, dY, bB, cH, fJ, dK, gE, fL, fH, fG, dS, aK, cG, dG, fX, fY, fD, dE, aT, dT, fV, cP, eX, fN, cD, bL, dP, aW, dX, dR, cN, eN, eL, aY, dI, bA, dO, dW, dN, bH, cR, cM, dM, bR, cW, cV, fP, bV, eH, eJ, gF, dU, dQ, dL, dA, bG, bQ, bU, bT, aS, cX, aU, e2]
 have hi := D.hi
 have hlo := D.lo
 have bo : ¬ KZ bv (fun b => base <= b) := fun hh => D.bo (B2 hh fun b hb => by omega)
 have f3 : VO w3 p mb ab bv B to tries es A := (h.f.same x2).ext x3 (by omega) (by omega) (by omega) bo
 have hs : X0 B to a0 (L ++ [(at_ - begun, n, off)]) (at_ + n) := by
  have := Wz (s := (at_ - begun, n, off)) h.pl ⟨by simp only; omega, by simp only; omega, hm, ho1, by simp only; omega, fun k hk => by
   simp only at hk ⊢
   rw [show begun + (at_ - begun) + k = at_ + k from by omega, show at_ + k - off = at_ - off + k from by omega]
   exact (hl.same k hk).symm⟩
  simp only at this
  rwa [show begun + (at_ - begun) + n = at_ + n from by omega] at this
 have F3 : XR w0 w3 p mb ab base bv B to tries es A v3 (L ++ [(at_ - begun, n, off)]) a0 (at_ + n) :=
  ⟨f3, by rw [V6, anW]; exact o3, hs, (h.x.seq x2).trans x3 (fun b hb hh => by omega), apN (apN h.hs x2.size) x3.size⟩
 refine adC D F3 hk hq (by omega) hend hb fun w' es' A' f k => ?_
 unfold F6
 exact hR _ _ _ _ _ f hend k
end
def afO (B : List UInt8) (a0 to : Nat) : Prop := (∃ c, ∀ i, i < B.length -> B[i]? = some c) /\ a0 = 0 /\ to = B.length /\ 8 <= to
def Ex8 (B : List UInt8) (a0 to at_ : Nat) (es : List (Nw 4 × asZ)) (L : List Sq) : Prop :=
 afO B a0 to -> (at_ = 0 /\ es = []) ∨ (at_ = 1 /\ assoc (rP B 0) es = some (.int .i64 (0 : Nat))) ∨ L ≠ []
theorem adP {B : List UInt8} {a0 to : Nat} (h : afO B a0 to) : rP B 1 = rP B 0 := by
 obtain ⟨⟨c, hc⟩, _, h1, h2⟩ := h
 unfold rP
 rw [dif_pos (by omega), dif_pos (by omega)]
 apply Subtype.ext
 simp only
 apply aqI
 intro i
 by_cases hi : i < 4
 .rw [apO hi, apO hi, arH, arH, hc _ (by omega), hc _ (by omega)]
 .rw [aoD (by simp; omega), aoD (by simp; omega)]
theorem aeB {B : List UInt8} {a0 to : Nat} (h : afO B a0 to) : Lng B to 0 1 (min (to - 1) 131074) := by
 obtain ⟨⟨c, hc⟩, _, h1, h2⟩ := h
 refine ⟨.inl (by omega), by omega, fun j hj => by rw [hc _ (by omega), hc _ (by omega)], ?_⟩
 by_cases hh : to - 1 <= 131074
 .exact .inr (.inl (by omega))
 .exact .inl (by omega)
theorem akA {w0 w : asY} {p mb ab base : Nat} {bv : asZ} {B : List UInt8} {to lvl : Nat} {es : List (Nw 4 × asZ)} {A : List Int} {a0 : Nat} (hlv : lvl <= 9) (h0 : a0 <= to) (hb : B.length <= 4294967295)
 (D : Dst w0 p mb ab base bv) (h : XR w0 w p mb ab base bv B to (2 ^ lvl) es A (.slice none 0 0) [] a0 a0) (hk : Kept a0 es A) (hE : Ex8 B a0 to a0 es [])
 {k : asZ -> asZ -> asZ -> asY -> Prop}
 (hR : ∀ w' out L b, xH w' base 3 out L.length (flat L) -> X0 B to a0 L b -> b <= to -> jM w0 w' mM -> (afO B a0 to -> L ≠ []) -> k (.int .i64 to) out (.int .i64 b) w') :
 DL k (.int .i64 to) (.int .i64 lvl) (.pointer (some ⟨p, 0, none⟩)) (.slice none 0 0) (.int .i64 a0) (.int .i64 a0) w := by
 have htr1 : 1 <= 2 ^ lvl := Nat.one_le_two_pow
 have htr2 : 2 ^ lvl <= 1048576 := apN (aoO (by omega) hlv) (by decide)
 have hle := h.f.le
 unfold DL
 refine kE.rule (fun m t w' => ∃ (out : asZ) (L : List Sq) (begun at_ : Nat) (es : List (Nw 4 × asZ)) (A : List Int), m = to - at_ /\ t = (out, .int .i64 begun, .int .i64 at_) /\ begun <= at_ /\ at_ <= to /\ XR w0 w' p mb ab base bv B to (2 ^ lvl) es A out L a0 begun /\ Kept at_ es A /\ Ex8 B a0 to at_ es L) (to - a0)
  ⟨_, [], a0, a0, es, A, rfl, rfl, aoA _, h0, h, hk, hE⟩ ?_
 clear h hk hE
 rintro m t w1 ⟨out, L, begun, at_, es, A, rfl, rfl, hbe, hat, h, hk, hE⟩
 have hpl := UK h.pl h0
 by_cases hlt : at_ < to
 .have d1 : decide ((at_ : Int) < (to : Int)) = true := by simp; omega
  unfold Av Ef Hp On It
  simp (disch := omega) only [gD, jF, cJ, stepR_skip, hO, iB, iP, iN, iK, iO, jI, iV, gK, iC, iF, iD, iH, hJ, iM, hU, iE, iW, iS, iJ, gQ, iR, iQ, iG, kU, kV, lF, lC, lH, lE, lJ, lG, lD, gB, Result.ok.injEq, Next.value.injEq, true_and, and_true, gZ, hZ, iX, iT, iU, jG, anP, gW, gU, gX, gT, gM, gI, gN, gL, fZ, fT, if_true, if_false, anO, anS, anQ, anR, anU, anT, anN, anM, fM, fK, fB, fQ, cU, eQ, eE, dJ, bJ, fR, fE, aL, dD, aZ, bM, bP, aO, cQ, cF, eP, aF, gS, aP, cK, aR, bS, fS, cI, cC, aB, gC, fA, aI, aG, bN, gO, aN, eU, dZ, dV, gG, dH, fC, dC, eF, eZ, eY, cB, cY, gJ, eD, bZ, bF, bY, bX, fO, aD, aE, aM, aV, bE, cS, bK, aA, fF, aH, cO, fI, eT, gH, bO, eM, eK, bW, fW, eS, eI, cZ, cL, dF, aX, bD, aQ, gA, aJ, dB, dY, bB, cH, fJ, dK, gE, fL, fH, fG, dS, aK, cG, dG, fX, fY, fD, dE, aT, dT, fV, cP, eX, fN, cD, bL, dP, aW, dX, dR, cN, eN, eL, aY, dI, bA, dO, dW, dN, bH, cR, cM, dM, bR, cW, cV, fP, bV, eH, eJ, gF, dU, dQ, dL, dA, bG, bQ, bU, bT, aS, cX, aU, d1]
  refine (afR h.f hk hat htr2).mono ?_
  rintro r w2 ⟨n, off, rfl, hbst, hlong, x2⟩
  have h2 := h.same x2
  have fin : ∀ {w3 : asY} {es3 : List (Nw 4 × asZ)} {A3 : List Int} {at3 n3 off3 : Nat}, XR w0 w3 p mb ab base bv B to (2 ^ lvl) es3 A3 out L a0 begun -> Kept at3 es3 A3 ∨ Kept (at3 + 1) es3 A3 -> begun <= at3 -> at_ <= at3 -> Bst B to at3 n3 off3 -> 4 <= n3 →
      AD (fun _ _ _ jQ jP kM w => ∃ m, m < to - at_ /\ ∃ (out : asZ) (L : List Sq) (begun at_ : Nat) (es : List (Nw 4 × asZ)) (A : List Int), m = to - at_ /\ (jQ, jP, kM) = (out, .int .i64 begun, .int .i64 at_) /\ begun <= at_ /\ at_ <= to /\ XR w0 w p mb ab base bv B to (2 ^ lvl) es A out L a0 begun /\ Kept at_ es A /\ Ex8 B a0 to at_ es L)
       (.int .i64 to) (.int .i64 lvl) (.pointer (some ⟨p, 0, none⟩)) out (.int .i64 begun) (.int .i64 at3) (.int .i64 n3) (.int .i64 off3) w3 := by
   intro w3 es3 A3 at3 n3 off3 F K hb3 ha3 hbst3 hn3
   have K : Kept (at3 + 1) es3 A3 := by
    rcases K with K | K
    .exact K.mono (by omega)
    .exact K
   refine ahT D F h0 K (aoA _) hb3 hbst3 hn3 hb fun w' es' A' out' s F' hto K' => ?_
   exact ⟨to - (at3 + n3), by omega, out', L ++ [s], at3 + n3, at3 + n3, es', A', rfl, rfl, aoA _, hto, F', K', fun _ => .inr (.inr (by simp))⟩
  by_cases hn : n < 4
  .have d2 : decide ((n : Int) < 4) = true := by simp; omega
   simp (disch := omega) only [gD, jF, cJ, stepR_skip, hO, iB, iP, iN, iK, iO, jI, iV, gK, iC, iF, iD, iH, hJ, iM, hU, iE, iW, iS, iJ, gQ, iR, iQ, iG, kU, kV, lF, lC, lH, lE, lJ, lG, lD, gB, Result.ok.injEq, Next.value.injEq, true_and, and_true, gZ, hZ, iX, iT, iU, jG, anP, gW, gU, gX, gT, gM, gI, gN, gL, fZ, fT, if_true, if_false, anO, anS, anQ, anR, anU, anT, anN, anM, fM, fK, fB, fQ, cU, eQ, eE, dJ, bJ, fR, fE, aL, dD, aZ, bM, bP, aO, cQ, cF, eP, aF, gS, aP, cK, aR, bS, fS, cI, cC, aB, gC, fA, aI, aG, bN, gO, aN, eU, dZ, dV, gG, dH, fC, dC, eF, eZ, eY, cB, cY, gJ, eD, bZ, bF, bY, bX, fO, aD, aE, aM, aV, bE, cS, bK, aA, fF, aH, cO, fI, eT, gH, bO, eM, eK, bW, fW, eS, eI, cZ, cL, dF, aX, bD, aQ, gA, aJ, dB, dY, bB, cH, fJ, dK, gE, fL, fH, fG, dS, aK, cG, dG, fX, fY, fD, dE, aT, dT, fV, cP, eX, fN, cD, bL, dP, aW, dX, dR, cN, eN, eL, aY, dI, bA, dO, dW, dN, bH, cR, cM, dM, bR, cW, cV, fP, bV, eH, eJ, gF, dU, dQ, dL, dA, bG, bQ, bU, bT, aS, cX, aU, d2]
   refine (UJ D h2 (hk.mono (by omega)) hlt).mono ?_
   rintro r w3 ⟨A3, h3, k3⟩
   refine ⟨to - (at_ + 1), by omega, out, L, begun, at_ + 1, _, A3, rfl, rfl, by omega, by omega, h3, k3, fun h8 => ?_⟩
   rcases hE h8 with ⟨e1, e2⟩ | ⟨e1, e2⟩ | e
   .subst e1 e2
    refine .inr (.inl ⟨rfl, ?_⟩)
    obtain ⟨_, _, h81, h82⟩ := h8
    unfold noted
    rw [if_pos (by omega), acF, if_pos rfl]
   .exfalso
    subst e1
    have hl := aeB h8
    have hky := adP h8
    obtain ⟨_, _, h81, h82⟩ := h8
    have := hlong (by omega) htr1 0 (by rw [hky]; exact e2) _ hl
    omega
   .exact .inr (.inr e)
  .have d2 : decide ((n : Int) < 4) = false := by simp; omega
   by_cases hl4 : 4 < lvl
   .have d3 : decide ((4 : Int) < (lvl : Int)) = true := by simp; omega
    by_cases ha1 : at_ + 1 < to
    .have d4 : decide ((at_ : Int) + 1 < (to : Int)) = true := by simp; omega
     simp (disch := omega) only [gD, jF, cJ, stepR_skip, hO, iB, iP, iN, iK, iO, jI, iV, gK, iC, iF, iD, iH, hJ, iM, hU, iE, iW, iS, iJ, gQ, iR, iQ, iG, kU, kV, lF, lC, lH, lE, lJ, lG, lD, gB, Result.ok.injEq, Next.value.injEq, true_and, and_true, gZ, hZ, iX, iT, iU, jG, anP, gW, gU, gX, gT, gM, gI, gN, gL, fZ, fT, if_true, if_false, anO, anS, anQ, anR, anU, anT, anN, anM, fM, fK, fB, fQ, cU, eQ, eE, dJ, bJ, fR, fE, aL, dD, aZ, bM, bP, aO, cQ, cF, eP, aF, gS, aP, cK, aR, bS, fS, cI, cC, aB, gC, fA, aI, aG, bN, gO, aN, eU, dZ, dV, gG, dH, fC, dC, eF, eZ, eY, cB, cY, gJ, eD, bZ, bF, bY, bX, fO, aD, aE, aM, aV, bE, cS, bK, aA, fF, aH, cO, fI, eT, gH, bO, eM, eK, bW, fW, eS, eI, cZ, cL, dF, aX, bD, aQ, gA, aJ, dB, dY, bB, cH, fJ, dK, gE, fL, fH, fG, dS, aK, cG, dG, fX, fY, fD, dE, aT, dT, fV, cP, eX, fN, cD, bL, dP, aW, dX, dR, cN, eN, eL, aY, dI, bA, dO, dW, dN, bH, cR, cM, dM, bR, cW, cV, fP, bV, eH, eJ, gF, dU, dQ, dL, dA, bG, bQ, bU, bT, aS, cX, aU, d2, d3, d4]
     refine (UJ D h2 (hk.mono (by omega)) hlt).mono ?_
     rintro r w3 ⟨A3, h3, k3⟩
     have e1 : (at_ : Int) + 1 = ((at_ + 1 : Nat) : Int) := by omega
     rw [e1]
     refine (afR h3.f k3 (by omega) htr2).mono ?_
     rintro r w4 ⟨n4, off4, rfl, hbst4, _, x4⟩
     have h4 := h3.same x4
     have hm4 : n4 <= 131074 /\ n <= 131074 := by
      refine ⟨?_, ?_⟩
      .rcases hbst4.one with ⟨rfl, _⟩ | ⟨_, _, _, hl⟩
       .omega
       .exact hl.most
      .rcases hbst.one with ⟨rfl, _⟩ | ⟨_, _, _, hl⟩
       .omega
       .exact hl.most
     by_cases hg : n + 1 < n4
     .have d5 : decide ((n : Int) + 1 < (n4 : Int)) = true := by simp; omega
      simp (disch := omega) only [gD, jF, cJ, stepR_skip, hO, iB, iP, iN, iK, iO, jI, iV, gK, iC, iF, iD, iH, hJ, iM, hU, iE, iW, iS, iJ, gQ, iR, iQ, iG, kU, kV, lF, lC, lH, lE, lJ, lG, lD, gB, Result.ok.injEq, Next.value.injEq, true_and, and_true, gZ, hZ, iX, iT, iU, jG, anP, gW, gU, gX, gT, gM, gI, gN, gL, fZ, fT, if_true, if_false, anO, anS, anQ, anR, anU, anT, anN, anM, fM, fK, fB, fQ, cU, eQ, eE, dJ, bJ, fR, fE, aL, dD, aZ, bM, bP, aO, cQ, cF, eP, aF, gS, aP, cK, aR, bS, fS, cI, cC, aB, gC, fA, aI, aG, bN, gO, aN, eU, dZ, dV, gG, dH, fC, dC, eF, eZ, eY, cB, cY, gJ, eD, bZ, bF, bY, bX, fO, aD, aE, aM, aV, bE, cS, bK, aA, fF, aH, cO, fI, eT, gH, bO, eM, eK, bW, fW, eS, eI, cZ, cL, dF, aX, bD, aQ, gA, aJ, dB, dY, bB, cH, fJ, dK, gE, fL, fH, fG, dS, aK, cG, dG, fX, fY, fD, dE, aT, dT, fV, cP, eX, fN, cD, bL, dP, aW, dX, dR, cN, eN, eL, aY, dI, bA, dO, dW, dN, bH, cR, cM, dM, bR, cW, cV, fP, bV, eH, eJ, gF, dU, dQ, dL, dA, bG, bQ, bU, bT, aS, cX, aU, d5]
      exact fin h4 (.inl k3) (by omega) (by omega) hbst4 (by omega)
     .have d5 : decide ((n : Int) + 1 < (n4 : Int)) = false := by simp; omega
      simp (disch := omega) only [gD, jF, cJ, stepR_skip, hO, iB, iP, iN, iK, iO, jI, iV, gK, iC, iF, iD, iH, hJ, iM, hU, iE, iW, iS, iJ, gQ, iR, iQ, iG, kU, kV, lF, lC, lH, lE, lJ, lG, lD, gB, Result.ok.injEq, Next.value.injEq, true_and, and_true, gZ, hZ, iX, iT, iU, jG, anP, gW, gU, gX, gT, gM, gI, gN, gL, fZ, fT, if_true, if_false, anO, anS, anQ, anR, anU, anT, anN, anM, fM, fK, fB, fQ, cU, eQ, eE, dJ, bJ, fR, fE, aL, dD, aZ, bM, bP, aO, cQ, cF, eP, aF, gS, aP, cK, aR, bS, fS, cI, cC, aB, gC, fA, aI, aG, bN, gO, aN, eU, dZ, dV, gG, dH, fC, dC, eF, eZ, eY, cB, cY, gJ, eD, bZ, bF, bY, bX, fO, aD, aE, aM, aV, bE, cS, bK, aA, fF, aH, cO, fI, eT, gH, bO, eM, eK, bW, fW, eS, eI, cZ, cL, dF, aX, bD, aQ, gA, aJ, dB, dY, bB, cH, fJ, dK, gE, fL, fH, fG, dS, aK, cG, dG, fX, fY, fD, dE, aT, dT, fV, cP, eX, fN, cD, bL, dP, aW, dX, dR, cN, eN, eL, aY, dI, bA, dO, dW, dN, bH, cR, cM, dM, bR, cW, cV, fP, bV, eH, eJ, gF, dU, dQ, dL, dA, bG, bQ, bU, bT, aS, cX, aU, d5]
      exact fin h4 (.inr k3) (by omega) (by omega) hbst (by omega)
    .have d4 : decide ((at_ : Int) + 1 < (to : Int)) = false := by simp; omega
     simp (disch := omega) only [gD, jF, cJ, stepR_skip, hO, iB, iP, iN, iK, iO, jI, iV, gK, iC, iF, iD, iH, hJ, iM, hU, iE, iW, iS, iJ, gQ, iR, iQ, iG, kU, kV, lF, lC, lH, lE, lJ, lG, lD, gB, Result.ok.injEq, Next.value.injEq, true_and, and_true, gZ, hZ, iX, iT, iU, jG, anP, gW, gU, gX, gT, gM, gI, gN, gL, fZ, fT, if_true, if_false, anO, anS, anQ, anR, anU, anT, anN, anM, fM, fK, fB, fQ, cU, eQ, eE, dJ, bJ, fR, fE, aL, dD, aZ, bM, bP, aO, cQ, cF, eP, aF, gS, aP, cK, aR, bS, fS, cI, cC, aB, gC, fA, aI, aG, bN, gO, aN, eU, dZ, dV, gG, dH, fC, dC, eF, eZ, eY, cB, cY, gJ, eD, bZ, bF, bY, bX, fO, aD, aE, aM, aV, bE, cS, bK, aA, fF, aH, cO, fI, eT, gH, bO, eM, eK, bW, fW, eS, eI, cZ, cL, dF, aX, bD, aQ, gA, aJ, dB, dY, bB, cH, fJ, dK, gE, fL, fH, fG, dS, aK, cG, dG, fX, fY, fD, dE, aT, dT, fV, cP, eX, fN, cD, bL, dP, aW, dX, dR, cN, eN, eL, aY, dI, bA, dO, dW, dN, bH, cR, cM, dM, bR, cW, cV, fP, bV, eH, eJ, gF, dU, dQ, dL, dA, bG, bQ, bU, bT, aS, cX, aU, d2, d3, d4]
     exact fin h2 (.inl hk) hbe (aoA _) hbst (by omega)
   .have d3 : decide ((4 : Int) < (lvl : Int)) = false := by simp; omega
    simp (disch := omega) only [gD, jF, cJ, stepR_skip, hO, iB, iP, iN, iK, iO, jI, iV, gK, iC, iF, iD, iH, hJ, iM, hU, iE, iW, iS, iJ, gQ, iR, iQ, iG, kU, kV, lF, lC, lH, lE, lJ, lG, lD, gB, Result.ok.injEq, Next.value.injEq, true_and, and_true, gZ, hZ, iX, iT, iU, jG, anP, gW, gU, gX, gT, gM, gI, gN, gL, fZ, fT, if_true, if_false, anO, anS, anQ, anR, anU, anT, anN, anM, fM, fK, fB, fQ, cU, eQ, eE, dJ, bJ, fR, fE, aL, dD, aZ, bM, bP, aO, cQ, cF, eP, aF, gS, aP, cK, aR, bS, fS, cI, cC, aB, gC, fA, aI, aG, bN, gO, aN, eU, dZ, dV, gG, dH, fC, dC, eF, eZ, eY, cB, cY, gJ, eD, bZ, bF, bY, bX, fO, aD, aE, aM, aV, bE, cS, bK, aA, fF, aH, cO, fI, eT, gH, bO, eM, eK, bW, fW, eS, eI, cZ, cL, dF, aX, bD, aQ, gA, aJ, dB, dY, bB, cH, fJ, dK, gE, fL, fH, fG, dS, aK, cG, dG, fX, fY, fD, dE, aT, dT, fV, cP, eX, fN, cD, bL, dP, aW, dX, dR, cN, eN, eL, aY, dI, bA, dO, dW, dN, bH, cR, cM, dM, bR, cW, cV, fP, bV, eH, eJ, gF, dU, dQ, dL, dA, bG, bQ, bU, bT, aS, cX, aU, d2, d3]
    exact fin h2 (.inl hk) hbe (aoA _) hbst (by omega)
 .have d1 : decide ((at_ : Int) < (to : Int)) = false := by simp; omega
  unfold Av Ef
  simp (disch := omega) only [gD, jF, cJ, stepR_skip, hO, iB, iP, iN, iK, iO, jI, iV, gK, iC, iF, iD, iH, hJ, iM, hU, iE, iW, iS, iJ, gQ, iR, iQ, iG, kU, kV, lF, lC, lH, lE, lJ, lG, lD, gB, Result.ok.injEq, Next.value.injEq, true_and, and_true, gZ, hZ, iX, iT, iU, jG, anP, gW, gU, gX, gT, gM, gI, gN, gL, fZ, fT, if_true, if_false, anO, anS, anQ, anR, anU, anT, anN, anM, fM, fK, fB, fQ, cU, eQ, eE, dJ, bJ, fR, fE, aL, dD, aZ, bM, bP, aO, cQ, cF, eP, aF, gS, aP, cK, aR, bS, fS, cI, cC, aB, gC, fA, aI, aG, bN, gO, aN, eU, dZ, dV, gG, dH, fC, dC, eF, eZ, eY, cB, cY, gJ, eD, bZ, bF, bY, bX, fO, aD, aE, aM, aV, bE, cS, bK, aA, fF, aH, cO, fI, eT, gH, bO, eM, eK, bW, fW, eS, eI, cZ, cL, dF, aX, bD, aQ, gA, aJ, dB, dY, bB, cH, fJ, dK, gE, fL, fH, fG, dS, aK, cG, dG, fX, fY, fD, dE, aT, dT, fV, cP, eX, fN, cD, bL, dP, aW, dX, dR, cN, eN, eL, aY, dI, bA, dO, dW, dN, bH, cR, cM, dM, bR, cW, cV, fP, bV, eH, eJ, gF, dU, dQ, dL, dA, bG, bQ, bU, bT, aS, cX, aU, d1]
  refine hR _ _ _ _ h.o h.pl hpl.2 h.x fun h8 => ?_
  rcases hE h8 with ⟨e1, e2⟩ | ⟨e1, e2⟩ | e
  .obtain ⟨_, _, h81, h82⟩ := h8; omega
  .obtain ⟨_, _, h81, h82⟩ := h8; omega
  .exact e
structure Found (w0 w : asY) (B : List UInt8) (a0 to lvl : Nat) (r : asZ) : Prop where
 ex : ∃ (v : asZ) (L : List Sq) (b : Nat), r = .tuple #[v, .int .i64 ((to - b : Nat) : Int), .int .i64 0] /\ xH w w0.heap.size 3 v L.length (flat L) /\ X0 B to a0 L b /\ b <= to /\ (lvl = 0 -> L = []) /\ (1 <= lvl -> afO B a0 to -> L ≠ [])
 x : jM w0 w mM
theorem agR (lvl : Nat) (h : lvl <= 9) : IntKind.i64.wrap (1 * 2 ^ (min lvl IntKind.i64.bits)) = ((2 ^ lvl : Nat) : Int) := by
 have : ∀ k : Fin 10, IntKind.i64.wrap (1 * 2 ^ (min k.val IntKind.i64.bits)) = ((2 ^ k.val : Nat) : Int) := by decide
 exact this ⟨lvl, by omega⟩
theorem Wd {w0 w : asY} {p mb ab : Nat} {bv : asZ} {B : List UInt8} {to lvl a0 : Nat} (hl1 : 1 <= lvl) (hlv : lvl <= 9) (h0 : a0 <= to) (hto : to <= B.length) (hb : B.length <= 4294967295) (hbv : Bs w0 bv B)
 (hx : jM w0 w mM) (o : mP w p [bv, .int .i64 to, .map (some mb), .slice (some ⟨ab, 0, none⟩) to to, .int .i64 ((2 ^ lvl : Nat) : Int)]) (m : Mp w mb Rv ([] : List (Nw 4 × asZ))) (oa : mP w ab (List.replicate to (.int .i64 0)))
 (hne : p ≠ mb /\ p ≠ ab /\ mb ≠ ab) (hlo : w0.heap.size <= p /\ w0.heap.size <= mb /\ w0.heap.size <= ab) :
 DT (fun r w' => Found w0 w' B a0 to lvl r) (.int .i64 a0) (.int .i64 to) (.int .i64 lvl) (.pointer (some ⟨p, 0, none⟩)) w := by
 have D : Dst w0 p mb ab w.heap.size bv := ⟨hne, hlo, ⟨o.lt, m.lt, oa.lt⟩, hbv.old⟩
 have F : XR w0 w p mb ab w.heap.size bv B to (2 ^ lvl) [] (List.replicate to 0) (.slice none 0 0) [] a0 a0 :=
  ⟨⟨o, hbv.ext hx (kJ _), m, by simpa using oa, by simp, hto, by omega⟩, xH.nil _ _ _, rfl, hx, aoA _⟩
 have K : Kept 0 ([] : List (Nw 4 × asZ)) (List.replicate to (0 : Int)) := ⟨fun q hq => absurd hq (by simp), fun i hi => by simp⟩
 unfold DT H3 HU H9 HJ
 refine kE.rule (fun m t w' => ∃ (j : Nat) (es : List (Nw 4 × asZ)) (A : List Int), m = a0 - j /\ t = .int .i64 j /\ j <= a0 /\ XR w0 w' p mb ab w.heap.size bv B to (2 ^ lvl) es A (.slice none 0 0) [] a0 a0 /\ Kept j es A /\ (j = 0 -> es = [])) a0
  ⟨0, [], _, rfl, rfl, by omega, F, K, fun _ => rfl⟩ ?_
 rintro m t w1 ⟨j, es, A, rfl, rfl, hj, h, hk, he⟩
 by_cases hlt : j < a0
 .have d1 : decide ((j : Int) < (a0 : Int)) = true := by simp; omega
  simp (disch := omega) only [Ay, gD, jF, cJ, stepR_skip, hO, iB, iP, iN, iK, iO, jI, iV, gK, iC, iF, iD, iH, hJ, iM, hU, iE, iW, iS, iJ, gQ, iR, iQ, iG, kU, kV, lF, lC, lH, lE, lJ, lG, lD, gB, Result.ok.injEq, Next.value.injEq, true_and, and_true, gZ, hZ, iX, iT, iU, jG, anP, gW, gU, gX, gT, gM, gI, gN, gL, fZ, fT, if_true, if_false, anO, anS, anQ, anR, anU, anT, anN, anM, fM, fK, fB, fQ, cU, eQ, eE, dJ, bJ, fR, fE, aL, dD, aZ, bM, bP, aO, cQ, cF, eP, aF, gS, aP, cK, aR, bS, fS, cI, cC, aB, gC, fA, aI, aG, bN, gO, aN, eU, dZ, dV, gG, dH, fC, dC, eF, eZ, eY, cB, cY, gJ, eD, bZ, bF, bY, bX, fO, aD, aE, aM, aV, bE, cS, bK, aA, fF, aH, cO, fI, eT, gH, bO, eM, eK, bW, fW, eS, eI, cZ, cL, dF, aX, bD, aQ, gA, aJ, dB, dY, bB, cH, fJ, dK, gE, fL, fH, fG, dS, aK, cG, dG, fX, fY, fD, dE, aT, dT, fV, cP, eX, fN, cD, bL, dP, aW, dX, dR, cN, eN, eL, aY, dI, bA, dO, dW, dN, bH, cR, cM, dM, bR, cW, cV, fP, bV, eH, eJ, gF, dU, dQ, dL, dA, bG, bQ, bU, bT, aS, cX, aU, d1]
  refine (UJ D h (hk.mono (by omega)) (by omega)).mono ?_
  rintro r w2 ⟨A2, f2, k2⟩
  exact ⟨a0 - (j + 1), by omega, j + 1, _, A2, rfl, rfl, by omega, f2, k2, fun h => by omega⟩
 .have d1 : decide ((j : Int) < (a0 : Int)) = false := by simp; omega
  have : j = a0 := by omega
  subst this
  simp (disch := omega) only [Ay, gD, jF, cJ, stepR_skip, hO, iB, iP, iN, iK, iO, jI, iV, gK, iC, iF, iD, iH, hJ, iM, hU, iE, iW, iS, iJ, gQ, iR, iQ, iG, kU, kV, lF, lC, lH, lE, lJ, lG, lD, gB, Result.ok.injEq, Next.value.injEq, true_and, and_true, gZ, hZ, iX, iT, iU, jG, anP, gW, gU, gX, gT, gM, gI, gN, gL, fZ, fT, if_true, if_false, anO, anS, anQ, anR, anU, anT, anN, anM, fM, fK, fB, fQ, cU, eQ, eE, dJ, bJ, fR, fE, aL, dD, aZ, bM, bP, aO, cQ, cF, eP, aF, gS, aP, cK, aR, bS, fS, cI, cC, aB, gC, fA, aI, aG, bN, gO, aN, eU, dZ, dV, gG, dH, fC, dC, eF, eZ, eY, cB, cY, gJ, eD, bZ, bF, bY, bX, fO, aD, aE, aM, aV, bE, cS, bK, aA, fF, aH, cO, fI, eT, gH, bO, eM, eK, bW, fW, eS, eI, cZ, cL, dF, aX, bD, aQ, gA, aJ, dB, dY, bB, cH, fJ, dK, gE, fL, fH, fG, dS, aK, cG, dG, fX, fY, fD, dE, aT, dT, fV, cP, eX, fN, cD, bL, dP, aW, dX, dR, cN, eN, eL, aY, dI, bA, dO, dW, dN, bH, cR, cM, dM, bR, cW, cV, fP, bV, eH, eJ, gF, dU, dQ, dL, dA, bG, bQ, bU, bT, aS, cX, aU, d1]
  unfold Ho HC HN Ic HX HA
  refine akA hlv h0 hb D h hk (fun h8 => .inl ⟨h8.2.1, he h8.2.1⟩) fun w' out L b ho hpl hbt hx' h8 => ?_
  unfold FZ
  have e : (to : Int) - (b : Int) = ((to - b : Nat) : Int) := by omega
  simp (disch := omega) only [gD, jF, cJ, stepR_skip, hO, iB, iP, iN, iK, iO, jI, iV, gK, iC, iF, iD, iH, hJ, iM, hU, iE, iW, iS, iJ, gQ, iR, iQ, iG, kU, kV, lF, lC, lH, lE, lJ, lG, lD, gB, Result.ok.injEq, Next.value.injEq, true_and, and_true, gZ, hZ, iX, iT, iU, jG, anP, gW, gU, gX, gT, gM, gI, gN, gL, fZ, fT, if_true, if_false, anO, anS, anQ, anR, anU, anT, anN, anM, fM, fK, fB, fQ, cU, eQ, eE, dJ, bJ, fR, fE, aL, dD, aZ, bM, bP, aO, cQ, cF, eP, aF, gS, aP, cK, aR, bS, fS, cI, cC, aB, gC, fA, aI, aG, bN, gO, aN, eU, dZ, dV, gG, dH, fC, dC, eF, eZ, eY, cB, cY, gJ, eD, bZ, bF, bY, bX, fO, aD, aE, aM, aV, bE, cS, bK, aA, fF, aH, cO, fI, eT, gH, bO, eM, eK, bW, fW, eS, eI, cZ, cL, dF, aX, bD, aQ, gA, aJ, dB, dY, bB, cH, fJ, dK, gE, fL, fH, fG, dS, aK, cG, dG, fX, fY, fD, dE, aT, dT, fV, cP, eX, fN, cD, bL, dP, aW, dX, dR, cN, eN, eL, aY, dI, bA, dO, dW, dN, bH, cR, cM, dM, bR, cW, cV, fP, bV, eH, eJ, gF, dU, dQ, dL, dA, bG, bQ, bU, bT, aS, cX, aU, e]
  exact ⟨⟨out, L, b, rfl, xH.lower ho hx.size, hpl, hbt, fun h => by omega, fun _ => h8⟩, hx'⟩
theorem ajG {w : asY} {bv : asZ} {B : List UInt8} {to lvl a0 : Nat} (hlv : lvl <= 9) (h0 : a0 <= to) (hto : to <= B.length) (hb : B.length <= 4294967295) (hbv : Bs w bv B) :
 jD pg DA #[bv, .int .i64 a0, .int .i64 to, .int .i64 lvl] w (fun r w' => Found w w' B a0 to lvl r) := by
 refine Uz ?_
 obtain ⟨a, c, hv, hc⟩ := hbv.len
 simp only [anV] at hv hc
 unfold Vg H6 Ir
 have d1 : decide ((a0 : Int) < 0) = false := by simp
 have d2 : decide ((to : Int) < (a0 : Int)) = false := by simp; omega
 have d3 : decide ((B.length : Int) < (to : Int)) = false := by simp; omega
 have d4 : decide ((lvl : Int) < 0) = false := by simp
 have d5 : decide ((9 : Int) < (lvl : Int)) = false := by simp; omega
 subst hv
 have ln := fM (ty := 3) a B.length c w
 by_cases hl : lvl = 0
 .subst hl
  have d6 : (((0 : Nat) : Int) == 0) = true := by simp
  have e : (to : Int) - (a0 : Int) = ((to - a0 : Nat) : Int) := by omega
  simp (disch := omega) only [gD, jF, cJ, stepR_skip, hO, iB, iP, iN, iK, iO, jI, iV, gK, iC, iF, iD, iH, hJ, iM, hU, iE, iW, iS, iJ, gQ, iR, iQ, iG, kU, kV, lF, lC, lH, lE, lJ, lG, lD, gB, Result.ok.injEq, Next.value.injEq, true_and, and_true, gZ, hZ, iX, iT, iU, jG, anP, gW, gU, gX, gT, gM, gI, gN, gL, fZ, fT, if_true, if_false, anO, anS, anQ, anR, anU, anT, anN, anM, fM, fK, fB, fQ, cU, eQ, eE, dJ, bJ, fR, fE, aL, dD, aZ, bM, bP, aO, cQ, cF, eP, aF, gS, aP, cK, aR, bS, fS, cI, cC, aB, gC, fA, aI, aG, bN, gO, aN, eU, dZ, dV, gG, dH, fC, dC, eF, eZ, eY, cB, cY, gJ, eD, bZ, bF, bY, bX, fO, aD, aE, aM, aV, bE, cS, bK, aA, fF, aH, cO, fI, eT, gH, bO, eM, eK, bW, fW, eS, eI, cZ, cL, dF, aX, bD, aQ, gA, aJ, dB, dY, bB, cH, fJ, dK, gE, fL, fH, fG, dS, aK, cG, dG, fX, fY, fD, dE, aT, dT, fV, cP, eX, fN, cD, bL, dP, aW, dX, dR, cN, eN, eL, aY, dI, bA, dO, dW, dN, bH, cR, cM, dM, bR, cW, cV, fP, bV, eH, eJ, gF, dU, dQ, dL, dA, bG, bQ, bU, bT, aS, cX, aU, ln, d1, d2, d3, d4, d5, d6, e]
  exact ⟨⟨_, [], a0, rfl, xH.nil _ _ _, rfl, h0, fun _ => rfl, fun h => by omega⟩, jM.refl _ _⟩
 .have d6 : ((lvl : Int) == 0) = false := by simpa using hl
  have e1 := agR lvl hlv
  have hbd := hbv.dr
  simp (disch := omega) only [gD, jF, cJ, stepR_skip, hO, iB, iP, iN, iK, iO, jI, iV, gK, iC, iF, iD, iH, hJ, iM, hU, iE, iW, iS, iJ, gQ, iR, iQ, iG, kU, kV, lF, lC, lH, lE, lJ, lG, lD, gB, Result.ok.injEq, Next.value.injEq, true_and, and_true, gZ, hZ, iX, iT, iU, jG, anP, gW, gU, gX, gT, gM, gI, gN, gL, fZ, fT, if_true, if_false, anO, anS, anQ, anR, anU, anT, anN, anM, fM, fK, fB, fQ, cU, eQ, eE, dJ, bJ, fR, fE, aL, dD, aZ, bM, bP, aO, cQ, cF, eP, aF, gS, aP, cK, aR, bS, fS, cI, cC, aB, gC, fA, aI, aG, bN, gO, aN, eU, dZ, dV, gG, dH, fC, dC, eF, eZ, eY, cB, cY, gJ, eD, bZ, bF, bY, bX, fO, aD, aE, aM, aV, bE, cS, bK, aA, fF, aH, cO, fI, eT, gH, bO, eM, eK, bW, fW, eS, eI, cZ, cL, dF, aX, bD, aQ, gA, aJ, dB, dY, bB, cH, fJ, dK, gE, fL, fH, fG, dS, aK, cG, dG, fX, fY, fD, dE, aT, dT, fV, cP, eX, fN, cD, bL, dP, aW, dX, dR, cN, eN, eL, aY, dI, bA, dO, dW, dN, bH, cR, cM, dM, bR, cW, cV, fP, bV, eH, eJ, gF, dU, dQ, dL, dA, bG, bQ, bU, bT, aS, cX, aU, ln, d1, d2, d3, d4, d5, d6]
  refine adF ?_ ?_
  .refine Gg fun w1 m1 x1 s1 => ?_
   refine Tm (by omega) (by omega) fun w2 o2 x2 s2 => ?_
   simp (disch := omega) only [gD, jF, cJ, stepR_skip, hO, iB, iP, iN, iK, iO, jI, iV, gK, iC, iF, iD, iH, hJ, iM, hU, iE, iW, iS, iJ, gQ, iR, iQ, iG, kU, kV, lF, lC, lH, lE, lJ, lG, lD, gB, Result.ok.injEq, Next.value.injEq, true_and, and_true, gZ, hZ, iX, iT, iU, jG, anP, gW, gU, gX, gT, gM, gI, gN, gL, fZ, fT, if_true, if_false, anO, anS, anQ, anR, anU, anT, anN, anM, fM, fK, fB, fQ, cU, eQ, eE, dJ, bJ, fR, fE, aL, dD, aZ, bM, bP, aO, cQ, cF, eP, aF, gS, aP, cK, aR, bS, fS, cI, cC, aB, gC, fA, aI, aG, bN, gO, aN, eU, dZ, dV, gG, dH, fC, dC, eF, eZ, eY, cB, cY, gJ, eD, bZ, bF, bY, bX, fO, aD, aE, aM, aV, bE, cS, bK, aA, fF, aH, cO, fI, eT, gH, bO, eM, eK, bW, fW, eS, eI, cZ, cL, dF, aX, bD, aQ, gA, aJ, dB, dY, bB, cH, fJ, dK, gE, fL, fH, fG, dS, aK, cG, dG, fX, fY, fD, dE, aT, dT, fV, cP, eX, fN, cD, bL, dP, aW, dX, dR, cN, eN, eL, aY, dI, bA, dO, dW, dN, bH, cR, cM, dM, bR, cW, cV, fP, bV, eH, eJ, gF, dU, dQ, dL, dA, bG, bQ, bU, bT, aS, cX, aU, e1]
   refine Ce fun w3 o3 x3 s3 => ?_
   refine Wd (w0 := w) (by omega) hlv h0 hto hb hbv ((((jM.dr w mM).seq x1).seq x2).seq x3) o3 ((m1.ext x2 fun h => h).ext x3 fun h => h) (o2.ext x3 fun h => h) ?_ ?_
   .have : (dr w).heap.size = w.heap.size := rfl
    refine ⟨?_, ?_, ?_⟩ <;> omega
   .have : (dr w).heap.size = w.heap.size := rfl
    refine ⟨?_, ?_, ?_⟩ <;> omega
  .refine Tm (by omega) (by omega) fun w1 o1 x1 s1 => ?_
   refine Gg fun w2 m2 x2 s2 => ?_
   simp (disch := omega) only [gD, jF, cJ, stepR_skip, hO, iB, iP, iN, iK, iO, jI, iV, gK, iC, iF, iD, iH, hJ, iM, hU, iE, iW, iS, iJ, gQ, iR, iQ, iG, kU, kV, lF, lC, lH, lE, lJ, lG, lD, gB, Result.ok.injEq, Next.value.injEq, true_and, and_true, gZ, hZ, iX, iT, iU, jG, anP, gW, gU, gX, gT, gM, gI, gN, gL, fZ, fT, if_true, if_false, anO, anS, anQ, anR, anU, anT, anN, anM, fM, fK, fB, fQ, cU, eQ, eE, dJ, bJ, fR, fE, aL, dD, aZ, bM, bP, aO, cQ, cF, eP, aF, gS, aP, cK, aR, bS, fS, cI, cC, aB, gC, fA, aI, aG, bN, gO, aN, eU, dZ, dV, gG, dH, fC, dC, eF, eZ, eY, cB, cY, gJ, eD, bZ, bF, bY, bX, fO, aD, aE, aM, aV, bE, cS, bK, aA, fF, aH, cO, fI, eT, gH, bO, eM, eK, bW, fW, eS, eI, cZ, cL, dF, aX, bD, aQ, gA, aJ, dB, dY, bB, cH, fJ, dK, gE, fL, fH, fG, dS, aK, cG, dG, fX, fY, fD, dE, aT, dT, fV, cP, eX, fN, cD, bL, dP, aW, dX, dR, cN, eN, eL, aY, dI, bA, dO, dW, dN, bH, cR, cM, dM, bR, cW, cV, fP, bV, eH, eJ, gF, dU, dQ, dL, dA, bG, bQ, bU, bT, aS, cX, aU, e1]
   refine Ce fun w3 o3 x3 s3 => ?_
   refine Wd (w0 := w) (by omega) hlv h0 hto hb hbv ((((jM.dr w mM).seq x1).seq x2).seq x3) o3 (m2.ext x3 fun h => h) ((o1.ext x2 fun h => h).ext x3 fun h => h) ?_ ?_
   .have : (dr w).heap.size = w.heap.size := rfl
    refine ⟨?_, ?_, ?_⟩ <;> omega
   .have : (dr w).heap.size = w.heap.size := rfl
    refine ⟨?_, ?_, ?_⟩ <;> omega
end Go.Proofs.YtoecppploooloaaGreatDoor
namespace Go.En
open Go
section
variable {P : Program} {w : asY} {t e : TypeId}
theorem Xu {S : Nat -> Prop} {sz n m : Nat} {i : TypeInfo} {z : asZ} {ty t2 : TypeId} {k : IntKind} (hu : P.underlying t = some (.slice e)) (hu2 : P.underlying t2 = some (.int k)) (hi : P.info? e = some i) (hsz : i.size = sz) (hz : i.zero = some z) (hzs : z.cells.size = sz)
 {v : asZ} {l : List asZ} (h : LI w S sz v n l) (hsz0 : 0 < sz) (hone : ∀ y ∈ z.cells.toList, one y = true) (hb : ∀ b, w.heap.size <= b -> S b)
 (hn : n + m <= 9223372036854775807) (hbytes : (n + m) * i.bytes <= 140737488355328) (hmb : m * i.bytes <= 140737488355328)
 {K : asZ -> asY -> Prop} (hk : ∀ v' w', LI w' S sz v' (n + m) (l ++ (Builtin.zeroCells z.cells m).toList) -> jM w w' S -> K v' w') : gD P (oF .append #[t, t2] ty [v, .int k m]) w K := by
 generalize hnews : (Builtin.zeroCells z.cells m).toList = news at *
 have hnl : news.length = m * sz := by rw [<- hnews, aqU, vK, hzs]
 have hone' : ∀ y ∈ news, one y = true := by
  intro y hy
  rw [<- hnews] at hy
  simp only [Builtin.zeroCells, Array.toList_map, apM] at hy
  obtain ⟨j, _, rfl⟩ := hy
  refine hone _ ?_
  have : j % z.cells.size < z.cells.size := asU _ (by omega)
  rw [getElem!_pos z.cells _ this]
  exact Array.getElem_mem_toList this
 have hmw : IntKind.i64.wrap ((m : Nat) : Int) = (m : Int) := gZ (by omega) (by omega)
 have hm0 : ¬ ((m : Int) < 0) := by omega
 have hmx : ¬ ((m : Int) * (i.bytes : Nat) > 2 ^ 48) := by
  have : (m : Int) * (i.bytes : Nat) = ((m * i.bytes : Nat) : Int) := by simp
  rw [this]; omega
 have has : ∀ w, (asInt (.int k m)).run P w = .ok (m : Int) w := fun w => rfl
 have hz' : ∀ w, (zeroValue e).run P w = .ok z w := fun w => by simp [zeroValue, typeInfo, hi, hz]
 have hnw : ∀ w, (if m * sz = 0 then pure #[] else do pure (Builtin.zeroCells (<- zeroValue e).cells m) : Sem (Array asZ)).run P w = .ok news.toArray w := fun w => by
  by_cases h0 : m * sz = 0
  .rw [if_pos h0, Sem.run_pure]
   have : news = [] := apE.1 (by omega)
   rw [this]
  .rw [if_neg h0, Sem.run_bind, hz', Result.andThen_ok, Sem.run_pure, <- hnews, Array.toArray_toList]
 have hmax : IntKind.i64.max = 9223372036854775807 := by decide
 have hnot : ¬ (((n + m : Nat) : Int) > IntKind.i64.max) := by rw [hmax]; omega
 have hlen := h.1
 rcases h.2 with ⟨rfl, rfl⟩ | ⟨b, c, rest, rfl, h2, h3, h4, h5⟩
 .have hl0 : l = [] := apE.1 (by omega)
  subst hl0
  by_cases hm : m = 0
  .subst hm
   have hn0 : news = [] := apE.1 (by omega)
   subst hn0
   have : (oF .append #[t, t2] ty [.slice none 0 0, .int k (0 : Nat)]).run P w = .ok (.value (.slice none 0 0)) w := by
    unfold oF builtin
    simp only [Builtin.append_, apR, anM, anN]
    simp only [underlying, typeInfo, Sem.run_bind, run_program, Result.andThen_ok, hu, hu2, hi, Sem.run_pure, kR hi, hsz, has, hmw, hm0, hmx, if_true, if_false, anP, anU, anO, aoA, apI, hnw]
   unfold gD
   rw [this]
   exact hk _ _ ⟨by simp, .inl ⟨rfl, by omega⟩⟩ (jM.refl _ _)
  .have hfit := growslice_fits (need := 0 + m) (old := 0) (bytes := i.bytes) (by omega) (by omega)
   have hfit' : ¬ (Builtin.nextslicecap (0 + m) 0 * i.bytes > 2 ^ 48) := by omega
   have hle : ¬ (0 + m <= 0) := by omega
   have hq : (Question.appendCap (0 + m) 0 e).forced = false := rfl
   obtain ⟨r, hr⟩ : ∃ r, (Question.appendCap (0 + m) 0 e).cut (w.tape w.drawn (.appendCap (0 + m) 0 e)) = m + r :=
    ⟨(w.tape w.drawn (.appendCap (0 + m) 0 e)) % (2 ^ 63 - (0 + m)), by simp only [Question.cut]; omega⟩
   have : (oF .append #[t, t2] ty [.slice none 0 0, .int k m]).run P w = .ok (.value (.slice (some ⟨w.heap.size, 0, none⟩) (0 + m) (m + r))) ((dr w).alloc (.cells (news ++ (Builtin.zeroCells z.cells (m + r - (0 + m))).toList).toArray e)) := by
    unfold oF builtin
    simp only [Builtin.append_, apR, anM, anN]
    simp only [underlying, typeInfo, Sem.run_bind, run_program, Result.andThen_ok, hu, hu2, hi, Sem.run_pure, kR hi, hsz, has, hmw, hm0, hmx, if_true, if_false, anP, anU, anO, hle, hnot, false_and, hfit', run_choose, hq, hr, run_askRoom]
    change ((Sem.run P _ (dr w)).andThen _).andThen _ = _
    simp only [Sem.run_bind, hnw, run_firstCells_none, Result.andThen_ok, hz', Sem.run_pure, newRow, run_newObj]
    have e1 : (#[] ++ news.toArray ++ Builtin.zeroCells z.cells (m + r - (0 + m)) : Array asZ) = (news ++ (Builtin.zeroCells z.cells (m + r - (0 + m))).toList).toArray := by
     apply Array.ext'; simp
    rw [e1]
    rfl
   unfold gD
   rw [this]
   refine hk _ _ ⟨by simp only [apL]; rw [hnl, anS], .inr ⟨w.heap.size, m + r, (Builtin.zeroCells z.cells (m + r - (0 + m))).toList, by rw [anS], hb _ (aoA _), mP.alloc (dr w) _ _, ?_, by omega⟩⟩ ((jM.dr w _).seq (jM.alloc _ _ _))
   simp only [apL, anW, aqU, vK, hzs, hnl]
   rw [show m + r - (0 + m) = r from by omega, apG]
 .by_cases hc : n + m <= c
  .have hroom : news.length <= rest.length := by
    rw [anW, hlen] at h4
    have : (n + m) * sz <= c * sz := aoQ _ hc
    rw [apG] at this; omega
   obtain ⟨w', s1, s2, s3, s4, _⟩ := D5 (P := P) (M := S) h2 news w (n * sz) 0 (l ++ rest) h3 (by rw [anW, hlen]; omega) hone'
   have : (oF .append #[t, t2] ty [.slice (some ⟨b, 0, none⟩) n c, .int k m]).run P w = .ok (.value (.slice (some ⟨b, 0, none⟩) (n + m) c)) w' := by
    unfold oF builtin
    simp only [Builtin.append_, apR, anM, anN]
    simp only [underlying, typeInfo, Sem.run_bind, run_program, Result.andThen_ok, hu, hu2, hi, Sem.run_pure, kR hi, hsz, has, hmw, hm0, hmx, if_true, if_false, anP, anU, anO, hc, hnw, FM, anS, s1]
   unfold gD
   rw [this]
   rw [apI, <- hlen, Qw _ _ _ hroom] at s2
   refine hk _ _ ⟨by rw [anW, hlen, hnl, apG], .inr ⟨b, c, rest.drop news.length, rfl, h2, s2, ?_, hc⟩⟩ s3
   rw [<- h4]; simp; omega
  .have hfit := growslice_fits (need := n + m) (old := c) (bytes := i.bytes) (by omega) hbytes
   have hfit' : ¬ (Builtin.nextslicecap (n + m) c * i.bytes > 2 ^ 48) := by omega
   have hq : (Question.appendCap (n + m) c e).forced = false := rfl
   obtain ⟨r, hr⟩ : ∃ r, (Question.appendCap (n + m) c e).cut (w.tape w.drawn (.appendCap (n + m) c e)) = n + m + r :=
    ⟨(w.tape w.drawn (.appendCap (n + m) c e)) % (2 ^ 63 - (n + m)), by simp only [Question.cut]⟩
   have hold : Cl (dr w) sz (.slice (some ⟨b, 0, none⟩) n c) n l := ⟨_, _, rfl, hlen, fun _ => ⟨b, 0, rfl, fun i hi => by
    show w.cell? _ = _
    rw [h3.cell, anS, aoI hi]⟩⟩
   have : (oF .append #[t, t2] ty [.slice (some ⟨b, 0, none⟩) n c, .int k m]).run P w = .ok (.value (.slice (some ⟨w.heap.size, 0, none⟩) (n + m) (n + m + r))) ((dr w).alloc (.cells (l ++ news ++ (Builtin.zeroCells z.cells (n + m + r - (n + m))).toList).toArray e)) := by
    have hfo := B7 (P := P) hold
    unfold oF builtin
    simp only [Builtin.append_, apR, anM, anN]
    simp only [underlying, typeInfo, Sem.run_bind, run_program, Result.andThen_ok, hu, hu2, hi, Sem.run_pure, kR hi, hsz, has, hmw, hm0, hmx, if_true, if_false, anP, anU, anO, hc, hnot, false_and, hfit', run_choose, hq, hr, run_askRoom]
    change ((Sem.run P _ (dr w)).andThen _).andThen _ = _
    simp only [Sem.run_bind, hnw, hfo, Result.andThen_ok, hz', Sem.run_pure, newRow, run_newObj]
    have e1 : (l.toArray ++ news.toArray ++ Builtin.zeroCells z.cells (n + m + r - (n + m)) : Array asZ) = (l ++ news ++ (Builtin.zeroCells z.cells (n + m + r - (n + m))).toList).toArray := by
     apply Array.ext'; simp
    rw [e1]
    rfl
   unfold gD
   rw [this]
   refine hk _ _ ⟨by rw [anW, hlen, hnl, apG], .inr ⟨w.heap.size, n + m + r, _, rfl, hb _ (aoA _), mP.alloc (dr w) _ _, ?_, by omega⟩⟩ ((jM.dr w _).seq (jM.alloc _ _ _))
   simp only [anW, aqU, vK, hzs, hnl, hlen]
   rw [show n + m + r - (n + m) = r from by omega, apG, apG]
end
end Go.En
namespace Go.En
open Go
theorem ajQ {P : Program} {w : asY} {t e ty : TypeId} (hu : P.underlying t = some (.slice e)) (x : Option Addr) (n c : Nat) : (oF .cap #[t] ty [.slice x n c]).run P w = .ok (.value (.int .i64 c)) w := by
 simp [oF, builtin, Builtin.cap_, underlying, hu, goInt]
end Go.En
namespace Go.Proofs.YtoecppploooloaaGreatDoor
open Go Go.En Go.Pu
set_option maxRecDepth 4000
set_option linter.unusedSimpArgs false
set_option linter.unusedVariables false
theorem acR {y : asZ} (hy : y ∈ (Value.int .u8 0).cells.toList) : one y = true := by
 have : y = .int .u8 0 := by simpa [Value.cells] using hy
 subst this; rfl
theorem ajA {n : Nat} {w : asY} (h1 : 1 <= n) (hn : n <= 100000000) :
 jD pg xL #[.slice none 0 0, .int .i64 (n : Nat)] w (fun r w' => (∃ b c, r = .slice (some ⟨b, 0, none⟩) 0 c) /\ xH w' w.heap.size 1 r 0 [] /\ jM w w' mM) := by
 refine MV ?_
 unfold Kh Bl Bi BJ BT vI
 have d1 : decide (((n : Nat) : Int) < 0) = false := decide_eq_false (by omega)
 have hcap := fun (x : Option Addr) (n c : Nat) w => ajQ (P := pg) (w := w) (ty := 3) Tryz.underlying22 x n c
 have e1 : ((0 : Nat) : Int) = 0 := rfl
 have e2 : ((n : Nat) : Int) - (0 - 0) = ((n : Nat) : Int) := by omega
 have d2 : decide ((0 : Int) < ((n : Nat) : Int)) = true := decide_eq_true (by omega)
 have z0 : (0 : Int).toNat = 0 := rfl
 have s0 : nM none 0 0 1 = none := rfl
 have e3 : ((0 : Int) - 0) = 0 := rfl
 have e4 : ((n : Nat) : Int) - 0 = ((n : Nat) : Int) := by omega
 simp (disch := omega) only [gD, jF, cJ, stepR_skip, hO, iB, iP, iN, iK, iO, jI, iV, gK, iC, iF, iD, iH, hJ, iM, hU, iE, iW, iS, iJ, gQ, iR, iQ, iG, kU, kV, lF, lC, lH, lE, lJ, lG, lD, gB, Result.ok.injEq, Next.value.injEq, true_and, and_true, gZ, hZ, iX, iT, iU, jG, anP, gW, gU, gX, gT, gM, gI, gN, gL, fZ, fT, if_true, if_false, anO, anS, anQ, anR, anU, anT, anN, anM, fM, fK, fB, fQ, cU, eQ, eE, dJ, bJ, fR, fE, aL, dD, aZ, bM, bP, aO, cQ, cF, eP, aF, gS, aP, cK, aR, bS, fS, cI, cC, aB, gC, fA, aI, aG, bN, gO, aN, eU, dZ, dV, gG, dH, fC, dC, eF, eZ, eY, cB, cY, gJ, eD, bZ, bF, bY, bX, fO, aD, aE, aM, aV, bE, cS, bK, aA, fF, aH, cO, fI, eT, gH, bO, eM, eK, bW, fW, eS, eI, cZ, cL, dF, aX, bD, aQ, gA, aJ, dB, dY, bB, cH, fJ, dK, gE, fL, fH, fG, dS, aK, cG, dG, fX, fY, fD, dE, aT, dT, fV, cP, eX, fN, cD, bL, dP, aW, dX, dR, cN, eN, eL, aY, dI, bA, dO, dW, dN, bH, cR, cM, dM, bR, cW, cV, fP, bV, eH, eJ, gF, dU, dQ, dL, dA, bG, bQ, bU, bT, aS, cX, aU, d1, hcap, e1, e2, e3, e4, d2, z0, s0, arP]
 refine Xu (m := n) (n := 0) (l := []) (S := fun y => w.heap.size <= y) (i := Tryz.t5) Tryz.underlying22 Tryz.underlying3 Ih rfl rfl rfl ⟨rfl, .inl ⟨rfl, rfl⟩⟩ (by decide) (fun y hy => acR hy) (fun b hb => hb) (by omega) (by rw [show Tryz.t5.bytes = 1 from rfl]; omega) (by rw [show Tryz.t5.bytes = 1 from rfl]; omega) fun v1 w1 o1 x1 => ?_
 rcases o1.2 with ⟨-, h0⟩ | ⟨b, c, rest, rfl, hb, ho, hc, hnc⟩
 .omega
 have hcn : ¬ c = 0 := by omega
 have s1 : nM (some ⟨b, 0, none⟩) c 0 1 = some ⟨b, 0, none⟩ := by unfold nM; rw [if_neg hcn, aoW] <;> rfl
 simp (disch := omega) only [gD, jF, cJ, stepR_skip, hO, iB, iP, iN, iK, iO, jI, iV, gK, iC, iF, iD, iH, hJ, iM, hU, iE, iW, iS, iJ, gQ, iR, iQ, iG, kU, kV, lF, lC, lH, lE, lJ, lG, lD, gB, Result.ok.injEq, Next.value.injEq, true_and, and_true, gZ, hZ, iX, iT, iU, jG, anP, gW, gU, gX, gT, gM, gI, gN, gL, fZ, fT, if_true, if_false, anO, anS, anQ, anR, anU, anT, anN, anM, fM, fK, fB, fQ, cU, eQ, eE, dJ, bJ, fR, fE, aL, dD, aZ, bM, bP, aO, cQ, cF, eP, aF, gS, aP, cK, aR, bS, fS, cI, cC, aB, gC, fA, aI, aG, bN, gO, aN, eU, dZ, dV, gG, dH, fC, dC, eF, eZ, eY, cB, cY, gJ, eD, bZ, bF, bY, bX, fO, aD, aE, aM, aV, bE, cS, bK, aA, fF, aH, cO, fI, eT, gH, bO, eM, eK, bW, fW, eS, eI, cZ, cL, dF, aX, bD, aQ, gA, aJ, dB, dY, bB, cH, fJ, dK, gE, fL, fH, fG, dS, aK, cG, dG, fX, fY, fD, dE, aT, dT, fV, cP, eX, fN, cD, bL, dP, aW, dX, dR, cN, eN, eL, aY, dI, bA, dO, dW, dN, bH, cR, cM, dM, bR, cW, cV, fP, bV, eH, eJ, gF, dU, dQ, dL, dA, bG, bQ, bU, bT, aS, cX, aU, e1, z0, s1, arP]
 refine ⟨⟨b, c, rfl⟩, ⟨rfl, .inr ⟨b, c, _, rfl, hb, ho, hc, by omega⟩⟩, x1.mono fun y hy h => by omega⟩
theorem acW {b : Nat} {xv yv : asZ} {l m : List UInt8} {w : asY} (o : mP w b [xv, yv]) (hx : Bs w xv l) (hy : Bs w yv m) (h1 : 1 <= l.length) (hl : l.length <= 10000000) (hm : m.length <= 10000000) :
 jD pg uF #[.slice (some ⟨b, 0, none⟩) 2 2] w (fun r w' => xH w' w.heap.size 1 r (l ++ m).length ((l ++ m).map pB) /\ jM w w' mM) := by
 refine KE ?_
 obtain ⟨RR, hRR⟩ : ∃ RR : asZ -> asY -> Prop, RR = fun r w' => xH w' w.heap.size 1 r (l ++ m).length ((l ++ m).map pB) /\ jM w w' mM := ⟨_, rfl⟩
 rw [<- hRR]
 have hbx := hx
 have hby := hy
 obtain ⟨xa, xc, rfl, -⟩ := hx.len
 obtain ⟨ya, yc, rfl, -⟩ := hy.len
 rw [anV] at hbx hby o
 rw [anV] at o
 have z0 : (0 : Int).toNat = 0 := rfl
 have z1 : (1 : Int).toNat = 1 := rfl
 have n2 : ((2 : Nat) : Int) = 2 := rfl
 have c0 : ∀ {W}, jM w W mM -> W.cell? ⟨b, 0, none⟩ = some (.slice xa l.length xc) := fun x => (o.ext x (fun h => h)).cell (off := 0)
 have c1 : ∀ {W}, jM w W mM -> W.cell? ⟨b, 1, none⟩ = some (.slice ya m.length yc) := fun x => (o.ext x (fun h => h)).cell (off := 1)
 have c00 := c0 (jM.refl w mM)
 have c10 := c1 (jM.refl w mM)
 have d0 : decide ((0 : Int) < 2) = true := rfl
 have d1 : decide ((1 : Int) < 2) = true := rfl
 have d2 : decide ((2 : Int) < 2) = false := rfl
 have e01 : (0 : Int) + 1 = 1 := rfl
 have e12 : (1 : Int) + 1 = 2 := rfl
 unfold Ii wW wO xA xB wU xS yA
 simp (disch := omega) only [gD, jF, cJ, stepR_skip, hO, iB, iP, iN, iK, iO, jI, iV, gK, iC, iF, iD, iH, hJ, iM, hU, iE, iW, iS, iJ, gQ, iR, iQ, iG, kU, kV, lF, lC, lH, lE, lJ, lG, lD, gB, Result.ok.injEq, Next.value.injEq, true_and, and_true, gZ, hZ, iX, iT, iU, jG, anP, gW, gU, gX, gT, gM, gI, gN, gL, fZ, fT, if_true, if_false, anO, anS, anQ, anR, anU, anT, anN, anM, fM, fK, fB, fQ, cU, eQ, eE, dJ, bJ, fR, fE, aL, dD, aZ, bM, bP, aO, cQ, cF, eP, aF, gS, aP, cK, aR, bS, fS, cI, cC, aB, gC, fA, aI, aG, bN, gO, aN, eU, dZ, dV, gG, dH, fC, dC, eF, eZ, eY, cB, cY, gJ, eD, bZ, bF, bY, bX, fO, aD, aE, aM, aV, bE, cS, bK, aA, fF, aH, cO, fI, eT, gH, bO, eM, eK, bW, fW, eS, eI, cZ, cL, dF, aX, bD, aQ, gA, aJ, dB, dY, bB, cH, fJ, dK, gE, fL, fH, fG, dS, aK, cG, dG, fX, fY, fD, dE, aT, dT, fV, cP, eX, fN, cD, bL, dP, aW, dX, dR, cN, eN, eL, aY, dI, bA, dO, dW, dN, bH, cR, cM, dM, bR, cW, cV, fP, bV, eH, eJ, gF, dU, dQ, dL, dA, bG, bQ, bU, bT, aS, cX, aU, n2]
 refine kE.rule (fun k (t : asZ × asZ) W => W = w /\ ((k = 2 /\ t = (.int .i64 0, .int .i64 0)) ∨ (k = 1 /\ t = (.int .i64 (l.length : Nat), .int .i64 1)) ∨ (k = 0 /\ t = (.int .i64 ((l.length + m.length : Nat) : Int), .int .i64 2)))) 2 ⟨rfl, .inl ⟨rfl, rfl⟩⟩ ?_
 rintro k t W ⟨rfl, ⟨rfl, rfl⟩ | ⟨rfl, rfl⟩ | ⟨rfl, rfl⟩⟩
 .unfold pE qE qD
  have e1 : (0 : Int) + (l.length : Int) = (l.length : Int) := by omega
  have d3 : decide ((l.length : Int) < 0) = false := decide_eq_false (by omega)
  simp (disch := omega) only [gD, jF, cJ, stepR_skip, hO, iB, iP, iN, iK, iO, jI, iV, gK, iC, iF, iD, iH, hJ, iM, hU, iE, iW, iS, iJ, gQ, iR, iQ, iG, kU, kV, lF, lC, lH, lE, lJ, lG, lD, gB, Result.ok.injEq, Next.value.injEq, true_and, and_true, gZ, hZ, iX, iT, iU, jG, anP, gW, gU, gX, gT, gM, gI, gN, gL, fZ, fT, if_true, if_false, anO, anS, anQ, anR, anU, anT, anN, anM, fM, fK, fB, fQ, cU, eQ, eE, dJ, bJ, fR, fE, aL, dD, aZ, bM, bP, aO, cQ, cF, eP, aF, gS, aP, cK, aR, bS, fS, cI, cC, aB, gC, fA, aI, aG, bN, gO, aN, eU, dZ, dV, gG, dH, fC, dC, eF, eZ, eY, cB, cY, gJ, eD, bZ, bF, bY, bX, fO, aD, aE, aM, aV, bE, cS, bK, aA, fF, aH, cO, fI, eT, gH, bO, eM, eK, bW, fW, eS, eI, cZ, cL, dF, aX, bD, aQ, gA, aJ, dB, dY, bB, cH, fJ, dK, gE, fL, fH, fG, dS, aK, cG, dG, fX, fY, fD, dE, aT, dT, fV, cP, eX, fN, cD, bL, dP, aW, dX, dR, cN, eN, eL, aY, dI, bA, dO, dW, dN, bH, cR, cM, dM, bR, cW, cV, fP, bV, eH, eJ, gF, dU, dQ, dL, dA, bG, bQ, bU, bT, aS, cX, aU, d0, z0, n2, c00, e1, d3, e01, arQ, apI]
  first
   | exact ⟨1, by omega, rfl, .inr (.inl ⟨rfl, rfl⟩)⟩
   | exact ⟨1, by omega, .inr (.inl ⟨rfl, rfl⟩)⟩
   | exact ⟨1, by omega, .inr (.inl rfl)⟩
 .unfold pE qE qD
  have e1 : (l.length : Int) + (m.length : Int) = ((l.length + m.length : Nat) : Int) := by omega
  have d3 : decide (((l.length + m.length : Nat) : Int) < 0) = false := decide_eq_false (by omega)
  simp (disch := omega) only [gD, jF, cJ, stepR_skip, hO, iB, iP, iN, iK, iO, jI, iV, gK, iC, iF, iD, iH, hJ, iM, hU, iE, iW, iS, iJ, gQ, iR, iQ, iG, kU, kV, lF, lC, lH, lE, lJ, lG, lD, gB, Result.ok.injEq, Next.value.injEq, true_and, and_true, gZ, hZ, iX, iT, iU, jG, anP, gW, gU, gX, gT, gM, gI, gN, gL, fZ, fT, if_true, if_false, anO, anS, anQ, anR, anU, anT, anN, anM, fM, fK, fB, fQ, cU, eQ, eE, dJ, bJ, fR, fE, aL, dD, aZ, bM, bP, aO, cQ, cF, eP, aF, gS, aP, cK, aR, bS, fS, cI, cC, aB, gC, fA, aI, aG, bN, gO, aN, eU, dZ, dV, gG, dH, fC, dC, eF, eZ, eY, cB, cY, gJ, eD, bZ, bF, bY, bX, fO, aD, aE, aM, aV, bE, cS, bK, aA, fF, aH, cO, fI, eT, gH, bO, eM, eK, bW, fW, eS, eI, cZ, cL, dF, aX, bD, aQ, gA, aJ, dB, dY, bB, cH, fJ, dK, gE, fL, fH, fG, dS, aK, cG, dG, fX, fY, fD, dE, aT, dT, fV, cP, eX, fN, cD, bL, dP, aW, dX, dR, cN, eN, eL, aY, dI, bA, dO, dW, dN, bH, cR, cM, dM, bR, cW, cV, fP, bV, eH, eJ, gF, dU, dQ, dL, dA, bG, bQ, bU, bT, aS, cX, aU, d1, z1, n2, c10, e1, d3, e12, Nat.one_mul, apT, anS]
  first
   | exact ⟨0, by omega, rfl, .inr (.inr ⟨rfl, rfl⟩)⟩
   | exact ⟨0, by omega, .inr (.inr ⟨rfl, rfl⟩)⟩
   | exact ⟨0, by omega, .inr (.inr rfl)⟩
 .unfold pE qE yQ yR
  simp (disch := omega) only [gD, jF, cJ, stepR_skip, hO, iB, iP, iN, iK, iO, jI, iV, gK, iC, iF, iD, iH, hJ, iM, hU, iE, iW, iS, iJ, gQ, iR, iQ, iG, kU, kV, lF, lC, lH, lE, lJ, lG, lD, gB, Result.ok.injEq, Next.value.injEq, true_and, and_true, gZ, hZ, iX, iT, iU, jG, anP, gW, gU, gX, gT, gM, gI, gN, gL, fZ, fT, if_true, if_false, anO, anS, anQ, anR, anU, anT, anN, anM, fM, fK, fB, fQ, cU, eQ, eE, dJ, bJ, fR, fE, aL, dD, aZ, bM, bP, aO, cQ, cF, eP, aF, gS, aP, cK, aR, bS, fS, cI, cC, aB, gC, fA, aI, aG, bN, gO, aN, eU, dZ, dV, gG, dH, fC, dC, eF, eZ, eY, cB, cY, gJ, eD, bZ, bF, bY, bX, fO, aD, aE, aM, aV, bE, cS, bK, aA, fF, aH, cO, fI, eT, gH, bO, eM, eK, bW, fW, eS, eI, cZ, cL, dF, aX, bD, aQ, gA, aJ, dB, dY, bB, cH, fJ, dK, gE, fL, fH, fG, dS, aK, cG, dG, fX, fY, fD, dE, aT, dT, fV, cP, eX, fN, cD, bL, dP, aW, dX, dR, cN, eN, eL, aY, dI, bA, dO, dW, dN, bH, cR, cM, dM, bR, cW, cV, fP, bV, eH, eJ, gF, dU, dQ, dL, dA, bG, bQ, bU, bT, aS, cX, aU, d2]
  refine (ajA (n := l.length + m.length) (by omega) (by omega)).mono ?_
  rintro r w1 ⟨-, o1, x1⟩
  have s1 := x1.size
  unfold zA yU yT yV zB
  simp (disch := omega) only [gD, jF, cJ, stepR_skip, hO, iB, iP, iN, iK, iO, jI, iV, gK, iC, iF, iD, iH, hJ, iM, hU, iE, iW, iS, iJ, gQ, iR, iQ, iG, kU, kV, lF, lC, lH, lE, lJ, lG, lD, gB, Result.ok.injEq, Next.value.injEq, true_and, and_true, gZ, hZ, iX, iT, iU, jG, anP, gW, gU, gX, gT, gM, gI, gN, gL, fZ, fT, if_true, if_false, anO, anS, anQ, anR, anU, anT, anN, anM, fM, fK, fB, fQ, cU, eQ, eE, dJ, bJ, fR, fE, aL, dD, aZ, bM, bP, aO, cQ, cF, eP, aF, gS, aP, cK, aR, bS, fS, cI, cC, aB, gC, fA, aI, aG, bN, gO, aN, eU, dZ, dV, gG, dH, fC, dC, eF, eZ, eY, cB, cY, gJ, eD, bZ, bF, bY, bX, fO, aD, aE, aM, aV, bE, cS, bK, aA, fF, aH, cO, fI, eT, gH, bO, eM, eK, bW, fW, eS, eI, cZ, cL, dF, aX, bD, aQ, gA, aJ, dB, dY, bB, cH, fJ, dK, gE, fL, fH, fG, dS, aK, cG, dG, fX, fY, fD, dE, aT, dT, fV, cP, eX, fN, cD, bL, dP, aW, dX, dR, cN, eN, eL, aY, dI, bA, dO, dW, dN, bH, cR, cM, dM, bR, cW, cV, fP, bV, eH, eJ, gF, dU, dQ, dL, dA, bG, bQ, bU, bT, aS, cX, aU, n2]
  obtain ⟨w0, hw0⟩ : ∃ w0, w0 = W.heap.size := ⟨_, rfl⟩
  rw [<- hw0] at o1
  refine kE.rule (fun k (t : asZ × asZ) W' => jM W W' mM /\ ((k = 2 /\ ∃ v, t = (v, .int .i64 0) /\ xH W' w0 1 v 0 []) ∨ (k = 1 /\ ∃ v, t = (v, .int .i64 1) /\ xH W' w0 1 v l.length (l.map pB)) ∨ (k = 0 /\ ∃ v, t = (v, .int .i64 2) /\ xH W' w0 1 v (l ++ m).length ((l ++ m).map pB)))) 2 ⟨x1, .inl ⟨rfl, _, rfl, o1⟩⟩ ?_
  rintro k t W' ⟨x, ⟨rfl, v, rfl, ov⟩ | ⟨rfl, v, rfl, ov⟩ | ⟨rfl, v, rfl, ov⟩⟩
  .unfold pK
   have cc := c0 x
   have hcl := (hbx.ext x (kJ _)).cl
   rw [anV] at hcl
   have zz := x.size
   simp (disch := omega) only [gD, jF, cJ, stepR_skip, hO, iB, iP, iN, iK, iO, jI, iV, gK, iC, iF, iD, iH, hJ, iM, hU, iE, iW, iS, iJ, gQ, iR, iQ, iG, kU, kV, lF, lC, lH, lE, lJ, lG, lD, gB, Result.ok.injEq, Next.value.injEq, true_and, and_true, gZ, hZ, iX, iT, iU, jG, anP, gW, gU, gX, gT, gM, gI, gN, gL, fZ, fT, if_true, if_false, anO, anS, anQ, anR, anU, anT, anN, anM, fM, fK, fB, fQ, cU, eQ, eE, dJ, bJ, fR, fE, aL, dD, aZ, bM, bP, aO, cQ, cF, eP, aF, gS, aP, cK, aR, bS, fS, cI, cC, aB, gC, fA, aI, aG, bN, gO, aN, eU, dZ, dV, gG, dH, fC, dC, eF, eZ, eY, cB, cY, gJ, eD, bZ, bF, bY, bX, fO, aD, aE, aM, aV, bE, cS, bK, aA, fF, aH, cO, fI, eT, gH, bO, eM, eK, bW, fW, eS, eI, cZ, cL, dF, aX, bD, aQ, gA, aJ, dB, dY, bB, cH, fJ, dK, gE, fL, fH, fG, dS, aK, cG, dG, fX, fY, fD, dE, aT, dT, fV, cP, eX, fN, cD, bL, dP, aW, dX, dR, cN, eN, eL, aY, dI, bA, dO, dW, dN, bH, cR, cM, dM, bR, cW, cV, fP, bV, eH, eJ, gF, dU, dQ, dL, dA, bG, bQ, bU, bT, aS, cX, aU, d0, z0, n2, cc, arQ, apI]
   refine mC ov hcl (DE _) (by omega) (by omega) fun v2 w2 o2 x2 => ?_
   simp (disch := omega) only [gD, jF, cJ, stepR_skip, hO, iB, iP, iN, iK, iO, jI, iV, gK, iC, iF, iD, iH, hJ, iM, hU, iE, iW, iS, iJ, gQ, iR, iQ, iG, kU, kV, lF, lC, lH, lE, lJ, lG, lD, gB, Result.ok.injEq, Next.value.injEq, true_and, and_true, gZ, hZ, iX, iT, iU, jG, anP, gW, gU, gX, gT, gM, gI, gN, gL, fZ, fT, if_true, if_false, anO, anS, anQ, anR, anU, anT, anN, anM, fM, fK, fB, fQ, cU, eQ, eE, dJ, bJ, fR, fE, aL, dD, aZ, bM, bP, aO, cQ, cF, eP, aF, gS, aP, cK, aR, bS, fS, cI, cC, aB, gC, fA, aI, aG, bN, gO, aN, eU, dZ, dV, gG, dH, fC, dC, eF, eZ, eY, cB, cY, gJ, eD, bZ, bF, bY, bX, fO, aD, aE, aM, aV, bE, cS, bK, aA, fF, aH, cO, fI, eT, gH, bO, eM, eK, bW, fW, eS, eI, cZ, cL, dF, aX, bD, aQ, gA, aJ, dB, dY, bB, cH, fJ, dK, gE, fL, fH, fG, dS, aK, cG, dG, fX, fY, fD, dE, aT, dT, fV, cP, eX, fN, cD, bL, dP, aW, dX, dR, cN, eN, eL, aY, dI, bA, dO, dW, dN, bH, cR, cM, dM, bR, cW, cV, fP, bV, eH, eJ, gF, dU, dQ, dL, dA, bG, bQ, bU, bT, aS, cX, aU, e01]
   rw [anS, apL] at o2
   exact ⟨1, by omega, x.trans x2 fun y hy h => by omega, .inr (.inl ⟨rfl, _, rfl, o2⟩)⟩
  .unfold pK
   have cc := c1 x
   have hcl := (hby.ext x (kJ _)).cl
   rw [anV] at hcl
   have zz := x.size
   simp (disch := omega) only [gD, jF, cJ, stepR_skip, hO, iB, iP, iN, iK, iO, jI, iV, gK, iC, iF, iD, iH, hJ, iM, hU, iE, iW, iS, iJ, gQ, iR, iQ, iG, kU, kV, lF, lC, lH, lE, lJ, lG, lD, gB, Result.ok.injEq, Next.value.injEq, true_and, and_true, gZ, hZ, iX, iT, iU, jG, anP, gW, gU, gX, gT, gM, gI, gN, gL, fZ, fT, if_true, if_false, anO, anS, anQ, anR, anU, anT, anN, anM, fM, fK, fB, fQ, cU, eQ, eE, dJ, bJ, fR, fE, aL, dD, aZ, bM, bP, aO, cQ, cF, eP, aF, gS, aP, cK, aR, bS, fS, cI, cC, aB, gC, fA, aI, aG, bN, gO, aN, eU, dZ, dV, gG, dH, fC, dC, eF, eZ, eY, cB, cY, gJ, eD, bZ, bF, bY, bX, fO, aD, aE, aM, aV, bE, cS, bK, aA, fF, aH, cO, fI, eT, gH, bO, eM, eK, bW, fW, eS, eI, cZ, cL, dF, aX, bD, aQ, gA, aJ, dB, dY, bB, cH, fJ, dK, gE, fL, fH, fG, dS, aK, cG, dG, fX, fY, fD, dE, aT, dT, fV, cP, eX, fN, cD, bL, dP, aW, dX, dR, cN, eN, eL, aY, dI, bA, dO, dW, dN, bH, cR, cM, dM, bR, cW, cV, fP, bV, eH, eJ, gF, dU, dQ, dL, dA, bG, bQ, bU, bT, aS, cX, aU, d1, z1, n2, cc, Nat.one_mul, apT, anS]
   refine mC ov hcl (DE _) (by omega) (by omega) fun v2 w2 o2 x2 => ?_
   simp (disch := omega) only [gD, jF, cJ, stepR_skip, hO, iB, iP, iN, iK, iO, jI, iV, gK, iC, iF, iD, iH, hJ, iM, hU, iE, iW, iS, iJ, gQ, iR, iQ, iG, kU, kV, lF, lC, lH, lE, lJ, lG, lD, gB, Result.ok.injEq, Next.value.injEq, true_and, and_true, gZ, hZ, iX, iT, iU, jG, anP, gW, gU, gX, gT, gM, gI, gN, gL, fZ, fT, if_true, if_false, anO, anS, anQ, anR, anU, anT, anN, anM, fM, fK, fB, fQ, cU, eQ, eE, dJ, bJ, fR, fE, aL, dD, aZ, bM, bP, aO, cQ, cF, eP, aF, gS, aP, cK, aR, bS, fS, cI, cC, aB, gC, fA, aI, aG, bN, gO, aN, eU, dZ, dV, gG, dH, fC, dC, eF, eZ, eY, cB, cY, gJ, eD, bZ, bF, bY, bX, fO, aD, aE, aM, aV, bE, cS, bK, aA, fF, aH, cO, fI, eT, gH, bO, eM, eK, bW, fW, eS, eI, cZ, cL, dF, aX, bD, aQ, gA, aJ, dB, dY, bB, cH, fJ, dK, gE, fL, fH, fG, dS, aK, cG, dG, fX, fY, fD, dE, aT, dT, fV, cP, eX, fN, cD, bL, dP, aW, dX, dR, cN, eN, eL, aY, dI, bA, dO, dW, dN, bH, cR, cM, dM, bR, cW, cV, fP, bV, eH, eJ, gF, dU, dQ, dL, dA, bG, bQ, bU, bT, aS, cX, aU, e12]
   rw [<- aoX, <- anW] at o2
   exact ⟨0, by omega, x.trans x2 fun y hy h => by omega, .inr (.inr ⟨rfl, _, rfl, o2⟩)⟩
  .unfold pK tF
   simp (disch := omega) only [gD, jF, cJ, stepR_skip, hO, iB, iP, iN, iK, iO, jI, iV, gK, iC, iF, iD, iH, hJ, iM, hU, iE, iW, iS, iJ, gQ, iR, iQ, iG, kU, kV, lF, lC, lH, lE, lJ, lG, lD, gB, Result.ok.injEq, Next.value.injEq, true_and, and_true, gZ, hZ, iX, iT, iU, jG, anP, gW, gU, gX, gT, gM, gI, gN, gL, fZ, fT, if_true, if_false, anO, anS, anQ, anR, anU, anT, anN, anM, fM, fK, fB, fQ, cU, eQ, eE, dJ, bJ, fR, fE, aL, dD, aZ, bM, bP, aO, cQ, cF, eP, aF, gS, aP, cK, aR, bS, fS, cI, cC, aB, gC, fA, aI, aG, bN, gO, aN, eU, dZ, dV, gG, dH, fC, dC, eF, eZ, eY, cB, cY, gJ, eD, bZ, bF, bY, bX, fO, aD, aE, aM, aV, bE, cS, bK, aA, fF, aH, cO, fI, eT, gH, bO, eM, eK, bW, fW, eS, eI, cZ, cL, dF, aX, bD, aQ, gA, aJ, dB, dY, bB, cH, fJ, dK, gE, fL, fH, fG, dS, aK, cG, dG, fX, fY, fD, dE, aT, dT, fV, cP, eX, fN, cD, bL, dP, aW, dX, dR, cN, eN, eL, aY, dI, bA, dO, dW, dN, bH, cR, cM, dM, bR, cW, cV, fP, bV, eH, eJ, gF, dU, dQ, dL, dA, bG, bQ, bU, bT, aS, cX, aU, d2]
   rw [hRR, <- hw0]
   exact ⟨ov, x⟩
theorem Xv {a : Option Addr} {c : Nat} {w : asY} :
 jD pg zV #[.slice a 0 c] w (fun r w' => ∃ v, r = .tuple #[v, .int .i64 0] /\ xH w' w.heap.size 1 v 1 (([0] : List UInt8).map pB) /\ jM w w' mM) := by
 refine O7 ?_
 unfold Ms BI BS
 refine (FH w).mono ?_
 rintro r w1 ⟨rfl, hlt, h1, x1⟩
 have d1 : decide ((98047 : Int) < ((0 : Nat) : Int)) = false := rfl
 have n1 : (((0 : Nat) : Int) == 0) = true := rfl
 simp (disch := omega) only [gD, jF, cJ, stepR_skip, hO, iB, iP, iN, iK, iO, jI, iV, gK, iC, iF, iD, iH, hJ, iM, hU, iE, iW, iS, iJ, gQ, iR, iQ, iG, kU, kV, lF, lC, lH, lE, lJ, lG, lD, gB, Result.ok.injEq, Next.value.injEq, true_and, and_true, gZ, hZ, iX, iT, iU, jG, anP, gW, gU, gX, gT, gM, gI, gN, gL, fZ, fT, if_true, if_false, anO, anS, anQ, anR, anU, anT, anN, anM, fM, fK, fB, fQ, cU, eQ, eE, dJ, bJ, fR, fE, aL, dD, aZ, bM, bP, aO, cQ, cF, eP, aF, gS, aP, cK, aR, bS, fS, cI, cC, aB, gC, fA, aI, aG, bN, gO, aN, eU, dZ, dV, gG, dH, fC, dC, eF, eZ, eY, cB, cY, gJ, eD, bZ, bF, bY, bX, fO, aD, aE, aM, aV, bE, cS, bK, aA, fF, aH, cO, fI, eT, gH, bO, eM, eK, bW, fW, eS, eI, cZ, cL, dF, aX, bD, aQ, gA, aJ, dB, dY, bB, cH, fJ, dK, gE, fL, fH, fG, dS, aK, cG, dG, fX, fY, fD, dE, aT, dT, fV, cP, eX, fN, cD, bL, dP, aW, dX, dR, cN, eN, eL, aY, dI, bA, dO, dW, dN, bH, cR, cM, dM, bR, cW, cV, fP, bV, eH, eJ, gF, dU, dQ, dL, dA, bG, bQ, bU, bT, aS, cX, aU, d1, n1]
 refine sK (cells := #[.int .u8 0]) (by decide) (by decide) (by kernel_rfl) fun w2 o2 x2 s2 => ?_
 have z1 := x1.size
 refine ⟨_, rfl, ?_⟩
 exact ⟨⟨rfl, .inr ⟨_, 1, [], rfl, by omega, o2, rfl, aoA _⟩⟩, x1.seq x2⟩
abbrev SO (a b c : Nat) : asZ := .agg #[.int .u32 (a : Nat), .int .u32 (b : Nat), .int .u32 (c : Nat)]
def PkO (w : asY) (base : Nat) (r : asZ) : Prop :=
 (∃ (e : Int) (a b c : Nat), e ≠ 0 /\ r = .tuple #[.slice none 0 0, SO a b c, .int .i64 e]) ∨
 (∃ (x : asZ) (bytes : List UInt8) (a b c : Nat), r = .tuple #[x, SO a b c, .int .i64 0] /\ xH w base 1 x bytes.length (bytes.map pB) /\ 2 <= bytes.length)
theorem aaE {v : asZ} {l : List UInt8} {lvl a b c : Nat} {w : asY} (h : Bs w v l) (hl : l.length <= 2) (hlv : lvl <= 9) :
 jD pg Cr #[v, .int .i64 0, .int .i64 (l.length : Nat), .int .i64 (lvl : Nat), SO a b c] w (fun r w' => PkO w' w.heap.size r /\ jM w w' mM) := by
 refine Q3 ?_
 obtain ⟨RR, hRR⟩ : ∃ RR : asZ -> asY -> Prop, RR = fun r w' => PkO w' w.heap.size r /\ jM w w' mM := ⟨_, rfl⟩
 rw [<- hRR]
 have hv := h
 obtain ⟨va, vc, rfl, hvc⟩ := h.len
 rw [anV] at hv hvc ⊢
 unfold Qm FJ Fc
 refine Ce fun w1 o1 x1 s1 => ?_
 have o1 : mP w1 w.heap.size [.int .u32 (a : Nat), .int .u32 (b : Nat), .int .u32 (c : Nat)] := o1
 obtain ⟨p, hp⟩ : ∃ p, p = w.heap.size := ⟨_, rfl⟩
 rw [<- hp] at o1 ⊢
 refine rM fun w2 o2 x2 s2 => ?_
 obtain ⟨q, hq⟩ : ∃ q, q = w1.heap.size := ⟨_, rfl⟩
 rw [<- hq] at o2 ⊢
 have o2 : mP w2 q [.int .u32 0, .int .u32 0, .int .u32 0] := o2
 have x02 := x1.seq x2
 have hv2 := hv.ext x02 (kJ _)
 have hqp : q ≠ p := by omega
 have oP : ∀ {W}, jM w2 W mM -> mP W p [.int .u32 (a : Nat), .int .u32 (b : Nat), .int .u32 (c : Nat)] := fun x => (o1.ext x2 (fun h => h)).ext x (fun h => h)
 have oQ : ∀ {W}, jM w2 W mM -> mP W q [.int .u32 0, .int .u32 0, .int .u32 0] := fun x => o2.ext x (fun h => h)
 have ld : ∀ {W}, jM w2 W mM -> (jE 45 (.pointer (some ⟨p, 0, none⟩))).run pg W = .ok (.value (SO a b c)) W := fun x => A8 (off := 0) (oP x) (by simp)
 have ldd : ∀ {W}, jM w2 W mM -> (jE 45 (.pointer (some ⟨p, 0, none⟩))).run pg (dr W) = .ok (.value (SO a b c)) (dr W) := fun x => ld (x.seq (jM.dr _ mM))
 have n0 : ((0 : Int) != 0) = false := rfl
 have told : ∀ (W : asY) (K : asZ -> asY -> Prop), jM w2 W mM -> (∀ W', jM w W' mM -> jM W W' (fun y => y = q) -> K (SO a b c) W') →
     gD pg (jZ 45 (.pointer (some ⟨q, 0, none⟩)) (SO a b c)) W fun _u w => Um pg 45 (.pointer (some ⟨q, 0, none⟩)) w fun r1 => K r1 w := by
  intro W K x hK
  refine pV (oQ x) rfl (by simp [one]) (by simp) fun w4 o4 x4 s4 => ?_
  refine Fe o4 (by simp [qM]) ?_
  exact hK w4 ((x02.seq x).trans x4 fun y hy h => by omega) x4
 refine (ajG (a0 := 0) (to := l.length) (lvl := lvl) (B := l) hlv (by omega) (aoA _) (by omega) hv2).mono ?_
 rintro r w3 ⟨⟨fv, L, bg, rfl, oL, hpl, hbl, -, -⟩, x3⟩
 have hL0 : L = [] := by
  have := UK hpl (by omega)
  exact apE.1 (by omega)
 subst hL0
 obtain ⟨fa, fc, rfl⟩ := oL.len
 unfold FI ET Fm EP Fa
 have e0 : ((([] : List Sq).length : Nat) : Int) = 0 := rfl
 have e00 : ([] : List Sq).length = 0 := rfl
 simp (disch := omega) only [gD, jF, cJ, stepR_skip, hO, iB, iP, iN, iK, iO, jI, iV, gK, iC, iF, iD, iH, hJ, iM, hU, iE, iW, iS, iJ, gQ, iR, iQ, iG, kU, kV, lF, lC, lH, lE, lJ, lG, lD, gB, Result.ok.injEq, Next.value.injEq, true_and, and_true, gZ, hZ, iX, iT, iU, jG, anP, gW, gU, gX, gT, gM, gI, gN, gL, fZ, fT, if_true, if_false, anO, anS, anQ, anR, anU, anT, anN, anM, fM, fK, fB, fQ, cU, eQ, eE, dJ, bJ, fR, fE, aL, dD, aZ, bM, bP, aO, cQ, cF, eP, aF, gS, aP, cK, aR, bS, fS, cI, cC, aB, gC, fA, aI, aG, bN, gO, aN, eU, dZ, dV, gG, dH, fC, dC, eF, eZ, eY, cB, cY, gJ, eD, bZ, bF, bY, bX, fO, aD, aE, aM, aV, bE, cS, bK, aA, fF, aH, cO, fI, eT, gH, bO, eM, eK, bW, fW, eS, eI, cZ, cL, dF, aX, bD, aQ, gA, aJ, dB, dY, bB, cH, fJ, dK, gE, fL, fH, fG, dS, aK, cG, dG, fX, fY, fD, dE, aT, dT, fV, cP, eX, fN, cD, bL, dP, aW, dX, dR, cN, eN, eL, aY, dI, bA, dO, dW, dN, bH, cR, cM, dM, bR, cW, cV, fP, bV, eH, eJ, gF, dU, dQ, dL, dA, bG, bQ, bU, bT, aS, cX, aU, n0, e0, e00]
 refine kE.rule (fun m (t : asZ × asZ × asZ) W => m = 0 /\ t = (.slice none 0 0, .int .i64 0, .int .i64 0) /\ W = w3) 0 ⟨rfl, rfl, rfl⟩ ?_
 rintro m t W ⟨rfl, rfl, rfl⟩
 unfold AP
 have d0 : decide ((0 : Int) < ((0 : Nat) : Int)) = false := rfl
 have d0' : decide ((0 : Int) < 0) = false := rfl
 unfold AV
 have x23 : jM w2 W mM := x3
 have z23 := x23.size
 have hn : ((l.length : Nat) : Int).toNat = l.length := anP _
 have z0 : (0 : Int).toNat = 0 := rfl
 simp (disch := omega) only [gD, jF, cJ, stepR_skip, hO, iB, iP, iN, iK, iO, jI, iV, gK, iC, iF, iD, iH, hJ, iM, hU, iE, iW, iS, iJ, gQ, iR, iQ, iG, kU, kV, lF, lC, lH, lE, lJ, lG, lD, gB, Result.ok.injEq, Next.value.injEq, true_and, and_true, gZ, hZ, iX, iT, iU, jG, anP, gW, gU, gX, gT, gM, gI, gN, gL, fZ, fT, if_true, if_false, anO, anS, anQ, anR, anU, anT, anN, anM, fM, fK, fB, fQ, cU, eQ, eE, dJ, bJ, fR, fE, aL, dD, aZ, bM, bP, aO, cQ, cF, eP, aF, gS, aP, cK, aR, bS, fS, cI, cC, aB, gC, fA, aI, aG, bN, gO, aN, eU, dZ, dV, gG, dH, fC, dC, eF, eZ, eY, cB, cY, gJ, eD, bZ, bF, bY, bX, fO, aD, aE, aM, aV, bE, cS, bK, aA, fF, aH, cO, fI, eT, gH, bO, eM, eK, bW, fW, eS, eI, cZ, cL, dF, aX, bD, aQ, gA, aJ, dB, dY, bB, cH, fJ, dK, gE, fL, fH, fG, dS, aK, cG, dG, fX, fY, fD, dE, aT, dT, fV, cP, eX, fN, cD, bL, dP, aW, dX, dR, cN, eN, eL, aY, dI, bA, dO, dW, dN, bH, cR, cM, dM, bR, cW, cV, fP, bV, eH, eJ, gF, dU, dQ, dL, dA, bG, bQ, bU, bT, aS, cX, aU, d0, d0', hn, z0]
 have hsl : Bs W (.slice (nM va vc 0 1) (l.length - 0) (vc - 0)) l := by
  have := Sl.take' (hv.ext (x02.seq x23) (kJ _)) (k := l.length) (aoA _)
  rw [aoF (by rw [anV]; omega)] at this
  exact this
 have hcl := hsl.cl
 rw [anV] at hcl
 refine mC (xH.nil W W.heap.size 1) hcl (DE _) (aoA _) (by omega) fun v4 w4 o4 x4 => ?_
 rw [anS, apL] at o4
 have x24 : jM w2 w4 mM := x23.trans x4 fun y hy h => by omega
 refine (aaH (l := l) o4.sl (by omega)).mono ?_
 rintro r w5 ⟨⟨xv, bytes, rfl, o5, hb1, hb2⟩, x5⟩
 have x25 := x24.seq x5
 have z25 := x25.size
 simp (disch := omega) only [gD, jF, cJ, stepR_skip, hO, iB, iP, iN, iK, iO, jI, iV, gK, iC, iF, iD, iH, hJ, iM, hU, iE, iW, iS, iJ, gQ, iR, iQ, iG, kU, kV, lF, lC, lH, lE, lJ, lG, lD, gB, Result.ok.injEq, Next.value.injEq, true_and, and_true, gZ, hZ, iX, iT, iU, jG, anP, gW, gU, gX, gT, gM, gI, gN, gL, fZ, fT, if_true, if_false, anO, anS, anQ, anR, anU, anT, anN, anM, fM, fK, fB, fQ, cU, eQ, eE, dJ, bJ, fR, fE, aL, dD, aZ, bM, bP, aO, cQ, cF, eP, aF, gS, aP, cK, aR, bS, fS, cI, cC, aB, gC, fA, aI, aG, bN, gO, aN, eU, dZ, dV, gG, dH, fC, dC, eF, eZ, eY, cB, cY, gJ, eD, bZ, bF, bY, bX, fO, aD, aE, aM, aV, bE, cS, bK, aA, fF, aH, cO, fI, eT, gH, bO, eM, eK, bW, fW, eS, eI, cZ, cL, dF, aX, bD, aQ, gA, aJ, dB, dY, bB, cH, fJ, dK, gE, fL, fH, fG, dS, aK, cG, dG, fX, fY, fD, dE, aT, dT, fV, cP, eX, fN, cD, bL, dP, aW, dX, dR, cN, eN, eL, aY, dI, bA, dO, dW, dN, bH, cR, cM, dM, bR, cW, cV, fP, bV, eH, eJ, gF, dU, dQ, dL, dA, bG, bQ, bU, bT, aS, cX, aU, n0]
 refine (Xv).mono ?_
 rintro r w6 ⟨yv, rfl, o6, x6⟩
 have x26 := x25.seq x6
 have z26 := x26.size
 have hx6 : Bs w6 xv bytes := (o5.sl).ext x6 (kJ _)
 have hy6 : Bs w6 yv [0] := o6.sl
 have hx6' := hx6
 have hy6' := hy6
 obtain ⟨xa, xc, rfl, -⟩ := hx6.len
 obtain ⟨ya, yc, rfl, -⟩ := hy6.len
 rw [anV] at hx6' hy6'
 rw [anV, anV]
 have l6 := ldd x26
 simp (disch := omega) only [gD, jF, cJ, stepR_skip, hO, iB, iP, iN, iK, iO, jI, iV, gK, iC, iF, iD, iH, hJ, iM, hU, iE, iW, iS, iJ, gQ, iR, iQ, iG, kU, kV, lF, lC, lH, lE, lJ, lG, lD, gB, Result.ok.injEq, Next.value.injEq, true_and, and_true, gZ, hZ, iX, iT, iU, jG, anP, gW, gU, gX, gT, gM, gI, gN, gL, fZ, fT, if_true, if_false, anO, anS, anQ, anR, anU, anT, anN, anM, fM, fK, fB, fQ, cU, eQ, eE, dJ, bJ, fR, fE, aL, dD, aZ, bM, bP, aO, cQ, cF, eP, aF, gS, aP, cK, aR, bS, fS, cI, cC, aB, gC, fA, aI, aG, bN, gO, aN, eU, dZ, dV, gG, dH, fC, dC, eF, eZ, eY, cB, cY, gJ, eD, bZ, bF, bY, bX, fO, aD, aE, aM, aV, bE, cS, bK, aA, fF, aH, cO, fI, eT, gH, bO, eM, eK, bW, fW, eS, eI, cZ, cL, dF, aX, bD, aQ, gA, aJ, dB, dY, bB, cH, fJ, dK, gE, fL, fH, fG, dS, aK, cG, dG, fX, fY, fD, dE, aT, dT, fV, cP, eX, fN, cD, bL, dP, aW, dX, dR, cN, eN, eL, aY, dI, bA, dO, dW, dN, bH, cR, cM, dM, bR, cW, cV, fP, bV, eH, eJ, gF, dU, dQ, dL, dA, bG, bQ, bU, bT, aS, cX, aU, n0]
 refine O4 (cells := #[.slice xa bytes.length xc, .slice ya [(0 : UInt8)].length yc]) (by decide) (by decide) (by kernel_rfl) fun w7 o7 x7 s7 => ?_
 have x6d : jM w2 (dr w6) mM := x26.seq (jM.dr _ mM)
 have x27 := x6d.seq x7
 have z27 := x27.size
 have hx7 : Bs w7 (.slice xa bytes.length xc) bytes := (hx6'.ext (jM.dr _ mM) (kJ _)).ext x7 (kJ _)
 have hy7 : Bs w7 (.slice ya [(0 : UInt8)].length yc) [0] := (hy6'.ext (jM.dr _ mM) (kJ _)).ext x7 (kJ _)
 refine (acW (l := bytes) (m := [0]) o7 hx7 hy7 hb1 (by omega) (by simp)).mono ?_
 rintro r w8 ⟨o8, x8⟩
 have x28 := x27.seq x8
 have l7 := ld x27
 have l8 := ld x28
 simp (disch := omega) only [gD, jF, cJ, stepR_skip, hO, iB, iP, iN, iK, iO, jI, iV, gK, iC, iF, iD, iH, hJ, iM, hU, iE, iW, iS, iJ, gQ, iR, iQ, iG, kU, kV, lF, lC, lH, lE, lJ, lG, lD, gB, Result.ok.injEq, Next.value.injEq, true_and, and_true, gZ, hZ, iX, iT, iU, jG, anP, gW, gU, gX, gT, gM, gI, gN, gL, fZ, fT, if_true, if_false, anO, anS, anQ, anR, anU, anT, anN, anM, fM, fK, fB, fQ, cU, eQ, eE, dJ, bJ, fR, fE, aL, dD, aZ, bM, bP, aO, cQ, cF, eP, aF, gS, aP, cK, aR, bS, fS, cI, cC, aB, gC, fA, aI, aG, bN, gO, aN, eU, dZ, dV, gG, dH, fC, dC, eF, eZ, eY, cB, cY, gJ, eD, bZ, bF, bY, bX, fO, aD, aE, aM, aV, bE, cS, bK, aA, fF, aH, cO, fI, eT, gH, bO, eM, eK, bW, fW, eS, eI, cZ, cL, dF, aX, bD, aQ, gA, aJ, dB, dY, bB, cH, fJ, dK, gE, fL, fH, fG, dS, aK, cG, dG, fX, fY, fD, dE, aT, dT, fV, cP, eX, fN, cD, bL, dP, aW, dX, dR, cN, eN, eL, aY, dI, bA, dO, dW, dN, bH, cR, cM, dM, bR, cW, cV, fP, bV, eH, eJ, gF, dU, dQ, dL, dA, bG, bQ, bU, bT, aS, cX, aU, l6, l7, l8]
 refine told w8 (fun r1 w => RR (.tuple #[r, r1, .int .i64 0]) w) x28 fun W' xw xq => ?_
 rw [hRR]
 refine ⟨.inr ⟨r, bytes ++ [0], a, b, c, rfl, ?_, by rw [anW]; simp; omega⟩, xw⟩
 exact (o8.ext xq (fun y hy h => by omega)).lower (by omega)
end Go.Proofs.YtoecppploooloaaGreatDoor
namespace Go.Proofs.YtoecppploooloaaGreatDoor
open Go Go.En Go.Pu
set_option maxRecDepth 4000
def Dh (l : List UInt8) : List UInt8 := if EX l then ahO l.length (l.headD 0) true else ajJ l
def akG (w : asY) (base : Nat) (l : List UInt8) (r : asZ) : Prop := ∃ (v : asZ) (a b c : Nat), r = .tuple #[v, SO a b c, .int .i64 0] /\ xH w base 1 v (Dh l).length ((Dh l).map pB)
theorem ahV {v : asZ} {l : List UInt8} {lvl a b c : Nat} {w : asY} (h : Bs w v l) (h1 : 1 <= l.length) (hl : l.length <= 65536) (hs : EX l = true ∨ l.length <= 2) (hlv : lvl <= 9) :
 jD pg Dw #[v, .int .i64 0, .int .i64 (l.length : Nat), .int .i64 (lvl : Nat), SO a b c] w (fun r w' => akG w' w.heap.size l r /\ jM w w' mM) := by
 refine Rx ?_
 obtain ⟨RR, hRR⟩ : ∃ RR : asZ -> asY -> Prop, RR = fun r w' => akG w' w.heap.size l r /\ jM w w' mM := ⟨_, rfl⟩
 rw [<- hRR]
 have hv := h
 obtain ⟨va, vc, rfl, hvc⟩ := h.len
 rw [anV] at hv hvc ⊢
 unfold SB GK Gw
 refine Ce fun w1 o1 x1 s1 => ?_
 have o1 : mP w1 w.heap.size [.int .u32 (a : Nat), .int .u32 (b : Nat), .int .u32 (c : Nat)] := o1
 obtain ⟨p, hp⟩ : ∃ p, p = w.heap.size := ⟨_, rfl⟩
 rw [<- hp] at o1 ⊢
 refine rM fun w2 o2 x2 s2 => ?_
 obtain ⟨q, hq⟩ : ∃ q, q = w1.heap.size := ⟨_, rfl⟩
 rw [<- hq] at o2 ⊢
 have o2 : mP w2 q [.int .u32 0, .int .u32 0, .int .u32 0] := o2
 have hn : ((l.length : Nat) : Int).toNat = l.length := anP _
 have z0 : (0 : Int).toNat = 0 := rfl
 have k1 : (((l.length : Nat) : Int) == ((l.length : Nat) : Int)) = true := beq_self_eq_true _
 have hs0 : l.length - 0 = l.length := rfl
 simp (disch := omega) only [gD, jF, cJ, stepR_skip, hO, iB, iP, iN, iK, iO, jI, iV, gK, iC, iF, iD, iH, hJ, iM, hU, iE, iW, iS, iJ, gQ, iR, iQ, iG, kU, kV, lF, lC, lH, lE, lJ, lG, lD, gB, Result.ok.injEq, Next.value.injEq, true_and, and_true, gZ, hZ, iX, iT, iU, jG, anP, gW, gU, gX, gT, gM, gI, gN, gL, fZ, fT, if_true, if_false, anO, anS, anQ, anR, anU, anT, anN, anM, fM, fK, fB, fQ, cU, eQ, eE, dJ, bJ, fR, fE, aL, dD, aZ, bM, bP, aO, cQ, cF, eP, aF, gS, aP, cK, aR, bS, fS, cI, cC, aB, gC, fA, aI, aG, bN, gO, aN, eU, dZ, dV, gG, dH, fC, dC, eF, eZ, eY, cB, cY, gJ, eD, bZ, bF, bY, bX, fO, aD, aE, aM, aV, bE, cS, bK, aA, fF, aH, cO, fI, eT, gH, bO, eM, eK, bW, fW, eS, eI, cZ, cL, dF, aX, bD, aQ, gA, aJ, dB, dY, bB, cH, fJ, dK, gE, fL, fH, fG, dS, aK, cG, dG, fX, fY, fD, dE, aT, dT, fV, cP, eX, fN, cD, bL, dP, aW, dX, dR, cN, eN, eL, aY, dI, bA, dO, dW, dN, bH, cR, cM, dM, bR, cW, cV, fP, bV, eH, eJ, gF, dU, dQ, dL, dA, bG, bQ, bU, bT, aS, cX, aU, hn, z0, k1, hs0]
 obtain ⟨na, hna⟩ : ∃ na, na = nM va vc 0 1 := ⟨_, rfl⟩
 rw [<- hna]
 refine UN fun w3 o3 x3 s3 => ?_
 obtain ⟨x, hx⟩ : ∃ x, x = w2.heap.size := ⟨_, rfl⟩
 rw [<- hx] at o3 ⊢
 refine Uo o3 rfl (by simp [one]) (by simp) fun w4 o4 x4 s4 => ?_
 have o4 : mP w4 x [.bool true, .int .i64 0, .int .i64 (l.length : Nat)] := o4
 have x24 : jM w2 w4 mM := x3.trans x4 fun y hy h => by omega
 have x04 : jM w w4 mM := (x1.seq x2).seq x24
 have hpq : p ≠ q := by omega
 have hxp : x ≠ p := by omega
 have hxq : x ≠ q := by omega
 have oP : ∀ {W} {M : Nat -> Prop}, jM w4 W M -> ¬ M p -> mP W p [.int .u32 (a : Nat), .int .u32 (b : Nat), .int .u32 (c : Nat)] := fun xx hm => ((o1.ext x2 (fun h => h)).ext x24 (fun h => h)).ext xx hm
 have oQ : ∀ {W} {M : Nat -> Prop}, jM w4 W M -> ¬ M q -> mP W q [.int .u32 0, .int .u32 0, .int .u32 0] := fun xx hm => (o2.ext x24 (fun h => h)).ext xx hm
 have ld : ∀ {W} {M : Nat -> Prop}, jM w4 W M -> ¬ M p -> (jE 45 (.pointer (some ⟨p, 0, none⟩))).run pg W = .ok (.value (SO a b c)) W := fun xx hm => A8 (off := 0) (oP xx hm) (by simp)
 have lt4 : x < w4.heap.size := o4.lt
 have hold : ¬ KZ (.slice na l.length (vc - 0)) (fun y => w2.heap.size <= y) := by
  have := Sl.take' (hv.ext (x1.seq x2) (kJ _)) (k := l.length) (aoA _)
  rw [<- hna] at this
  exact this.old
 have hsl : Bs w4 (.slice na l.length (vc - 0)) l := by
  have := Sl.take' (hv.ext x04 (kJ _)) (k := l.length) (aoA _)
  rw [aoF (by rw [anV]; omega), <- hna] at this
  exact this
 obtain ⟨nc, hnc⟩ : ∃ nc, nc = vc - 0 := ⟨_, rfl⟩
 rw [<- hnc] at hsl hold ⊢
 have n0 : ((0 : Int) != 0) = false := rfl
 have told : ∀ (W : asY) (K : asZ -> asY -> Prop) (M : Nat -> Prop), jM w4 W M -> ¬ M q -> jM w W mM -> (∀ W', jM w W' mM -> jM W W' (fun y => y = q) -> K (SO a b c) W') →
     gD pg (jZ 45 (.pointer (some ⟨q, 0, none⟩)) (SO a b c)) W fun _u w => Um pg 45 (.pointer (some ⟨q, 0, none⟩)) w fun r1 => K r1 w := by
  intro W K M xx hm x0 hK
  refine pV (oQ xx hm) rfl (by simp [one]) (by simp) fun w5 o5 x5 s5 => ?_
  refine Fe o5 (by simp [qM]) ?_
  exact hK w5 (x0.trans x5 fun y hy h => by omega) x5
 have tail : ∀ (W : asY) (k : Nat) (ba : Option Addr) (bc : Nat) (bl : List UInt8), k <= 2 -> mP W x [.bool true, .int .i64 (k : Nat), .int .i64 (l.length : Nat)] -> jM w4 W (fun y => y = x) -> Bs W (.slice ba bl.length bc) bl -> bl.length <= 65536 -> b3 (8 * l.length + 2 * k + 1) ++ bl = Dh l →
     tL RR (.pointer (some ⟨p, 0, none⟩)) (.pointer (some ⟨q, 0, none⟩)) (.pointer (some ⟨x, 0, none⟩)) (.slice ba bl.length bc) W := by
  intro W k ba bc bl hk oX xW hb hbl he
  unfold tL
  have ldx : (jE 65 (.pointer (some ⟨x, 0, none⟩))).run pg W = .ok (.value (.agg #[.bool true, .int .i64 (k : Nat), .int .i64 (l.length : Nat)])) W := Up (off := 0) oX (by simp)
  have x0W : jM w W mM := x04.trans xW fun y hy h => by omega
  simp (disch := omega) only [gD, jF, cJ, stepR_skip, hO, iB, iP, iN, iK, iO, jI, iV, gK, iC, iF, iD, iH, hJ, iM, hU, iE, iW, iS, iJ, gQ, iR, iQ, iG, kU, kV, lF, lC, lH, lE, lJ, lG, lD, gB, Result.ok.injEq, Next.value.injEq, true_and, and_true, gZ, hZ, iX, iT, iU, jG, anP, gW, gU, gX, gT, gM, gI, gN, gL, fZ, fT, if_true, if_false, anO, anS, anQ, anR, anU, anT, anN, anM, fM, fK, fB, fQ, cU, eQ, eE, dJ, bJ, fR, fE, aL, dD, aZ, bM, bP, aO, cQ, cF, eP, aF, gS, aP, cK, aR, bS, fS, cI, cC, aB, gC, fA, aI, aG, bN, gO, aN, eU, dZ, dV, gG, dH, fC, dC, eF, eZ, eY, cB, cY, gJ, eD, bZ, bF, bY, bX, fO, aD, aE, aM, aV, bE, cS, bK, aA, fF, aH, cO, fI, eT, gH, bO, eM, eK, bW, fW, eS, eI, cZ, cL, dF, aX, bD, aQ, gA, aJ, dB, dY, bB, cH, fJ, dK, gE, fL, fH, fG, dS, aK, cG, dG, fX, fY, fD, dE, aT, dT, fV, cP, eX, fN, cD, bL, dP, aW, dX, dR, cN, eN, eL, aY, dI, bA, dO, dW, dN, bH, cR, cM, dM, bR, cW, cV, fP, bV, eH, eJ, gF, dU, dQ, dL, dA, bG, bQ, bU, bT, aS, cX, aU, ldx]
  refine (WK hk (by omega)).mono ?_
  rintro r w5 ⟨hv5, rfl, o5, x5⟩
  have he1 : (8 * l.length + 2 * k + if true = true then 1 else 0) = 8 * l.length + 2 * k + 1 := by simp
  rw [he1] at o5
  have x45 : jM w4 w5 (fun y => y = x) := xW.seq (x5.mono fun _ _ h => h.elim)
  have l5 := ld x45 (fun h => hxp h.symm)
  have x4d : jM w4 (dr w5) (fun y => y = x) := x45.seq (jM.dr _ _)
  have l5d := ld x4d (fun h => hxp h.symm)
  have z5 := x5.size
  simp (disch := omega) only [gD, jF, cJ, stepR_skip, hO, iB, iP, iN, iK, iO, jI, iV, gK, iC, iF, iD, iH, hJ, iM, hU, iE, iW, iS, iJ, gQ, iR, iQ, iG, kU, kV, lF, lC, lH, lE, lJ, lG, lD, gB, Result.ok.injEq, Next.value.injEq, true_and, and_true, gZ, hZ, iX, iT, iU, jG, anP, gW, gU, gX, gT, gM, gI, gN, gL, fZ, fT, if_true, if_false, anO, anS, anQ, anR, anU, anT, anN, anM, fM, fK, fB, fQ, cU, eQ, eE, dJ, bJ, fR, fE, aL, dD, aZ, bM, bP, aO, cQ, cF, eP, aF, gS, aP, cK, aR, bS, fS, cI, cC, aB, gC, fA, aI, aG, bN, gO, aN, eU, dZ, dV, gG, dH, fC, dC, eF, eZ, eY, cB, cY, gJ, eD, bZ, bF, bY, bX, fO, aD, aE, aM, aV, bE, cS, bK, aA, fF, aH, cO, fI, eT, gH, bO, eM, eK, bW, fW, eS, eI, cZ, cL, dF, aX, bD, aQ, gA, aJ, dB, dY, bB, cH, fJ, dK, gE, fL, fH, fG, dS, aK, cG, dG, fX, fY, fD, dE, aT, dT, fV, cP, eX, fN, cD, bL, dP, aW, dX, dR, cN, eN, eL, aY, dI, bA, dO, dW, dN, bH, cR, cM, dM, bR, cW, cV, fP, bV, eH, eJ, gF, dU, dQ, dL, dA, bG, bQ, bU, bT, aS, cX, aU, n0, l5d]
  have hb5 := (hb.ext x5 (kJ _)).ext (jM.dr _ mM) (kJ _)
  have hcl := hb5.cl
  rw [anV] at hcl
  refine mC (o5.ext (jM.dr _ mM) (fun _ _ h => h)) hcl (DE _) (by show W.heap.size <= (dr w5).heap.size; exact z5) (by omega) fun v6 w6 o6 x6 => ?_
  have o6 : xH w6 W.heap.size 1 v6 (Dh l).length ((Dh l).map pB) := by
   rw [<- he, anW, aoX]
   exact o6
  have zW := xW.size
  have x46 : jM w4 w6 (fun y => y = x) := x4d.trans x6 fun y hy h => by omega
  have l6 := ld x46 (fun h => hxp h.symm)
  have x06 : jM w w6 mM := ((x0W.seq x5).seq (jM.dr _ mM)).trans x6 fun y hy h => by omega
  simp (disch := omega) only [gD, jF, cJ, stepR_skip, hO, iB, iP, iN, iK, iO, jI, iV, gK, iC, iF, iD, iH, hJ, iM, hU, iE, iW, iS, iJ, gQ, iR, iQ, iG, kU, kV, lF, lC, lH, lE, lJ, lG, lD, gB, Result.ok.injEq, Next.value.injEq, true_and, and_true, gZ, hZ, iX, iT, iU, jG, anP, gW, gU, gX, gT, gM, gI, gN, gL, fZ, fT, if_true, if_false, anO, anS, anQ, anR, anU, anT, anN, anM, fM, fK, fB, fQ, cU, eQ, eE, dJ, bJ, fR, fE, aL, dD, aZ, bM, bP, aO, cQ, cF, eP, aF, gS, aP, cK, aR, bS, fS, cI, cC, aB, gC, fA, aI, aG, bN, gO, aN, eU, dZ, dV, gG, dH, fC, dC, eF, eZ, eY, cB, cY, gJ, eD, bZ, bF, bY, bX, fO, aD, aE, aM, aV, bE, cS, bK, aA, fF, aH, cO, fI, eT, gH, bO, eM, eK, bW, fW, eS, eI, cZ, cL, dF, aX, bD, aQ, gA, aJ, dB, dY, bB, cH, fJ, dK, gE, fL, fH, fG, dS, aK, cG, dG, fX, fY, fD, dE, aT, dT, fV, cP, eX, fN, cD, bL, dP, aW, dX, dR, cN, eN, eL, aY, dI, bA, dO, dW, dN, bH, cR, cM, dM, bR, cW, cV, fP, bV, eH, eJ, gF, dU, dQ, dL, dA, bG, bQ, bU, bT, aS, cX, aU, l6, l5d]
  refine told w6 (fun r1 w => RR (.tuple #[v6, r1, .int .i64 0]) w) _ x46 (fun h => hxq h.symm) x06 fun W' xw xq => ?_
  rw [hRR]
  refine ⟨⟨v6, a, b, c, rfl, ?_⟩, xw⟩
  refine (o6.ext xq fun y hy h => by omega).lower (by omega)
 refine (ZB hsl (by omega)).mono ?_
 rintro r w5 ⟨rfl, x5⟩
 have o5 := o4.ext x5 (fun h => h)
 cases hal : EX l with
 | true =>
   have hblk : Dh l = ahO l.length (l.headD 0) true := by unfold Dh; rw [if_pos hal]
   have z1 : (1 : Int).toNat = 1 := rfl
   have d1 : (1 : Int) <= (nc : Int) := by
    have := hsl.len
    obtain ⟨a', c', he, hc'⟩ := this
    simp only [Value.slice.injEq] at he
    rw [anV] at hc'
    omega
   have hn10 : 1 - 0 = 1 := rfl
   simp (disch := omega) only [gD, jF, cJ, stepR_skip, hO, iB, iP, iN, iK, iO, jI, iV, gK, iC, iF, iD, iH, hJ, iM, hU, iE, iW, iS, iJ, gQ, iR, iQ, iG, kU, kV, lF, lC, lH, lE, lJ, lG, lD, gB, Result.ok.injEq, Next.value.injEq, true_and, and_true, gZ, hZ, iX, iT, iU, jG, anP, gW, gU, gX, gT, gM, gI, gN, gL, fZ, fT, if_true, if_false, anO, anS, anQ, anR, anU, anT, anN, anM, fM, fK, fB, fQ, cU, eQ, eE, dJ, bJ, fR, fE, aL, dD, aZ, bM, bP, aO, cQ, cF, eP, aF, gS, aP, cK, aR, bS, fS, cI, cC, aB, gC, fA, aI, aG, bN, gO, aN, eU, dZ, dV, gG, dH, fC, dC, eF, eZ, eY, cB, cY, gJ, eD, bZ, bF, bY, bX, fO, aD, aE, aM, aV, bE, cS, bK, aA, fF, aH, cO, fI, eT, gH, bO, eM, eK, bW, fW, eS, eI, cZ, cL, dF, aX, bD, aQ, gA, aJ, dB, dY, bB, cH, fJ, dK, gE, fL, fH, fG, dS, aK, cG, dG, fX, fY, fD, dE, aT, dT, fV, cP, eX, fN, cD, bL, dP, aW, dX, dR, cN, eN, eL, aY, dI, bA, dO, dW, dN, bH, cR, cM, dM, bR, cW, cV, fP, bV, eH, eJ, gF, dU, dQ, dL, dA, bG, bQ, bU, bT, aS, cX, aU, z1, hn10]
   obtain ⟨ma, hma⟩ : ∃ ma, ma = nM na nc 0 1 := ⟨_, rfl⟩
   rw [<- hma]
   have s5d := fun (W : asY) => eE (k := .i64) (hi := (1 : Int)) na l.length nc W (by omega) (by omega)
   rw [<- hma] at s5d
   refine Mn (off := 1) (o5.ext (jM.dr _ mM) (fun h => h)) rfl (by simp) fun w6 o6 x6 s6 => ?_
   simp only [aoK, aoM] at o6
   have x46 : jM w4 w6 (fun y => y = x) := (x5.mono fun _ _ h => h.elim).seq ((jM.dr _ _).seq x6)
   have hb6 : Bs w6 (.slice ma 1 (nc - 0)) [l.headD 0] := by
    have := Sl.take' (hsl.ext x46 fun hi => ?_) (k := 1) (by omega)
    .rw [<- hma] at this
     have e : (l.map pB).take 1 = ([l.headD 0] : List UInt8).map pB := by
      cases l with
      | nil => cases h1
      | cons c r => rfl
     rw [e] at this
     exact this
    .exact hold (B2 hi fun y hy => by omega)
   have t6 := tail w6 1 ma (nc - 0) [l.headD 0] (by omega) o6 x46 hb6 (by simp) (by rw [hblk]; unfold ahO smX; simp)
   first
    | exact t6
    | (simp (disch := omega) only [gD, jF, cJ, stepR_skip, hO, iB, iP, iN, iK, iO, jI, iV, gK, iC, iF, iD, iH, hJ, iM, hU, iE, iW, iS, iJ, gQ, iR, iQ, iG, kU, kV, lF, lC, lH, lE, lJ, lG, lD, gB, Result.ok.injEq, Next.value.injEq, true_and, and_true, gZ, hZ, iX, iT, iU, jG, anP, gW, gU, gX, gT, gM, gI, gN, gL, fZ, fT, if_true, if_false, anO, anS, anQ, anR, anU, anT, anN, anM, fM, fK, fB, fQ, cU, eQ, eE, dJ, bJ, fR, fE, aL, dD, aZ, bM, bP, aO, cQ, cF, eP, aF, gS, aP, cK, aR, bS, fS, cI, cC, aB, gC, fA, aI, aG, bN, gO, aN, eU, dZ, dV, gG, dH, fC, dC, eF, eZ, eY, cB, cY, gJ, eD, bZ, bF, bY, bX, fO, aD, aE, aM, aV, bE, cS, bK, aA, fF, aH, cO, fI, eT, gH, bO, eM, eK, bW, fW, eS, eI, cZ, cL, dF, aX, bD, aQ, gA, aJ, dB, dY, bB, cH, fJ, dK, gE, fL, fH, fG, dS, aK, cG, dG, fX, fY, fD, dE, aT, dT, fV, cP, eX, fN, cD, bL, dP, aW, dX, dR, cN, eN, eL, aY, dI, bA, dO, dW, dN, bH, cR, cM, dM, bR, cW, cV, fP, bV, eH, eJ, gF, dU, dQ, dL, dA, bG, bQ, bU, bT, aS, cX, aU, s5d, z1, hn10]
       exact t6)
    | (simp (disch := omega) only [gD, jF, cJ, stepR_skip, hO, iB, iP, iN, iK, iO, jI, iV, gK, iC, iF, iD, iH, hJ, iM, hU, iE, iW, iS, iJ, gQ, iR, iQ, iG, kU, kV, lF, lC, lH, lE, lJ, lG, lD, gB, Result.ok.injEq, Next.value.injEq, true_and, and_true, gZ, hZ, iX, iT, iU, jG, anP, gW, gU, gX, gT, gM, gI, gN, gL, fZ, fT, if_true, if_false, anO, anS, anQ, anR, anU, anT, anN, anM, fM, fK, fB, fQ, cU, eQ, eE, dJ, bJ, fR, fE, aL, dD, aZ, bM, bP, aO, cQ, cF, eP, aF, gS, aP, cK, aR, bS, fS, cI, cC, aB, gC, fA, aI, aG, bN, gO, aN, eU, dZ, dV, gG, dH, fC, dC, eF, eZ, eY, cB, cY, gJ, eD, bZ, bF, bY, bX, fO, aD, aE, aM, aV, bE, cS, bK, aA, fF, aH, cO, fI, eT, gH, bO, eM, eK, bW, fW, eS, eI, cZ, cL, dF, aX, bD, aQ, gA, aJ, dB, dY, bB, cH, fJ, dK, gE, fL, fH, fG, dS, aK, cG, dG, fX, fY, fD, dE, aT, dT, fV, cP, eX, fN, cD, bL, dP, aW, dX, dR, cN, eN, eL, aY, dI, bA, dO, dW, dN, bH, cR, cM, dM, bR, cW, cV, fP, bV, eH, eJ, gF, dU, dQ, dL, dA, bG, bQ, bU, bT, aS, cX, aU, s5d, z1, hn10])
 | false =>
   have hl2 : l.length <= 2 := by
    rcases hs with h | h
    .rw [hal] at h; cases h
    .exact h
   have x45 : jM w4 w5 (fun y => y = x) := x5.mono fun _ _ h => h.elim
   have hblk : Dh l = ajJ l := by unfold Dh; rw [if_neg (by rw [hal]; decide)]
   have l5 := ld x45 (fun h => hxp h.symm)
   try simp (disch := omega) only [gD, jF, cJ, stepR_skip, hO, iB, iP, iN, iK, iO, jI, iV, gK, iC, iF, iD, iH, hJ, iM, hU, iE, iW, iS, iJ, gQ, iR, iQ, iG, kU, kV, lF, lC, lH, lE, lJ, lG, lD, gB, Result.ok.injEq, Next.value.injEq, true_and, and_true, gZ, hZ, iX, iT, iU, jG, anP, gW, gU, gX, gT, gM, gI, gN, gL, fZ, fT, if_true, if_false, anO, anS, anQ, anR, anU, anT, anN, anM, fM, fK, fB, fQ, cU, eQ, eE, dJ, bJ, fR, fE, aL, dD, aZ, bM, bP, aO, cQ, cF, eP, aF, gS, aP, cK, aR, bS, fS, cI, cC, aB, gC, fA, aI, aG, bN, gO, aN, eU, dZ, dV, gG, dH, fC, dC, eF, eZ, eY, cB, cY, gJ, eD, bZ, bF, bY, bX, fO, aD, aE, aM, aV, bE, cS, bK, aA, fF, aH, cO, fI, eT, gH, bO, eM, eK, bW, fW, eS, eI, cZ, cL, dF, aX, bD, aQ, gA, aJ, dB, dY, bB, cH, fJ, dK, gE, fL, fH, fG, dS, aK, cG, dG, fX, fY, fD, dE, aT, dT, fV, cP, eX, fN, cD, bL, dP, aW, dX, dR, cN, eN, eL, aY, dI, bA, dO, dW, dN, bH, cR, cM, dM, bR, cW, cV, fP, bV, eH, eJ, gF, dU, dQ, dL, dA, bG, bQ, bU, bT, aS, cX, aU, l5]
   refine (aaE (l := l) (lvl := lvl) (hv.ext (x04.seq x5) (kJ _)) hl2 hlv).mono ?_
   rintro r w6 ⟨ho, x6⟩
   have hb6 := (hsl.ext x5 (kJ _)).ext x6 (kJ _)
   have fin : ∀ W, jM w6 W mM -> tL RR (.pointer (some ⟨p, 0, none⟩)) (.pointer (some ⟨q, 0, none⟩)) (.pointer (some ⟨x, 0, none⟩)) (.slice na l.length nc) W := fun W xx =>
    tail W 0 na nc l (by omega) ((o5.ext x6 (fun h => h)).ext xx (fun h => h)) ((x45.seq (x6.mono fun _ _ h => h.elim)).seq (xx.mono fun _ _ h => h.elim)) (hb6.ext xx (kJ _)) hl (by rw [hblk] <;> rfl)
   rcases ho with ⟨e, a', b', c', he, rfl⟩ | ⟨xv, bytes, a', b', c', rfl, ox, hb2⟩
   .have e0 : (e == 0) = false := beq_eq_false_iff_ne.2 he
    simp (disch := omega) only [gD, jF, cJ, stepR_skip, hO, iB, iP, iN, iK, iO, jI, iV, gK, iC, iF, iD, iH, hJ, iM, hU, iE, iW, iS, iJ, gQ, iR, iQ, iG, kU, kV, lF, lC, lH, lE, lJ, lG, lD, gB, Result.ok.injEq, Next.value.injEq, true_and, and_true, gZ, hZ, iX, iT, iU, jG, anP, gW, gU, gX, gT, gM, gI, gN, gL, fZ, fT, if_true, if_false, anO, anS, anQ, anR, anU, anT, anN, anM, fM, fK, fB, fQ, cU, eQ, eE, dJ, bJ, fR, fE, aL, dD, aZ, bM, bP, aO, cQ, cF, eP, aF, gS, aP, cK, aR, bS, fS, cI, cC, aB, gC, fA, aI, aG, bN, gO, aN, eU, dZ, dV, gG, dH, fC, dC, eF, eZ, eY, cB, cY, gJ, eD, bZ, bF, bY, bX, fO, aD, aE, aM, aV, bE, cS, bK, aA, fF, aH, cO, fI, eT, gH, bO, eM, eK, bW, fW, eS, eI, cZ, cL, dF, aX, bD, aQ, gA, aJ, dB, dY, bB, cH, fJ, dK, gE, fL, fH, fG, dS, aK, cG, dG, fX, fY, fD, dE, aT, dT, fV, cP, eX, fN, cD, bL, dP, aW, dX, dR, cN, eN, eL, aY, dI, bA, dO, dW, dN, bH, cR, cM, dM, bR, cW, cV, fP, bV, eH, eJ, gF, dU, dQ, dL, dA, bG, bQ, bU, bT, aS, cX, aU]
    refine rM fun w7 o7 x7 s7 => ?_
    refine pV o7 rfl (by simp [one]) (by simp) fun w8 o8 x8 s8 => ?_
    simp (disch := omega) only [gD, jF, cJ, stepR_skip, hO, iB, iP, iN, iK, iO, jI, iV, gK, iC, iF, iD, iH, hJ, iM, hU, iE, iW, iS, iJ, gQ, iR, iQ, iG, kU, kV, lF, lC, lH, lE, lJ, lG, lD, gB, Result.ok.injEq, Next.value.injEq, true_and, and_true, gZ, hZ, iX, iT, iU, jG, anP, gW, gU, gX, gT, gM, gI, gN, gL, fZ, fT, if_true, if_false, anO, anS, anQ, anR, anU, anT, anN, anM, fM, fK, fB, fQ, cU, eQ, eE, dJ, bJ, fR, fE, aL, dD, aZ, bM, bP, aO, cQ, cF, eP, aF, gS, aP, cK, aR, bS, fS, cI, cC, aB, gC, fA, aI, aG, bN, gO, aN, eU, dZ, dV, gG, dH, fC, dC, eF, eZ, eY, cB, cY, gJ, eD, bZ, bF, bY, bX, fO, aD, aE, aM, aV, bE, cS, bK, aA, fF, aH, cO, fI, eT, gH, bO, eM, eK, bW, fW, eS, eI, cZ, cL, dF, aX, bD, aQ, gA, aJ, dB, dY, bB, cH, fJ, dK, gE, fL, fH, fG, dS, aK, cG, dG, fX, fY, fD, dE, aT, dT, fV, cP, eX, fN, cD, bL, dP, aW, dX, dR, cN, eN, eL, aY, dI, bA, dO, dW, dN, bH, cR, cM, dM, bR, cW, cV, fP, bV, eH, eJ, gF, dU, dQ, dL, dA, bG, bQ, bU, bT, aS, cX, aU, e0]
    exact fin w8 (x7.trans x8 fun y hy h => by omega)
   .have e0 : ((0 : Int) == 0) = true := rfl
    obtain ⟨xa, xc, rfl⟩ := ox.len
    have d1 : decide ((bytes.length : Int) < (l.length : Int)) = false := decide_eq_false (by omega)
    simp (disch := omega) only [gD, jF, cJ, stepR_skip, hO, iB, iP, iN, iK, iO, jI, iV, gK, iC, iF, iD, iH, hJ, iM, hU, iE, iW, iS, iJ, gQ, iR, iQ, iG, kU, kV, lF, lC, lH, lE, lJ, lG, lD, gB, Result.ok.injEq, Next.value.injEq, true_and, and_true, gZ, hZ, iX, iT, iU, jG, anP, gW, gU, gX, gT, gM, gI, gN, gL, fZ, fT, if_true, if_false, anO, anS, anQ, anR, anU, anT, anN, anM, fM, fK, fB, fQ, cU, eQ, eE, dJ, bJ, fR, fE, aL, dD, aZ, bM, bP, aO, cQ, cF, eP, aF, gS, aP, cK, aR, bS, fS, cI, cC, aB, gC, fA, aI, aG, bN, gO, aN, eU, dZ, dV, gG, dH, fC, dC, eF, eZ, eY, cB, cY, gJ, eD, bZ, bF, bY, bX, fO, aD, aE, aM, aV, bE, cS, bK, aA, fF, aH, cO, fI, eT, gH, bO, eM, eK, bW, fW, eS, eI, cZ, cL, dF, aX, bD, aQ, gA, aJ, dB, dY, bB, cH, fJ, dK, gE, fL, fH, fG, dS, aK, cG, dG, fX, fY, fD, dE, aT, dT, fV, cP, eX, fN, cD, bL, dP, aW, dX, dR, cN, eN, eL, aY, dI, bA, dO, dW, dN, bH, cR, cM, dM, bR, cW, cV, fP, bV, eH, eJ, gF, dU, dQ, dL, dA, bG, bQ, bU, bT, aS, cX, aU]
    refine rM fun w7 o7 x7 s7 => ?_
    refine pV o7 rfl (by simp [one]) (by simp) fun w8 o8 x8 s8 => ?_
    simp (disch := omega) only [gD, jF, cJ, stepR_skip, hO, iB, iP, iN, iK, iO, jI, iV, gK, iC, iF, iD, iH, hJ, iM, hU, iE, iW, iS, iJ, gQ, iR, iQ, iG, kU, kV, lF, lC, lH, lE, lJ, lG, lD, gB, Result.ok.injEq, Next.value.injEq, true_and, and_true, gZ, hZ, iX, iT, iU, jG, anP, gW, gU, gX, gT, gM, gI, gN, gL, fZ, fT, if_true, if_false, anO, anS, anQ, anR, anU, anT, anN, anM, fM, fK, fB, fQ, cU, eQ, eE, dJ, bJ, fR, fE, aL, dD, aZ, bM, bP, aO, cQ, cF, eP, aF, gS, aP, cK, aR, bS, fS, cI, cC, aB, gC, fA, aI, aG, bN, gO, aN, eU, dZ, dV, gG, dH, fC, dC, eF, eZ, eY, cB, cY, gJ, eD, bZ, bF, bY, bX, fO, aD, aE, aM, aV, bE, cS, bK, aA, fF, aH, cO, fI, eT, gH, bO, eM, eK, bW, fW, eS, eI, cZ, cL, dF, aX, bD, aQ, gA, aJ, dB, dY, bB, cH, fJ, dK, gE, fL, fH, fG, dS, aK, cG, dG, fX, fY, fD, dE, aT, dT, fV, cP, eX, fN, cD, bL, dP, aW, dX, dR, cN, eN, eL, aY, dI, bA, dO, dW, dN, bH, cR, cM, dM, bR, cW, cV, fP, bV, eH, eJ, gF, dU, dQ, dL, dA, bG, bQ, bU, bT, aS, cX, aU, e0, d1]
    exact fin w8 (x7.trans x8 fun y hy h => by omega)
theorem afN {R : asZ -> asY -> Prop} {S : Nat -> Prop} {base : Nat} {v0 vo : asZ} {b out : List UInt8} {s : Bool} {w : asY} (h0 : Bs w v0 b) (hb : b.length <= 1000000) (ho : LI w S 1 vo out.length (out.map pB)) (hout : out.length <= 1000000) (hS : ∀ b, w.heap.size <= b -> S b)
 (hk : ∀ w' vr, LI w' S 1 vr (out ++ enT b s).length ((out ++ enT b s).map pB) -> jM w w' S -> R (.tuple #[vr, .int .i64 0]) w') :
 AK R v0 (.bool s) vo w := by
 unfold AK EV
 cases s with
 | false =>
   unfold enT at hk
   simp only [anO, if_false, aqC] at hk
   simp (disch := omega) only [gD, jF, cJ, stepR_skip, hO, iB, iP, iN, iK, iO, jI, iV, gK, iC, iF, iD, iH, hJ, iM, hU, iE, iW, iS, iJ, gQ, iR, iQ, iG, kU, kV, lF, lC, lH, lE, lJ, lG, lD, gB, Result.ok.injEq, Next.value.injEq, true_and, and_true, gZ, hZ, iX, iT, iU, jG, anP, gW, gU, gX, gT, gM, gI, gN, gL, fZ, fT, if_true, if_false, anO, anS, anQ, anR, anU, anT, anN, anM, fM, fK, fB, fQ, cU, eQ, eE, dJ, bJ, fR, fE, aL, dD, aZ, bM, bP, aO, cQ, cF, eP, aF, gS, aP, cK, aR, bS, fS, cI, cC, aB, gC, fA, aI, aG, bN, gO, aN, eU, dZ, dV, gG, dH, fC, dC, eF, eZ, eY, cB, cY, gJ, eD, bZ, bF, bY, bX, fO, aD, aE, aM, aV, bE, cS, bK, aA, fF, aH, cO, fI, eT, gH, bO, eM, eK, bW, fW, eS, eI, cZ, cL, dF, aX, bD, aQ, gA, aJ, dB, dY, bB, cH, fJ, dK, gE, fL, fH, fG, dS, aK, cG, dG, fX, fY, fD, dE, aT, dT, fV, cP, eX, fN, cD, bL, dP, aW, dX, dR, cN, eN, eL, aY, dI, bA, dO, dW, dN, bH, cR, cM, dM, bR, cW, cV, fP, bV, eH, eJ, gF, dU, dQ, dL, dA, bG, bQ, bU, bT, aS, cX, aU]
   unfold vP
   exact hk w vo ho (jM.refl _ _)
 | true =>
   unfold enT at hk
   simp only [if_true] at hk
   simp (disch := omega) only [gD, jF, cJ, stepR_skip, hO, iB, iP, iN, iK, iO, jI, iV, gK, iC, iF, iD, iH, hJ, iM, hU, iE, iW, iS, iJ, gQ, iR, iQ, iG, kU, kV, lF, lC, lH, lE, lJ, lG, lD, gB, Result.ok.injEq, Next.value.injEq, true_and, and_true, gZ, hZ, iX, iT, iU, jG, anP, gW, gU, gX, gT, gM, gI, gN, gL, fZ, fT, if_true, if_false, anO, anS, anQ, anR, anU, anT, anN, anM, fM, fK, fB, fQ, cU, eQ, eE, dJ, bJ, fR, fE, aL, dD, aZ, bM, bP, aO, cQ, cF, eP, aF, gS, aP, cK, aR, bS, fS, cI, cC, aB, gC, fA, aI, aG, bN, gO, aN, eU, dZ, dV, gG, dH, fC, dC, eF, eZ, eY, cB, cY, gJ, eD, bZ, bF, bY, bX, fO, aD, aE, aM, aV, bE, cS, bK, aA, fF, aH, cO, fI, eT, gH, bO, eM, eK, bW, fW, eS, eI, cZ, cL, dF, aX, bD, aQ, gA, aJ, dB, dY, bB, cH, fJ, dK, gE, fL, fH, fG, dS, aK, cG, dG, fX, fY, fD, dE, aT, dT, fV, cP, eX, fN, cD, bL, dP, aW, dX, dR, cN, eN, eL, aY, dI, bA, dO, dW, dN, bH, cR, cM, dM, bR, cW, cV, fP, bV, eH, eJ, gF, dU, dQ, dL, dA, bG, bQ, bU, bT, aS, cX, aU]
   refine (aiT b (by omega) v0 w h0).mono ?_
   rintro r w1 ⟨rfl, x1⟩
   rw [akT]
   obtain ⟨X, hX⟩ : ∃ X, X = XN b := ⟨_, rfl⟩
   have hXl := alB b
   rw [<- hX] at hXl hk ⊢
   have q1 : (X : Int).fdiv (2 ^ min (Int.toNat 8) IntKind.u64.bits) = ((X / 256 : Nat) : Int) := by
    have : (2 : Int) ^ min (Int.toNat 8) IntKind.u64.bits = 256 := by decide
    rw [this, aqL _ (by omega)]; omega
   have q2 : (X : Int).fdiv (2 ^ min (Int.toNat 16) IntKind.u64.bits) = ((X / 65536 : Nat) : Int) := by
    have : (2 : Int) ^ min (Int.toNat 16) IntKind.u64.bits = 65536 := by decide
    rw [this, aqL _ (by omega)]; omega
   have q3 : (X : Int).fdiv (2 ^ min (Int.toNat 24) IntKind.u64.bits) = ((X / 16777216 : Nat) : Int) := by
    have : (2 : Int) ^ min (Int.toNat 24) IntKind.u64.bits = 16777216 := by decide
    rw [this, aqL _ (by omega)]; omega
   simp (disch := omega) only [gD, jF, cJ, stepR_skip, hO, iB, iP, iN, iK, iO, jI, iV, gK, iC, iF, iD, iH, hJ, iM, hU, iE, iW, iS, iJ, gQ, iR, iQ, iG, kU, kV, lF, lC, lH, lE, lJ, lG, lD, gB, Result.ok.injEq, Next.value.injEq, true_and, and_true, gZ, hZ, iX, iT, iU, jG, anP, gW, gU, gX, gT, gM, gI, gN, gL, fZ, fT, if_true, if_false, anO, anS, anQ, anR, anU, anT, anN, anM, fM, fK, fB, fQ, cU, eQ, eE, dJ, bJ, fR, fE, aL, dD, aZ, bM, bP, aO, cQ, cF, eP, aF, gS, aP, cK, aR, bS, fS, cI, cC, aB, gC, fA, aI, aG, bN, gO, aN, eU, dZ, dV, gG, dH, fC, dC, eF, eZ, eY, cB, cY, gJ, eD, bZ, bF, bY, bX, fO, aD, aE, aM, aV, bE, cS, bK, aA, fF, aH, cO, fI, eT, gH, bO, eM, eK, bW, fW, eS, eI, cZ, cL, dF, aX, bD, aQ, gA, aJ, dB, dY, bB, cH, fJ, dK, gE, fL, fH, fG, dS, aK, cG, dG, fX, fY, fD, dE, aT, dT, fV, cP, eX, fN, cD, bL, dP, aW, dX, dR, cN, eN, eL, aY, dI, bA, dO, dW, dN, bH, cR, cM, dM, bR, cW, cV, fP, bV, eH, eJ, gF, dU, dQ, dL, dA, bG, bQ, bU, bT, aS, cX, aU, q1, q2, q3, wu8]
   refine sK (cells := #[.int .u8 ((X : Int) % 256), .int .u8 (((X / 256 : Nat) : Int) % 256), .int .u8 (((X / 65536 : Nat) : Int) % 256), .int .u8 (((X / 16777216 : Nat) : Int) % 256)]) (by decide) (by decide) (by kernel_rfl) fun w2 o2 x2 s2 => ?_
   have hc : (#[.int .u8 ((X : Int) % 256), .int .u8 (((X / 256 : Nat) : Int) % 256), .int .u8 (((X / 65536 : Nat) : Int) % 256), .int .u8 (((X / 16777216 : Nat) : Int) % 256)] : Array asZ).toList = (pD X 4).map pB := by
    simp only [pD, aoT, asV, pB]
    rw [ofN (by omega), ofN (by omega), ofN (by omega), ofN (by omega), aqJ, aqJ]
    rfl
   rw [hc] at o2
   have hb2 := akC o2
   rw [mE] at hb2
   have z1 := x1.size
   have z2 := x2.size
   refine apB ((ho.ext x1 fun _ _ h => h).ext x2 fun _ _ h => h) hb2 (fun y hy => hS y (by omega)) (by rw [mE]; omega) fun v3 w3 o3 x3 => ?_
   unfold vP
   exact hk w3 v3 o3 ((((x1.seq x2).mono fun _ _ h => h.elim).seq x3))
theorem YK {v : asZ} {l : List UInt8} {lvl : Nat} {s : Bool} {w : asY} (h : Bs w v l) (h1 : 1 <= l.length) (hl : l.length <= 65536) (hs : EX l = true ∨ l.length <= 2) (hlv : lvl <= 9) :
 jD pg Cs #[v, .int .i64 (lvl : Nat), .bool s] w (fun r w' => (∃ x, r = .tuple #[x, .int .i64 0] /\ xH w' w.heap.size 1 x (Zw l (Dh l) s).length ((Zw l (Dh l) s).map pB)) /\ jM w w' mM) := by
 refine QC ?_
 obtain ⟨RR, hRR⟩ : ∃ RR : asZ -> asY -> Prop, RR = fun r w' => (∃ x, r = .tuple #[x, .int .i64 0] /\ xH w' w.heap.size 1 x (Zw l (Dh l) s).length ((Zw l (Dh l) s).map pB)) /\ jM w w' mM := ⟨_, rfl⟩
 rw [<- hRR]
 have hv := h
 obtain ⟨va, vc, rfl, hvc⟩ := h.len
 rw [anV] at hv hvc ⊢
 have d1 : decide ((lvl : Int) < 0) = false := decide_eq_false (by omega)
 have d2 : decide ((9 : Int) < (lvl : Int)) = false := decide_eq_false (by omega)
 have d3 : decide ((4194304 : Int) < (l.length : Int)) = false := decide_eq_false (by omega)
 have e1 : IntKind.u64.wrap ((l.length : Nat) : Int) = ((l.length : Nat) : Int) := hZ (by omega) (by omega)
 unfold Qt DC D2
 simp (disch := omega) only [gD, jF, cJ, stepR_skip, hO, iB, iP, iN, iK, iO, jI, iV, gK, iC, iF, iD, iH, hJ, iM, hU, iE, iW, iS, iJ, gQ, iR, iQ, iG, kU, kV, lF, lC, lH, lE, lJ, lG, lD, gB, Result.ok.injEq, Next.value.injEq, true_and, and_true, gZ, hZ, iX, iT, iU, jG, anP, gW, gU, gX, gT, gM, gI, gN, gL, fZ, fT, if_true, if_false, anO, anS, anQ, anR, anU, anT, anN, anM, fM, fK, fB, fQ, cU, eQ, eE, dJ, bJ, fR, fE, aL, dD, aZ, bM, bP, aO, cQ, cF, eP, aF, gS, aP, cK, aR, bS, fS, cI, cC, aB, gC, fA, aI, aG, bN, gO, aN, eU, dZ, dV, gG, dH, fC, dC, eF, eZ, eY, cB, cY, gJ, eD, bZ, bF, bY, bX, fO, aD, aE, aM, aV, bE, cS, bK, aA, fF, aH, cO, fI, eT, gH, bO, eM, eK, bW, fW, eS, eI, cZ, cL, dF, aX, bD, aQ, gA, aJ, dB, dY, bB, cH, fJ, dK, gE, fL, fH, fG, dS, aK, cG, dG, fX, fY, fD, dE, aT, dT, fV, cP, eX, fN, cD, bL, dP, aW, dX, dR, cN, eN, eL, aY, dI, bA, dO, dW, dN, bH, cR, cM, dM, bR, cW, cV, fP, bV, eH, eJ, gF, dU, dQ, dL, dA, bG, bQ, bU, bT, aS, cX, aU, d1, d2, d3, e1]
 refine (WC (n := l.length) (by omega)).mono ?_
 rintro r w1 ⟨o1, x1⟩
 refine agI.mono ?_
 rintro r1 w2 ⟨rfl, x2⟩
 refine rM fun w3 o3 x3 s3 => ?_
 obtain ⟨p, hp⟩ : ∃ p, p = w2.heap.size := ⟨_, rfl⟩
 rw [<- hp] at o3 ⊢
 refine pV o3 rfl (by simp [one]) (by simp) fun w4 o4 x4 s4 => ?_
 have o4 : mP w4 p [.int .u32 (1 : Nat), .int .u32 (4 : Nat), .int .u32 (8 : Nat)] := o4
 have z1 := x1.size
 have z2 := x2.size
 have x24 : jM w2 w4 mM := x3.trans x4 fun y hy h => by omega
 have x04 : jM w w4 mM := (x1.seq x2).seq x24
 have z4 := x04.size
 let S : Nat -> Prop := fun y => w.heap.size <= y /\ y ≠ p
 have S4 : LI w4 S 1 r (Mh l.length s).length ((Mh l.length s).map pB) := (((xH.ne o1 (by omega)).ext x2 (fun _ _ h => h)).ext x24 (fun _ _ h => h))
 have hpl := XU l.length s
 have lt4 : p < w4.heap.size := o4.lt
 unfold FP FE Fu EN Fj
 have hbl : (Dh l).length <= 65540 := by
  unfold Dh; split
  .simp [ahO, b3]
  .simp [ajJ, b3]; omega
 refine kE.rule (fun m (t : asZ × asZ) W => (m = 1 /\ t = (r, .int .i64 0) /\ W = w4) ∨ (m = 0 /\ ∃ vo, t = (vo, .int .i64 65536) /\ LI W S 1 vo (Mh l.length s ++ Dh l).length ((Mh l.length s ++ Dh l).map pB) /\ jM w W mM /\ p < W.heap.size)) 1 (.inl ⟨rfl, rfl, rfl⟩) ?_
 rintro m t W (⟨rfl, rfl, rfl⟩ | ⟨rfl, vo, rfl, oW, xW, ltW⟩)
 .unfold wD
  have k1 : ((0 : Int) == 0) = true := rfl
  have k3 : (0 : Int) + 65536 = 65536 := rfl
  have k4 : (if ((l.length : Nat) : Int) < (65536 : Int) then ((l.length : Nat) : Int) else (65536 : Int)) = ((l.length : Nat) : Int) := by split <;> omega
  have ld : (jE 45 (.pointer (some ⟨p, 0, none⟩))).run pg W = .ok (.value (SO 1 4 8)) W := A8 (off := 0) o4 (by simp)
  simp (disch := omega) only [gD, jF, cJ, stepR_skip, hO, iB, iP, iN, iK, iO, jI, iV, gK, iC, iF, iD, iH, hJ, iM, hU, iE, iW, iS, iJ, gQ, iR, iQ, iG, kU, kV, lF, lC, lH, lE, lJ, lG, lD, gB, Result.ok.injEq, Next.value.injEq, true_and, and_true, gZ, hZ, iX, iT, iU, jG, anP, gW, gU, gX, gT, gM, gI, gN, gL, fZ, fT, if_true, if_false, anO, anS, anQ, anR, anU, anT, anN, anM, fM, fK, fB, fQ, cU, eQ, eE, dJ, bJ, fR, fE, aL, dD, aZ, bM, bP, aO, cQ, cF, eP, aF, gS, aP, cK, aR, bS, fS, cI, cC, aB, gC, fA, aI, aG, bN, gO, aN, eU, dZ, dV, gG, dH, fC, dC, eF, eZ, eY, cB, cY, gJ, eD, bZ, bF, bY, bX, fO, aD, aE, aM, aV, bE, cS, bK, aA, fF, aH, cO, fI, eT, gH, bO, eM, eK, bW, fW, eS, eI, cZ, cL, dF, aX, bD, aQ, gA, aJ, dB, dY, bB, cH, fJ, dK, gE, fL, fH, fG, dS, aK, cG, dG, fX, fY, fD, dE, aT, dT, fV, cP, eX, fN, cD, bL, dP, aW, dX, dR, cN, eN, eL, aY, dI, bA, dO, dW, dN, bH, cR, cM, dM, bR, cW, cV, fP, bV, eH, eJ, gF, dU, dQ, dL, dA, bG, bQ, bU, bT, aS, cX, aU, k1, k3, k4, ld]
  have hv4 := hv.ext x04 (kJ _)
  have hb := ahV (lvl := lvl) (a := 1) (b := 4) (c := 8) hv4 h1 hl hs hlv
  refine hb.mono ?_
  rintro r5 w5 ⟨⟨bv, a', b', c', rfl, o5⟩, x5⟩
  have n0 : ((0 : Int) != 0) = false := rfl
  simp (disch := omega) only [gD, jF, cJ, stepR_skip, hO, iB, iP, iN, iK, iO, jI, iV, gK, iC, iF, iD, iH, hJ, iM, hU, iE, iW, iS, iJ, gQ, iR, iQ, iG, kU, kV, lF, lC, lH, lE, lJ, lG, lD, gB, Result.ok.injEq, Next.value.injEq, true_and, and_true, gZ, hZ, iX, iT, iU, jG, anP, gW, gU, gX, gT, gM, gI, gN, gL, fZ, fT, if_true, if_false, anO, anS, anQ, anR, anU, anT, anN, anM, fM, fK, fB, fQ, cU, eQ, eE, dJ, bJ, fR, fE, aL, dD, aZ, bM, bP, aO, cQ, cF, eP, aF, gS, aP, cK, aR, bS, fS, cI, cC, aB, gC, fA, aI, aG, bN, gO, aN, eU, dZ, dV, gG, dH, fC, dC, eF, eZ, eY, cB, cY, gJ, eD, bZ, bF, bY, bX, fO, aD, aE, aM, aV, bE, cS, bK, aA, fF, aH, cO, fI, eT, gH, bO, eM, eK, bW, fW, eS, eI, cZ, cL, dF, aX, bD, aQ, gA, aJ, dB, dY, bB, cH, fJ, dK, gE, fL, fH, fG, dS, aK, cG, dG, fX, fY, fD, dE, aT, dT, fV, cP, eX, fN, cD, bL, dP, aW, dX, dR, cN, eN, eL, aY, dI, bA, dO, dW, dN, bH, cR, cM, dM, bR, cW, cV, fP, bV, eH, eJ, gF, dU, dQ, dL, dA, bG, bQ, bU, bT, aS, cX, aU]
  refine rM fun w6 o6 x6 s6 => ?_
  obtain ⟨q, hq⟩ : ∃ q, q = w5.heap.size := ⟨_, rfl⟩
  rw [<- hq] at o6 ⊢
  refine pV o6 rfl (by simp [one]) (by simp) fun w7 o7 x7 s7 => ?_
  have o7 : mP w7 q [.int .u32 (a' : Nat), .int .u32 (b' : Nat), .int .u32 (c' : Nat)] := o7
  have z5 := x5.size
  have x57 : jM w5 w7 mM := x6.trans x7 fun y hy h => by omega
  have x47 := x5.seq x57
  have xd : jM w5 (dr w7) mM := x57.seq (jM.dr _ mM)
  have ldq : ∀ {W'}, jM w7 W' (fun y => S y /\ y ≠ q) -> (jE 45 (.pointer (some ⟨q, 0, none⟩))).run pg W' = .ok (.value (SO a' b' c')) W' := fun xx => A8 (off := 0) (o7.ext xx fun hh => hh.2 rfl) (by simp)
  have l7 := ldq (jM.dr w7 _)
  simp (disch := omega) only [gD, jF, cJ, stepR_skip, hO, iB, iP, iN, iK, iO, jI, iV, gK, iC, iF, iD, iH, hJ, iM, hU, iE, iW, iS, iJ, gQ, iR, iQ, iG, kU, kV, lF, lC, lH, lE, lJ, lG, lD, gB, Result.ok.injEq, Next.value.injEq, true_and, and_true, gZ, hZ, iX, iT, iU, jG, anP, gW, gU, gX, gT, gM, gI, gN, gL, fZ, fT, if_true, if_false, anO, anS, anQ, anR, anU, anT, anN, anM, fM, fK, fB, fQ, cU, eQ, eE, dJ, bJ, fR, fE, aL, dD, aZ, bM, bP, aO, cQ, cF, eP, aF, gS, aP, cK, aR, bS, fS, cI, cC, aB, gC, fA, aI, aG, bN, gO, aN, eU, dZ, dV, gG, dH, fC, dC, eF, eZ, eY, cB, cY, gJ, eD, bZ, bF, bY, bX, fO, aD, aE, aM, aV, bE, cS, bK, aA, fF, aH, cO, fI, eT, gH, bO, eM, eK, bW, fW, eS, eI, cZ, cL, dF, aX, bD, aQ, gA, aJ, dB, dY, bB, cH, fJ, dK, gE, fL, fH, fG, dS, aK, cG, dG, fX, fY, fD, dE, aT, dT, fV, cP, eX, fN, cD, bL, dP, aW, dX, dR, cN, eN, eL, aY, dI, bA, dO, dW, dN, bH, cR, cM, dM, bR, cW, cV, fP, bV, eH, eJ, gF, dU, dQ, dL, dA, bG, bQ, bU, bT, aS, cX, aU, n0, l7]
  have hpq : p ≠ q := by omega
  have hb5 : Bs w5 bv (Dh l) := o5.sl
  have hb7 : Bs (dr w7) bv (Dh l) := hb5.ext xd (kJ _)
  let S2 : Nat -> Prop := fun y => S y /\ y ≠ q
  have S7 : LI (dr w7) S2 1 r (Mh l.length s).length ((Mh l.length s).map pB) := by
   have hS := S4
   have := hS.2
   refine ⟨hS.1, ?_⟩
   have S7' := ((S4.ext x47 (fun _ _ h => h)).ext (jM.dr _ mM) (fun _ _ h => h)).2
   rcases this with ⟨h, h0⟩ | ⟨b1, c1, rest, h1, h2, h3, h4⟩
   .exact .inl ⟨h, h0⟩
   .have hlt := h3.lt
    exact .inr ⟨b1, c1, rest, h1, ⟨h2, by omega⟩, (h3.ext x47 (fun h => h)).ext (jM.dr _ mM) (fun h => h), h4⟩
  have zd : (dr w7).heap.size = w7.heap.size := rfl
  have lt7 : q < w7.heap.size := o7.lt
  refine apB S7 hb7 (fun y hy => ⟨⟨by omega, by omega⟩, by omega⟩) (by omega) fun v8 w8 o8 x8 => ?_
  have l8 := ldq ((jM.dr w7 _).seq x8)
  have zz8 := x8.size
  simp (disch := omega) only [gD, jF, cJ, stepR_skip, hO, iB, iP, iN, iK, iO, jI, iV, gK, iC, iF, iD, iH, hJ, iM, hU, iE, iW, iS, iJ, gQ, iR, iQ, iG, kU, kV, lF, lC, lH, lE, lJ, lG, lD, gB, Result.ok.injEq, Next.value.injEq, true_and, and_true, gZ, hZ, iX, iT, iU, jG, anP, gW, gU, gX, gT, gM, gI, gN, gL, fZ, fT, if_true, if_false, anO, anS, anQ, anR, anU, anT, anN, anM, fM, fK, fB, fQ, cU, eQ, eE, dJ, bJ, fR, fE, aL, dD, aZ, bM, bP, aO, cQ, cF, eP, aF, gS, aP, cK, aR, bS, fS, cI, cC, aB, gC, fA, aI, aG, bN, gO, aN, eU, dZ, dV, gG, dH, fC, dC, eF, eZ, eY, cB, cY, gJ, eD, bZ, bF, bY, bX, fO, aD, aE, aM, aV, bE, cS, bK, aA, fF, aH, cO, fI, eT, gH, bO, eM, eK, bW, fW, eS, eI, cZ, cL, dF, aX, bD, aQ, gA, aJ, dB, dY, bB, cH, fJ, dK, gE, fL, fH, fG, dS, aK, cG, dG, fX, fY, fD, dE, aT, dT, fV, cP, eX, fN, cD, bL, dP, aW, dX, dR, cN, eN, eL, aY, dI, bA, dO, dW, dN, bH, cR, cM, dM, bR, cW, cV, fP, bV, eH, eJ, gF, dU, dQ, dL, dA, bG, bQ, bU, bT, aS, cX, aU, l7, l8]
  have oP8 : mP w8 p [.int .u32 (1 : Nat), .int .u32 (4 : Nat), .int .u32 (8 : Nat)] := ((o4.ext x47 (fun h => h)).ext (jM.dr _ mM) (fun h => h)).ext x8 (fun hh => hh.1.2 rfl)
  refine pV oP8 rfl (by simp [one]) (by simp) fun w9 o9 x9 s9 => ?_
  refine ⟨0, by omega, .inr ⟨rfl, v8, rfl, ?_, ?_, by have := x47.size; omega⟩⟩
  .have := o8.ext x9 (fun y hy hh => by rw [hh] at hy; exact hy.1.2 rfl)
   refine ⟨this.1, ?_⟩
   rcases this.2 with h | ⟨b1, c1, rest, h1, h2, h3⟩
   .exact .inl h
   .exact .inr ⟨b1, c1, rest, h1, h2.1, h3⟩
  .exact (((x04.seq x47).seq (jM.dr _ mM)).trans x8 fun y hy h => by have := h.1.1; omega).trans x9 fun y hy h => by omega
 .unfold wD
  have k1 : ((65536 : Int) == 0) = false := rfl
  have d4 : decide ((65536 : Int) < ((l.length : Nat) : Int)) = false := decide_eq_false (by omega)
  simp (disch := omega) only [gD, jF, cJ, stepR_skip, hO, iB, iP, iN, iK, iO, jI, iV, gK, iC, iF, iD, iH, hJ, iM, hU, iE, iW, iS, iJ, gQ, iR, iQ, iG, kU, kV, lF, lC, lH, lE, lJ, lG, lD, gB, Result.ok.injEq, Next.value.injEq, true_and, and_true, gZ, hZ, iX, iT, iU, jG, anP, gW, gU, gX, gT, gM, gI, gN, gL, fZ, fT, if_true, if_false, anO, anS, anQ, anR, anU, anT, anN, anM, fM, fK, fB, fQ, cU, eQ, eE, dJ, bJ, fR, fE, aL, dD, aZ, bM, bP, aO, cQ, cF, eP, aF, gS, aP, cK, aR, bS, fS, cI, cC, aB, gC, fA, aI, aG, bN, gO, aN, eU, dZ, dV, gG, dH, fC, dC, eF, eZ, eY, cB, cY, gJ, eD, bZ, bF, bY, bX, fO, aD, aE, aM, aV, bE, cS, bK, aA, fF, aH, cO, fI, eT, gH, bO, eM, eK, bW, fW, eS, eI, cZ, cL, dF, aX, bD, aQ, gA, aJ, dB, dY, bB, cH, fJ, dK, gE, fL, fH, fG, dS, aK, cG, dG, fX, fY, fD, dE, aT, dT, fV, cP, eX, fN, cD, bL, dP, aW, dX, dR, cN, eN, eL, aY, dI, bA, dO, dW, dN, bH, cR, cM, dM, bR, cW, cV, fP, bV, eH, eJ, gF, dU, dQ, dL, dA, bG, bQ, bU, bT, aS, cX, aU, k1, d4]
  refine afN (S := S) (b := l) (out := Mh l.length s ++ Dh l) (base := 0) (hv.ext xW (kJ _)) (by omega) oW (by rw [anW]; omega) (fun y hy => ⟨by have := xW.size; omega, by omega⟩) fun w' vr ov xv => ?_
  rw [aoU] at ov
  have ov : LI w' S 1 vr (Zw l (Dh l) s).length ((Zw l (Dh l) s).map pB) := ov
  rw [hRR]
  refine ⟨⟨vr, rfl, ov.1, ?_⟩, xW.trans xv fun y hy h => by have := h.1; omega⟩
  rcases ov.2 with h | ⟨b1, c1, rest, h1, h2, h3⟩
  .exact .inl h
  .exact .inr ⟨b1, c1, rest, h1, h2.1, h3⟩
theorem aiR (l : List UInt8) : ((⟨l.toArray⟩ : ByteArray).toList == (⟨l.toArray⟩ : ByteArray).toList) = true := beq_self_eq_true _
end Go.Proofs.YtoecppploooloaaGreatDoor
namespace Go.Pu
section
variable {κ β : Type} [DecidableEq κ]
end
def over (old : List UInt8) (a : Nat) (b : List UInt8) : List UInt8 := (old ++ List.replicate (max old.length (a + b.length) - old.length) 0).take a ++ b ++ (old ++ List.replicate (max old.length (a + b.length) - old.length) 0).drop (a + b.length)
section
variable (cf : List UInt8 -> Nat)
end
def Uw (L k : Nat) : Nat := if 0 < L % k then L / k + 1 else L / k
theorem UD {L k i : Nat} (hk : 0 < k) : i < Uw L k ↔ k * i < L := by
 unfold Uw
 have h1 := Nat.div_add_mod L k
 have h2 := asU L hk
 generalize L / k = q at *
 generalize L % k = r at *
 split
 .constructor
  .intro h
   have : k * i <= k * q := asC _ (by omega)
   omega
  .intro h
   by_cases h3 : i < q + 1
   .exact h3
   .have : k * (q + 1) <= k * i := asC _ (by omega)
    rw [arC] at this; omega
 .constructor
  .intro h
   have : k * (i + 1) <= k * q := asC _ (by omega)
   rw [arC] at this; omega
  .intro h
   by_cases h3 : i < q
   .exact h3
   .have : k * q <= k * i := asC _ (by omega)
    omega
def spN (L k i : Nat) : Nat := min (L - k * i) k
end Go.Pu
namespace Go.Proofs.YtoecppploooloaaGreatDoor
open Go Go.En Go.Pu
set_option maxRecDepth 4000
def Iq (L : Nat) (k : Int) : Nat × Int := if k < 1 ∨ 65536 < k then (0, 1) else if 1024 < Uw L k.toNat then (0, 12) else (Uw L k.toNat, 0)
abbrev Yw (L : Nat) (k : Int) : asZ := .tuple #[.int .i64 ((Iq L k).1 : Nat), .int .i64 (Iq L k).2]
def XJ (L : Nat) (k i : Int) : Nat × Nat × Int := if (Iq L k).2 ≠ 0 then (0, 0, (Iq L k).2) else if i < 0 ∨ ((Iq L k).1 : Int) <= i then (0, 0, 17) else (k.toNat * i.toNat, spN L k.toNat i.toNat, 0)
abbrev aaG (L : Nat) (k i : Int) : asZ := .tuple #[.int .u64 ((XJ L k i).1 : Nat), .int .i64 ((XJ L k i).2.1 : Nat), .int .i64 (XJ L k i).2.2]
theorem Zo {L : Nat} {k : Int} (h : k < 1 ∨ 65536 < k) : Iq L k = (0, 1) := by unfold Iq; rw [if_pos h]
theorem Zr {L k : Nat} (h1 : 1 <= k) (h2 : k <= 65536) : Iq L (k : Nat) = if 1024 < Uw L k then (0, 12) else (Uw L k, 0) := by
 unfold Iq
 rw [if_neg (by omega), anP]
theorem agO {L : Nat} {k : Int} (h : (Iq L k).2 = 0) : 1 <= k /\ k <= 65536 /\ Uw L k.toNat <= 1024 /\ (Iq L k).1 = Uw L k.toNat := by
 unfold Iq at *
 split at h
 .cases h
 .rename_i h1
  split at h
  .cases h
  .rename_i h2
   rw [if_neg h1, if_neg h2]
   exact ⟨by omega, by omega, by omega, rfl⟩
theorem U6 {L : Nat} {k : Int} {w : asY} (hL : L < 2 ^ 64) (hk : -9223372036854775808 <= k /\ k <= 9223372036854775807) :
 jD pg yM #[.int .u64 (L : Nat), .int .i64 k] w (fun r w' => r = Yw L k /\ w' = w) := by
 refine Th ?_
 obtain ⟨RR, hRR⟩ : ∃ RR : asZ -> asY -> Prop, RR = fun r w' => r = Yw L k /\ w' = w := ⟨_, rfl⟩
 rw [<- hRR]
 unfold T4 Hz Hv
 by_cases hb : k < 1
 .have d1 : decide (k < 1) = true := by simpa using hb
  simp (disch := omega) only [gD, jF, cJ, stepR_skip, hO, iB, iP, iN, iK, iO, jI, iV, gK, iC, iF, iD, iH, hJ, iM, hU, iE, iW, iS, iJ, gQ, iR, iQ, iG, kU, kV, lF, lC, lH, lE, lJ, lG, lD, gB, Result.ok.injEq, Next.value.injEq, true_and, and_true, gZ, hZ, iX, iT, iU, jG, anP, gW, gU, gX, gT, gM, gI, gN, gL, fZ, fT, if_true, if_false, anO, anS, anQ, anR, anU, anT, anN, anM, fM, fK, fB, fQ, cU, eQ, eE, dJ, bJ, fR, fE, aL, dD, aZ, bM, bP, aO, cQ, cF, eP, aF, gS, aP, cK, aR, bS, fS, cI, cC, aB, gC, fA, aI, aG, bN, gO, aN, eU, dZ, dV, gG, dH, fC, dC, eF, eZ, eY, cB, cY, gJ, eD, bZ, bF, bY, bX, fO, aD, aE, aM, aV, bE, cS, bK, aA, fF, aH, cO, fI, eT, gH, bO, eM, eK, bW, fW, eS, eI, cZ, cL, dF, aX, bD, aQ, gA, aJ, dB, dY, bB, cH, fJ, dK, gE, fL, fH, fG, dS, aK, cG, dG, fX, fY, fD, dE, aT, dT, fV, cP, eX, fN, cD, bL, dP, aW, dX, dR, cN, eN, eL, aY, dI, bA, dO, dW, dN, bH, cR, cM, dM, bR, cW, cV, fP, bV, eH, eJ, gF, dU, dQ, dL, dA, bG, bQ, bU, bT, aS, cX, aU, d1]
  rw [hRR]
  unfold Yw
  rw [Zo (.inl hb)]
  exact ⟨rfl, rfl⟩
 have d1 : decide (k < 1) = false := by simpa using hb
 by_cases hb2 : 65536 < k
 .have d2 : decide ((65536 : Int) < k) = true := by simpa using hb2
  simp (disch := omega) only [gD, jF, cJ, stepR_skip, hO, iB, iP, iN, iK, iO, jI, iV, gK, iC, iF, iD, iH, hJ, iM, hU, iE, iW, iS, iJ, gQ, iR, iQ, iG, kU, kV, lF, lC, lH, lE, lJ, lG, lD, gB, Result.ok.injEq, Next.value.injEq, true_and, and_true, gZ, hZ, iX, iT, iU, jG, anP, gW, gU, gX, gT, gM, gI, gN, gL, fZ, fT, if_true, if_false, anO, anS, anQ, anR, anU, anT, anN, anM, fM, fK, fB, fQ, cU, eQ, eE, dJ, bJ, fR, fE, aL, dD, aZ, bM, bP, aO, cQ, cF, eP, aF, gS, aP, cK, aR, bS, fS, cI, cC, aB, gC, fA, aI, aG, bN, gO, aN, eU, dZ, dV, gG, dH, fC, dC, eF, eZ, eY, cB, cY, gJ, eD, bZ, bF, bY, bX, fO, aD, aE, aM, aV, bE, cS, bK, aA, fF, aH, cO, fI, eT, gH, bO, eM, eK, bW, fW, eS, eI, cZ, cL, dF, aX, bD, aQ, gA, aJ, dB, dY, bB, cH, fJ, dK, gE, fL, fH, fG, dS, aK, cG, dG, fX, fY, fD, dE, aT, dT, fV, cP, eX, fN, cD, bL, dP, aW, dX, dR, cN, eN, eL, aY, dI, bA, dO, dW, dN, bH, cR, cM, dM, bR, cW, cV, fP, bV, eH, eJ, gF, dU, dQ, dL, dA, bG, bQ, bU, bT, aS, cX, aU, d1, d2]
  rw [hRR]
  unfold Yw
  rw [Zo (.inr hb2)]
  exact ⟨rfl, rfl⟩
 have d2 : decide ((65536 : Int) < k) = false := by simpa using hb2
 obtain ⟨k, rfl⟩ : ∃ n : Nat, k = n := ⟨k.toNat, by omega⟩
 have e1 : (L : Int).tdiv (k : Int) = ((L / k : Nat) : Int) := rfl
 have e2 : (L : Int).tmod (k : Int) = ((L % k : Nat) : Int) := rfl
 have hq : L / k <= L := asF _ _
 have hm := asU L (show 0 < k by omega)
 have hc : Uw L k = if 0 < L % k then L / k + 1 else L / k := rfl
 have hE := Zr (L := L) (k := k) (by omega) (by omega)
 have hdm := Nat.div_add_mod L k
 have hbig : 0 < L % k -> L / k + 1 < 2 ^ 64 := fun h => by
  have : 2 * (L / k) <= k * (L / k) := aoQ _ (by omega)
  omega
 unfold Yw at hRR
 generalize Iq L k = E at *
 generalize L / k = q at *
 generalize L % k = r at *
 by_cases hr : 0 < r
 .rw [if_pos hr] at hc
  have hbig := hbig hr
  have d3 : decide ((0 : Int) < (r : Int)) = true := by simp only [decide_eq_true_eq]; omega
  have e3 : (q : Int) + 1 = ((q + 1 : Nat) : Int) := by omega
  rw [hc] at hE
  by_cases hb : 1024 < q + 1
  .have d4 : decide ((1024 : Int) < ((q + 1 : Nat) : Int)) = true := by simp only [decide_eq_true_eq]; omega
   rw [if_pos hb] at hE
   unfold sX
   simp (disch := omega) only [gD, jF, cJ, stepR_skip, hO, iB, iP, iN, iK, iO, jI, iV, gK, iC, iF, iD, iH, hJ, iM, hU, iE, iW, iS, iJ, gQ, iR, iQ, iG, kU, kV, lF, lC, lH, lE, lJ, lG, lD, gB, Result.ok.injEq, Next.value.injEq, true_and, and_true, gZ, hZ, iX, iT, iU, jG, anP, gW, gU, gX, gT, gM, gI, gN, gL, fZ, fT, if_true, if_false, anO, anS, anQ, anR, anU, anT, anN, anM, fM, fK, fB, fQ, cU, eQ, eE, dJ, bJ, fR, fE, aL, dD, aZ, bM, bP, aO, cQ, cF, eP, aF, gS, aP, cK, aR, bS, fS, cI, cC, aB, gC, fA, aI, aG, bN, gO, aN, eU, dZ, dV, gG, dH, fC, dC, eF, eZ, eY, cB, cY, gJ, eD, bZ, bF, bY, bX, fO, aD, aE, aM, aV, bE, cS, bK, aA, fF, aH, cO, fI, eT, gH, bO, eM, eK, bW, fW, eS, eI, cZ, cL, dF, aX, bD, aQ, gA, aJ, dB, dY, bB, cH, fJ, dK, gE, fL, fH, fG, dS, aK, cG, dG, fX, fY, fD, dE, aT, dT, fV, cP, eX, fN, cD, bL, dP, aW, dX, dR, cN, eN, eL, aY, dI, bA, dO, dW, dN, bH, cR, cM, dM, bR, cW, cV, fP, bV, eH, eJ, gF, dU, dQ, dL, dA, bG, bQ, bU, bT, aS, cX, aU, d1, d2, e1, e2, d3, e3, d4]
   rw [hRR, hE]
   exact ⟨rfl, rfl⟩
  .have d4 : decide ((1024 : Int) < ((q + 1 : Nat) : Int)) = false := by simp only [decide_eq_false_iff_not]; omega
   rw [if_neg hb] at hE
   unfold sX
   simp (disch := omega) only [gD, jF, cJ, stepR_skip, hO, iB, iP, iN, iK, iO, jI, iV, gK, iC, iF, iD, iH, hJ, iM, hU, iE, iW, iS, iJ, gQ, iR, iQ, iG, kU, kV, lF, lC, lH, lE, lJ, lG, lD, gB, Result.ok.injEq, Next.value.injEq, true_and, and_true, gZ, hZ, iX, iT, iU, jG, anP, gW, gU, gX, gT, gM, gI, gN, gL, fZ, fT, if_true, if_false, anO, anS, anQ, anR, anU, anT, anN, anM, fM, fK, fB, fQ, cU, eQ, eE, dJ, bJ, fR, fE, aL, dD, aZ, bM, bP, aO, cQ, cF, eP, aF, gS, aP, cK, aR, bS, fS, cI, cC, aB, gC, fA, aI, aG, bN, gO, aN, eU, dZ, dV, gG, dH, fC, dC, eF, eZ, eY, cB, cY, gJ, eD, bZ, bF, bY, bX, fO, aD, aE, aM, aV, bE, cS, bK, aA, fF, aH, cO, fI, eT, gH, bO, eM, eK, bW, fW, eS, eI, cZ, cL, dF, aX, bD, aQ, gA, aJ, dB, dY, bB, cH, fJ, dK, gE, fL, fH, fG, dS, aK, cG, dG, fX, fY, fD, dE, aT, dT, fV, cP, eX, fN, cD, bL, dP, aW, dX, dR, cN, eN, eL, aY, dI, bA, dO, dW, dN, bH, cR, cM, dM, bR, cW, cV, fP, bV, eH, eJ, gF, dU, dQ, dL, dA, bG, bQ, bU, bT, aS, cX, aU, d1, d2, e1, e2, d3, e3, d4]
   rw [hRR, hE]
   exact ⟨rfl, rfl⟩
 .rw [if_neg hr] at hc
  have d3 : decide ((0 : Int) < (r : Int)) = false := by simp only [decide_eq_false_iff_not]; omega
  rw [hc] at hE
  by_cases hb : 1024 < q
  .have d4 : decide ((1024 : Int) < (q : Int)) = true := by simp only [decide_eq_true_eq]; omega
   rw [if_pos hb] at hE
   unfold sX
   simp (disch := omega) only [gD, jF, cJ, stepR_skip, hO, iB, iP, iN, iK, iO, jI, iV, gK, iC, iF, iD, iH, hJ, iM, hU, iE, iW, iS, iJ, gQ, iR, iQ, iG, kU, kV, lF, lC, lH, lE, lJ, lG, lD, gB, Result.ok.injEq, Next.value.injEq, true_and, and_true, gZ, hZ, iX, iT, iU, jG, anP, gW, gU, gX, gT, gM, gI, gN, gL, fZ, fT, if_true, if_false, anO, anS, anQ, anR, anU, anT, anN, anM, fM, fK, fB, fQ, cU, eQ, eE, dJ, bJ, fR, fE, aL, dD, aZ, bM, bP, aO, cQ, cF, eP, aF, gS, aP, cK, aR, bS, fS, cI, cC, aB, gC, fA, aI, aG, bN, gO, aN, eU, dZ, dV, gG, dH, fC, dC, eF, eZ, eY, cB, cY, gJ, eD, bZ, bF, bY, bX, fO, aD, aE, aM, aV, bE, cS, bK, aA, fF, aH, cO, fI, eT, gH, bO, eM, eK, bW, fW, eS, eI, cZ, cL, dF, aX, bD, aQ, gA, aJ, dB, dY, bB, cH, fJ, dK, gE, fL, fH, fG, dS, aK, cG, dG, fX, fY, fD, dE, aT, dT, fV, cP, eX, fN, cD, bL, dP, aW, dX, dR, cN, eN, eL, aY, dI, bA, dO, dW, dN, bH, cR, cM, dM, bR, cW, cV, fP, bV, eH, eJ, gF, dU, dQ, dL, dA, bG, bQ, bU, bT, aS, cX, aU, d1, d2, e1, e2, d3, d4]
   rw [hRR, hE]
   exact ⟨rfl, rfl⟩
  .have d4 : decide ((1024 : Int) < (q : Int)) = false := by simp only [decide_eq_false_iff_not]; omega
   rw [if_neg hb] at hE
   unfold sX
   simp (disch := omega) only [gD, jF, cJ, stepR_skip, hO, iB, iP, iN, iK, iO, jI, iV, gK, iC, iF, iD, iH, hJ, iM, hU, iE, iW, iS, iJ, gQ, iR, iQ, iG, kU, kV, lF, lC, lH, lE, lJ, lG, lD, gB, Result.ok.injEq, Next.value.injEq, true_and, and_true, gZ, hZ, iX, iT, iU, jG, anP, gW, gU, gX, gT, gM, gI, gN, gL, fZ, fT, if_true, if_false, anO, anS, anQ, anR, anU, anT, anN, anM, fM, fK, fB, fQ, cU, eQ, eE, dJ, bJ, fR, fE, aL, dD, aZ, bM, bP, aO, cQ, cF, eP, aF, gS, aP, cK, aR, bS, fS, cI, cC, aB, gC, fA, aI, aG, bN, gO, aN, eU, dZ, dV, gG, dH, fC, dC, eF, eZ, eY, cB, cY, gJ, eD, bZ, bF, bY, bX, fO, aD, aE, aM, aV, bE, cS, bK, aA, fF, aH, cO, fI, eT, gH, bO, eM, eK, bW, fW, eS, eI, cZ, cL, dF, aX, bD, aQ, gA, aJ, dB, dY, bB, cH, fJ, dK, gE, fL, fH, fG, dS, aK, cG, dG, fX, fY, fD, dE, aT, dT, fV, cP, eX, fN, cD, bL, dP, aW, dX, dR, cN, eN, eL, aY, dI, bA, dO, dW, dN, bH, cR, cM, dM, bR, cW, cV, fP, bV, eH, eJ, gF, dU, dQ, dL, dA, bG, bQ, bU, bT, aS, cX, aU, d1, d2, e1, e2, d3, d4]
   rw [hRR, hE]
   exact ⟨rfl, rfl⟩
theorem ZX {L : Nat} {k i : Int} {w : asY} (hL : L < 2 ^ 64) (hk : -9223372036854775808 <= k /\ k <= 9223372036854775807) (hi : -9223372036854775808 <= i /\ i <= 9223372036854775807) :
 jD pg AT #[.int .u64 (L : Nat), .int .i64 k, .int .i64 i] w (fun r w' => r = aaG L k i /\ w' = w) := by
 refine UA ?_
 obtain ⟨RR, hRR⟩ : ∃ RR : asZ -> asY -> Prop, RR = fun r w' => r = aaG L k i /\ w' = w := ⟨_, rfl⟩
 rw [<- hRR]
 unfold Vm Js
 refine (U6 hL hk).mono ?_
 rintro r w1 ⟨rfl, hw⟩
 rw [hw]; clear hw w1
 by_cases h0 : (Iq L k).2 = 0
 rotate_left
 .have n0 : ((Iq L k).2 != 0) = true := bne_iff_ne.2 h0
  simp (disch := omega) only [gD, jF, cJ, stepR_skip, hO, iB, iP, iN, iK, iO, jI, iV, gK, iC, iF, iD, iH, hJ, iM, hU, iE, iW, iS, iJ, gQ, iR, iQ, iG, kU, kV, lF, lC, lH, lE, lJ, lG, lD, gB, Result.ok.injEq, Next.value.injEq, true_and, and_true, gZ, hZ, iX, iT, iU, jG, anP, gW, gU, gX, gT, gM, gI, gN, gL, fZ, fT, if_true, if_false, anO, anS, anQ, anR, anU, anT, anN, anM, fM, fK, fB, fQ, cU, eQ, eE, dJ, bJ, fR, fE, aL, dD, aZ, bM, bP, aO, cQ, cF, eP, aF, gS, aP, cK, aR, bS, fS, cI, cC, aB, gC, fA, aI, aG, bN, gO, aN, eU, dZ, dV, gG, dH, fC, dC, eF, eZ, eY, cB, cY, gJ, eD, bZ, bF, bY, bX, fO, aD, aE, aM, aV, bE, cS, bK, aA, fF, aH, cO, fI, eT, gH, bO, eM, eK, bW, fW, eS, eI, cZ, cL, dF, aX, bD, aQ, gA, aJ, dB, dY, bB, cH, fJ, dK, gE, fL, fH, fG, dS, aK, cG, dG, fX, fY, fD, dE, aT, dT, fV, cP, eX, fN, cD, bL, dP, aW, dX, dR, cN, eN, eL, aY, dI, bA, dO, dW, dN, bH, cR, cM, dM, bR, cW, cV, fP, bV, eH, eJ, gF, dU, dQ, dL, dA, bG, bQ, bU, bT, aS, cX, aU, n0]
  rw [hRR]
  unfold aaG XJ
  rw [if_pos h0]
  exact ⟨rfl, rfl⟩
 have n0 : ((Iq L k).2 != 0) = false := by rw [h0] <;> rfl
 have hS : XJ L k i = if i < 0 ∨ ((Iq L k).1 : Int) <= i then (0, 0, 17) else (k.toNat * i.toNat, spN L k.toNat i.toNat, 0) := by unfold XJ; rw [if_neg (by omega)]
 obtain ⟨k1, k2, k3, k4⟩ := agO h0
 unfold aaG at hRR
 by_cases h1 : i < 0
 .have d1 : decide (i < 0) = true := by simpa using h1
  simp (disch := omega) only [gD, jF, cJ, stepR_skip, hO, iB, iP, iN, iK, iO, jI, iV, gK, iC, iF, iD, iH, hJ, iM, hU, iE, iW, iS, iJ, gQ, iR, iQ, iG, kU, kV, lF, lC, lH, lE, lJ, lG, lD, gB, Result.ok.injEq, Next.value.injEq, true_and, and_true, gZ, hZ, iX, iT, iU, jG, anP, gW, gU, gX, gT, gM, gI, gN, gL, fZ, fT, if_true, if_false, anO, anS, anQ, anR, anU, anT, anN, anM, fM, fK, fB, fQ, cU, eQ, eE, dJ, bJ, fR, fE, aL, dD, aZ, bM, bP, aO, cQ, cF, eP, aF, gS, aP, cK, aR, bS, fS, cI, cC, aB, gC, fA, aI, aG, bN, gO, aN, eU, dZ, dV, gG, dH, fC, dC, eF, eZ, eY, cB, cY, gJ, eD, bZ, bF, bY, bX, fO, aD, aE, aM, aV, bE, cS, bK, aA, fF, aH, cO, fI, eT, gH, bO, eM, eK, bW, fW, eS, eI, cZ, cL, dF, aX, bD, aQ, gA, aJ, dB, dY, bB, cH, fJ, dK, gE, fL, fH, fG, dS, aK, cG, dG, fX, fY, fD, dE, aT, dT, fV, cP, eX, fN, cD, bL, dP, aW, dX, dR, cN, eN, eL, aY, dI, bA, dO, dW, dN, bH, cR, cM, dM, bR, cW, cV, fP, bV, eH, eJ, gF, dU, dQ, dL, dA, bG, bQ, bU, bT, aS, cX, aU, n0, d1]
  rw [hRR, hS, if_pos (.inl h1)]
  exact ⟨rfl, rfl⟩
 have d1 : decide (i < 0) = false := by simpa using h1
 by_cases h2 : ((Iq L k).1 : Int) <= i
 .have d2 : decide (((Iq L k).1 : Int) <= i) = true := by simpa using h2
  simp (disch := omega) only [gD, jF, cJ, stepR_skip, hO, iB, iP, iN, iK, iO, jI, iV, gK, iC, iF, iD, iH, hJ, iM, hU, iE, iW, iS, iJ, gQ, iR, iQ, iG, kU, kV, lF, lC, lH, lE, lJ, lG, lD, gB, Result.ok.injEq, Next.value.injEq, true_and, and_true, gZ, hZ, iX, iT, iU, jG, anP, gW, gU, gX, gT, gM, gI, gN, gL, fZ, fT, if_true, if_false, anO, anS, anQ, anR, anU, anT, anN, anM, fM, fK, fB, fQ, cU, eQ, eE, dJ, bJ, fR, fE, aL, dD, aZ, bM, bP, aO, cQ, cF, eP, aF, gS, aP, cK, aR, bS, fS, cI, cC, aB, gC, fA, aI, aG, bN, gO, aN, eU, dZ, dV, gG, dH, fC, dC, eF, eZ, eY, cB, cY, gJ, eD, bZ, bF, bY, bX, fO, aD, aE, aM, aV, bE, cS, bK, aA, fF, aH, cO, fI, eT, gH, bO, eM, eK, bW, fW, eS, eI, cZ, cL, dF, aX, bD, aQ, gA, aJ, dB, dY, bB, cH, fJ, dK, gE, fL, fH, fG, dS, aK, cG, dG, fX, fY, fD, dE, aT, dT, fV, cP, eX, fN, cD, bL, dP, aW, dX, dR, cN, eN, eL, aY, dI, bA, dO, dW, dN, bH, cR, cM, dM, bR, cW, cV, fP, bV, eH, eJ, gF, dU, dQ, dL, dA, bG, bQ, bU, bT, aS, cX, aU, n0, d1, d2]
  rw [hRR, hS, if_pos (.inr h2)]
  exact ⟨rfl, rfl⟩
 have d2 : decide (((Iq L k).1 : Int) <= i) = false := by simpa using h2
 rw [if_neg (by omega)] at hS
 obtain ⟨k, rfl⟩ : ∃ n : Nat, k = n := ⟨k.toNat, by omega⟩
 obtain ⟨i, rfl⟩ : ∃ n : Nat, i = n := ⟨i.toNat, by omega⟩
 simp only [anP] at hS k3 k4
 have hlt := (UD (L := L) (k := k) (i := i) (by omega)).1 (by omega)
 have e1 : (k : Int) * (i : Int) = ((k * i : Nat) : Int) := by simp
 obtain ⟨q, hq⟩ : ∃ q, q = k * i := ⟨_, rfl⟩
 have e2 : (L : Int) - ((q : Nat) : Int) = ((L - q : Nat) : Int) := by omega
 have e3 : (if ((k : Nat) : Int) < ((L - q : Nat) : Int) then ((k : Nat) : Int) else ((L - q : Nat) : Int)) = ((spN L k i : Nat) : Int) := by
  unfold spN
  rw [<- hq]
  split <;> omega
 have hsp : spN L k i <= k := by unfold spN; omega
 rw [hS] at hRR
 rw [<- hq] at e1 hlt hRR
 simp (disch := omega) only [gD, jF, cJ, stepR_skip, hO, iB, iP, iN, iK, iO, jI, iV, gK, iC, iF, iD, iH, hJ, iM, hU, iE, iW, iS, iJ, gQ, iR, iQ, iG, kU, kV, lF, lC, lH, lE, lJ, lG, lD, gB, Result.ok.injEq, Next.value.injEq, true_and, and_true, gZ, hZ, iX, iT, iU, jG, anP, gW, gU, gX, gT, gM, gI, gN, gL, fZ, fT, if_true, if_false, anO, anS, anQ, anR, anU, anT, anN, anM, fM, fK, fB, fQ, cU, eQ, eE, dJ, bJ, fR, fE, aL, dD, aZ, bM, bP, aO, cQ, cF, eP, aF, gS, aP, cK, aR, bS, fS, cI, cC, aB, gC, fA, aI, aG, bN, gO, aN, eU, dZ, dV, gG, dH, fC, dC, eF, eZ, eY, cB, cY, gJ, eD, bZ, bF, bY, bX, fO, aD, aE, aM, aV, bE, cS, bK, aA, fF, aH, cO, fI, eT, gH, bO, eM, eK, bW, fW, eS, eI, cZ, cL, dF, aX, bD, aQ, gA, aJ, dB, dY, bB, cH, fJ, dK, gE, fL, fH, fG, dS, aK, cG, dG, fX, fY, fD, dE, aT, dT, fV, cP, eX, fN, cD, bL, dP, aW, dX, dR, cN, eN, eL, aY, dI, bA, dO, dW, dN, bH, cR, cM, dM, bR, cW, cV, fP, bV, eH, eJ, gF, dU, dQ, dL, dA, bG, bQ, bU, bT, aS, cX, aU, n0, d1, d2, e1, e2, e3]
 rw [hRR]
 exact ⟨rfl, rfl⟩
theorem aiZ {v : asZ} {l : List UInt8} {lvl : Nat} {w : asY} (h : Bs w v l) (h1 : 1 <= l.length) (hl : l.length <= 65536) (hs : EX l = true ∨ l.length <= 2) (hlv : lvl <= 9) :
 jD pg G4 #[v, .int .i64 (lvl : Nat)] w (fun r w' => (∃ x, r = .tuple #[.int .u8 (if (Zw l (Dh l) false).length < l.length then 1 else 0), x, .int .i64 0] /\ Bs w' x (if (Zw l (Dh l) false).length < l.length then Zw l (Dh l) false else l)) /\ jM w w' mM) := by
 refine Ui ?_
 obtain ⟨RR, hRR⟩ : ∃ RR : asZ -> asY -> Prop, RR = fun r w' => (∃ x, r = .tuple #[.int .u8 (if (Zw l (Dh l) false).length < l.length then 1 else 0), x, .int .i64 0] /\ Bs w' x (if (Zw l (Dh l) false).length < l.length then Zw l (Dh l) false else l)) /\ jM w w' mM := ⟨_, rfl⟩
 rw [<- hRR]
 have hv := h
 obtain ⟨va, vc, rfl, hvc⟩ := h.len
 rw [anV] at hv hvc ⊢
 have d1 : decide ((65536 : Int) < (l.length : Int)) = false := decide_eq_false (by omega)
 unfold UZ Jm
 simp (disch := omega) only [gD, jF, cJ, stepR_skip, hO, iB, iP, iN, iK, iO, jI, iV, gK, iC, iF, iD, iH, hJ, iM, hU, iE, iW, iS, iJ, gQ, iR, iQ, iG, kU, kV, lF, lC, lH, lE, lJ, lG, lD, gB, Result.ok.injEq, Next.value.injEq, true_and, and_true, gZ, hZ, iX, iT, iU, jG, anP, gW, gU, gX, gT, gM, gI, gN, gL, fZ, fT, if_true, if_false, anO, anS, anQ, anR, anU, anT, anN, anM, fM, fK, fB, fQ, cU, eQ, eE, dJ, bJ, fR, fE, aL, dD, aZ, bM, bP, aO, cQ, cF, eP, aF, gS, aP, cK, aR, bS, fS, cI, cC, aB, gC, fA, aI, aG, bN, gO, aN, eU, dZ, dV, gG, dH, fC, dC, eF, eZ, eY, cB, cY, gJ, eD, bZ, bF, bY, bX, fO, aD, aE, aM, aV, bE, cS, bK, aA, fF, aH, cO, fI, eT, gH, bO, eM, eK, bW, fW, eS, eI, cZ, cL, dF, aX, bD, aQ, gA, aJ, dB, dY, bB, cH, fJ, dK, gE, fL, fH, fG, dS, aK, cG, dG, fX, fY, fD, dE, aT, dT, fV, cP, eX, fN, cD, bL, dP, aW, dX, dR, cN, eN, eL, aY, dI, bA, dO, dW, dN, bH, cR, cM, dM, bR, cW, cV, fP, bV, eH, eJ, gF, dU, dQ, dL, dA, bG, bQ, bU, bT, aS, cX, aU, d1]
 have he := YK (s := false) hv h1 hl hs hlv
 refine he.mono ?_
 rintro r w1 ⟨⟨x, rfl, o1⟩, x1⟩
 generalize Zw l (Dh l) false = F at *
 obtain ⟨xa, xc, rfl⟩ := o1.len
 have n0 : ((0 : Int) != 0) = false := rfl
 by_cases hlt : F.length < l.length
 .have d2 : decide ((F.length : Int) < (l.length : Int)) = true := decide_eq_true (by omega)
  simp (disch := omega) only [gD, jF, cJ, stepR_skip, hO, iB, iP, iN, iK, iO, jI, iV, gK, iC, iF, iD, iH, hJ, iM, hU, iE, iW, iS, iJ, gQ, iR, iQ, iG, kU, kV, lF, lC, lH, lE, lJ, lG, lD, gB, Result.ok.injEq, Next.value.injEq, true_and, and_true, gZ, hZ, iX, iT, iU, jG, anP, gW, gU, gX, gT, gM, gI, gN, gL, fZ, fT, if_true, if_false, anO, anS, anQ, anR, anU, anT, anN, anM, fM, fK, fB, fQ, cU, eQ, eE, dJ, bJ, fR, fE, aL, dD, aZ, bM, bP, aO, cQ, cF, eP, aF, gS, aP, cK, aR, bS, fS, cI, cC, aB, gC, fA, aI, aG, bN, gO, aN, eU, dZ, dV, gG, dH, fC, dC, eF, eZ, eY, cB, cY, gJ, eD, bZ, bF, bY, bX, fO, aD, aE, aM, aV, bE, cS, bK, aA, fF, aH, cO, fI, eT, gH, bO, eM, eK, bW, fW, eS, eI, cZ, cL, dF, aX, bD, aQ, gA, aJ, dB, dY, bB, cH, fJ, dK, gE, fL, fH, fG, dS, aK, cG, dG, fX, fY, fD, dE, aT, dT, fV, cP, eX, fN, cD, bL, dP, aW, dX, dR, cN, eN, eL, aY, dI, bA, dO, dW, dN, bH, cR, cM, dM, bR, cW, cV, fP, bV, eH, eJ, gF, dU, dQ, dL, dA, bG, bQ, bU, bT, aS, cX, aU, n0, d2]
  rw [hRR, if_pos hlt, if_pos hlt]
  exact ⟨⟨_, rfl, o1.sl⟩, x1⟩
 .have d2 : decide ((F.length : Int) < (l.length : Int)) = false := decide_eq_false (by omega)
  simp (disch := omega) only [gD, jF, cJ, stepR_skip, hO, iB, iP, iN, iK, iO, jI, iV, gK, iC, iF, iD, iH, hJ, iM, hU, iE, iW, iS, iJ, gQ, iR, iQ, iG, kU, kV, lF, lC, lH, lE, lJ, lG, lD, gB, Result.ok.injEq, Next.value.injEq, true_and, and_true, gZ, hZ, iX, iT, iU, jG, anP, gW, gU, gX, gT, gM, gI, gN, gL, fZ, fT, if_true, if_false, anO, anS, anQ, anR, anU, anT, anN, anM, fM, fK, fB, fQ, cU, eQ, eE, dJ, bJ, fR, fE, aL, dD, aZ, bM, bP, aO, cQ, cF, eP, aF, gS, aP, cK, aR, bS, fS, cI, cC, aB, gC, fA, aI, aG, bN, gO, aN, eU, dZ, dV, gG, dH, fC, dC, eF, eZ, eY, cB, cY, gJ, eD, bZ, bF, bY, bX, fO, aD, aE, aM, aV, bE, cS, bK, aA, fF, aH, cO, fI, eT, gH, bO, eM, eK, bW, fW, eS, eI, cZ, cL, dF, aX, bD, aQ, gA, aJ, dB, dY, bB, cH, fJ, dK, gE, fL, fH, fG, dS, aK, cG, dG, fX, fY, fD, dE, aT, dT, fV, cP, eX, fN, cD, bL, dP, aW, dX, dR, cN, eN, eL, aY, dI, bA, dO, dW, dN, bH, cR, cM, dM, bR, cW, cV, fP, bV, eH, eJ, gF, dU, dQ, dL, dA, bG, bQ, bU, bT, aS, cX, aU, n0, d2]
  have hc := UH (l := l) (hv.ext x1 (kJ _)) (by omega)
  refine hc.mono ?_
  rintro r w2 ⟨o2, x2⟩
  rw [hRR, if_neg hlt, if_neg hlt]
  exact ⟨⟨_, rfl, o2.sl⟩, x1.seq x2⟩
theorem Z2 {v : asZ} {l : List UInt8} {w : asY} (h : Bs w v l) (hl : l.length <= 65536) :
 jD pg Dt #[.int .u8 0, v, .int .i64 (l.length : Nat)] w (fun r w' => (∃ x, r = .tuple #[x, .int .i64 0] /\ Bs w' x l) /\ jM w w' mM) := by
 refine Rr ?_
 have hv := h
 obtain ⟨va, vc, rfl, hvc⟩ := h.len
 rw [anV] at hv hvc ⊢
 have d0 : decide (((l.length : Nat) : Int) < 0) = false := decide_eq_false (by omega)
 have d1 : decide ((65536 : Int) < (l.length : Int)) = false := decide_eq_false (by omega)
 have n0 : ((0 : Int) == 0) = true := rfl
 have n1 : (((l.length : Nat) : Int) == ((l.length : Nat) : Int)) = true := beq_self_eq_true _
 unfold Sz Gx
 simp (disch := omega) only [gD, jF, cJ, stepR_skip, hO, iB, iP, iN, iK, iO, jI, iV, gK, iC, iF, iD, iH, hJ, iM, hU, iE, iW, iS, iJ, gQ, iR, iQ, iG, kU, kV, lF, lC, lH, lE, lJ, lG, lD, gB, Result.ok.injEq, Next.value.injEq, true_and, and_true, gZ, hZ, iX, iT, iU, jG, anP, gW, gU, gX, gT, gM, gI, gN, gL, fZ, fT, if_true, if_false, anO, anS, anQ, anR, anU, anT, anN, anM, fM, fK, fB, fQ, cU, eQ, eE, dJ, bJ, fR, fE, aL, dD, aZ, bM, bP, aO, cQ, cF, eP, aF, gS, aP, cK, aR, bS, fS, cI, cC, aB, gC, fA, aI, aG, bN, gO, aN, eU, dZ, dV, gG, dH, fC, dC, eF, eZ, eY, cB, cY, gJ, eD, bZ, bF, bY, bX, fO, aD, aE, aM, aV, bE, cS, bK, aA, fF, aH, cO, fI, eT, gH, bO, eM, eK, bW, fW, eS, eI, cZ, cL, dF, aX, bD, aQ, gA, aJ, dB, dY, bB, cH, fJ, dK, gE, fL, fH, fG, dS, aK, cG, dG, fX, fY, fD, dE, aT, dT, fV, cP, eX, fN, cD, bL, dP, aW, dX, dR, cN, eN, eL, aY, dI, bA, dO, dW, dN, bH, cR, cM, dM, bR, cW, cV, fP, bV, eH, eJ, gF, dU, dQ, dL, dA, bG, bQ, bU, bT, aS, cX, aU, d0, d1, n0, n1]
 refine (UH (l := l) hv (by omega)).mono ?_
 rintro r w2 ⟨o2, x2⟩
 exact ⟨⟨_, rfl, o2.sl⟩, x2⟩
theorem aiH : (Zw [1, 2] (Dh [1, 2]) false).length = 11 := by decide +kernel
theorem abX (w : asY) : jD pg FY #[] w (fun r w' => r = .bool true /\ jM w w' mM) := by
 refine Tx ?_
 unfold Uh HM
 refine (U6 (L := 10) (k := 4) (by decide) (by decide)).mono ?_
 rintro r w1 ⟨rfl, hw⟩
 rw [hw]; clear hw w1
 have ec : Iq 10 4 = (3, 0) := by decide
 unfold Yw
 rw [ec]
 simp (disch := omega) only [gD, jF, cJ, stepR_skip, hO, iB, iP, iN, iK, iO, jI, iV, gK, iC, iF, iD, iH, hJ, iM, hU, iE, iW, iS, iJ, gQ, iR, iQ, iG, kU, kV, lF, lC, lH, lE, lJ, lG, lD, gB, Result.ok.injEq, Next.value.injEq, true_and, and_true, gZ, hZ, iX, iT, iU, jG, anP, gW, gU, gX, gT, gM, gI, gN, gL, fZ, fT, if_true, if_false, anO, anS, anQ, anR, anU, anT, anN, anM, fM, fK, fB, fQ, cU, eQ, eE, dJ, bJ, fR, fE, aL, dD, aZ, bM, bP, aO, cQ, cF, eP, aF, gS, aP, cK, aR, bS, fS, cI, cC, aB, gC, fA, aI, aG, bN, gO, aN, eU, dZ, dV, gG, dH, fC, dC, eF, eZ, eY, cB, cY, gJ, eD, bZ, bF, bY, bX, fO, aD, aE, aM, aV, bE, cS, bK, aA, fF, aH, cO, fI, eT, gH, bO, eM, eK, bW, fW, eS, eI, cZ, cL, dF, aX, bD, aQ, gA, aJ, dB, dY, bB, cH, fJ, dK, gE, fL, fH, fG, dS, aK, cG, dG, fX, fY, fD, dE, aT, dT, fV, cP, eX, fN, cD, bL, dP, aW, dX, dR, cN, eN, eL, aY, dI, bA, dO, dW, dN, bH, cR, cM, dM, bR, cW, cV, fP, bV, eH, eJ, gF, dU, dQ, dL, dA, bG, bQ, bU, bT, aS, cX, aU]
 refine (ZX (L := 10) (k := 4) (i := 2) (by decide) (by decide) (by decide)).mono ?_
 rintro r w1 ⟨rfl, hw⟩
 rw [hw]; clear hw w1
 have es : XJ 10 4 2 = (8, 2, 0) := by decide
 unfold aaG
 rw [es]
 simp (disch := omega) only [gD, jF, cJ, stepR_skip, hO, iB, iP, iN, iK, iO, jI, iV, gK, iC, iF, iD, iH, hJ, iM, hU, iE, iW, iS, iJ, gQ, iR, iQ, iG, kU, kV, lF, lC, lH, lE, lJ, lG, lD, gB, Result.ok.injEq, Next.value.injEq, true_and, and_true, gZ, hZ, iX, iT, iU, jG, anP, gW, gU, gX, gT, gM, gI, gN, gL, fZ, fT, if_true, if_false, anO, anS, anQ, anR, anU, anT, anN, anM, fM, fK, fB, fQ, cU, eQ, eE, dJ, bJ, fR, fE, aL, dD, aZ, bM, bP, aO, cQ, cF, eP, aF, gS, aP, cK, aR, bS, fS, cI, cC, aB, gC, fA, aI, aG, bN, gO, aN, eU, dZ, dV, gG, dH, fC, dC, eF, eZ, eY, cB, cY, gJ, eD, bZ, bF, bY, bX, fO, aD, aE, aM, aV, bE, cS, bK, aA, fF, aH, cO, fI, eT, gH, bO, eM, eK, bW, fW, eS, eI, cZ, cL, dF, aX, bD, aQ, gA, aJ, dB, dY, bB, cH, fJ, dK, gE, fL, fH, fG, dS, aK, cG, dG, fX, fY, fD, dE, aT, dT, fV, cP, eX, fN, cD, bL, dP, aW, dX, dR, cN, eN, eL, aY, dI, bA, dO, dW, dN, bH, cR, cM, dM, bR, cW, cV, fP, bV, eH, eJ, gF, dU, dQ, dL, dA, bG, bQ, bU, bT, aS, cX, aU]
 refine sK (cells := #[.int .u8 1, .int .u8 2]) (by decide) (by decide) (by kernel_rfl) fun w1 o1 x1 s1 => ?_
 have b1 : Bs w1 (.slice (some ⟨w.heap.size, 0, none⟩) 2 2) [1, 2] := o1.bs (off := 0) (c := 2) (l := [1, 2]) (by decide) (fun i hi => by
  match i, hi with
  | 0, _ => rfl
  | 1, _ => rfl)
 refine (aiZ (lvl := 5) b1 (by decide) (by decide) (.inr (by decide)) (by omega)).mono ?_
 rintro r w2 ⟨⟨x, rfl, b2⟩, x2⟩
 have hl12 : ([1, 2] : List UInt8).length = 2 := rfl
 rw [aiH, hl12, if_neg (by omega)]
 rw [aiH, hl12, if_neg (by omega)] at b2
 simp (disch := omega) only [gD, jF, cJ, stepR_skip, hO, iB, iP, iN, iK, iO, jI, iV, gK, iC, iF, iD, iH, hJ, iM, hU, iE, iW, iS, iJ, gQ, iR, iQ, iG, kU, kV, lF, lC, lH, lE, lJ, lG, lD, gB, Result.ok.injEq, Next.value.injEq, true_and, and_true, gZ, hZ, iX, iT, iU, jG, anP, gW, gU, gX, gT, gM, gI, gN, gL, fZ, fT, if_true, if_false, anO, anS, anQ, anR, anU, anT, anN, anM, fM, fK, fB, fQ, cU, eQ, eE, dJ, bJ, fR, fE, aL, dD, aZ, bM, bP, aO, cQ, cF, eP, aF, gS, aP, cK, aR, bS, fS, cI, cC, aB, gC, fA, aI, aG, bN, gO, aN, eU, dZ, dV, gG, dH, fC, dC, eF, eZ, eY, cB, cY, gJ, eD, bZ, bF, bY, bX, fO, aD, aE, aM, aV, bE, cS, bK, aA, fF, aH, cO, fI, eT, gH, bO, eM, eK, bW, fW, eS, eI, cZ, cL, dF, aX, bD, aQ, gA, aJ, dB, dY, bB, cH, fJ, dK, gE, fL, fH, fG, dS, aK, cG, dG, fX, fY, fD, dE, aT, dT, fV, cP, eX, fN, cD, bL, dP, aW, dX, dR, cN, eN, eL, aY, dI, bA, dO, dW, dN, bH, cR, cM, dM, bR, cW, cV, fP, bV, eH, eJ, gF, dU, dQ, dL, dA, bG, bQ, bU, bT, aS, cX, aU]
 refine (Z2 (l := [1, 2]) b2 (by decide)).mono ?_
 rintro r w3 ⟨⟨y, rfl, b3⟩, x3⟩
 have hs := Re b3
 have e1 := aiR [1, 2]
 have n3 : (((3 : Nat) : Int) == 3) = true := rfl
 have n8 : (((8 : Nat) : Int) == 8) = true := rfl
 have n2 : (((2 : Nat) : Int) == 2) = true := rfl
 have n0 : ((0 : Int) == 0) = true := rfl
 simp (disch := omega) only [gD, jF, cJ, stepR_skip, hO, iB, iP, iN, iK, iO, jI, iV, gK, iC, iF, iD, iH, hJ, iM, hU, iE, iW, iS, iJ, gQ, iR, iQ, iG, kU, kV, lF, lC, lH, lE, lJ, lG, lD, gB, Result.ok.injEq, Next.value.injEq, true_and, and_true, gZ, hZ, iX, iT, iU, jG, anP, gW, gU, gX, gT, gM, gI, gN, gL, fZ, fT, if_true, if_false, anO, anS, anQ, anR, anU, anT, anN, anM, fM, fK, fB, fQ, cU, eQ, eE, dJ, bJ, fR, fE, aL, dD, aZ, bM, bP, aO, cQ, cF, eP, aF, gS, aP, cK, aR, bS, fS, cI, cC, aB, gC, fA, aI, aG, bN, gO, aN, eU, dZ, dV, gG, dH, fC, dC, eF, eZ, eY, cB, cY, gJ, eD, bZ, bF, bY, bX, fO, aD, aE, aM, aV, bE, cS, bK, aA, fF, aH, cO, fI, eT, gH, bO, eM, eK, bW, fW, eS, eI, cZ, cL, dF, aX, bD, aQ, gA, aJ, dB, dY, bB, cH, fJ, dK, gE, fL, fH, fG, dS, aK, cG, dG, fX, fY, fD, dE, aT, dT, fV, cP, eX, fN, cD, bL, dP, aW, dX, dR, cN, eN, eL, aY, dI, bA, dO, dW, dN, bH, cR, cM, dM, bR, cW, cV, fP, bV, eH, eJ, gF, dU, dQ, dL, dA, bG, bQ, bU, bT, aS, cX, aU, n3, n8, n2, n0, hs, e1, ajT]
 exact (x1.seq x2).seq x3
theorem WY {L pt : Nat} {w : asY} (hL : L < 4294967296) (hpt : pt < 65536) :
 jD pg CB #[.int .u32 (L : Nat), .int .u16 (pt : Nat)] w (fun r w' => r = .bool true /\ jM w w' mM) := by
 refine ML ?_
 obtain ⟨RR, hRR⟩ : ∃ RR : asZ -> asY -> Prop, RR = fun r w' => r = .bool true /\ jM w w' mM := ⟨_, rfl⟩
 rw [<- hRR]
 unfold Kb BY Bo
 refine (abX w).mono ?_
 rintro r w1 ⟨rfl, x1⟩
 have fin : RR (.bool true) w1 := by rw [hRR]; exact ⟨rfl, x1⟩
 have e1 : IntKind.i64.wrap ((pt : Nat) : Int) = ((pt : Nat) : Int) := gZ (by omega) (by omega)
 have e2 : ((pt : Nat) : Int) + 1 = ((pt + 1 : Nat) : Int) := by omega
 have e3 : IntKind.u64.wrap ((L : Nat) : Int) = ((L : Nat) : Int) := hZ (by omega) (by omega)
 have hL2 : L < 2 ^ 64 := by omega
 obtain ⟨k, hk⟩ : ∃ k, k = pt + 1 := ⟨_, rfl⟩
 rw [<- hk] at e2
 simp (disch := omega) only [gD, jF, cJ, stepR_skip, hO, iB, iP, iN, iK, iO, jI, iV, gK, iC, iF, iD, iH, hJ, iM, hU, iE, iW, iS, iJ, gQ, iR, iQ, iG, kU, kV, lF, lC, lH, lE, lJ, lG, lD, gB, Result.ok.injEq, Next.value.injEq, true_and, and_true, gZ, hZ, iX, iT, iU, jG, anP, gW, gU, gX, gT, gM, gI, gN, gL, fZ, fT, if_true, if_false, anO, anS, anQ, anR, anU, anT, anN, anM, fM, fK, fB, fQ, cU, eQ, eE, dJ, bJ, fR, fE, aL, dD, aZ, bM, bP, aO, cQ, cF, eP, aF, gS, aP, cK, aR, bS, fS, cI, cC, aB, gC, fA, aI, aG, bN, gO, aN, eU, dZ, dV, gG, dH, fC, dC, eF, eZ, eY, cB, cY, gJ, eD, bZ, bF, bY, bX, fO, aD, aE, aM, aV, bE, cS, bK, aA, fF, aH, cO, fI, eT, gH, bO, eM, eK, bW, fW, eS, eI, cZ, cL, dF, aX, bD, aQ, gA, aJ, dB, dY, bB, cH, fJ, dK, gE, fL, fH, fG, dS, aK, cG, dG, fX, fY, fD, dE, aT, dT, fV, cP, eX, fN, cD, bL, dP, aW, dX, dR, cN, eN, eL, aY, dI, bA, dO, dW, dN, bH, cR, cM, dM, bR, cW, cV, fP, bV, eH, eJ, gF, dU, dQ, dL, dA, bG, bQ, bU, bT, aS, cX, aU, e1, e2, e3]
 refine (U6 (L := L) (k := (k : Nat)) hL2 (by omega)).mono ?_
 rintro r w2 ⟨rfl, hw⟩
 rw [hw]; clear hw w2
 have hE := Zr (L := L) (k := k) (by omega) (by omega)
 unfold Yw
 by_cases hb : 1024 < Uw L k
 .rw [if_pos hb] at hE
  have hlt := (UD (L := L) (k := k) (i := 1024) (by omega)).1 hb
  have e4 : IntKind.u64.wrap ((k : Nat) : Int) = ((k : Nat) : Int) := hZ (by omega) (by omega)
  have e5 : (1024 : Int) * ((k : Nat) : Int) = ((k * 1024 : Nat) : Int) := by omega
  have d1 : decide (((k * 1024 : Nat) : Int) < ((L : Nat) : Int)) = true := decide_eq_true (by omega)
  have n1 : ((12 : Int) != 0) = true := rfl
  have n2 : ((12 : Int) == 12) = true := rfl
  have n3 : (((0 : Nat) : Int) == 0) = true := rfl
  rw [hE]
  simp (disch := omega) only [gD, jF, cJ, stepR_skip, hO, iB, iP, iN, iK, iO, jI, iV, gK, iC, iF, iD, iH, hJ, iM, hU, iE, iW, iS, iJ, gQ, iR, iQ, iG, kU, kV, lF, lC, lH, lE, lJ, lG, lD, gB, Result.ok.injEq, Next.value.injEq, true_and, and_true, gZ, hZ, iX, iT, iU, jG, anP, gW, gU, gX, gT, gM, gI, gN, gL, fZ, fT, if_true, if_false, anO, anS, anQ, anR, anU, anT, anN, anM, fM, fK, fB, fQ, cU, eQ, eE, dJ, bJ, fR, fE, aL, dD, aZ, bM, bP, aO, cQ, cF, eP, aF, gS, aP, cK, aR, bS, fS, cI, cC, aB, gC, fA, aI, aG, bN, gO, aN, eU, dZ, dV, gG, dH, fC, dC, eF, eZ, eY, cB, cY, gJ, eD, bZ, bF, bY, bX, fO, aD, aE, aM, aV, bE, cS, bK, aA, fF, aH, cO, fI, eT, gH, bO, eM, eK, bW, fW, eS, eI, cZ, cL, dF, aX, bD, aQ, gA, aJ, dB, dY, bB, cH, fJ, dK, gE, fL, fH, fG, dS, aK, cG, dG, fX, fY, fD, dE, aT, dT, fV, cP, eX, fN, cD, bL, dP, aW, dX, dR, cN, eN, eL, aY, dI, bA, dO, dW, dN, bH, cR, cM, dM, bR, cW, cV, fP, bV, eH, eJ, gF, dU, dQ, dL, dA, bG, bQ, bU, bT, aS, cX, aU, n1, n2, n3, e3, e4, e5, d1]
  exact fin
 rw [if_neg hb] at hE
 have hE0 : (Iq L (k : Nat)).2 = 0 := by rw [hE]
 have hE1 : (Iq L (k : Nat)).1 = Uw L k := by rw [hE]
 obtain ⟨n, hn⟩ : ∃ n, n = Uw L k := ⟨_, rfl⟩
 have n1 : ((0 : Int) != 0) = false := rfl
 rw [hE]
 simp (disch := omega) only [gD, jF, cJ, stepR_skip, hO, iB, iP, iN, iK, iO, jI, iV, gK, iC, iF, iD, iH, hJ, iM, hU, iE, iW, iS, iJ, gQ, iR, iQ, iG, kU, kV, lF, lC, lH, lE, lJ, lG, lD, gB, Result.ok.injEq, Next.value.injEq, true_and, and_true, gZ, hZ, iX, iT, iU, jG, anP, gW, gU, gX, gT, gM, gI, gN, gL, fZ, fT, if_true, if_false, anO, anS, anQ, anR, anU, anT, anN, anM, fM, fK, fB, fQ, cU, eQ, eE, dJ, bJ, fR, fE, aL, dD, aZ, bM, bP, aO, cQ, cF, eP, aF, gS, aP, cK, aR, bS, fS, cI, cC, aB, gC, fA, aI, aG, bN, gO, aN, eU, dZ, dV, gG, dH, fC, dC, eF, eZ, eY, cB, cY, gJ, eD, bZ, bF, bY, bX, fO, aD, aE, aM, aV, bE, cS, bK, aA, fF, aH, cO, fI, eT, gH, bO, eM, eK, bW, fW, eS, eI, cZ, cL, dF, aX, bD, aQ, gA, aJ, dB, dY, bB, cH, fJ, dK, gE, fL, fH, fG, dS, aK, cG, dG, fX, fY, fD, dE, aT, dT, fV, cP, eX, fN, cD, bL, dP, aW, dX, dR, cN, eN, eL, aY, dI, bA, dO, dW, dN, bH, cR, cM, dM, bR, cW, cV, fP, bV, eH, eJ, gF, dU, dQ, dL, dA, bG, bQ, bU, bT, aS, cX, aU, n1]
 rw [<- hn]
 rw [<- hn] at hb
 unfold BL BC Bf Bc BQ
 refine kE.rule (fun m (t : asZ × asZ) W => ∃ i : Nat, m = n - i /\ i <= n /\ t = (.int .u64 ((min (k * i) L : Nat) : Int), .int .i64 (i : Nat)) /\ W = w1) n ⟨0, rfl, by omega, by rw [Nat.mul_zero, aqD (by omega)] <;> rfl, rfl⟩ ?_
 rintro m t W ⟨i, rfl, hi, rfl, hW⟩
 rw [hW]; clear hW W
 have hlt := UD (L := L) (k := k) (i := i) (by omega)
 have hlt1 := UD (L := L) (k := k) (i := i + 1) (by omega)
 have hsp := ZX (w := w1) (L := L) (k := (k : Nat)) (i := (i : Nat)) hL2 (by omega) (by omega)
 unfold aaG XJ at hsp
 rw [if_neg (by omega), hE1, <- hn] at hsp
 rw [<- hn] at hlt hlt1
 rw [arC, apT] at hlt1
 have hsN : spN L k i = min (L - k * i) k := rfl
 obtain ⟨T, hT⟩ : ∃ T, T = k * i := ⟨_, rfl⟩
 simp only [anP] at hsp
 rw [<- hT] at hlt hlt1 hsN hsp ⊢
 unfold vA
 by_cases hin : i < n
 .have d1 : decide ((i : Int) < (n : Int)) = true := decide_eq_true (by omega)
  have hTL := hlt.1 hin
  rw [if_neg (by omega)] at hsp
  obtain ⟨s, hs⟩ : ∃ s, s = spN L k i := ⟨_, rfl⟩
  rw [<- hs] at hsp hsN
  have hmin : min T L = T := aqD (by omega)
  rw [hmin]
  simp (disch := omega) only [gD, jF, cJ, stepR_skip, hO, iB, iP, iN, iK, iO, jI, iV, gK, iC, iF, iD, iH, hJ, iM, hU, iE, iW, iS, iJ, gQ, iR, iQ, iG, kU, kV, lF, lC, lH, lE, lJ, lG, lD, gB, Result.ok.injEq, Next.value.injEq, true_and, and_true, gZ, hZ, iX, iT, iU, jG, anP, gW, gU, gX, gT, gM, gI, gN, gL, fZ, fT, if_true, if_false, anO, anS, anQ, anR, anU, anT, anN, anM, fM, fK, fB, fQ, cU, eQ, eE, dJ, bJ, fR, fE, aL, dD, aZ, bM, bP, aO, cQ, cF, eP, aF, gS, aP, cK, aR, bS, fS, cI, cC, aB, gC, fA, aI, aG, bN, gO, aN, eU, dZ, dV, gG, dH, fC, dC, eF, eZ, eY, cB, cY, gJ, eD, bZ, bF, bY, bX, fO, aD, aE, aM, aV, bE, cS, bK, aA, fF, aH, cO, fI, eT, gH, bO, eM, eK, bW, fW, eS, eI, cZ, cL, dF, aX, bD, aQ, gA, aJ, dB, dY, bB, cH, fJ, dK, gE, fL, fH, fG, dS, aK, cG, dG, fX, fY, fD, dE, aT, dT, fV, cP, eX, fN, cD, bL, dP, aW, dX, dR, cN, eN, eL, aY, dI, bA, dO, dW, dN, bH, cR, cM, dM, bR, cW, cV, fP, bV, eH, eJ, gF, dU, dQ, dL, dA, bG, bQ, bU, bT, aS, cX, aU, d1, e3]
  refine hsp.mono ?_
  rintro r w2 ⟨rfl, hw⟩
  rw [hw]; clear hw w2
  have m1 : (((T : Nat) : Int) != ((T : Nat) : Int)) = false := by simp
  have d2 : decide (((s : Nat) : Int) < 1) = false := decide_eq_false (by omega)
  have d3 : decide (((k : Nat) : Int) < ((s : Nat) : Int)) = false := decide_eq_false (by omega)
  have q1 : ((n : Nat) : Int) - 1 = ((n - 1 : Nat) : Int) := by omega
  have q2 : IntKind.u64.wrap ((s : Nat) : Int) = ((s : Nat) : Int) := hZ (by omega) (by omega)
  have q3 : ((T : Nat) : Int) + ((s : Nat) : Int) = ((T + s : Nat) : Int) := by omega
  have q4 : (i : Int) + 1 = ((i + 1 : Nat) : Int) := by omega
  have hend : min (T + k) L = T + s := by omega
  have hfin : ∃ m, m < n - i /\ ∃ i_1 : Nat, m = n - i_1 /\ i_1 <= n /\ ((.int .u64 ((T + s : Nat) : Int), .int .i64 ((i + 1 : Nat) : Int)) : asZ × asZ) = (.int .u64 ((min (k * i_1) L : Nat) : Int), .int .i64 (i_1 : Nat)) /\ w1 = w1 :=
   ⟨n - (i + 1), by omega, i + 1, rfl, by omega, by rw [arC, apT, <- hT, hend], rfl⟩
  by_cases hlast : i < n - 1
  .have d4 : decide ((i : Int) < ((n - 1 : Nat) : Int)) = true := decide_eq_true (by omega)
   have hk2 := hlt1.1 (by omega)
   have hsk : s = k := by omega
   have m2 : (((s : Nat) : Int) != ((k : Nat) : Int)) = false := by rw [hsk]; simp
   simp (disch := omega) only [gD, jF, cJ, stepR_skip, hO, iB, iP, iN, iK, iO, jI, iV, gK, iC, iF, iD, iH, hJ, iM, hU, iE, iW, iS, iJ, gQ, iR, iQ, iG, kU, kV, lF, lC, lH, lE, lJ, lG, lD, gB, Result.ok.injEq, Next.value.injEq, true_and, and_true, gZ, hZ, iX, iT, iU, jG, anP, gW, gU, gX, gT, gM, gI, gN, gL, fZ, fT, if_true, if_false, anO, anS, anQ, anR, anU, anT, anN, anM, fM, fK, fB, fQ, cU, eQ, eE, dJ, bJ, fR, fE, aL, dD, aZ, bM, bP, aO, cQ, cF, eP, aF, gS, aP, cK, aR, bS, fS, cI, cC, aB, gC, fA, aI, aG, bN, gO, aN, eU, dZ, dV, gG, dH, fC, dC, eF, eZ, eY, cB, cY, gJ, eD, bZ, bF, bY, bX, fO, aD, aE, aM, aV, bE, cS, bK, aA, fF, aH, cO, fI, eT, gH, bO, eM, eK, bW, fW, eS, eI, cZ, cL, dF, aX, bD, aQ, gA, aJ, dB, dY, bB, cH, fJ, dK, gE, fL, fH, fG, dS, aK, cG, dG, fX, fY, fD, dE, aT, dT, fV, cP, eX, fN, cD, bL, dP, aW, dX, dR, cN, eN, eL, aY, dI, bA, dO, dW, dN, bH, cR, cM, dM, bR, cW, cV, fP, bV, eH, eJ, gF, dU, dQ, dL, dA, bG, bQ, bU, bT, aS, cX, aU, n1, m1, d2, d3, q1, d4, m2, q2, q3, q4]
   first
    | exact hfin
    | (obtain ⟨m, hm, i1, h1, h2, h3, -⟩ := hfin
       exact ⟨m, hm, i1, h1, h2, h3⟩)
  .have d4 : decide ((i : Int) < ((n - 1 : Nat) : Int)) = false := decide_eq_false (by omega)
   simp (disch := omega) only [gD, jF, cJ, stepR_skip, hO, iB, iP, iN, iK, iO, jI, iV, gK, iC, iF, iD, iH, hJ, iM, hU, iE, iW, iS, iJ, gQ, iR, iQ, iG, kU, kV, lF, lC, lH, lE, lJ, lG, lD, gB, Result.ok.injEq, Next.value.injEq, true_and, and_true, gZ, hZ, iX, iT, iU, jG, anP, gW, gU, gX, gT, gM, gI, gN, gL, fZ, fT, if_true, if_false, anO, anS, anQ, anR, anU, anT, anN, anM, fM, fK, fB, fQ, cU, eQ, eE, dJ, bJ, fR, fE, aL, dD, aZ, bM, bP, aO, cQ, cF, eP, aF, gS, aP, cK, aR, bS, fS, cI, cC, aB, gC, fA, aI, aG, bN, gO, aN, eU, dZ, dV, gG, dH, fC, dC, eF, eZ, eY, cB, cY, gJ, eD, bZ, bF, bY, bX, fO, aD, aE, aM, aV, bE, cS, bK, aA, fF, aH, cO, fI, eT, gH, bO, eM, eK, bW, fW, eS, eI, cZ, cL, dF, aX, bD, aQ, gA, aJ, dB, dY, bB, cH, fJ, dK, gE, fL, fH, fG, dS, aK, cG, dG, fX, fY, fD, dE, aT, dT, fV, cP, eX, fN, cD, bL, dP, aW, dX, dR, cN, eN, eL, aY, dI, bA, dO, dW, dN, bH, cR, cM, dM, bR, cW, cV, fP, bV, eH, eJ, gF, dU, dQ, dL, dA, bG, bQ, bU, bT, aS, cX, aU, n1, m1, d2, d3, q1, d4, q2, q3, q4]
   first
    | exact hfin
    | (obtain ⟨m, hm, i1, h1, h2, h3, -⟩ := hfin
       exact ⟨m, hm, i1, h1, h2, h3⟩)
 .have d1 : decide ((i : Int) < (n : Int)) = false := decide_eq_false (by omega)
  have hin' : i = n := by omega
  have hTL : ¬ T < L := fun h => hin (hlt.2 h)
  have hmin : min T L = L := Nat.min_eq_right (by omega)
  rw [if_pos (by omega)] at hsp
  rw [hmin]
  unfold uR
  simp (disch := omega) only [gD, jF, cJ, stepR_skip, hO, iB, iP, iN, iK, iO, jI, iV, gK, iC, iF, iD, iH, hJ, iM, hU, iE, iW, iS, iJ, gQ, iR, iQ, iG, kU, kV, lF, lC, lH, lE, lJ, lG, lD, gB, Result.ok.injEq, Next.value.injEq, true_and, and_true, gZ, hZ, iX, iT, iU, jG, anP, gW, gU, gX, gT, gM, gI, gN, gL, fZ, fT, if_true, if_false, anO, anS, anQ, anR, anU, anT, anN, anM, fM, fK, fB, fQ, cU, eQ, eE, dJ, bJ, fR, fE, aL, dD, aZ, bM, bP, aO, cQ, cF, eP, aF, gS, aP, cK, aR, bS, fS, cI, cC, aB, gC, fA, aI, aG, bN, gO, aN, eU, dZ, dV, gG, dH, fC, dC, eF, eZ, eY, cB, cY, gJ, eD, bZ, bF, bY, bX, fO, aD, aE, aM, aV, bE, cS, bK, aA, fF, aH, cO, fI, eT, gH, bO, eM, eK, bW, fW, eS, eI, cZ, cL, dF, aX, bD, aQ, gA, aJ, dB, dY, bB, cH, fJ, dK, gE, fL, fH, fG, dS, aK, cG, dG, fX, fY, fD, dE, aT, dT, fV, cP, eX, fN, cD, bL, dP, aW, dX, dR, cN, eN, eL, aY, dI, bA, dO, dW, dN, bH, cR, cM, dM, bR, cW, cV, fP, bV, eH, eJ, gF, dU, dQ, dL, dA, bG, bQ, bU, bT, aS, cX, aU, d1, e3]
  rw [<- hin']
  refine hsp.mono ?_
  rintro r w2 ⟨rfl, hw⟩
  rw [hw]; clear hw w2
  have m1 : (((L : Nat) : Int) == ((L : Nat) : Int)) = true := beq_self_eq_true _
  have m2 : ((17 : Int) == 17) = true := rfl
  simp (disch := omega) only [gD, jF, cJ, stepR_skip, hO, iB, iP, iN, iK, iO, jI, iV, gK, iC, iF, iD, iH, hJ, iM, hU, iE, iW, iS, iJ, gQ, iR, iQ, iG, kU, kV, lF, lC, lH, lE, lJ, lG, lD, gB, Result.ok.injEq, Next.value.injEq, true_and, and_true, gZ, hZ, iX, iT, iU, jG, anP, gW, gU, gX, gT, gM, gI, gN, gL, fZ, fT, if_true, if_false, anO, anS, anQ, anR, anU, anT, anN, anM, fM, fK, fB, fQ, cU, eQ, eE, dJ, bJ, fR, fE, aL, dD, aZ, bM, bP, aO, cQ, cF, eP, aF, gS, aP, cK, aR, bS, fS, cI, cC, aB, gC, fA, aI, aG, bN, gO, aN, eU, dZ, dV, gG, dH, fC, dC, eF, eZ, eY, cB, cY, gJ, eD, bZ, bF, bY, bX, fO, aD, aE, aM, aV, bE, cS, bK, aA, fF, aH, cO, fI, eT, gH, bO, eM, eK, bW, fW, eS, eI, cZ, cL, dF, aX, bD, aQ, gA, aJ, dB, dY, bB, cH, fJ, dK, gE, fL, fH, fG, dS, aK, cG, dG, fX, fY, fD, dE, aT, dT, fV, cP, eX, fN, cD, bL, dP, aW, dX, dR, cN, eN, eL, aY, dI, bA, dO, dW, dN, bH, cR, cM, dM, bR, cW, cV, fP, bV, eH, eJ, gF, dU, dQ, dL, dA, bG, bQ, bU, bT, aS, cX, aU, e3, m1, m2]
  exact fin
end Go.Proofs.YtoecppploooloaaGreatDoor
namespace Go.En
open Go Go.ChangeShapes Go.WideShapes Go.ChangeAt Go.RowKit
theorem VJ {H : Type} {enc : TypeId × asZ -> H} {P : Program} (hl : laidOutB P = true) {W W' : asY} (hb : Below W.heap.size W W') : ∀ (ts : List TypeId) (vs : List asZ) (ds : List (DataW H)) (ps : List MemPlace),
 (ts.all fun t => P.readableRec t && decide (t < P.types.size)) = true -> DataW.TrodAll enc P W 0 (fun _ => true) true ts vs ds ps -> (∀ x ∈ ps, x.block < W.heap.size) →
 DataW.TrodAll enc P W' 0 (fun b => decide (b < W.heap.size)) true ts vs ds ps := by
 intro ts
 induction ts with
 | nil =>
   intro vs ds ps _ h _
   cases vs <;> cases ds <;> simp [DataW.TrodAll] at h ⊢
   exact h
 | cons t ts ih =>
   intro vs ds ps hr h hlt
   cases vs with
   | nil => simp [DataW.TrodAll] at h
   | cons v vs =>
     cases ds with
     | nil => simp [DataW.TrodAll] at h
     | cons d ds =>
       obtain ⟨p, q, h1, h2, rfl⟩ := h
       rw [List.all_cons, aoB, aoB, decide_eq_true_eq] at hr
       exact ⟨p, q, Below.trod hl hr.1.1 hr.1.2 h1 hb (fun x hx => hlt x (aqS _ hx)), ih _ _ _ hr.2 h2 (fun x hx => hlt x (arM _ hx)), rfl⟩
theorem adW {H : Type} {enc : TypeId × asZ -> H} {P : Program} {f : Func} {s : ChangeSpec} {apart fresh handsOn : Bool} {tb : TypeId} {W W' : asY} {args : Array asZ} {ds gs : List (DataW H)} {before : List MemPlace}
 (hl : laidOutB P = true) (hr : (f.params.toList.all fun t => P.readableRec t && decide (t < P.types.size)) = true) (hres : f.resultTypes = #[tb]) (hbool : P.underlying tb = some .bool)
 (hW : DataW.Whole enc P f.params.toList s.vars apart W args.toList ds gs before) (hvars : s.vars = []) (h1 : (s.fn H (ds ++ gs)).results = [.lit (.bool true)]) (h2 : (s.fn H (ds ++ gs)).args = ds) (h3 : (s.fn H (ds ++ gs)).vars = [])
 (hx : jM W W' mM) : s.post enc P f apart fresh handsOn false W args (.bool true) W' := by
 have hb := hx.below
 have hlt : ∀ x ∈ before, x.block < W.heap.size := fun x hx => hW.lt x hx
 have hW' := hW
 obtain ⟨p, q, hA, hV, rfl, _, _⟩ := hW
 rw [hvars] at hV
 obtain ⟨_, rfl⟩ := trodVars_none hV
 rw [aqC] at hW' hlt
 refine ⟨ds, gs, p, [], p, [], hW', ?_, ?_, ?_, hb.frame _, fun h => by cases h⟩
 .rw [h1, hres]
  exact trodAll_cons_mk (shut_bool hbool _) trodAll_mk0
 .rw [h2]; exact VJ hl hb _ _ _ _ hr hA hlt
 .rw [h3, hvars] <;> rfl
end Go.En
