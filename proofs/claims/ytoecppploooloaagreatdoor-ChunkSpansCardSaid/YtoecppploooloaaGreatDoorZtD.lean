/- Parts of the proof of ChunkSpans: merged and given short names by a program of ours. -/
import Derived.WalkKit
import Derived.ProofKit
import Derived.OpenShut
import Derived.Test.YtoecppploooloaaGreatDoorZtC
set_option linter.unusedVariables false
set_option linter.unusedSimpArgs false
open Array renaming length_toList → arJ
open Bool renaming false_eq_true → aoD, not_false → aoI, not_true → aoJ, and_eq_true → aoQ
open Int renaming toNat_natCast → aoE, fdiv_eq_ediv_of_nonneg → arA
open List renaming getElem?_cons_zero → aoB, getElem?_cons_succ → aoC, length_map → aoK, length_append → aoL, getElem?_eq_getElem → aoM, getD_eq_getElem?_getD → aoN, getElem?_eq_none → aoS, take_of_length_le → aoU, length_cons → aoV, getElem?_append_left → aoX, getElem?_map → aoY, set_cons_zero → aoZ, set_cons_succ → apC, map_cons → apJ, append_assoc → apK, map_append → apN, length_eq_zero_iff → apT, nil_append → aqA, mem_map → aqB, getElem?_take_of_lt → aqD, getElem_mem → aqE, getElem?_toArray → aqG, append_nil → aqR, ext_getElem? → aqW, drop_zero → arF, mem_append_left → arH, getElem?_drop → arV, mem_append_right → asA, map_set → asI, eq_of_mem_replicate → asY, map_nil → atL
open Nat renaming zero_add → aoH, le_refl → aoP, lt_or_ge → aoT, pow_le_pow_right → apE, mul_le_mul_right → apG, mul_comm → apU, add_mul → apW, add_zero → apY, le_trans → aqC, mul_one → aqK, pow_add → aqN, min_eq_left → aqX, div_div_eq_div_mul → aqY, eq_zero_or_pos → arE, add_assoc → arN, sub_zero → asE, zero_mul → asF, mul_add → asO, mul_le_mul_left → asS, div_le_self → asV, zero_le → atD, mod_lt → atK
open Option renaming isNone_some → aoF, isNone_none → aoG, map_some → apM, getD_some → arK
open Option.some renaming inj → apP
open UInt8 renaming toNat_lt → aqU
namespace Go.Proofs.YtoecppploooloaaGreatDoor
open Go Go.En Go.Pu
set_option maxRecDepth 4000
def ajA (w : atO) (base n : Nat) (r : atP) : Prop :=
 (∃ e : Int, e ≠ 0 /\ r = .tuple #[.slice none 0 0, .int .i64 e]) ∨
 (∃ (v : atP) (bytes : List UInt8), r = .tuple #[v, .int .i64 0] /\ yB w base 1 v bytes.length (bytes.map oZ) /\ 1 <= bytes.length /\ bytes.length <= 11 * n / 8 + 100)
def LD (kind form n m bits : Nat) : Nat := kind + form * 4 + n * 2 ^ 4 + m * 2 ^ (4 + bits)
theorem aeQ {a b : Nat} (ha : a < 2 ^ 64) (hb : b < 2 ^ 64) : UU .u64 (a : Int) (b : Int) = ((a ||| b : Nat) : Int) := aiE ha hb
theorem Yk {RR : atP -> atO -> Prop} {sv bv : atP} {l B : List UInt8} {kind form bits size : Nat} {w : atO} (h : Bs w sv l) (hb : Bs w bv B) (hl : l.length <= 131072) (hk : kind < 4) (hf : form < 4) (hbits : bits <= 18) (hsz : 1 <= size /\ size <= 8) (hB : B.length < 2 ^ 18) (hn : l.length < 2 ^ bits)
 (hk' : ∀ r w', yB w' w.heap.size 1 r (pB (LD kind form l.length B.length bits) size ++ B).length ((pB (LD kind form l.length B.length bits) size ++ B).map oZ) -> jM w w' mN -> RR (.tuple #[r, .int .i64 0]) w') :
 qQ RR sv (.int .i64 (kind : Nat)) bv (.int .i64 (form : Nat)) (.int .i64 (bits : Nat)) (.int .i64 (size : Nat)) w := by
 unfold qQ
 refine (ER w).mono ?_
 rintro r w1 ⟨rfl, hlt1, hw1, x1⟩
 have z1 := x1.size
 have h1 := h.ext x1 (kJ _)
 have hb1 := hb.ext x1 (kJ _)
 have hbv := hb1
 obtain ⟨a, c, rfl, hc⟩ := h1.len
 obtain ⟨a2, c2, rfl, hc2⟩ := hb1.len
 rw [aoK] at hbv
 have t2 : (2 : Int).toNat = 2 := rfl
 have t4 : (4 : Int).toNat = 4 := rfl
 have e1 := WS (a := form) (n := 2) (by omega) (by omega)
 have e2 := WS (a := l.length) (n := 4) (by omega) (by omega)
 have e3 : UU .i64 (kind : Int) ((form * 2 ^ 2 : Nat) : Int) = ((kind + form * 4 : Nat) : Int) := by
  rw [Sj (by omega) (by omega), Nat.or_comm, Mb 2 (by omega)]; congr 1; omega
 have e4 : UU .i64 ((kind + form * 4 : Nat) : Int) ((l.length * 2 ^ 4 : Nat) : Int) = ((kind + form * 4 + l.length * 2 ^ 4 : Nat) : Int) := by
  rw [Sj (by omega) (by omega), Nat.or_comm, Mb 4 (by omega)]; congr 1; omega
 have e5 : IntKind.u64.wrap ((kind + form * 4 + l.length * 2 ^ 4 : Nat) : Int) = ((kind + form * 4 + l.length * 2 ^ 4 : Nat) : Int) := hZ (by omega) (by omega)
 have e6 : IntKind.u64.wrap (B.length : Int) = (B.length : Int) := hZ (by omega) (by omega)
 have e7 : (4 : Int) + (bits : Int) = ((4 + bits : Nat) : Int) := by omega
 have hp22 : 2 ^ (4 + bits) <= 2 ^ 22 := apE (by omega) (by omega)
 have hm40 : B.length * 2 ^ (4 + bits) < 2 ^ 40 := by
  have h1 : B.length * 2 ^ (4 + bits) <= (2 ^ 18 - 1) * 2 ^ 22 := Nat.mul_le_mul (by omega) hp22
  have : (2 ^ 18 - 1) * 2 ^ 22 < 2 ^ 40 := by decide
  omega
 have e8 : IntKind.u64.wrap ((B.length : Int) * 2 ^ (min (4 + bits) IntKind.u64.bits)) = ((B.length * 2 ^ (4 + bits) : Nat) : Int) := by
  have hmin : min (4 + bits) IntKind.u64.bits = 4 + bits := by
   have : IntKind.u64.bits = 64 := rfl
   omega
  rw [hmin]
  have : (B.length : Int) * 2 ^ (4 + bits) = ((B.length * 2 ^ (4 + bits) : Nat) : Int) := by push_cast; rfl
  rw [this]
  exact hZ (by omega) (by omega)
 have hlow : kind + form * 4 + l.length * 2 ^ 4 < 2 ^ (4 + bits) := by
  rw [aqN]
  generalize 2 ^ bits = Y at *
  omega
 have e9 : UU .u64 ((kind + form * 4 + l.length * 2 ^ 4 : Nat) : Int) ((B.length * 2 ^ (4 + bits) : Nat) : Int) = ((LD kind form l.length B.length bits : Nat) : Int) := by
  rw [aeQ (by omega) (by omega), agK hlow, LD, apU (2 ^ (4 + bits))]
 have hX : LD kind form l.length B.length bits < 2 ^ 64 := by unfold LD; omega
 have t8 : ((4 + bits : Nat) : Int).toNat = 4 + bits := aoE _
 simp (disch := omega) only [gE, jE, cS, stepR_skip, hO, iA, iO, iM, iJ, iL, jH, iT, gL, iD, iF, iC, iH, hJ, iN, hU, iE, iR, iS, iI, gQ, iQ, iP, iG, kR, kQ, lE, lH, lG, lD, lF, lC, lB, gB, Result.ok.injEq, Next.value.injEq, true_and, and_true, gY, hZ, iV, iW, iU, jG, aoE, gV, gU, gX, gT, gM, gI, gN, gK, fZ, fU, if_true, if_false, aoD, aoH, aoF, aoG, aoJ, aoI, aoC, aoB, fM, fK, eZ, fQ, cU, eQ, eE, dJ, bO, fR, eS, aQ, cY, bF, bP, bJ, aI, cP, cB, eP, aF, gR, aK, cJ, aS, bS, fS, cC, cD, aB, gC, fC, aJ, aD, bH, gO, aP, eU, dT, dV, gG, dH, fH, dB, eH, eT, fD, cF, dF, gJ, dQ, cH, bA, bZ, cG, fP, aE, aG, aO, aV, bD, cL, bN, aA, fE, aM, cO, fI, eY, gH, bK, eK, eL, bW, fW, fF, eJ, dD, cR, dG, aW, bB, aH, gA, aL, dC, dW, aX, cI, fJ, dK, gD, fL, fA, fB, dP, aN, bX, dE, fY, fX, fG, dI, aT, dZ, fT, cQ, eX, fN, bY, bL, dU, aZ, dY, dO, cK, eI, eM, aY, dA, bE, dN, dS, dR, bM, cN, cM, dM, bR, cW, cV, fO, bV, eF, eN, gF, dX, eD, dL, cZ, bG, bQ, bT, bU, aR, cX, aU, t2, t4, e1, e2, e3, e4, e5, e6, e7, e8, e9, t8, aoK]
 refine (AE (x := LD kind form l.length B.length bits) (n := size) hw1 (fun y hy => by omega) hX hsz (atD _)).mono ?_
 rintro r w2 ⟨rfl, hw2, x2⟩
 have z2 := x2.size
 rw [aqA] at hw2
 have x02 : jM w w2 mN := x1.trans x2 fun y hy h => by omega
 have hb2 := hb.ext x02 (kJ _)
 rw [aoK] at hb2
 have hp5 : (pB (LD kind form l.length B.length bits) size).length <= 8 := by rw [mC]; exact hsz.2
 refine (Vo hw2 (fun y hy => by omega) hb2 (by omega)).mono ?_
 rintro r w3 ⟨rfl, hw3, x3⟩
 have z3 := x3.size
 refine (NR hw3 (by rw [aoL]; omega)).mono ?_
 rintro r w4 ⟨o4, x4⟩
 refine hk' r w4 (Kk o4 (by omega)) ((x02.trans x3 fun y hy h => by omega).seq x4)
def anD (w : atO) (base lim : Nat) (r : atP) : Prop :=
 r = .tuple #[.slice none 0 0, .int .i64 1] ∨ ∃ (v : atP) (bytes : List UInt8), r = .tuple #[v, .int .i64 0] /\ Bs w v bytes /\ AtI v base w.heap.size /\ bytes.length <= lim
theorem Yb {lv sv : atP} {wl l : List UInt8} {w : atO} (hw : Bs w lv wl) (hwl : wl.length <= 100000) (h : Bs w sv l) (hl : l.length <= 131072) :
 jD pg vC #[lv, sv] w (fun r w' => anD w' w.heap.size (11 * l.length / 8 + 12) r /\ jM w w' mN) := by
 refine LK ?_
 unfold Jm Aj
 have hv := h
 obtain ⟨a, c, rfl, hc⟩ := h.len
 rw [aoK] at hv ⊢
 by_cases hlt : l.length < 256
 .have d1 : decide ((l.length : Int) < 256) = true := decide_eq_true (by omega)
  simp (disch := omega) only [gE, jE, cS, stepR_skip, hO, iA, iO, iM, iJ, iL, jH, iT, gL, iD, iF, iC, iH, hJ, iN, hU, iE, iR, iS, iI, gQ, iQ, iP, iG, kR, kQ, lE, lH, lG, lD, lF, lC, lB, gB, Result.ok.injEq, Next.value.injEq, true_and, and_true, gY, hZ, iV, iW, iU, jG, aoE, gV, gU, gX, gT, gM, gI, gN, gK, fZ, fU, if_true, if_false, aoD, aoH, aoF, aoG, aoJ, aoI, aoC, aoB, fM, fK, eZ, fQ, cU, eQ, eE, dJ, bO, fR, eS, aQ, cY, bF, bP, bJ, aI, cP, cB, eP, aF, gR, aK, cJ, aS, bS, fS, cC, cD, aB, gC, fC, aJ, aD, bH, gO, aP, eU, dT, dV, gG, dH, fH, dB, eH, eT, fD, cF, dF, gJ, dQ, cH, bA, bZ, cG, fP, aE, aG, aO, aV, bD, cL, bN, aA, fE, aM, cO, fI, eY, gH, bK, eK, eL, bW, fW, fF, eJ, dD, cR, dG, aW, bB, aH, gA, aL, dC, dW, aX, cI, fJ, dK, gD, fL, fA, fB, dP, aN, bX, dE, fY, fX, fG, dI, aT, dZ, fT, cQ, eX, fN, bY, bL, dU, aZ, dY, dO, cK, eI, eM, aY, dA, bE, dN, dS, dR, bM, cN, cM, dM, bR, cW, cV, fO, bV, eF, eN, gF, dX, eD, dL, cZ, bG, bQ, bT, bU, aR, cX, aU, d1]
  refine (Yw hw hwl hv hl).mono ?_
  rintro r w1 ⟨ho, x1⟩
  rcases ho with ⟨hb, rfl⟩ | ⟨hd, hall, v, bytes, rfl, hbs, hat, hlen, hback⟩
  .simp (disch := omega) only [gE, jE, cS, stepR_skip, hO, iA, iO, iM, iJ, iL, jH, iT, gL, iD, iF, iC, iH, hJ, iN, hU, iE, iR, iS, iI, gQ, iQ, iP, iG, kR, kQ, lE, lH, lG, lD, lF, lC, lB, gB, Result.ok.injEq, Next.value.injEq, true_and, and_true, gY, hZ, iV, iW, iU, jG, aoE, gV, gU, gX, gT, gM, gI, gN, gK, fZ, fU, if_true, if_false, aoD, aoH, aoF, aoG, aoJ, aoI, aoC, aoB, fM, fK, eZ, fQ, cU, eQ, eE, dJ, bO, fR, eS, aQ, cY, bF, bP, bJ, aI, cP, cB, eP, aF, gR, aK, cJ, aS, bS, fS, cC, cD, aB, gC, fC, aJ, aD, bH, gO, aP, eU, dT, dV, gG, dH, fH, dB, eH, eT, fD, cF, dF, gJ, dQ, cH, bA, bZ, cG, fP, aE, aG, aO, aV, bD, cL, bN, aA, fE, aM, cO, fI, eY, gH, bK, eK, eL, bW, fW, fF, eJ, dD, cR, dG, aW, bB, aH, gA, aL, dC, dW, aX, cI, fJ, dK, gD, fL, fA, fB, dP, aN, bX, dE, fY, fX, fG, dI, aT, dZ, fT, cQ, eX, fN, bY, bL, dU, aZ, dY, dO, cK, eI, eM, aY, dA, bE, dN, dS, dR, bM, cN, cM, dM, bR, cW, cV, fO, bV, eF, eN, gF, dX, eD, dL, cZ, bG, bQ, bT, bU, aR, cX, aU]
   exact ⟨.inl rfl, x1⟩
  .simp (disch := omega) only [gE, jE, cS, stepR_skip, hO, iA, iO, iM, iJ, iL, jH, iT, gL, iD, iF, iC, iH, hJ, iN, hU, iE, iR, iS, iI, gQ, iQ, iP, iG, kR, kQ, lE, lH, lG, lD, lF, lC, lB, gB, Result.ok.injEq, Next.value.injEq, true_and, and_true, gY, hZ, iV, iW, iU, jG, aoE, gV, gU, gX, gT, gM, gI, gN, gK, fZ, fU, if_true, if_false, aoD, aoH, aoF, aoG, aoJ, aoI, aoC, aoB, fM, fK, eZ, fQ, cU, eQ, eE, dJ, bO, fR, eS, aQ, cY, bF, bP, bJ, aI, cP, cB, eP, aF, gR, aK, cJ, aS, bS, fS, cC, cD, aB, gC, fC, aJ, aD, bH, gO, aP, eU, dT, dV, gG, dH, fH, dB, eH, eT, fD, cF, dF, gJ, dQ, cH, bA, bZ, cG, fP, aE, aG, aO, aV, bD, cL, bN, aA, fE, aM, cO, fI, eY, gH, bK, eK, eL, bW, fW, fF, eJ, dD, cR, dG, aW, bB, aH, gA, aL, dC, dW, aX, cI, fJ, dK, gD, fL, fA, fB, dP, aN, bX, dE, fY, fX, fG, dI, aT, dZ, fT, cQ, eX, fN, bY, bL, dU, aZ, dY, dO, cK, eI, eM, aY, dA, bE, dN, dS, dR, bM, cN, cM, dM, bR, cW, cV, fO, bV, eF, eN, gF, dX, eD, dL, cZ, bG, bQ, bT, bU, aR, cX, aU]
   exact ⟨.inr ⟨v, bytes, rfl, hbs, hat, by omega⟩, x1⟩
 .have d1 : decide ((l.length : Int) < 256) = false := decide_eq_false (by omega)
  simp (disch := omega) only [gE, jE, cS, stepR_skip, hO, iA, iO, iM, iJ, iL, jH, iT, gL, iD, iF, iC, iH, hJ, iN, hU, iE, iR, iS, iI, gQ, iQ, iP, iG, kR, kQ, lE, lH, lG, lD, lF, lC, lB, gB, Result.ok.injEq, Next.value.injEq, true_and, and_true, gY, hZ, iV, iW, iU, jG, aoE, gV, gU, gX, gT, gM, gI, gN, gK, fZ, fU, if_true, if_false, aoD, aoH, aoF, aoG, aoJ, aoI, aoC, aoB, fM, fK, eZ, fQ, cU, eQ, eE, dJ, bO, fR, eS, aQ, cY, bF, bP, bJ, aI, cP, cB, eP, aF, gR, aK, cJ, aS, bS, fS, cC, cD, aB, gC, fC, aJ, aD, bH, gO, aP, eU, dT, dV, gG, dH, fH, dB, eH, eT, fD, cF, dF, gJ, dQ, cH, bA, bZ, cG, fP, aE, aG, aO, aV, bD, cL, bN, aA, fE, aM, cO, fI, eY, gH, bK, eK, eL, bW, fW, fF, eJ, dD, cR, dG, aW, bB, aH, gA, aL, dC, dW, aX, cI, fJ, dK, gD, fL, fA, fB, dP, aN, bX, dE, fY, fX, fG, dI, aT, dZ, fT, cQ, eX, fN, bY, bL, dU, aZ, dY, dO, cK, eI, eM, aY, dA, bE, dN, dS, dR, bM, cN, cM, dM, bR, cW, cV, fO, bV, eF, eN, gF, dX, eD, dL, cZ, bG, bQ, bT, bU, aR, cX, aU, d1]
  refine (Xa hw hwl hv hl).mono ?_
  rintro r w1 ⟨ho, x1⟩
  rcases ho with ⟨hb, rfl⟩ | ⟨hd, hall, v, bytes, rfl, hbs, hat, hlen, hback⟩
  .simp (disch := omega) only [gE, jE, cS, stepR_skip, hO, iA, iO, iM, iJ, iL, jH, iT, gL, iD, iF, iC, iH, hJ, iN, hU, iE, iR, iS, iI, gQ, iQ, iP, iG, kR, kQ, lE, lH, lG, lD, lF, lC, lB, gB, Result.ok.injEq, Next.value.injEq, true_and, and_true, gY, hZ, iV, iW, iU, jG, aoE, gV, gU, gX, gT, gM, gI, gN, gK, fZ, fU, if_true, if_false, aoD, aoH, aoF, aoG, aoJ, aoI, aoC, aoB, fM, fK, eZ, fQ, cU, eQ, eE, dJ, bO, fR, eS, aQ, cY, bF, bP, bJ, aI, cP, cB, eP, aF, gR, aK, cJ, aS, bS, fS, cC, cD, aB, gC, fC, aJ, aD, bH, gO, aP, eU, dT, dV, gG, dH, fH, dB, eH, eT, fD, cF, dF, gJ, dQ, cH, bA, bZ, cG, fP, aE, aG, aO, aV, bD, cL, bN, aA, fE, aM, cO, fI, eY, gH, bK, eK, eL, bW, fW, fF, eJ, dD, cR, dG, aW, bB, aH, gA, aL, dC, dW, aX, cI, fJ, dK, gD, fL, fA, fB, dP, aN, bX, dE, fY, fX, fG, dI, aT, dZ, fT, cQ, eX, fN, bY, bL, dU, aZ, dY, dO, cK, eI, eM, aY, dA, bE, dN, dS, dR, bM, cN, cM, dM, bR, cW, cV, fO, bV, eF, eN, gF, dX, eD, dL, cZ, bG, bQ, bT, bU, aR, cX, aU]
   exact ⟨.inl rfl, x1⟩
  .simp (disch := omega) only [gE, jE, cS, stepR_skip, hO, iA, iO, iM, iJ, iL, jH, iT, gL, iD, iF, iC, iH, hJ, iN, hU, iE, iR, iS, iI, gQ, iQ, iP, iG, kR, kQ, lE, lH, lG, lD, lF, lC, lB, gB, Result.ok.injEq, Next.value.injEq, true_and, and_true, gY, hZ, iV, iW, iU, jG, aoE, gV, gU, gX, gT, gM, gI, gN, gK, fZ, fU, if_true, if_false, aoD, aoH, aoF, aoG, aoJ, aoI, aoC, aoB, fM, fK, eZ, fQ, cU, eQ, eE, dJ, bO, fR, eS, aQ, cY, bF, bP, bJ, aI, cP, cB, eP, aF, gR, aK, cJ, aS, bS, fS, cC, cD, aB, gC, fC, aJ, aD, bH, gO, aP, eU, dT, dV, gG, dH, fH, dB, eH, eT, fD, cF, dF, gJ, dQ, cH, bA, bZ, cG, fP, aE, aG, aO, aV, bD, cL, bN, aA, fE, aM, cO, fI, eY, gH, bK, eK, eL, bW, fW, fF, eJ, dD, cR, dG, aW, bB, aH, gA, aL, dC, dW, aX, cI, fJ, dK, gD, fL, fA, fB, dP, aN, bX, dE, fY, fX, fG, dI, aT, dZ, fT, cQ, eX, fN, bY, bL, dU, aZ, dY, dO, cK, eI, eM, aY, dA, bE, dN, dS, dR, bM, cN, cM, dM, bR, cW, cV, fO, bV, eF, eN, gF, dX, eD, dL, cZ, bG, bQ, bT, bU, aR, cX, aU]
   exact ⟨.inr ⟨v, bytes, rfl, hbs, hat, hlen⟩, x1⟩
theorem abP {sv lv : atP} {l wl : List UInt8} {w : atO} (h : Bs w sv l) (hl : l.length <= 131072) (hw : Bs w lv wl) (hwl : wl.length <= 100000) :
 jD pg zS #[sv, lv, .bool true] w (fun r w' => ajA w' w.heap.size l.length r /\ jM w w' mN) := by
 refine NS ?_
 obtain ⟨RR, hRR⟩ : ∃ RR : atP -> atO -> Prop, RR = fun r w' => ajA w' w.heap.size l.length r /\ jM w w' mN := ⟨_, rfl⟩
 rw [<- hRR]
 unfold Ms Cy CZ
 have hv := h
 obtain ⟨a, c, rfl, hc⟩ := h.len
 rw [aoK] at hv ⊢
 by_cases h0 : l.length = 0
 .have n0 : ((l.length : Int) == 0) = true := by rw [h0] <;> rfl
  simp (disch := omega) only [gE, jE, cS, stepR_skip, hO, iA, iO, iM, iJ, iL, jH, iT, gL, iD, iF, iC, iH, hJ, iN, hU, iE, iR, iS, iI, gQ, iQ, iP, iG, kR, kQ, lE, lH, lG, lD, lF, lC, lB, gB, Result.ok.injEq, Next.value.injEq, true_and, and_true, gY, hZ, iV, iW, iU, jG, aoE, gV, gU, gX, gT, gM, gI, gN, gK, fZ, fU, if_true, if_false, aoD, aoH, aoF, aoG, aoJ, aoI, aoC, aoB, fM, fK, eZ, fQ, cU, eQ, eE, dJ, bO, fR, eS, aQ, cY, bF, bP, bJ, aI, cP, cB, eP, aF, gR, aK, cJ, aS, bS, fS, cC, cD, aB, gC, fC, aJ, aD, bH, gO, aP, eU, dT, dV, gG, dH, fH, dB, eH, eT, fD, cF, dF, gJ, dQ, cH, bA, bZ, cG, fP, aE, aG, aO, aV, bD, cL, bN, aA, fE, aM, cO, fI, eY, gH, bK, eK, eL, bW, fW, fF, eJ, dD, cR, dG, aW, bB, aH, gA, aL, dC, dW, aX, cI, fJ, dK, gD, fL, fA, fB, dP, aN, bX, dE, fY, fX, fG, dI, aT, dZ, fT, cQ, eX, fN, bY, bL, dU, aZ, dY, dO, cK, eI, eM, aY, dA, bE, dN, dS, dR, bM, cN, cM, dM, bR, cW, cV, fO, bV, eF, eN, gF, dX, eD, dL, cZ, bG, bQ, bT, bU, aR, cX, aU, n0]
  rw [hRR]
  exact ⟨.inl ⟨1, by decide, rfl⟩, jM.refl _ _⟩
 have hne : l ≠ [] := fun e => h0 (by rw [e] <;> rfl)
 have n0 : ((l.length : Int) == 0) = false := beq_eq_false_iff_ne.2 (by omega)
 have d1 : decide ((l.length : Int) > 131072) = false := decide_eq_false (by omega)
 have d2 : decide ((131072 : Int) < (l.length : Int)) = false := decide_eq_false (by omega)
 have tail : ∀ (kind : Nat) (d : List UInt8) (dv : atP) (w1 : atO), kind < 4 -> jM w w1 mN -> yB w1 w.heap.size 1 dv d.length (d.map oZ) -> d.length <= 66 →
     xM RR (.slice a l.length c) lv (.int .i64 (kind : Nat)) dv w1 := by
  intro kind d dv w1 hk4 x1 od hdl
  have z1 := x1.size
  unfold xM CR
  have hv1 := hv.ext x1 (kJ _)
  have hw1 := hw.ext x1 (kJ _)
  refine (Yb hw1 hwl hv1 hl).mono ?_
  rintro r w2 ⟨ho, x2⟩
  have z2 := x2.size
  rcases ho with rfl | ⟨v, bytes, rfl, hbs, hat, hlen⟩
  .have n1 : ((1 : Int) != 0) = true := rfl
   simp (disch := omega) only [gE, jE, cS, stepR_skip, hO, iA, iO, iM, iJ, iL, jH, iT, gL, iD, iF, iC, iH, hJ, iN, hU, iE, iR, iS, iI, gQ, iQ, iP, iG, kR, kQ, lE, lH, lG, lD, lF, lC, lB, gB, Result.ok.injEq, Next.value.injEq, true_and, and_true, gY, hZ, iV, iW, iU, jG, aoE, gV, gU, gX, gT, gM, gI, gN, gK, fZ, fU, if_true, if_false, aoD, aoH, aoF, aoG, aoJ, aoI, aoC, aoB, fM, fK, eZ, fQ, cU, eQ, eE, dJ, bO, fR, eS, aQ, cY, bF, bP, bJ, aI, cP, cB, eP, aF, gR, aK, cJ, aS, bS, fS, cC, cD, aB, gC, fC, aJ, aD, bH, gO, aP, eU, dT, dV, gG, dH, fH, dB, eH, eT, fD, cF, dF, gJ, dQ, cH, bA, bZ, cG, fP, aE, aG, aO, aV, bD, cL, bN, aA, fE, aM, cO, fI, eY, gH, bK, eK, eL, bW, fW, fF, eJ, dD, cR, dG, aW, bB, aH, gA, aL, dC, dW, aX, cI, fJ, dK, gD, fL, fA, fB, dP, aN, bX, dE, fY, fX, fG, dI, aT, dZ, fT, cQ, eX, fN, bY, bL, dU, aZ, dY, dO, cK, eI, eM, aY, dA, bE, dN, dS, dR, bM, cN, cM, dM, bR, cW, cV, fO, bV, eF, eN, gF, dX, eD, dL, cZ, bG, bQ, bT, bU, aR, cX, aU, n1]
   rw [hRR]
   exact ⟨.inl ⟨1, by decide, rfl⟩, x1.seq x2⟩
  .have n1 : ((0 : Int) != 0) = false := rfl
   have od2 := od.ext x2 (fun _ _ h => h)
   have hbv := hbs
   obtain ⟨a2, c2, rfl, hc2⟩ := hbs.len
   rw [aoK] at hbv
   have hcl := hbv.cl
   rw [aoK] at hcl
   simp (disch := omega) only [gE, jE, cS, stepR_skip, hO, iA, iO, iM, iJ, iL, jH, iT, gL, iD, iF, iC, iH, hJ, iN, hU, iE, iR, iS, iI, gQ, iQ, iP, iG, kR, kQ, lE, lH, lG, lD, lF, lC, lB, gB, Result.ok.injEq, Next.value.injEq, true_and, and_true, gY, hZ, iV, iW, iU, jG, aoE, gV, gU, gX, gT, gM, gI, gN, gK, fZ, fU, if_true, if_false, aoD, aoH, aoF, aoG, aoJ, aoI, aoC, aoB, fM, fK, eZ, fQ, cU, eQ, eE, dJ, bO, fR, eS, aQ, cY, bF, bP, bJ, aI, cP, cB, eP, aF, gR, aK, cJ, aS, bS, fS, cC, cD, aB, gC, fC, aJ, aD, bH, gO, aP, eU, dT, dV, gG, dH, fH, dB, eH, eT, fD, cF, dF, gJ, dQ, cH, bA, bZ, cG, fP, aE, aG, aO, aV, bD, cL, bN, aA, fE, aM, cO, fI, eY, gH, bK, eK, eL, bW, fW, fF, eJ, dD, cR, dG, aW, bB, aH, gA, aL, dC, dW, aX, cI, fJ, dK, gD, fL, fA, fB, dP, aN, bX, dE, fY, fX, fG, dI, aT, dZ, fT, cQ, eX, fN, bY, bL, dU, aZ, dY, dO, cK, eI, eM, aY, dA, bE, dN, dS, dR, bM, cN, cM, dM, bR, cW, cV, fO, bV, eF, eN, gF, dX, eD, dL, cZ, bG, bQ, bT, bU, aR, cX, aU, n1, aoK]
   refine lZ od2 hcl (DA _) (by omega) (by omega) fun v3 w3 o3 x3 => ?_
   have z3 := x3.size
   have hs3 : Bs w3 v3 (d ++ bytes) := by
    have := o3.sl
    rw [<- apN] at this
    exact this
   obtain ⟨a3, c3, rfl⟩ := o3.len
   have hml : (d ++ bytes).length = d.length + bytes.length := aoL
   rw [<- hml]
   have x03 : jM w w3 mN := (x1.seq x2).trans x3 fun y hy h => by omega
   have hv3 := hv.ext x03 (kJ _)
   have d3 : decide ((262144 : Int) <= ((d ++ bytes).length : Int)) = false := decide_eq_false (by omega)
   have d4 : decide (((d ++ bytes).length : Int) ≥ 262144) = false := decide_eq_false (by omega)
   have fin : ∀ (form bits size : Nat), form < 4 -> bits <= 18 -> 1 <= size /\ size <= 8 -> l.length < 2 ^ bits →
       qQ RR (.slice a l.length c) (.int .i64 (kind : Nat)) (.slice a3 (d ++ bytes).length c3) (.int .i64 (form : Nat)) (.int .i64 (bits : Nat)) (.int .i64 (size : Nat)) w3 := by
    intro form bits size hf hb hsz hn
    have hs3' := hs3
    rw [<- hml] at hs3'
    refine Yk (l := l) (B := d ++ bytes) hv3 hs3' hl hk4 hf hb hsz (by omega) hn fun r w4 o4 x4 => ?_
    rw [hRR]
    have hpl : (pB (LD kind form l.length (d ++ bytes).length bits) size ++ (d ++ bytes)).length = size + (d ++ bytes).length := by rw [aoL, mC]
    exact ⟨.inr ⟨r, _, rfl, Kk o4 (by omega), by rw [hpl]; omega, by rw [hpl]; omega⟩, x03.seq x4⟩
   have hmx : (if (((d ++ bytes).length : Nat) : Int) > ((l.length : Nat) : Int) then (((d ++ bytes).length : Nat) : Int) else ((l.length : Nat) : Int)) = ((max l.length (d ++ bytes).length : Nat) : Int) := by split <;> omega
   obtain ⟨M, hM⟩ : ∃ M, M = max l.length (d ++ bytes).length := ⟨_, rfl⟩
   rw [<- hM] at hmx
   by_cases hlt : l.length < 256
   .have d5 : decide ((l.length : Int) < 256) = true := decide_eq_true (by omega)
    have d6 : decide ((M : Int) < 1024) = true := decide_eq_true (by omega)
    simp (disch := omega) only [gE, jE, cS, stepR_skip, hO, iA, iO, iM, iJ, iL, jH, iT, gL, iD, iF, iC, iH, hJ, iN, hU, iE, iR, iS, iI, gQ, iQ, iP, iG, kR, kQ, lE, lH, lG, lD, lF, lC, lB, gB, Result.ok.injEq, Next.value.injEq, true_and, and_true, gY, hZ, iV, iW, iU, jG, aoE, gV, gU, gX, gT, gM, gI, gN, gK, fZ, fU, if_true, if_false, aoD, aoH, aoF, aoG, aoJ, aoI, aoC, aoB, fM, fK, eZ, fQ, cU, eQ, eE, dJ, bO, fR, eS, aQ, cY, bF, bP, bJ, aI, cP, cB, eP, aF, gR, aK, cJ, aS, bS, fS, cC, cD, aB, gC, fC, aJ, aD, bH, gO, aP, eU, dT, dV, gG, dH, fH, dB, eH, eT, fD, cF, dF, gJ, dQ, cH, bA, bZ, cG, fP, aE, aG, aO, aV, bD, cL, bN, aA, fE, aM, cO, fI, eY, gH, bK, eK, eL, bW, fW, fF, eJ, dD, cR, dG, aW, bB, aH, gA, aL, dC, dW, aX, cI, fJ, dK, gD, fL, fA, fB, dP, aN, bX, dE, fY, fX, fG, dI, aT, dZ, fT, cQ, eX, fN, bY, bL, dU, aZ, dY, dO, cK, eI, eM, aY, dA, bE, dN, dS, dR, bM, cN, cM, dM, bR, cW, cV, fO, bV, eF, eN, gF, dX, eD, dL, cZ, bG, bQ, bT, bU, aR, cX, aU, d3, d4, d5, hmx, d6]
    exact fin 0 10 3 (by omega) (by omega) (by omega) (by omega)
   have d5 : decide ((l.length : Int) < 256) = false := decide_eq_false (by omega)
   by_cases h1 : M < 1024
   .have d6 : decide ((M : Int) < 1024) = true := decide_eq_true (by omega)
    simp (disch := omega) only [gE, jE, cS, stepR_skip, hO, iA, iO, iM, iJ, iL, jH, iT, gL, iD, iF, iC, iH, hJ, iN, hU, iE, iR, iS, iI, gQ, iQ, iP, iG, kR, kQ, lE, lH, lG, lD, lF, lC, lB, gB, Result.ok.injEq, Next.value.injEq, true_and, and_true, gY, hZ, iV, iW, iU, jG, aoE, gV, gU, gX, gT, gM, gI, gN, gK, fZ, fU, if_true, if_false, aoD, aoH, aoF, aoG, aoJ, aoI, aoC, aoB, fM, fK, eZ, fQ, cU, eQ, eE, dJ, bO, fR, eS, aQ, cY, bF, bP, bJ, aI, cP, cB, eP, aF, gR, aK, cJ, aS, bS, fS, cC, cD, aB, gC, fC, aJ, aD, bH, gO, aP, eU, dT, dV, gG, dH, fH, dB, eH, eT, fD, cF, dF, gJ, dQ, cH, bA, bZ, cG, fP, aE, aG, aO, aV, bD, cL, bN, aA, fE, aM, cO, fI, eY, gH, bK, eK, eL, bW, fW, fF, eJ, dD, cR, dG, aW, bB, aH, gA, aL, dC, dW, aX, cI, fJ, dK, gD, fL, fA, fB, dP, aN, bX, dE, fY, fX, fG, dI, aT, dZ, fT, cQ, eX, fN, bY, bL, dU, aZ, dY, dO, cK, eI, eM, aY, dA, bE, dN, dS, dR, bM, cN, cM, dM, bR, cW, cV, fO, bV, eF, eN, gF, dX, eD, dL, cZ, bG, bQ, bT, bU, aR, cX, aU, d3, d4, d5, hmx, d6]
    exact fin 1 10 3 (by omega) (by omega) (by omega) (by omega)
   have d6 : decide ((M : Int) < 1024) = false := decide_eq_false (by omega)
   by_cases h2 : M < 16384
   .have d7 : decide ((M : Int) < 16384) = true := decide_eq_true (by omega)
    simp (disch := omega) only [gE, jE, cS, stepR_skip, hO, iA, iO, iM, iJ, iL, jH, iT, gL, iD, iF, iC, iH, hJ, iN, hU, iE, iR, iS, iI, gQ, iQ, iP, iG, kR, kQ, lE, lH, lG, lD, lF, lC, lB, gB, Result.ok.injEq, Next.value.injEq, true_and, and_true, gY, hZ, iV, iW, iU, jG, aoE, gV, gU, gX, gT, gM, gI, gN, gK, fZ, fU, if_true, if_false, aoD, aoH, aoF, aoG, aoJ, aoI, aoC, aoB, fM, fK, eZ, fQ, cU, eQ, eE, dJ, bO, fR, eS, aQ, cY, bF, bP, bJ, aI, cP, cB, eP, aF, gR, aK, cJ, aS, bS, fS, cC, cD, aB, gC, fC, aJ, aD, bH, gO, aP, eU, dT, dV, gG, dH, fH, dB, eH, eT, fD, cF, dF, gJ, dQ, cH, bA, bZ, cG, fP, aE, aG, aO, aV, bD, cL, bN, aA, fE, aM, cO, fI, eY, gH, bK, eK, eL, bW, fW, fF, eJ, dD, cR, dG, aW, bB, aH, gA, aL, dC, dW, aX, cI, fJ, dK, gD, fL, fA, fB, dP, aN, bX, dE, fY, fX, fG, dI, aT, dZ, fT, cQ, eX, fN, bY, bL, dU, aZ, dY, dO, cK, eI, eM, aY, dA, bE, dN, dS, dR, bM, cN, cM, dM, bR, cW, cV, fO, bV, eF, eN, gF, dX, eD, dL, cZ, bG, bQ, bT, bU, aR, cX, aU, d3, d4, d5, hmx, d6, d7]
    exact fin 2 14 4 (by omega) (by omega) (by omega) (by omega)
   .have d7 : decide ((M : Int) < 16384) = false := decide_eq_false (by omega)
    simp (disch := omega) only [gE, jE, cS, stepR_skip, hO, iA, iO, iM, iJ, iL, jH, iT, gL, iD, iF, iC, iH, hJ, iN, hU, iE, iR, iS, iI, gQ, iQ, iP, iG, kR, kQ, lE, lH, lG, lD, lF, lC, lB, gB, Result.ok.injEq, Next.value.injEq, true_and, and_true, gY, hZ, iV, iW, iU, jG, aoE, gV, gU, gX, gT, gM, gI, gN, gK, fZ, fU, if_true, if_false, aoD, aoH, aoF, aoG, aoJ, aoI, aoC, aoB, fM, fK, eZ, fQ, cU, eQ, eE, dJ, bO, fR, eS, aQ, cY, bF, bP, bJ, aI, cP, cB, eP, aF, gR, aK, cJ, aS, bS, fS, cC, cD, aB, gC, fC, aJ, aD, bH, gO, aP, eU, dT, dV, gG, dH, fH, dB, eH, eT, fD, cF, dF, gJ, dQ, cH, bA, bZ, cG, fP, aE, aG, aO, aV, bD, cL, bN, aA, fE, aM, cO, fI, eY, gH, bK, eK, eL, bW, fW, fF, eJ, dD, cR, dG, aW, bB, aH, gA, aL, dC, dW, aX, cI, fJ, dK, gD, fL, fA, fB, dP, aN, bX, dE, fY, fX, fG, dI, aT, dZ, fT, cQ, eX, fN, bY, bL, dU, aZ, dY, dO, cK, eI, eM, aY, dA, bE, dN, dS, dR, bM, cN, cM, dM, bR, cW, cV, fO, bV, eF, eN, gF, dX, eD, dL, cZ, bG, bQ, bT, bU, aR, cX, aU, d3, d4, d5, hmx, d6, d7]
    exact fin 3 18 5 (by omega) (by omega) (by omega) (by omega)
 simp (disch := omega) only [gE, jE, cS, stepR_skip, hO, iA, iO, iM, iJ, iL, jH, iT, gL, iD, iF, iC, iH, hJ, iN, hU, iE, iR, iS, iI, gQ, iQ, iP, iG, kR, kQ, lE, lH, lG, lD, lF, lC, lB, gB, Result.ok.injEq, Next.value.injEq, true_and, and_true, gY, hZ, iV, iW, iU, jG, aoE, gV, gU, gX, gT, gM, gI, gN, gK, fZ, fU, if_true, if_false, aoD, aoH, aoF, aoG, aoJ, aoI, aoC, aoB, fM, fK, eZ, fQ, cU, eQ, eE, dJ, bO, fR, eS, aQ, cY, bF, bP, bJ, aI, cP, cB, eP, aF, gR, aK, cJ, aS, bS, fS, cC, cD, aB, gC, fC, aJ, aD, bH, gO, aP, eU, dT, dV, gG, dH, fH, dB, eH, eT, fD, cF, dF, gJ, dQ, cH, bA, bZ, cG, fP, aE, aG, aO, aV, bD, cL, bN, aA, fE, aM, cO, fI, eY, gH, bK, eK, eL, bW, fW, fF, eJ, dD, cR, dG, aW, bB, aH, gA, aL, dC, dW, aX, cI, fJ, dK, gD, fL, fA, fB, dP, aN, bX, dE, fY, fX, fG, dI, aT, dZ, fT, cQ, eX, fN, bY, bL, dU, aZ, dY, dO, cK, eI, eM, aY, dA, bE, dN, dS, dR, bM, cN, cM, dM, bR, cW, cV, fO, bV, eF, eN, gF, dX, eD, dL, cZ, bG, bQ, bT, bU, aR, cX, aU, n0, d1, d2]
 by_cases hbad : oC (jZ wl) = 0 ∨ 129 < wl.length
 .refine (Y0 hw hwl hbad).mono ?_
  rintro r w1 ⟨rfl, rfl⟩
  by_cases hd : oC (jZ wl) = 0
  .rw [if_pos hd]
   have n1 : ((1 : Int) != 0) = true := rfl
   simp (disch := omega) only [gE, jE, cS, stepR_skip, hO, iA, iO, iM, iJ, iL, jH, iT, gL, iD, iF, iC, iH, hJ, iN, hU, iE, iR, iS, iI, gQ, iQ, iP, iG, kR, kQ, lE, lH, lG, lD, lF, lC, lB, gB, Result.ok.injEq, Next.value.injEq, true_and, and_true, gY, hZ, iV, iW, iU, jG, aoE, gV, gU, gX, gT, gM, gI, gN, gK, fZ, fU, if_true, if_false, aoD, aoH, aoF, aoG, aoJ, aoI, aoC, aoB, fM, fK, eZ, fQ, cU, eQ, eE, dJ, bO, fR, eS, aQ, cY, bF, bP, bJ, aI, cP, cB, eP, aF, gR, aK, cJ, aS, bS, fS, cC, cD, aB, gC, fC, aJ, aD, bH, gO, aP, eU, dT, dV, gG, dH, fH, dB, eH, eT, fD, cF, dF, gJ, dQ, cH, bA, bZ, cG, fP, aE, aG, aO, aV, bD, cL, bN, aA, fE, aM, cO, fI, eY, gH, bK, eK, eL, bW, fW, fF, eJ, dD, cR, dG, aW, bB, aH, gA, aL, dC, dW, aX, cI, fJ, dK, gD, fL, fA, fB, dP, aN, bX, dE, fY, fX, fG, dI, aT, dZ, fT, cQ, eX, fN, bY, bL, dU, aZ, dY, dO, cK, eI, eM, aY, dA, bE, dN, dS, dR, bM, cN, cM, dM, bR, cW, cV, fO, bV, eF, eN, gF, dX, eD, dL, cZ, bG, bQ, bT, bU, aR, cX, aU, n1]
   rw [hRR]
   exact ⟨.inl ⟨1, by decide, rfl⟩, jM.refl _ _⟩
  .rw [if_neg hd]
   have n1 : ((12 : Int) != 0) = true := rfl
   simp (disch := omega) only [gE, jE, cS, stepR_skip, hO, iA, iO, iM, iJ, iL, jH, iT, gL, iD, iF, iC, iH, hJ, iN, hU, iE, iR, iS, iI, gQ, iQ, iP, iG, kR, kQ, lE, lH, lG, lD, lF, lC, lB, gB, Result.ok.injEq, Next.value.injEq, true_and, and_true, gY, hZ, iV, iW, iU, jG, aoE, gV, gU, gX, gT, gM, gI, gN, gK, fZ, fU, if_true, if_false, aoD, aoH, aoF, aoG, aoJ, aoI, aoC, aoB, fM, fK, eZ, fQ, cU, eQ, eE, dJ, bO, fR, eS, aQ, cY, bF, bP, bJ, aI, cP, cB, eP, aF, gR, aK, cJ, aS, bS, fS, cC, cD, aB, gC, fC, aJ, aD, bH, gO, aP, eU, dT, dV, gG, dH, fH, dB, eH, eT, fD, cF, dF, gJ, dQ, cH, bA, bZ, cG, fP, aE, aG, aO, aV, bD, cL, bN, aA, fE, aM, cO, fI, eY, gH, bK, eK, eL, bW, fW, fF, eJ, dD, cR, dG, aW, bB, aH, gA, aL, dC, dW, aX, cI, fJ, dK, gD, fL, fA, fB, dP, aN, bX, dE, fY, fX, fG, dI, aT, dZ, fT, cQ, eX, fN, bY, bL, dU, aZ, dY, dO, cK, eI, eM, aY, dA, bE, dN, dS, dR, bM, cN, cM, dM, bR, cW, cV, fO, bV, eF, eN, gF, dX, eD, dL, cZ, bG, bQ, bT, bU, aR, cX, aU, n1]
   rw [hRR]
   exact ⟨.inl ⟨12, by decide, rfl⟩, jM.refl _ _⟩
 .have hd : oC (jZ wl) ≠ 0 := fun h => hbad (.inl h)
  refine (aeW hw rfl hd (by omega)).mono ?_
  rintro r w1 ⟨v', rfl, o1, x1⟩
  have n1 : ((0 : Int) != 0) = false := rfl
  have hbl : (On (wrB (jZ wl))).length = (wrB (jZ wl)).length := by simp [On]
  have hwl2 := ZA (jZ wl)
  rw [mY] at hwl2
  obtain ⟨a1, c1, rfl⟩ := o1.len
  simp (disch := omega) only [gE, jE, cS, stepR_skip, hO, iA, iO, iM, iJ, iL, jH, iT, gL, iD, iF, iC, iH, hJ, iN, hU, iE, iR, iS, iI, gQ, iQ, iP, iG, kR, kQ, lE, lH, lG, lD, lF, lC, lB, gB, Result.ok.injEq, Next.value.injEq, true_and, and_true, gY, hZ, iV, iW, iU, jG, aoE, gV, gU, gX, gT, gM, gI, gN, gK, fZ, fU, if_true, if_false, aoD, aoH, aoF, aoG, aoJ, aoI, aoC, aoB, fM, fK, eZ, fQ, cU, eQ, eE, dJ, bO, fR, eS, aQ, cY, bF, bP, bJ, aI, cP, cB, eP, aF, gR, aK, cJ, aS, bS, fS, cC, cD, aB, gC, fC, aJ, aD, bH, gO, aP, eU, dT, dV, gG, dH, fH, dB, eH, eT, fD, cF, dF, gJ, dQ, cH, bA, bZ, cG, fP, aE, aG, aO, aV, bD, cL, bN, aA, fE, aM, cO, fI, eY, gH, bK, eK, eL, bW, fW, fF, eJ, dD, cR, dG, aW, bB, aH, gA, aL, dC, dW, aX, cI, fJ, dK, gD, fL, fA, fB, dP, aN, bX, dE, fY, fX, fG, dI, aT, dZ, fT, cQ, eX, fN, bY, bL, dU, aZ, dY, dO, cK, eI, eM, aY, dA, bE, dN, dS, dR, bM, cN, cM, dM, bR, cW, cV, fO, bV, eF, eN, gF, dX, eD, dL, cZ, bG, bQ, bT, bU, aR, cX, aU, n1]
  exact tail 2 (On (wrB (jZ wl))) _ w1 (by omega) x1 (by rw [hbl]; exact o1) (by omega)
def shV (a : Option Addr) (n c : Nat) (a' : Option Addr) (n' c' : Nat) : atP := if n' < n then .slice a' n' c' else .slice a n c
theorem alT {a a' : Option Addr} {n c n' c' : Nat} {w : atO} {K : atP -> atO -> Prop} (hn : n <= 1000000000) (hn' : n' <= 1000000000) (hK : K (.int .i64 ((n : Int) - (n' : Int))) w) :
 jD pg uP #[.slice a n c, .slice a' n' c'] w K := by
 refine L2 ?_
 unfold Jn Av
 simp (disch := omega) only [gE, jE, cS, stepR_skip, hO, iA, iO, iM, iJ, iL, jH, iT, gL, iD, iF, iC, iH, hJ, iN, hU, iE, iR, iS, iI, gQ, iQ, iP, iG, kR, kQ, lE, lH, lG, lD, lF, lC, lB, gB, Result.ok.injEq, Next.value.injEq, true_and, and_true, gY, hZ, iV, iW, iU, jG, aoE, gV, gU, gX, gT, gM, gI, gN, gK, fZ, fU, if_true, if_false, aoD, aoH, aoF, aoG, aoJ, aoI, aoC, aoB, fM, fK, eZ, fQ, cU, eQ, eE, dJ, bO, fR, eS, aQ, cY, bF, bP, bJ, aI, cP, cB, eP, aF, gR, aK, cJ, aS, bS, fS, cC, cD, aB, gC, fC, aJ, aD, bH, gO, aP, eU, dT, dV, gG, dH, fH, dB, eH, eT, fD, cF, dF, gJ, dQ, cH, bA, bZ, cG, fP, aE, aG, aO, aV, bD, cL, bN, aA, fE, aM, cO, fI, eY, gH, bK, eK, eL, bW, fW, fF, eJ, dD, cR, dG, aW, bB, aH, gA, aL, dC, dW, aX, cI, fJ, dK, gD, fL, fA, fB, dP, aN, bX, dE, fY, fX, fG, dI, aT, dZ, fT, cQ, eX, fN, bY, bL, dU, aZ, dY, dO, cK, eI, eM, aY, dA, bE, dN, dS, dR, bM, cN, cM, dM, bR, cW, cV, fO, bV, eF, eN, gF, dX, eD, dL, cZ, bG, bQ, bT, bU, aR, cX, aU]
 exact hK
theorem Y4 {a a' : Option Addr} {n c n' c' b : Nat} {w : atO} (ho : mQ w b [.slice a n c, .slice a' n' c']) (hn : n <= 1000000000) (hn' : n' <= 1000000000) :
 jD pg zR #[.slice (some ⟨b, 0, none⟩) 2 2] w (fun r w' => r = shV a n c a' n' c' /\ w' = w) := by
 refine OD ?_
 unfold Mv C0
 refine JG ?_
 obtain ⟨RR, hRR⟩ : ∃ RR : atP -> atO -> Prop, RR = fun r w' => r = shV a n c a' n' c' /\ w' = w := ⟨_, rfl⟩
 unfold GQ vV vX
 have d1 : decide ((2 : Int) < 1) = false := rfl
 have c0 : w.cell? ⟨b, 0, none⟩ = some (.slice a n c) := ho.cell (off := 0)
 have c1 : w.cell? ⟨b, 1, none⟩ = some (.slice a' n' c') := ho.cell (off := 1)
 have z0 : (0 : Int).toNat = 0 := rfl
 have z1 : (1 : Int).toNat = 1 := rfl
 have n2 : ((2 : Nat) : Int) = 2 := rfl
 unfold wD vZ
 simp (disch := omega) only [gE, jE, cS, stepR_skip, hO, iA, iO, iM, iJ, iL, jH, iT, gL, iD, iF, iC, iH, hJ, iN, hU, iE, iR, iS, iI, gQ, iQ, iP, iG, kR, kQ, lE, lH, lG, lD, lF, lC, lB, gB, Result.ok.injEq, Next.value.injEq, true_and, and_true, gY, hZ, iV, iW, iU, jG, aoE, gV, gU, gX, gT, gM, gI, gN, gK, fZ, fU, if_true, if_false, aoD, aoH, aoF, aoG, aoJ, aoI, aoC, aoB, fM, fK, eZ, fQ, cU, eQ, eE, dJ, bO, fR, eS, aQ, cY, bF, bP, bJ, aI, cP, cB, eP, aF, gR, aK, cJ, aS, bS, fS, cC, cD, aB, gC, fC, aJ, aD, bH, gO, aP, eU, dT, dV, gG, dH, fH, dB, eH, eT, fD, cF, dF, gJ, dQ, cH, bA, bZ, cG, fP, aE, aG, aO, aV, bD, cL, bN, aA, fE, aM, cO, fI, eY, gH, bK, eK, eL, bW, fW, fF, eJ, dD, cR, dG, aW, bB, aH, gA, aL, dC, dW, aX, cI, fJ, dK, gD, fL, fA, fB, dP, aN, bX, dE, fY, fX, fG, dI, aT, dZ, fT, cQ, eX, fN, bY, bL, dU, aZ, dY, dO, cK, eI, eM, aY, dA, bE, dN, dS, dR, bM, cN, cM, dM, bR, cW, cV, fO, bV, eF, eN, gF, dX, eD, dL, cZ, bG, bQ, bT, bU, aR, cX, aU, d1, z0, z1, n2, c0, asF, apY]
 unfold xU wR xA wY wL
 refine kE.rule (fun m (t : atP × atP) w' => (m = 1 /\ t = (.slice a n c, .int .i64 1) /\ w' = w) ∨ (m = 0 /\ t = (shV a n c a' n' c', .int .i64 2) /\ w' = w)) 1 (.inl ⟨rfl, rfl, rfl⟩) ?_
 rintro m t w' (⟨rfl, rfl, rfl⟩ | ⟨rfl, rfl, rfl⟩)
 .unfold qA sC rX
  have d2 : decide ((1 : Int) < 2) = true := rfl
  have q2 := UZ (P := pg) (f := uP) Tryz.func83 (by kernel_rfl) (by kernel_rfl) #[] [.slice a' n' c', .slice a n c] w'
  have q3 : (List.toArray [Value.slice a' n' c', .slice a n c] ++ #[]) = #[.slice a' n' c', .slice a n c] := rfl
  rw [q3] at q2
  have e1 : (1 : Int) + 1 = 2 := rfl
  simp (disch := omega) only [gE, jE, cS, stepR_skip, hO, iA, iO, iM, iJ, iL, jH, iT, gL, iD, iF, iC, iH, hJ, iN, hU, iE, iR, iS, iI, gQ, iQ, iP, iG, kR, kQ, lE, lH, lG, lD, lF, lC, lB, gB, Result.ok.injEq, Next.value.injEq, true_and, and_true, gY, hZ, iV, iW, iU, jG, aoE, gV, gU, gX, gT, gM, gI, gN, gK, fZ, fU, if_true, if_false, aoD, aoH, aoF, aoG, aoJ, aoI, aoC, aoB, fM, fK, eZ, fQ, cU, eQ, eE, dJ, bO, fR, eS, aQ, cY, bF, bP, bJ, aI, cP, cB, eP, aF, gR, aK, cJ, aS, bS, fS, cC, cD, aB, gC, fC, aJ, aD, bH, gO, aP, eU, dT, dV, gG, dH, fH, dB, eH, eT, fD, cF, dF, gJ, dQ, cH, bA, bZ, cG, fP, aE, aG, aO, aV, bD, cL, bN, aA, fE, aM, cO, fI, eY, gH, bK, eK, eL, bW, fW, fF, eJ, dD, cR, dG, aW, bB, aH, gA, aL, dC, dW, aX, cI, fJ, dK, gD, fL, fA, fB, dP, aN, bX, dE, fY, fX, fG, dI, aT, dZ, fT, cQ, eX, fN, bY, bL, dU, aZ, dY, dO, cK, eI, eM, aY, dA, bE, dN, dS, dR, bM, cN, cM, dM, bR, cW, cV, fO, bV, eF, eN, gF, dX, eD, dL, cZ, bG, bQ, bT, bU, aR, cX, aU, d2, z1, n2, c1, q2, F6, Nat.one_mul, aqK, aoH]
  refine alT hn' hn ?_
  by_cases h : n' < n
  .have d3 : decide ((n' : Int) - (n : Int) < 0) = true := decide_eq_true (by omega)
   have : shV a n c a' n' c' = .slice a' n' c' := by unfold shV; rw [if_pos h]
   rw [this]
   simp (disch := omega) only [gE, jE, cS, stepR_skip, hO, iA, iO, iM, iJ, iL, jH, iT, gL, iD, iF, iC, iH, hJ, iN, hU, iE, iR, iS, iI, gQ, iQ, iP, iG, kR, kQ, lE, lH, lG, lD, lF, lC, lB, gB, Result.ok.injEq, Next.value.injEq, true_and, and_true, gY, hZ, iV, iW, iU, jG, aoE, gV, gU, gX, gT, gM, gI, gN, gK, fZ, fU, if_true, if_false, aoD, aoH, aoF, aoG, aoJ, aoI, aoC, aoB, fM, fK, eZ, fQ, cU, eQ, eE, dJ, bO, fR, eS, aQ, cY, bF, bP, bJ, aI, cP, cB, eP, aF, gR, aK, cJ, aS, bS, fS, cC, cD, aB, gC, fC, aJ, aD, bH, gO, aP, eU, dT, dV, gG, dH, fH, dB, eH, eT, fD, cF, dF, gJ, dQ, cH, bA, bZ, cG, fP, aE, aG, aO, aV, bD, cL, bN, aA, fE, aM, cO, fI, eY, gH, bK, eK, eL, bW, fW, fF, eJ, dD, cR, dG, aW, bB, aH, gA, aL, dC, dW, aX, cI, fJ, dK, gD, fL, fA, fB, dP, aN, bX, dE, fY, fX, fG, dI, aT, dZ, fT, cQ, eX, fN, bY, bL, dU, aZ, dY, dO, cK, eI, eM, aY, dA, bE, dN, dS, dR, bM, cN, cM, dM, bR, cW, cV, fO, bV, eF, eN, gF, dX, eD, dL, cZ, bG, bQ, bT, bU, aR, cX, aU, d3, z1, n2, c1, e1, Nat.one_mul, aqK, aoH]
   first
    | exact ⟨0, by omega, .inr ⟨rfl, rfl, rfl⟩⟩
    | exact ⟨0, by omega, .inr ⟨rfl, rfl⟩⟩
    | exact ⟨0, by omega, .inr rfl⟩
  .have d3 : decide ((n' : Int) - (n : Int) < 0) = false := decide_eq_false (by omega)
   have : shV a n c a' n' c' = .slice a n c := by unfold shV; rw [if_neg h]
   rw [this]
   simp (disch := omega) only [gE, jE, cS, stepR_skip, hO, iA, iO, iM, iJ, iL, jH, iT, gL, iD, iF, iC, iH, hJ, iN, hU, iE, iR, iS, iI, gQ, iQ, iP, iG, kR, kQ, lE, lH, lG, lD, lF, lC, lB, gB, Result.ok.injEq, Next.value.injEq, true_and, and_true, gY, hZ, iV, iW, iU, jG, aoE, gV, gU, gX, gT, gM, gI, gN, gK, fZ, fU, if_true, if_false, aoD, aoH, aoF, aoG, aoJ, aoI, aoC, aoB, fM, fK, eZ, fQ, cU, eQ, eE, dJ, bO, fR, eS, aQ, cY, bF, bP, bJ, aI, cP, cB, eP, aF, gR, aK, cJ, aS, bS, fS, cC, cD, aB, gC, fC, aJ, aD, bH, gO, aP, eU, dT, dV, gG, dH, fH, dB, eH, eT, fD, cF, dF, gJ, dQ, cH, bA, bZ, cG, fP, aE, aG, aO, aV, bD, cL, bN, aA, fE, aM, cO, fI, eY, gH, bK, eK, eL, bW, fW, fF, eJ, dD, cR, dG, aW, bB, aH, gA, aL, dC, dW, aX, cI, fJ, dK, gD, fL, fA, fB, dP, aN, bX, dE, fY, fX, fG, dI, aT, dZ, fT, cQ, eX, fN, bY, bL, dU, aZ, dY, dO, cK, eI, eM, aY, dA, bE, dN, dS, dR, bM, cN, cM, dM, bR, cW, cV, fO, bV, eF, eN, gF, dX, eD, dL, cZ, bG, bQ, bT, bU, aR, cX, aU, d3, e1]
   first
    | exact ⟨0, by omega, .inr ⟨rfl, rfl, rfl⟩⟩
    | exact ⟨0, by omega, .inr ⟨rfl, rfl⟩⟩
    | exact ⟨0, by omega, .inr rfl⟩
 .unfold qA sC sE
  have d2 : decide ((2 : Int) < 2) = false := rfl
  simp (disch := omega) only [gE, jE, cS, stepR_skip, hO, iA, iO, iM, iJ, iL, jH, iT, gL, iD, iF, iC, iH, hJ, iN, hU, iE, iR, iS, iI, gQ, iQ, iP, iG, kR, kQ, lE, lH, lG, lD, lF, lC, lB, gB, Result.ok.injEq, Next.value.injEq, true_and, and_true, gY, hZ, iV, iW, iU, jG, aoE, gV, gU, gX, gT, gM, gI, gN, gK, fZ, fU, if_true, if_false, aoD, aoH, aoF, aoG, aoJ, aoI, aoC, aoB, fM, fK, eZ, fQ, cU, eQ, eE, dJ, bO, fR, eS, aQ, cY, bF, bP, bJ, aI, cP, cB, eP, aF, gR, aK, cJ, aS, bS, fS, cC, cD, aB, gC, fC, aJ, aD, bH, gO, aP, eU, dT, dV, gG, dH, fH, dB, eH, eT, fD, cF, dF, gJ, dQ, cH, bA, bZ, cG, fP, aE, aG, aO, aV, bD, cL, bN, aA, fE, aM, cO, fI, eY, gH, bK, eK, eL, bW, fW, fF, eJ, dD, cR, dG, aW, bB, aH, gA, aL, dC, dW, aX, cI, fJ, dK, gD, fL, fA, fB, dP, aN, bX, dE, fY, fX, fG, dI, aT, dZ, fT, cQ, eX, fN, bY, bL, dU, aZ, dY, dO, cK, eI, eM, aY, dA, bE, dN, dS, dR, bM, cN, cM, dM, bR, cW, cV, fO, bV, eF, eN, gF, dX, eD, dL, cZ, bG, bQ, bT, bU, aR, cX, aU, d2, n2]
theorem adB {p : Nat} {a a' : Option Addr} {n c n' c' : Nat} {w : atO} (o : mQ w p [.slice a n c]) (hn : n <= 1000000000) (hn' : n' <= 1000000000) :
 jD pg pL #[.slice a' n' c', .int .i64 0, .pointer (some ⟨p, 0, none⟩)] w (fun r w' => r = .tuple #[] /\ mQ w' p [shV a n c a' n' c'] /\ jM w w' (fun y => y = p)) := by
 refine EE ?_
 unfold EX uV
 have c0 : w.cell? ⟨p, 0, none⟩ = some (.slice a n c) := o.cell (off := 0)
 have n1 : ((0 : Int) == 0) = true := rfl
 simp (disch := omega) only [gE, jE, cS, stepR_skip, hO, iA, iO, iM, iJ, iL, jH, iT, gL, iD, iF, iC, iH, hJ, iN, hU, iE, iR, iS, iI, gQ, iQ, iP, iG, kR, kQ, lE, lH, lG, lD, lF, lC, lB, gB, Result.ok.injEq, Next.value.injEq, true_and, and_true, gY, hZ, iV, iW, iU, jG, aoE, gV, gU, gX, gT, gM, gI, gN, gK, fZ, fU, if_true, if_false, aoD, aoH, aoF, aoG, aoJ, aoI, aoC, aoB, fM, fK, eZ, fQ, cU, eQ, eE, dJ, bO, fR, eS, aQ, cY, bF, bP, bJ, aI, cP, cB, eP, aF, gR, aK, cJ, aS, bS, fS, cC, cD, aB, gC, fC, aJ, aD, bH, gO, aP, eU, dT, dV, gG, dH, fH, dB, eH, eT, fD, cF, dF, gJ, dQ, cH, bA, bZ, cG, fP, aE, aG, aO, aV, bD, cL, bN, aA, fE, aM, cO, fI, eY, gH, bK, eK, eL, bW, fW, fF, eJ, dD, cR, dG, aW, bB, aH, gA, aL, dC, dW, aX, cI, fJ, dK, gD, fL, fA, fB, dP, aN, bX, dE, fY, fX, fG, dI, aT, dZ, fT, cQ, eX, fN, bY, bL, dU, aZ, dY, dO, cK, eI, eM, aY, dA, bE, dN, dS, dR, bM, cN, cM, dM, bR, cW, cV, fO, bV, eF, eN, gF, dX, eD, dL, cZ, bG, bQ, bT, bU, aR, cX, aU, c0, n1]
 refine Oz (cells := #[.slice a n c, .slice a' n' c']) (by decide) (by decide) (by kernel_rfl) fun w1 o1 x1 s1 => ?_
 refine (Y4 o1 hn hn').mono ?_
 rintro r w2 ⟨rfl, hw⟩
 rw [hw]; clear hw w2
 refine tN (o.ext x1 (fun h => h)) (by unfold shV; split <;> rfl) (by simp) fun w3 o3 x3 s3 => ?_
 simp only [aoZ] at o3
 have x13 : jM w w3 (fun y => y = p) := (x1.mono fun _ _ h => h.elim).seq x3
 try simp (disch := omega) only [gE, jE, cS, stepR_skip, hO, iA, iO, iM, iJ, iL, jH, iT, gL, iD, iF, iC, iH, hJ, iN, hU, iE, iR, iS, iI, gQ, iQ, iP, iG, kR, kQ, lE, lH, lG, lD, lF, lC, lB, gB, Result.ok.injEq, Next.value.injEq, true_and, and_true, gY, hZ, iV, iW, iU, jG, aoE, gV, gU, gX, gT, gM, gI, gN, gK, fZ, fU, if_true, if_false, aoD, aoH, aoF, aoG, aoJ, aoI, aoC, aoB, fM, fK, eZ, fQ, cU, eQ, eE, dJ, bO, fR, eS, aQ, cY, bF, bP, bJ, aI, cP, cB, eP, aF, gR, aK, cJ, aS, bS, fS, cC, cD, aB, gC, fC, aJ, aD, bH, gO, aP, eU, dT, dV, gG, dH, fH, dB, eH, eT, fD, cF, dF, gJ, dQ, cH, bA, bZ, cG, fP, aE, aG, aO, aV, bD, cL, bN, aA, fE, aM, cO, fI, eY, gH, bK, eK, eL, bW, fW, fF, eJ, dD, cR, dG, aW, bB, aH, gA, aL, dC, dW, aX, cI, fJ, dK, gD, fL, fA, fB, dP, aN, bX, dE, fY, fX, fG, dI, aT, dZ, fT, cQ, eX, fN, bY, bL, dU, aZ, dY, dO, cK, eI, eM, aY, dA, bE, dN, dS, dR, bM, cN, cM, dM, bR, cW, cV, fO, bV, eF, eN, gF, dX, eD, dL, cZ, bG, bQ, bT, bU, aR, cX, aU]
 first
  | exact ⟨rfl, o3, x13⟩
  | exact ⟨o3, x13⟩
theorem abD {p : Nat} {bv : atP} {e : Int} {w : atO} (he : e ≠ 0) : jD pg pL #[bv, .int .i64 e, .pointer (some ⟨p, 0, none⟩)] w (fun r w' => r = .tuple #[] /\ w' = w) := by
 refine EE ?_
 unfold EX uV
 have n1 : (e == 0) = false := beq_eq_false_iff_ne.2 he
 simp (disch := omega) only [gE, jE, cS, stepR_skip, hO, iA, iO, iM, iJ, iL, jH, iT, gL, iD, iF, iC, iH, hJ, iN, hU, iE, iR, iS, iI, gQ, iQ, iP, iG, kR, kQ, lE, lH, lG, lD, lF, lC, lB, gB, Result.ok.injEq, Next.value.injEq, true_and, and_true, gY, hZ, iV, iW, iU, jG, aoE, gV, gU, gX, gT, gM, gI, gN, gK, fZ, fU, if_true, if_false, aoD, aoH, aoF, aoG, aoJ, aoI, aoC, aoB, fM, fK, eZ, fQ, cU, eQ, eE, dJ, bO, fR, eS, aQ, cY, bF, bP, bJ, aI, cP, cB, eP, aF, gR, aK, cJ, aS, bS, fS, cC, cD, aB, gC, fC, aJ, aD, bH, gO, aP, eU, dT, dV, gG, dH, fH, dB, eH, eT, fD, cF, dF, gJ, dQ, cH, bA, bZ, cG, fP, aE, aG, aO, aV, bD, cL, bN, aA, fE, aM, cO, fI, eY, gH, bK, eK, eL, bW, fW, fF, eJ, dD, cR, dG, aW, bB, aH, gA, aL, dC, dW, aX, cI, fJ, dK, gD, fL, fA, fB, dP, aN, bX, dE, fY, fX, fG, dI, aT, dZ, fT, cQ, eX, fN, bY, bL, dU, aZ, dY, dO, cK, eI, eM, aY, dA, bE, dN, dS, dR, bM, cN, cM, dM, bR, cW, cV, fO, bV, eF, eN, gF, dX, eD, dL, cZ, bG, bQ, bT, bU, aR, cX, aU, n1]
theorem Y3 (k n : Nat) : 1 <= (uN k n).length := by
 unfold uN; split
 .simp [mC]
 .split <;> simp [mC]
def akX (w : atO) (base n : Nat) (r : atP) : Prop := ∃ (x : atP) (bytes : List UInt8), r = .tuple #[x, .int .i64 0] /\ yB w base 1 x bytes.length (bytes.map oZ) /\ 1 <= bytes.length /\ bytes.length <= n + 3
theorem acP {v : atP} {l : List UInt8} {w : atO} (h : Bs w v l) (hl : l.length <= 131072) :
 jD pg AS #[v] w (fun r w' => akX w' w.heap.size l.length r /\ jM w w' mN) := by
 refine Pq ?_
 obtain ⟨RR, hRR⟩ : ∃ RR : atP -> atO -> Prop, RR = fun r w' => akX w' w.heap.size l.length r /\ jM w w' mN := ⟨_, rfl⟩
 rw [<- hRR]
 unfold OX CD CE
 refine (agI h hl).mono ?_
 rintro r w1 ⟨x, rfl, o1, x1⟩
 have z1 := x1.size
 have hp := LO 0 l.length
 have hp1 := Y3 0 l.length
 obtain ⟨rw_, hrw⟩ : ∃ rw_, rw_ = uN 0 l.length ++ l := ⟨_, rfl⟩
 have hrl : rw_.length <= l.length + 3 := by rw [hrw, aoL]; omega
 have hr1 : 1 <= rw_.length := by rw [hrw, aoL]; omega
 rw [<- hrw] at o1
 clear hp hp1 hrw
 obtain ⟨ra, rc, rfl⟩ := o1.len
 obtain ⟨p, hpp⟩ : ∃ p, p = w1.heap.size := ⟨_, rfl⟩
 have os1 := yB.ne (p := p) o1 (by omega)
 have n0 : ((0 : Int) != 0) = false := rfl
 have q1 := fun w => YT (P := pg) (f := pL) [] [.pointer (some ⟨p, 0, none⟩)] w
 have q2 := fun (x y : atP) w => UZ (P := pg) (f := pL) Tryz.func64 (by kernel_rfl) (by kernel_rfl) #[.pointer (some ⟨p, 0, none⟩)] [x, y] w
 have q3 : ∀ x y : atP, (List.toArray [x, y] ++ #[.pointer (some ⟨p, 0, none⟩)]) = #[x, y, .pointer (some ⟨p, 0, none⟩)] := fun _ _ => rfl
 simp only [q3] at q2
 let S : Nat -> Prop := fun b => w.heap.size <= b /\ b ≠ p
 let St : atO -> Prop := fun W => ∃ (a : Option Addr) (c : Nat) (bs : List UInt8), mQ W p [.slice a bs.length c] /\ LF W S 1 (.slice a bs.length c) bs.length (bs.map oZ) /\ 1 <= bs.length /\ bs.length <= l.length + 3 /\ jM w W mN
 have fin : ∀ W, St W -> rK RR (.pointer (some ⟨p, 0, none⟩)) W := by
  rintro W ⟨a, c, bs, o, os, hb1, hb2, x⟩
  unfold rK
  have c0 : W.cell? ⟨p, 0, none⟩ = some (.slice a bs.length c) := o.cell (off := 0)
  simp (disch := omega) only [gE, jE, cS, stepR_skip, hO, iA, iO, iM, iJ, iL, jH, iT, gL, iD, iF, iC, iH, hJ, iN, hU, iE, iR, iS, iI, gQ, iQ, iP, iG, kR, kQ, lE, lH, lG, lD, lF, lC, lB, gB, Result.ok.injEq, Next.value.injEq, true_and, and_true, gY, hZ, iV, iW, iU, jG, aoE, gV, gU, gX, gT, gM, gI, gN, gK, fZ, fU, if_true, if_false, aoD, aoH, aoF, aoG, aoJ, aoI, aoC, aoB, fM, fK, eZ, fQ, cU, eQ, eE, dJ, bO, fR, eS, aQ, cY, bF, bP, bJ, aI, cP, cB, eP, aF, gR, aK, cJ, aS, bS, fS, cC, cD, aB, gC, fC, aJ, aD, bH, gO, aP, eU, dT, dV, gG, dH, fH, dB, eH, eT, fD, cF, dF, gJ, dQ, cH, bA, bZ, cG, fP, aE, aG, aO, aV, bD, cL, bN, aA, fE, aM, cO, fI, eY, gH, bK, eK, eL, bW, fW, fF, eJ, dD, cR, dG, aW, bB, aH, gA, aL, dC, dW, aX, cI, fJ, dK, gD, fL, fA, fB, dP, aN, bX, dE, fY, fX, fG, dI, aT, dZ, fT, cQ, eX, fN, bY, bL, dU, aZ, dY, dO, cK, eI, eM, aY, dA, bE, dN, dS, dR, bM, cN, cM, dM, bR, cW, cV, fO, bV, eF, eN, gF, dX, eD, dL, cZ, bG, bQ, bT, bU, aR, cX, aU, c0]
  rw [hRR]
  refine ⟨⟨_, bs, rfl, ⟨os.1, ?_⟩, hb1, hb2⟩, x⟩
  rcases os.2 with h | ⟨b, c', rest, h1, h2, h3⟩
  .exact .inl h
  .exact .inr ⟨b, c', rest, h1, h2.1, h3⟩
 have bet : ∀ (W : atO) (a' : Option Addr) (c' : Nat) (bs' : List UInt8) (K : atP -> atO -> Prop), St W -> LF W S 1 (.slice a' bs'.length c') bs'.length (bs'.map oZ) -> 1 <= bs'.length -> bs'.length <= 1000000 -> (∀ r W', St W' -> K r W') →
     jD pg pL #[.slice a' bs'.length c', .int .i64 0, .pointer (some ⟨p, 0, none⟩)] W K := by
  rintro W a' c' bs' K ⟨a, c, bs, o, os, hb1, hb2, x⟩ os' hb1' hb2' hK
  refine (adB o (by omega) (by omega)).mono ?_
  rintro r W' ⟨rfl, o2, x2⟩
  refine hK _ _ ?_
  have xx : jM w W' mN := x.trans x2 fun y hy hh => by omega
  unfold shV at o2
  split at o2
  .exact ⟨a', c', bs', o2, os'.ext x2 (fun b hb hh => hb.2 hh), hb1', by omega, xx⟩
  .exact ⟨a, c, bs, o2, os.ext x2 (fun b hb hh => hb.2 hh), hb1, hb2, xx⟩
 have hv := h
 obtain ⟨va, vc, rfl, hvc⟩ := h.len
 rw [aoK] at hv hvc ⊢
 simp (disch := omega) only [gE, jE, cS, stepR_skip, hO, iA, iO, iM, iJ, iL, jH, iT, gL, iD, iF, iC, iH, hJ, iN, hU, iE, iR, iS, iI, gQ, iQ, iP, iG, kR, kQ, lE, lH, lG, lD, lF, lC, lB, gB, Result.ok.injEq, Next.value.injEq, true_and, and_true, gY, hZ, iV, iW, iU, jG, aoE, gV, gU, gX, gT, gM, gI, gN, gK, fZ, fU, if_true, if_false, aoD, aoH, aoF, aoG, aoJ, aoI, aoC, aoB, fM, fK, eZ, fQ, cU, eQ, eE, dJ, bO, fR, eS, aQ, cY, bF, bP, bJ, aI, cP, cB, eP, aF, gR, aK, cJ, aS, bS, fS, cC, cD, aB, gC, fC, aJ, aD, bH, gO, aP, eU, dT, dV, gG, dH, fH, dB, eH, eT, fD, cF, dF, gJ, dQ, cH, bA, bZ, cG, fP, aE, aG, aO, aV, bD, cL, bN, aA, fE, aM, cO, fI, eY, gH, bK, eK, eL, bW, fW, fF, eJ, dD, cR, dG, aW, bB, aH, gA, aL, dC, dW, aX, cI, fJ, dK, gD, fL, fA, fB, dP, aN, bX, dE, fY, fX, fG, dI, aT, dZ, fT, cQ, eX, fN, bY, bL, dU, aZ, dY, dO, cK, eI, eM, aY, dA, bE, dN, dS, dR, bM, cN, cM, dM, bR, cW, cV, fO, bV, eF, eN, gF, dX, eD, dL, cZ, bG, bQ, bT, bU, aR, cX, aU, n0]
 refine Uv fun w2 o2 x2 s2 => ?_
 rw [<- hpp] at o2 ⊢
 refine tN o2 rfl (by simp) fun w3 o3 x3 s3 => ?_
 simp only [aoZ] at o3
 have x13 : jM w1 w3 mN := x2.trans x3 fun y hy h => by omega
 have x03 := x1.seq x13
 have h3 := hv.ext x03 (kJ _)
 have z3 := x03.size
 have os3 : LF w3 S 1 (.slice ra rw_.length rc) rw_.length (rw_.map oZ) := (os1.ext x2 (fun _ _ h => h)).ext x3 (fun b hb hh => hb.2 hh)
 have st3 : St w3 := ⟨ra, rc, rw_, o3, os3, hr1, hrl, x03⟩
 have lt3 : p < w3.heap.size := o3.lt
 simp (disch := omega) only [gE, jE, cS, stepR_skip, hO, iA, iO, iM, iJ, iL, jH, iT, gL, iD, iF, iC, iH, hJ, iN, hU, iE, iR, iS, iI, gQ, iQ, iP, iG, kR, kQ, lE, lH, lG, lD, lF, lC, lB, gB, Result.ok.injEq, Next.value.injEq, true_and, and_true, gY, hZ, iV, iW, iU, jG, aoE, gV, gU, gX, gT, gM, gI, gN, gK, fZ, fU, if_true, if_false, aoD, aoH, aoF, aoG, aoJ, aoI, aoC, aoB, fM, fK, eZ, fQ, cU, eQ, eE, dJ, bO, fR, eS, aQ, cY, bF, bP, bJ, aI, cP, cB, eP, aF, gR, aK, cJ, aS, bS, fS, cC, cD, aB, gC, fC, aJ, aD, bH, gO, aP, eU, dT, dV, gG, dH, fH, dB, eH, eT, fD, cF, dF, gJ, dQ, cH, bA, bZ, cG, fP, aE, aG, aO, aV, bD, cL, bN, aA, fE, aM, cO, fI, eY, gH, bK, eK, eL, bW, fW, fF, eJ, dD, cR, dG, aW, bB, aH, gA, aL, dC, dW, aX, cI, fJ, dK, gD, fL, fA, fB, dP, aN, bX, dE, fY, fX, fG, dI, aT, dZ, fT, cQ, eX, fN, bY, bL, dU, aZ, dY, dO, cK, eI, eM, aY, dA, bE, dN, dS, dR, bM, cN, cM, dM, bR, cW, cV, fO, bV, eF, eN, gF, dX, eD, dL, cZ, bG, bQ, bT, bU, aR, cX, aU, n0, q1]
 refine (aaD h3 (by omega)).mono ?_
 rintro r w4 ⟨rfl, x4⟩
 have x04 := x03.seq x4
 have st4 : ∀ {W}, jM w3 W mN -> St W := fun {W} x => ⟨ra, rc, rw_, o3.ext x (fun h => h), os3.ext x (fun _ _ h => h), hr1, hrl, x03.seq x⟩
 have h4 := hv.ext x04 (kJ _)
 have z4 := x4.size
 have hosl : ∀ {W W' : atO} {x : atP} {bs : List UInt8}, jM w W mN -> p < W.heap.size -> yB W' W.heap.size 1 x bs.length (bs.map oZ) -> LF W' S 1 x bs.length (bs.map oZ) := fun {W W' x bs} xx hlt ho => by
  refine ⟨ho.1, ?_⟩
  rcases ho.2 with h | ⟨b, c', rest, h1, h2, h3⟩
  .exact .inl h
  .exact .inr ⟨b, c', rest, h1, ⟨by have := xx.size; omega, by omega⟩, h3⟩
 cases hal : Fm l with
 | true =>
   have h0 : 0 < l.length := by
    cases l with
    | nil => cases hal
    | cons c r => simp
   obtain ⟨kb, koff, hka, hcell⟩ : ∃ kb koff, va = some ⟨kb, koff, none⟩ /\ w4.cell? ⟨kb, koff, none⟩ = some (oZ l[0]) := by
    obtain ⟨a', n', c', he, hn', hc', hh⟩ := h4
    simp only [Value.slice.injEq] at he
    obtain ⟨rfl, rfl, rfl⟩ := he
    obtain ⟨kb, koff, rfl, h2⟩ := hh (by omega)
    refine ⟨kb, koff, rfl, ?_⟩
    have := h2 0 (by omega)
    rw [apY] at this
    rw [this, aoY, aoM h0]
    rfl
   subst hka
   have z0 : (0 : Int).toNat = 0 := rfl
   simp (disch := omega) only [gE, jE, cS, stepR_skip, hO, iA, iO, iM, iJ, iL, jH, iT, gL, iD, iF, iC, iH, hJ, iN, hU, iE, iR, iS, iI, gQ, iQ, iP, iG, kR, kQ, lE, lH, lG, lD, lF, lC, lB, gB, Result.ok.injEq, Next.value.injEq, true_and, and_true, gY, hZ, iV, iW, iU, jG, aoE, gV, gU, gX, gT, gM, gI, gN, gK, fZ, fU, if_true, if_false, aoD, aoH, aoF, aoG, aoJ, aoI, aoC, aoB, fM, fK, eZ, fQ, cU, eQ, eE, dJ, bO, fR, eS, aQ, cY, bF, bP, bJ, aI, cP, cB, eP, aF, gR, aK, cJ, aS, bS, fS, cC, cD, aB, gC, fC, aJ, aD, bH, gO, aP, eU, dT, dV, gG, dH, fH, dB, eH, eT, fD, cF, dF, gJ, dQ, cH, bA, bZ, cG, fP, aE, aG, aO, aV, bD, cL, bN, aA, fE, aM, cO, fI, eY, gH, bK, eK, eL, bW, fW, fF, eJ, dD, cR, dG, aW, bB, aH, gA, aL, dC, dW, aX, cI, fJ, dK, gD, fL, fA, fB, dP, aN, bX, dE, fY, fX, fG, dI, aT, dZ, fT, cQ, eX, fN, bY, bL, dU, aZ, dY, dO, cK, eI, eM, aY, dA, bE, dN, dS, dR, bM, cN, cM, dM, bR, cW, cV, fO, bV, eF, eN, gF, dX, eD, dL, cZ, bG, bQ, bT, bU, aR, cX, aU, hcell, z0, apY]
   refine (acL (n := l.length) hl).mono ?_
   rintro r w5 ⟨x, rfl, o5, x5⟩
   have hp2 := LO 1 l.length
   have os5 := hosl x04 (by omega) o5
   obtain ⟨a5, c5, rfl⟩ := o5.len
   simp (disch := omega) only [gE, jE, cS, stepR_skip, hO, iA, iO, iM, iJ, iL, jH, iT, gL, iD, iF, iC, iH, hJ, iN, hU, iE, iR, iS, iI, gQ, iQ, iP, iG, kR, kQ, lE, lH, lG, lD, lF, lC, lB, gB, Result.ok.injEq, Next.value.injEq, true_and, and_true, gY, hZ, iV, iW, iU, jG, aoE, gV, gU, gX, gT, gM, gI, gN, gK, fZ, fU, if_true, if_false, aoD, aoH, aoF, aoG, aoJ, aoI, aoC, aoB, fM, fK, eZ, fQ, cU, eQ, eE, dJ, bO, fR, eS, aQ, cY, bF, bP, bJ, aI, cP, cB, eP, aF, gR, aK, cJ, aS, bS, fS, cC, cD, aB, gC, fC, aJ, aD, bH, gO, aP, eU, dT, dV, gG, dH, fH, dB, eH, eT, fD, cF, dF, gJ, dQ, cH, bA, bZ, cG, fP, aE, aG, aO, aV, bD, cL, bN, aA, fE, aM, cO, fI, eY, gH, bK, eK, eL, bW, fW, fF, eJ, dD, cR, dG, aW, bB, aH, gA, aL, dC, dW, aX, cI, fJ, dK, gD, fL, fA, fB, dP, aN, bX, dE, fY, fX, fG, dI, aT, dZ, fT, cQ, eX, fN, bY, bL, dU, aZ, dY, dO, cK, eI, eM, aY, dA, bE, dN, dS, dR, bM, cN, cM, dM, bR, cW, cV, fO, bV, eF, eN, gF, dX, eD, dL, cZ, bG, bQ, bT, bU, aR, cX, aU, q2, F6]
   refine bet w5 a5 c5 _ _ (st4 (x4.seq x5)) os5 (by rw [aoL]; simp) (by rw [aoL]; simp; omega) fun r W hW => ?_
   have hf := fin W hW
   obtain ⟨a, c, bs, o, -⟩ := hW
   have c0 : W.cell? ⟨p, 0, none⟩ = some (.slice a bs.length c) := o.cell (off := 0)
   have hf : gE pg (jF 22 (.pointer (some ⟨p, 0, none⟩))) W fun t w => RR (.tuple #[t, .int .i64 0]) w := by
    unfold rK at hf
    first | exact hf | skip
   simp only [gE, fR, c0, gB, cS] at hf
   simp (disch := omega) only [gE, jE, cS, stepR_skip, hO, iA, iO, iM, iJ, iL, jH, iT, gL, iD, iF, iC, iH, hJ, iN, hU, iE, iR, iS, iI, gQ, iQ, iP, iG, kR, kQ, lE, lH, lG, lD, lF, lC, lB, gB, Result.ok.injEq, Next.value.injEq, true_and, and_true, gY, hZ, iV, iW, iU, jG, aoE, gV, gU, gX, gT, gM, gI, gN, gK, fZ, fU, if_true, if_false, aoD, aoH, aoF, aoG, aoJ, aoI, aoC, aoB, fM, fK, eZ, fQ, cU, eQ, eE, dJ, bO, fR, eS, aQ, cY, bF, bP, bJ, aI, cP, cB, eP, aF, gR, aK, cJ, aS, bS, fS, cC, cD, aB, gC, fC, aJ, aD, bH, gO, aP, eU, dT, dV, gG, dH, fH, dB, eH, eT, fD, cF, dF, gJ, dQ, cH, bA, bZ, cG, fP, aE, aG, aO, aV, bD, cL, bN, aA, fE, aM, cO, fI, eY, gH, bK, eK, eL, bW, fW, fF, eJ, dD, cR, dG, aW, bB, aH, gA, aL, dC, dW, aX, cI, fJ, dK, gD, fL, fA, fB, dP, aN, bX, dE, fY, fX, fG, dI, aT, dZ, fT, cQ, eX, fN, bY, bL, dU, aZ, dY, dO, cK, eI, eM, aY, dA, bE, dN, dS, dR, bM, cN, cM, dM, bR, cW, cV, fO, bV, eF, eN, gF, dX, eD, dL, cZ, bG, bQ, bT, bU, aR, cX, aU, c0]
   exact hf
 | false =>
   simp (disch := omega) only [gE, jE, cS, stepR_skip, hO, iA, iO, iM, iJ, iL, jH, iT, gL, iD, iF, iC, iH, hJ, iN, hU, iE, iR, iS, iI, gQ, iQ, iP, iG, kR, kQ, lE, lH, lG, lD, lF, lC, lB, gB, Result.ok.injEq, Next.value.injEq, true_and, and_true, gY, hZ, iV, iW, iU, jG, aoE, gV, gU, gX, gT, gM, gI, gN, gK, fZ, fU, if_true, if_false, aoD, aoH, aoF, aoG, aoJ, aoI, aoC, aoB, fM, fK, eZ, fQ, cU, eQ, eE, dJ, bO, fR, eS, aQ, cY, bF, bP, bJ, aI, cP, cB, eP, aF, gR, aK, cJ, aS, bS, fS, cC, cD, aB, gC, fC, aJ, aD, bH, gO, aP, eU, dT, dV, gG, dH, fH, dB, eH, eT, fD, cF, dF, gJ, dQ, cH, bA, bZ, cG, fP, aE, aG, aO, aV, bD, cL, bN, aA, fE, aM, cO, fI, eY, gH, bK, eK, eL, bW, fW, fF, eJ, dD, cR, dG, aW, bB, aH, gA, aL, dC, dW, aX, cI, fJ, dK, gD, fL, fA, fB, dP, aN, bX, dE, fY, fX, fG, dI, aT, dZ, fT, cQ, eX, fN, bY, bL, dU, aZ, dY, dO, cK, eI, eM, aY, dA, bE, dN, dS, dR, bM, cN, cM, dM, bR, cW, cV, fO, bV, eF, eN, gF, dX, eD, dL, cZ, bG, bQ, bT, bU, aR, cX, aU]
   refine WZ (by omega) (by omega) fun w5 o5 x5 s5 => ?_
   obtain ⟨q, hq⟩ : ∃ q, q = w4.heap.size := ⟨_, rfl⟩
   have t256 : (256 : Int).toNat = 256 := rfl
   rw [<- hq, t256] at o5
   rw [<- hq, t256]
   unfold Ek DW DK D3 DF
   simp (disch := omega) only [gE, jE, cS, stepR_skip, hO, iA, iO, iM, iJ, iL, jH, iT, gL, iD, iF, iC, iH, hJ, iN, hU, iE, iR, iS, iI, gQ, iQ, iP, iG, kR, kQ, lE, lH, lG, lD, lF, lC, lB, gB, Result.ok.injEq, Next.value.injEq, true_and, and_true, gY, hZ, iV, iW, iU, jG, aoE, gV, gU, gX, gT, gM, gI, gN, gK, fZ, fU, if_true, if_false, aoD, aoH, aoF, aoG, aoJ, aoI, aoC, aoB, fM, fK, eZ, fQ, cU, eQ, eE, dJ, bO, fR, eS, aQ, cY, bF, bP, bJ, aI, cP, cB, eP, aF, gR, aK, cJ, aS, bS, fS, cC, cD, aB, gC, fC, aJ, aD, bH, gO, aP, eU, dT, dV, gG, dH, fH, dB, eH, eT, fD, cF, dF, gJ, dQ, cH, bA, bZ, cG, fP, aE, aG, aO, aV, bD, cL, bN, aA, fE, aM, cO, fI, eY, gH, bK, eK, eL, bW, fW, fF, eJ, dD, cR, dG, aW, bB, aH, gA, aL, dC, dW, aX, cI, fJ, dK, gD, fL, fA, fB, dP, aN, bX, dE, fY, fX, fG, dI, aT, dZ, fT, cQ, eX, fN, bY, bL, dU, aZ, dY, dO, cK, eI, eM, aY, dA, bE, dN, dS, dR, bM, cN, cM, dM, bR, cW, cV, fO, bV, eF, eN, gF, dX, eD, dL, cZ, bG, bQ, bT, bU, aR, cX, aU]
   have x45 := x4.seq x5
   have hqp : q ≠ p := by omega
   refine kE.rule (fun m (t : atP) W => ∃ (i : Nat) (ns : List Nat), m = l.length - i /\ i <= l.length /\ t = .int .i64 (i : Nat) /\ mQ W q (Oo ns) /\ ns.length = 256 /\ (∀ n ∈ ns, n <= i) /\ jM w5 W (fun y => y = q)) l.length
    ⟨0, List.replicate 256 0, rfl, by omega, rfl, by simpa using o5, by simp, fun n hn => by rw [asY hn]; omega, jM.refl _ _⟩ ?_
   rintro m t w6 ⟨i, ns, rfl, hi, rfl, o6, hnl, hns, x6⟩
   have x36 : jM w3 w6 mN := x45.trans x6 fun y hy h => by omega
   have x06 := x03.seq x36
   unfold zZ
   by_cases hlt : i < l.length
   .have d1 : decide ((i : Int) < (l.length : Int)) = true := decide_eq_true (by omega)
    have hin : (i : Int).toNat = i := aoE _
    have e1 : (i : Int) + 1 = ((i + 1 : Nat) : Int) := by omega
    obtain ⟨kb, koff, hka, hcell⟩ : ∃ kb koff, va = some ⟨kb, koff, none⟩ /\ w6.cell? ⟨kb, koff + i, none⟩ = some (.int .u8 (l[i].toNat : Nat)) := by
     obtain ⟨a', n', c', he, hn', hc', hh⟩ := hv.ext x06 (kJ _)
     simp only [Value.slice.injEq] at he
     obtain ⟨rfl, rfl, rfl⟩ := he
     obtain ⟨kb, koff, rfl, h2⟩ := hh (by omega)
     refine ⟨kb, koff, rfl, ?_⟩
     rw [h2 i (by omega), aoY, aoM hlt]
     rfl
    subst hka
    have hc256 : l[i].toNat < 256 := aqU _
    obtain ⟨cc_, hcc⟩ : ∃ c, c = l[i].toNat := ⟨_, rfl⟩
    rw [<- hcc] at hcell hc256
    have hcn : (cc_ : Int).toNat = cc_ := aoE _
    have d2 : ((cc_ : Nat) : Int) < ((256 : Nat) : Int) := by omega
    have hng : (Oo ns)[cc_]? = some (.int .u32 (ns.getD cc_ 0 : Nat)) := LM (by omega)
    have hc6 : w6.cell? ⟨q, 0 + cc_, none⟩ = some (.int .u32 (ns.getD cc_ 0 : Nat)) := by
     rw [aoH, o6.cell]; exact hng
    have hgd : ns.getD cc_ 0 <= i := by
     rw [aoN, aoM (by omega)]
     exact hns _ (aqE _)
    rw [aoH] at hc6
    obtain ⟨G, hG⟩ : ∃ G, G = ns.getD cc_ 0 := ⟨_, rfl⟩
    rw [<- hG] at hc6 hgd
    have e2 : (G : Int) + 1 = ((G + 1 : Nat) : Int) := by omega
    simp (disch := omega) only [gE, jE, cS, stepR_skip, hO, iA, iO, iM, iJ, iL, jH, iT, gL, iD, iF, iC, iH, hJ, iN, hU, iE, iR, iS, iI, gQ, iQ, iP, iG, kR, kQ, lE, lH, lG, lD, lF, lC, lB, gB, Result.ok.injEq, Next.value.injEq, true_and, and_true, gY, hZ, iV, iW, iU, jG, aoE, gV, gU, gX, gT, gM, gI, gN, gK, fZ, fU, if_true, if_false, aoD, aoH, aoF, aoG, aoJ, aoI, aoC, aoB, fM, fK, eZ, fQ, cU, eQ, eE, dJ, bO, fR, eS, aQ, cY, bF, bP, bJ, aI, cP, cB, eP, aF, gR, aK, cJ, aS, bS, fS, cC, cD, aB, gC, fC, aJ, aD, bH, gO, aP, eU, dT, dV, gG, dH, fH, dB, eH, eT, fD, cF, dF, gJ, dQ, cH, bA, bZ, cG, fP, aE, aG, aO, aV, bD, cL, bN, aA, fE, aM, cO, fI, eY, gH, bK, eK, eL, bW, fW, fF, eJ, dD, cR, dG, aW, bB, aH, gA, aL, dC, dW, aX, cI, fJ, dK, gD, fL, fA, fB, dP, aN, bX, dE, fY, fX, fG, dI, aT, dZ, fT, cQ, eX, fN, bY, bL, dU, aZ, dY, dO, cK, eI, eM, aY, dA, bE, dN, dS, dR, bM, cN, cM, dM, bR, cW, cV, fO, bV, eF, eN, gF, dX, eD, dL, cZ, bG, bQ, bT, bU, aR, cX, aU, d1, hin, hcell, hcn, hc6, e2, aoH]
    refine acT o6 rfl (by simp [hnl]; omega) fun w7 o7 x7 s7 => ?_
    simp (disch := omega) only [gE, jE, cS, stepR_skip, hO, iA, iO, iM, iJ, iL, jH, iT, gL, iD, iF, iC, iH, hJ, iN, hU, iE, iR, iS, iI, gQ, iQ, iP, iG, kR, kQ, lE, lH, lG, lD, lF, lC, lB, gB, Result.ok.injEq, Next.value.injEq, true_and, and_true, gY, hZ, iV, iW, iU, jG, aoE, gV, gU, gX, gT, gM, gI, gN, gK, fZ, fU, if_true, if_false, aoD, aoH, aoF, aoG, aoJ, aoI, aoC, aoB, fM, fK, eZ, fQ, cU, eQ, eE, dJ, bO, fR, eS, aQ, cY, bF, bP, bJ, aI, cP, cB, eP, aF, gR, aK, cJ, aS, bS, fS, cC, cD, aB, gC, fC, aJ, aD, bH, gO, aP, eU, dT, dV, gG, dH, fH, dB, eH, eT, fD, cF, dF, gJ, dQ, cH, bA, bZ, cG, fP, aE, aG, aO, aV, bD, cL, bN, aA, fE, aM, cO, fI, eY, gH, bK, eK, eL, bW, fW, fF, eJ, dD, cR, dG, aW, bB, aH, gA, aL, dC, dW, aX, cI, fJ, dK, gD, fL, fA, fB, dP, aN, bX, dE, fY, fX, fG, dI, aT, dZ, fT, cQ, eX, fN, bY, bL, dU, aZ, dY, dO, cK, eI, eM, aY, dA, bE, dN, dS, dR, bM, cN, cM, dM, bR, cW, cV, fO, bV, eF, eN, gF, dX, eD, dL, cZ, bG, bQ, bT, bU, aR, cX, aU, e1]
    have o7 : mQ w7 q (Oo (ns.set cc_ (G + 1))) := by
     have e : Oo (ns.set cc_ (G + 1)) = (Oo ns).set cc_ (.int .u32 ((G + 1 : Nat) : Int)) := by
      unfold Oo
      rw [asI]
     rw [e]; exact o7
    refine ⟨l.length - (i + 1), by omega, i + 1, _, rfl, by omega, rfl, o7, by simp [hnl], fun n hn => ?_, x6.seq x7⟩
    rcases List.mem_or_eq_of_mem_set hn with h | h
    .have := hns n h; omega
    .omega
   .have d1 : decide ((i : Int) < (l.length : Int)) = false := decide_eq_false (by omega)
    unfold D6 DD
    simp (disch := omega) only [gE, jE, cS, stepR_skip, hO, iA, iO, iM, iJ, iL, jH, iT, gL, iD, iF, iC, iH, hJ, iN, hU, iE, iR, iS, iI, gQ, iQ, iP, iG, kR, kQ, lE, lH, lG, lD, lF, lC, lB, gB, Result.ok.injEq, Next.value.injEq, true_and, and_true, gY, hZ, iV, iW, iU, jG, aoE, gV, gU, gX, gT, gM, gI, gN, gK, fZ, fU, if_true, if_false, aoD, aoH, aoF, aoG, aoJ, aoI, aoC, aoB, fM, fK, eZ, fQ, cU, eQ, eE, dJ, bO, fR, eS, aQ, cY, bF, bP, bJ, aI, cP, cB, eP, aF, gR, aK, cJ, aS, bS, fS, cC, cD, aB, gC, fC, aJ, aD, bH, gO, aP, eU, dT, dV, gG, dH, fH, dB, eH, eT, fD, cF, dF, gJ, dQ, cH, bA, bZ, cG, fP, aE, aG, aO, aV, bD, cL, bN, aA, fE, aM, cO, fI, eY, gH, bK, eK, eL, bW, fW, fF, eJ, dD, cR, dG, aW, bB, aH, gA, aL, dC, dW, aX, cI, fJ, dK, gD, fL, fA, fB, dP, aN, bX, dE, fY, fX, fG, dI, aT, dZ, fT, cQ, eX, fN, bY, bL, dU, aZ, dY, dO, cK, eI, eM, aY, dA, bE, dN, dS, dR, bM, cN, cM, dM, bR, cW, cV, fO, bV, eF, eN, gF, dX, eD, dL, cZ, bG, bQ, bT, bU, aR, cX, aU, d1]
    have hsl : Sl w6 (.slice (some ⟨q, 0, none⟩) 256 256) (Oo ns) := ⟨_, _, _, rfl, by simp [hnl], aoP _, fun _ => ⟨q, 0, rfl, fun j hj => by rw [aoH, o6.cell]⟩⟩
    refine (alZ hsl (fun n hn => by have := hns n hn; omega) (by omega)).mono ?_
    rintro r w7 ⟨ho, x7⟩
    have st7 := st4 (x36.seq x7)
    have x07 := x06.seq x7
    have z7 := x7.size
    have z6 := x36.size
    rcases ho with ⟨-, rfl⟩ | ⟨-, last, wv, wl, -, hlast, hwl, -, -, -, rfl, ow⟩
    .have n1 : ((1 : Int) == 0) = false := rfl
     simp (disch := omega) only [gE, jE, cS, stepR_skip, hO, iA, iO, iM, iJ, iL, jH, iT, gL, iD, iF, iC, iH, hJ, iN, hU, iE, iR, iS, iI, gQ, iQ, iP, iG, kR, kQ, lE, lH, lG, lD, lF, lC, lB, gB, Result.ok.injEq, Next.value.injEq, true_and, and_true, gY, hZ, iV, iW, iU, jG, aoE, gV, gU, gX, gT, gM, gI, gN, gK, fZ, fU, if_true, if_false, aoD, aoH, aoF, aoG, aoJ, aoI, aoC, aoB, fM, fK, eZ, fQ, cU, eQ, eE, dJ, bO, fR, eS, aQ, cY, bF, bP, bJ, aI, cP, cB, eP, aF, gR, aK, cJ, aS, bS, fS, cC, cD, aB, gC, fC, aJ, aD, bH, gO, aP, eU, dT, dV, gG, dH, fH, dB, eH, eT, fD, cF, dF, gJ, dQ, cH, bA, bZ, cG, fP, aE, aG, aO, aV, bD, cL, bN, aA, fE, aM, cO, fI, eY, gH, bK, eK, eL, bW, fW, fF, eJ, dD, cR, dG, aW, bB, aH, gA, aL, dC, dW, aX, cI, fJ, dK, gD, fL, fA, fB, dP, aN, bX, dE, fY, fX, fG, dI, aT, dZ, fT, cQ, eX, fN, bY, bL, dU, aZ, dY, dO, cK, eI, eM, aY, dA, bE, dN, dS, dR, bM, cN, cM, dM, bR, cW, cV, fO, bV, eF, eN, gF, dX, eD, dL, cZ, bG, bQ, bT, bU, aR, cX, aU, n1]
     exact fin w7 st7
    .have n1 : ((0 : Int) == 0) = true := rfl
     have hbw : Bs w7 wv (On wl) := ow.sl
     obtain ⟨wa, wc_, rfl⟩ := ow.len
     simp (disch := omega) only [gE, jE, cS, stepR_skip, hO, iA, iO, iM, iJ, iL, jH, iT, gL, iD, iF, iC, iH, hJ, iN, hU, iE, iR, iS, iI, gQ, iQ, iP, iG, kR, kQ, lE, lH, lG, lD, lF, lC, lB, gB, Result.ok.injEq, Next.value.injEq, true_and, and_true, gY, hZ, iV, iW, iU, jG, aoE, gV, gU, gX, gT, gM, gI, gN, gK, fZ, fU, if_true, if_false, aoD, aoH, aoF, aoG, aoJ, aoI, aoC, aoB, fM, fK, eZ, fQ, cU, eQ, eE, dJ, bO, fR, eS, aQ, cY, bF, bP, bJ, aI, cP, cB, eP, aF, gR, aK, cJ, aS, bS, fS, cC, cD, aB, gC, fC, aJ, aD, bH, gO, aP, eU, dT, dV, gG, dH, fH, dB, eH, eT, fD, cF, dF, gJ, dQ, cH, bA, bZ, cG, fP, aE, aG, aO, aV, bD, cL, bN, aA, fE, aM, cO, fI, eY, gH, bK, eK, eL, bW, fW, fF, eJ, dD, cR, dG, aW, bB, aH, gA, aL, dC, dW, aX, cI, fJ, dK, gD, fL, fA, fB, dP, aN, bX, dE, fY, fX, fG, dI, aT, dZ, fT, cQ, eX, fN, bY, bL, dU, aZ, dY, dO, cK, eI, eM, aY, dA, bE, dN, dS, dR, bM, cN, cM, dM, bR, cW, cV, fO, bV, eF, eN, gF, dX, eD, dL, cZ, bG, bQ, bT, bU, aR, cX, aU, n1]
     refine (abP (hv.ext x07 (kJ _)) hl hbw (by simp [On]; omega)).mono ?_
     rintro r w8 ⟨hps, x8⟩
     have st8 := st4 ((x36.seq x7).seq x8)
     rcases hps with ⟨e, he, rfl⟩ | ⟨pv, bytes, rfl, op, hb1, hb2⟩
     .simp (disch := omega) only [gE, jE, cS, stepR_skip, hO, iA, iO, iM, iJ, iL, jH, iT, gL, iD, iF, iC, iH, hJ, iN, hU, iE, iR, iS, iI, gQ, iQ, iP, iG, kR, kQ, lE, lH, lG, lD, lF, lC, lB, gB, Result.ok.injEq, Next.value.injEq, true_and, and_true, gY, hZ, iV, iW, iU, jG, aoE, gV, gU, gX, gT, gM, gI, gN, gK, fZ, fU, if_true, if_false, aoD, aoH, aoF, aoG, aoJ, aoI, aoC, aoB, fM, fK, eZ, fQ, cU, eQ, eE, dJ, bO, fR, eS, aQ, cY, bF, bP, bJ, aI, cP, cB, eP, aF, gR, aK, cJ, aS, bS, fS, cC, cD, aB, gC, fC, aJ, aD, bH, gO, aP, eU, dT, dV, gG, dH, fH, dB, eH, eT, fD, cF, dF, gJ, dQ, cH, bA, bZ, cG, fP, aE, aG, aO, aV, bD, cL, bN, aA, fE, aM, cO, fI, eY, gH, bK, eK, eL, bW, fW, fF, eJ, dD, cR, dG, aW, bB, aH, gA, aL, dC, dW, aX, cI, fJ, dK, gD, fL, fA, fB, dP, aN, bX, dE, fY, fX, fG, dI, aT, dZ, fT, cQ, eX, fN, bY, bL, dU, aZ, dY, dO, cK, eI, eM, aY, dA, bE, dN, dS, dR, bM, cN, cM, dM, bR, cW, cV, fO, bV, eF, eN, gF, dX, eD, dL, cZ, bG, bQ, bT, bU, aR, cX, aU, q2, F6]
      refine (abD he).mono ?_
      rintro r w9 ⟨rfl, hw⟩
      rw [hw]; clear hw w9
      exact fin w8 st8
     .have os8 := hosl x07 (by omega) op
      obtain ⟨a8, c8, rfl⟩ := op.len
      simp (disch := omega) only [gE, jE, cS, stepR_skip, hO, iA, iO, iM, iJ, iL, jH, iT, gL, iD, iF, iC, iH, hJ, iN, hU, iE, iR, iS, iI, gQ, iQ, iP, iG, kR, kQ, lE, lH, lG, lD, lF, lC, lB, gB, Result.ok.injEq, Next.value.injEq, true_and, and_true, gY, hZ, iV, iW, iU, jG, aoE, gV, gU, gX, gT, gM, gI, gN, gK, fZ, fU, if_true, if_false, aoD, aoH, aoF, aoG, aoJ, aoI, aoC, aoB, fM, fK, eZ, fQ, cU, eQ, eE, dJ, bO, fR, eS, aQ, cY, bF, bP, bJ, aI, cP, cB, eP, aF, gR, aK, cJ, aS, bS, fS, cC, cD, aB, gC, fC, aJ, aD, bH, gO, aP, eU, dT, dV, gG, dH, fH, dB, eH, eT, fD, cF, dF, gJ, dQ, cH, bA, bZ, cG, fP, aE, aG, aO, aV, bD, cL, bN, aA, fE, aM, cO, fI, eY, gH, bK, eK, eL, bW, fW, fF, eJ, dD, cR, dG, aW, bB, aH, gA, aL, dC, dW, aX, cI, fJ, dK, gD, fL, fA, fB, dP, aN, bX, dE, fY, fX, fG, dI, aT, dZ, fT, cQ, eX, fN, bY, bL, dU, aZ, dY, dO, cK, eI, eM, aY, dA, bE, dN, dS, dR, bM, cN, cM, dM, bR, cW, cV, fO, bV, eF, eN, gF, dX, eD, dL, cZ, bG, bQ, bT, bU, aR, cX, aU, q2, F6]
      refine bet w8 a8 c8 bytes _ st8 os8 hb1 (by omega) fun r W hW => ?_
      exact fin W hW
end Go.Proofs.YtoecppploooloaaGreatDoor
namespace Go.Proofs.YtoecppploooloaaGreatDoor
open Go Go.En
set_option maxRecDepth 4000
structure V9 (w : atO) (p mb ab : Nat) (bv : atP) (B : List UInt8) (to tries : Nat) (es : List (Nf 4 × atP)) (A : List Int) : Prop where
 own : mQ w p [bv, .int .i64 to, .map (some mb), .slice (some ⟨ab, 0, none⟩) to to, .int .i64 tries]
 bs : Bs w bv B
 map : Mp w mb RD es
 ah : mQ w ab (A.map (Value.int .i64))
 len : A.length = to
 le : to <= B.length
 big : B.length <= 1099511627776
theorem V9.ext {w w' : atO} {p mb ab : Nat} {bv : atP} {B : List UInt8} {to tries : Nat} {es : List (Nf 4 × atP)} {A : List Int} {M : Nat -> Prop} (h : V9 w p mb ab bv B to tries es A) (hx : jM w w' M)
 (h1 : ¬ M p) (h2 : ¬ M mb) (h3 : ¬ M ab) (h4 : ¬ Lf bv M) : V9 w' p mb ab bv B to tries es A :=
 ⟨h.own.ext hx h1, h.bs.ext hx h4, h.map.ext hx h2, h.ah.ext hx h3, h.len, h.le, h.big⟩
theorem V9.same {w w' : atO} {p mb ab : Nat} {bv : atP} {B : List UInt8} {to tries : Nat} {es : List (Nf 4 × atP)} {A : List Int} (h : V9 w p mb ab bv B to tries es A) (hx : jM w w' mN) : V9 w' p mb ab bv B to tries es A :=
 h.ext hx (fun h => h) (fun h => h) (fun h => h) (kJ _)
theorem V9.dr {w : atO} {p mb ab : Nat} {bv : atP} {B : List UInt8} {to tries : Nat} {es : List (Nf 4 × atP)} {A : List Int} (h : V9 w p mb ab bv B to tries es A) : V9 (dr w) p mb ab bv B to tries es A :=
 h.same (jM.dr _ _)
structure Lng (B : List UInt8) (to old at_ n : Nat) : Prop where
 le : at_ + n <= to ∨ n = 0
 most : n <= 131074
 same : ∀ j, j < n -> B[old + j]? = B[at_ + j]?
 full : n = 131074 ∨ to <= at_ + n ∨ B[old + n]? ≠ B[at_ + n]?
theorem akP {w : atO} {p mb ab : Nat} {bv : atP} {B : List UInt8} {to tries : Nat} {es : List (Nf 4 × atP)} {A : List Int} (hf : V9 w p mb ab bv B to tries es A) (old at_ : Nat) (ho : old < at_) (ha : at_ <= to + 1) :
 jD pg uU #[.pointer (some ⟨p, 0, none⟩), .int .i64 old, .int .i64 at_] w (fun r w' => ∃ n : Nat, r = .int .i64 n /\ Lng B to old at_ n /\ jM w w' mN) := by
 have hle := hf.le
 have hbig := hf.big
 refine LH ?_
 simp (disch := omega) only [uC, Ah, Ag, Ad, Ay, AB, Jl, gE, jE, cS, stepR_skip, hO, iA, iO, iM, iJ, iL, jH, iT, gL, iD, iF, iC, iH, hJ, iN, hU, iE, iR, iS, iI, gQ, iQ, iP, iG, kR, kQ, lE, lH, lG, lD, lF, lC, lB, gB, Result.ok.injEq, Next.value.injEq, true_and, and_true, gY, hZ, iV, iW, iU, jG, aoE, gV, gU, gX, gT, gM, gI, gN, gK, fZ, fU, if_true, if_false, aoD, aoH, aoF, aoG, aoJ, aoI, aoC, aoB, fM, fK, eZ, fQ, cU, eQ, eE, dJ, bO, fR, eS, aQ, cY, bF, bP, bJ, aI, cP, cB, eP, aF, gR, aK, cJ, aS, bS, fS, cC, cD, aB, gC, fC, aJ, aD, bH, gO, aP, eU, dT, dV, gG, dH, fH, dB, eH, eT, fD, cF, dF, gJ, dQ, cH, bA, bZ, cG, fP, aE, aG, aO, aV, bD, cL, bN, aA, fE, aM, cO, fI, eY, gH, bK, eK, eL, bW, fW, fF, eJ, dD, cR, dG, aW, bB, aH, gA, aL, dC, dW, aX, cI, fJ, dK, gD, fL, fA, fB, dP, aN, bX, dE, fY, fX, fG, dI, aT, dZ, fT, cQ, eX, fN, bY, bL, dU, aZ, dY, dO, cK, eI, eM, aY, dA, bE, dN, dS, dR, bM, cN, cM, dM, bR, cW, cV, fO, bV, eF, eN, gF, dX, eD, dL, cZ, bG, bQ, bT, bU, aR, cX, aU]
 refine kE.rule (fun m t w' => ∃ n : Nat, m = 131074 - n /\ t = .int .i64 n /\ (at_ + n <= to ∨ n = 0) /\ n <= 131074 /\ (∀ j, j < n -> B[old + j]? = B[at_ + j]?) /\ jM w w' mN) 131074 ⟨0, rfl, rfl, .inr rfl, by omega, fun j h => by omega, jM.refl _ _⟩ ?_
 rintro m t w1 ⟨n, rfl, rfl, h1, h2, h3, hx⟩
 have hf := (hf.same hx).dr
 have c1 := hf.own.cell (off := 1)
 have c0 := hf.own.cell (off := 0)
 simp only [aoB, aoC] at c0 c1
 by_cases hlt : at_ + n < to
 .have d1 : decide ((at_ : Int) + (n : Int) < (to : Int)) = true := by simp; omega
  by_cases hm : n < 131074
  .have d2 : decide ((n : Int) < 131074) = true := by simp; omega
   obtain ⟨b, off, c, rfl, hc, hb⟩ := hf.bs.open (by omega)
   have e1 : ((old : Int) + (n : Int)).toNat = old + n := by omega
   have e2 : ((at_ : Int) + (n : Int)).toNat = at_ + n := by omega
   have g1 := hb (old + n) (by omega)
   have g2 := hb (at_ + n) (by omega)
   by_cases hq : B[old + n]'(by omega) = B[at_ + n]'(by omega)
   .have d3 : ((((B[old + n]'(by omega)).toNat : Int)) == (((B[at_ + n]'(by omega)).toNat : Nat) : Int)) = true := by rw [hq]; simp
    simp (disch := omega) only [oM, gE, jE, cS, stepR_skip, hO, iA, iO, iM, iJ, iL, jH, iT, gL, iD, iF, iC, iH, hJ, iN, hU, iE, iR, iS, iI, gQ, iQ, iP, iG, kR, kQ, lE, lH, lG, lD, lF, lC, lB, gB, Result.ok.injEq, Next.value.injEq, true_and, and_true, gY, hZ, iV, iW, iU, jG, aoE, gV, gU, gX, gT, gM, gI, gN, gK, fZ, fU, if_true, if_false, aoD, aoH, aoF, aoG, aoJ, aoI, aoC, aoB, fM, fK, eZ, fQ, cU, eQ, eE, dJ, bO, fR, eS, aQ, cY, bF, bP, bJ, aI, cP, cB, eP, aF, gR, aK, cJ, aS, bS, fS, cC, cD, aB, gC, fC, aJ, aD, bH, gO, aP, eU, dT, dV, gG, dH, fH, dB, eH, eT, fD, cF, dF, gJ, dQ, cH, bA, bZ, cG, fP, aE, aG, aO, aV, bD, cL, bN, aA, fE, aM, cO, fI, eY, gH, bK, eK, eL, bW, fW, fF, eJ, dD, cR, dG, aW, bB, aH, gA, aL, dC, dW, aX, cI, fJ, dK, gD, fL, fA, fB, dP, aN, bX, dE, fY, fX, fG, dI, aT, dZ, fT, cQ, eX, fN, bY, bL, dU, aZ, dY, dO, cK, eI, eM, aY, dA, bE, dN, dS, dR, bM, cN, cM, dM, bR, cW, cV, fO, bV, eF, eN, gF, dX, eD, dL, cZ, bG, bQ, bT, bU, aR, cX, aU, d1, d2, c0, c1, e1, e2, g1, g2, oZ, d3]
    refine ⟨131074 - (n + 1), by omega, n + 1, rfl, rfl, .inl (by omega), by omega, fun j hj => ?_, hx.seq (jM.dr _ _)⟩
    by_cases hjn : j = n
    .subst hjn
     rw [aoM (by omega), aoM (by omega), hq]
    .exact h3 j (by omega)
   .have d3 : ((((B[old + n]'(by omega)).toNat : Int)) == (((B[at_ + n]'(by omega)).toNat : Nat) : Int)) = false := by
     rw [ZR]; simpa using hq
    simp (disch := omega) only [oM, gE, jE, cS, stepR_skip, hO, iA, iO, iM, iJ, iL, jH, iT, gL, iD, iF, iC, iH, hJ, iN, hU, iE, iR, iS, iI, gQ, iQ, iP, iG, kR, kQ, lE, lH, lG, lD, lF, lC, lB, gB, Result.ok.injEq, Next.value.injEq, true_and, and_true, gY, hZ, iV, iW, iU, jG, aoE, gV, gU, gX, gT, gM, gI, gN, gK, fZ, fU, if_true, if_false, aoD, aoH, aoF, aoG, aoJ, aoI, aoC, aoB, fM, fK, eZ, fQ, cU, eQ, eE, dJ, bO, fR, eS, aQ, cY, bF, bP, bJ, aI, cP, cB, eP, aF, gR, aK, cJ, aS, bS, fS, cC, cD, aB, gC, fC, aJ, aD, bH, gO, aP, eU, dT, dV, gG, dH, fH, dB, eH, eT, fD, cF, dF, gJ, dQ, cH, bA, bZ, cG, fP, aE, aG, aO, aV, bD, cL, bN, aA, fE, aM, cO, fI, eY, gH, bK, eK, eL, bW, fW, fF, eJ, dD, cR, dG, aW, bB, aH, gA, aL, dC, dW, aX, cI, fJ, dK, gD, fL, fA, fB, dP, aN, bX, dE, fY, fX, fG, dI, aT, dZ, fT, cQ, eX, fN, bY, bL, dU, aZ, dY, dO, cK, eI, eM, aY, dA, bE, dN, dS, dR, bM, cN, cM, dM, bR, cW, cV, fO, bV, eF, eN, gF, dX, eD, dL, cZ, bG, bQ, bT, bU, aR, cX, aU, d1, d2, c0, c1, e1, e2, g1, g2, oZ, d3]
    refine ⟨n, rfl, ⟨h1, h2, h3, .inr (.inr ?_)⟩, hx.seq (jM.dr _ _)⟩
    rw [aoM (by omega), aoM (by omega)]
    exact fun h => hq (apP h)
  .have d2 : decide ((n : Int) < 131074) = false := by simp; omega
   simp (disch := omega) only [oM, gE, jE, cS, stepR_skip, hO, iA, iO, iM, iJ, iL, jH, iT, gL, iD, iF, iC, iH, hJ, iN, hU, iE, iR, iS, iI, gQ, iQ, iP, iG, kR, kQ, lE, lH, lG, lD, lF, lC, lB, gB, Result.ok.injEq, Next.value.injEq, true_and, and_true, gY, hZ, iV, iW, iU, jG, aoE, gV, gU, gX, gT, gM, gI, gN, gK, fZ, fU, if_true, if_false, aoD, aoH, aoF, aoG, aoJ, aoI, aoC, aoB, fM, fK, eZ, fQ, cU, eQ, eE, dJ, bO, fR, eS, aQ, cY, bF, bP, bJ, aI, cP, cB, eP, aF, gR, aK, cJ, aS, bS, fS, cC, cD, aB, gC, fC, aJ, aD, bH, gO, aP, eU, dT, dV, gG, dH, fH, dB, eH, eT, fD, cF, dF, gJ, dQ, cH, bA, bZ, cG, fP, aE, aG, aO, aV, bD, cL, bN, aA, fE, aM, cO, fI, eY, gH, bK, eK, eL, bW, fW, fF, eJ, dD, cR, dG, aW, bB, aH, gA, aL, dC, dW, aX, cI, fJ, dK, gD, fL, fA, fB, dP, aN, bX, dE, fY, fX, fG, dI, aT, dZ, fT, cQ, eX, fN, bY, bL, dU, aZ, dY, dO, cK, eI, eM, aY, dA, bE, dN, dS, dR, bM, cN, cM, dM, bR, cW, cV, fO, bV, eF, eN, gF, dX, eD, dL, cZ, bG, bQ, bT, bU, aR, cX, aU, d1, d2, c0, c1]
   exact ⟨n, rfl, ⟨h1, h2, h3, .inl (by omega)⟩, hx.seq (jM.dr _ _)⟩
 .have d1 : decide ((at_ : Int) + (n : Int) < (to : Int)) = false := by simp; omega
  simp (disch := omega) only [oM, gE, jE, cS, stepR_skip, hO, iA, iO, iM, iJ, iL, jH, iT, gL, iD, iF, iC, iH, hJ, iN, hU, iE, iR, iS, iI, gQ, iQ, iP, iG, kR, kQ, lE, lH, lG, lD, lF, lC, lB, gB, Result.ok.injEq, Next.value.injEq, true_and, and_true, gY, hZ, iV, iW, iU, jG, aoE, gV, gU, gX, gT, gM, gI, gN, gK, fZ, fU, if_true, if_false, aoD, aoH, aoF, aoG, aoJ, aoI, aoC, aoB, fM, fK, eZ, fQ, cU, eQ, eE, dJ, bO, fR, eS, aQ, cY, bF, bP, bJ, aI, cP, cB, eP, aF, gR, aK, cJ, aS, bS, fS, cC, cD, aB, gC, fC, aJ, aD, bH, gO, aP, eU, dT, dV, gG, dH, fH, dB, eH, eT, fD, cF, dF, gJ, dQ, cH, bA, bZ, cG, fP, aE, aG, aO, aV, bD, cL, bN, aA, fE, aM, cO, fI, eY, gH, bK, eK, eL, bW, fW, fF, eJ, dD, cR, dG, aW, bB, aH, gA, aL, dC, dW, aX, cI, fJ, dK, gD, fL, fA, fB, dP, aN, bX, dE, fY, fX, fG, dI, aT, dZ, fT, cQ, eX, fN, bY, bL, dU, aZ, dY, dO, cK, eI, eM, aY, dA, bE, dN, dS, dR, bM, cN, cM, dM, bR, cW, cV, fO, bV, eF, eN, gF, dX, eD, dL, cZ, bG, bQ, bT, bU, aR, cX, aU, d1, c0, c1]
  exact ⟨n, rfl, ⟨h1, h2, h3, .inr (.inl (by omega))⟩, hx.seq (jM.dr _ _)⟩
theorem Lng.le_of {B : List UInt8} {to old at_ m n : Nat} (h : Lng B to old at_ m) (k : Lng B to old at_ n) : m <= n := by
 rcases aoT n m with hlt | hge
 .exfalso
  have h1 := h.le
  have h2 := h.most
  rcases k.full with f | f | f
  .omega
  .omega
  .exact f (h.same n hlt)
 .exact hge
def rO (B : List UInt8) (at_ : Nat) : Nf 4 := if h : at_ + 4 <= B.length then ⟨(B.drop at_).take 4, by simp; omega⟩ else ⟨[0, 0, 0, 0], rfl⟩
theorem ZP {w : atO} {p mb ab : Nat} {bv : atP} {B : List UInt8} {to tries : Nat} {es : List (Nf 4 × atP)} {A : List Int} (hf : V9 w p mb ab bv B to tries es A) (at_ : Nat) (ha : at_ <= B.length) :
 jD pg qX #[.pointer (some ⟨p, 0, none⟩), .int .i64 at_] w (fun r w' => r = .tuple #[RD (rO B at_), .bool (decide (at_ + 4 <= B.length))] /\ jM w w' mN) := by
 have hbig := hf.big
 refine Kg ?_
 simp (disch := omega) only [yX, Hm, gE, jE, cS, stepR_skip, hO, iA, iO, iM, iJ, iL, jH, iT, gL, iD, iF, iC, iH, hJ, iN, hU, iE, iR, iS, iI, gQ, iQ, iP, iG, kR, kQ, lE, lH, lG, lD, lF, lC, lB, gB, Result.ok.injEq, Next.value.injEq, true_and, and_true, gY, hZ, iV, iW, iU, jG, aoE, gV, gU, gX, gT, gM, gI, gN, gK, fZ, fU, if_true, if_false, aoD, aoH, aoF, aoG, aoJ, aoI, aoC, aoB, fM, fK, eZ, fQ, cU, eQ, eE, dJ, bO, fR, eS, aQ, cY, bF, bP, bJ, aI, cP, cB, eP, aF, gR, aK, cJ, aS, bS, fS, cC, cD, aB, gC, fC, aJ, aD, bH, gO, aP, eU, dT, dV, gG, dH, fH, dB, eH, eT, fD, cF, dF, gJ, dQ, cH, bA, bZ, cG, fP, aE, aG, aO, aV, bD, cL, bN, aA, fE, aM, cO, fI, eY, gH, bK, eK, eL, bW, fW, fF, eJ, dD, cR, dG, aW, bB, aH, gA, aL, dC, dW, aX, cI, fJ, dK, gD, fL, fA, fB, dP, aN, bX, dE, fY, fX, fG, dI, aT, dZ, fT, cQ, eX, fN, bY, bL, dU, aZ, dY, dO, cK, eI, eM, aY, dA, bE, dN, dS, dR, bM, cN, cM, dM, bR, cW, cV, fO, bV, eF, eN, gF, dX, eD, dL, cZ, bG, bQ, bT, bU, aR, cX, aU]
 refine Lk fun w1 o1 x1 s1 => ?_
 have hf := hf.same x1
 have c0 := hf.own.cell (off := 0)
 simp only [aoB] at c0
 obtain ⟨a, c, hv, hc⟩ := hf.bs.len
 simp only [aoK] at hv hc
 subst hv
 by_cases h4 : at_ + 4 <= B.length
 .have d : decide ((B.length : Int) < (at_ : Int) + 4) = false := by simp; omega
  obtain ⟨b, off, c', e, hc, hb⟩ := hf.bs.open (by omega)
  cases e
  have e1 : ((at_ : Int) + 4).toNat = at_ + 4 := by omega
  have e2 : at_ + 4 - at_ = 4 := by omega
  have sh := VQ (b := b) (o := off) (m := c) (l := at_) (by omega)
  have l1 := VZ (w := w1) (b := b) (off := off + at_) (l := ((B.drop at_).take 4).map oZ) (by simp; omega) (fun j hj => by
   have hj : j < 4 := by simp at hj; omega
   rw [arN, hb (at_ + j) (by omega), aoY, aqD hj, arV, aoM (by omega)] <;> rfl)
  simp (disch := omega) only [gE, jE, cS, stepR_skip, hO, iA, iO, iM, iJ, iL, jH, iT, gL, iD, iF, iC, iH, hJ, iN, hU, iE, iR, iS, iI, gQ, iQ, iP, iG, kR, kQ, lE, lH, lG, lD, lF, lC, lB, gB, Result.ok.injEq, Next.value.injEq, true_and, and_true, gY, hZ, iV, iW, iU, jG, aoE, gV, gU, gX, gT, gM, gI, gN, gK, fZ, fU, if_true, if_false, aoD, aoH, aoF, aoG, aoJ, aoI, aoC, aoB, fM, fK, eZ, fQ, cU, eQ, eE, dJ, bO, fR, eS, aQ, cY, bF, bP, bJ, aI, cP, cB, eP, aF, gR, aK, cJ, aS, bS, fS, cC, cD, aB, gC, fC, aJ, aD, bH, gO, aP, eU, dT, dV, gG, dH, fH, dB, eH, eT, fD, cF, dF, gJ, dQ, cH, bA, bZ, cG, fP, aE, aG, aO, aV, bD, cL, bN, aA, fE, aM, cO, fI, eY, gH, bK, eK, eL, bW, fW, fF, eJ, dD, cR, dG, aW, bB, aH, gA, aL, dC, dW, aX, cI, fJ, dK, gD, fL, fA, fB, dP, aN, bX, dE, fY, fX, fG, dI, aT, dZ, fT, cQ, eX, fN, bY, bL, dU, aZ, dY, dO, cK, eI, eM, aY, dA, bE, dN, dS, dR, bM, cN, cM, dM, bR, cW, cV, fO, bV, eF, eN, gF, dX, eD, dL, cZ, bG, bQ, bT, bU, aR, cX, aU, c0, d, e1, e2, sh, l1]
  refine FP o1 (by simp; omega) (DA _) (by simp) fun w2 o2 x2 s2 => ?_
  refine Qw o2 (by simp [Qx]) ⟨?_, x1.new x2 (aoP _)⟩
  rw [decide_eq_true h4]
  unfold RD rO
  rw [dif_pos h4]
  have : ∀ l : List atP, l.length = 4 -> ((qL [.int .u8 0, .int .u8 0, .int .u8 0, .int .u8 0] 0 l).drop 0).take 4 = l := by
   intro l hl
   match l, hl with
   | [a, b, c, d], _ => rfl
  simp only [this _ (show (((B.drop at_).take 4).map oZ).length = 4 by simp; omega)]
 .have d : decide ((B.length : Int) < (at_ : Int) + 4) = true := by simp; omega
  simp (disch := omega) only [gE, jE, cS, stepR_skip, hO, iA, iO, iM, iJ, iL, jH, iT, gL, iD, iF, iC, iH, hJ, iN, hU, iE, iR, iS, iI, gQ, iQ, iP, iG, kR, kQ, lE, lH, lG, lD, lF, lC, lB, gB, Result.ok.injEq, Next.value.injEq, true_and, and_true, gY, hZ, iV, iW, iU, jG, aoE, gV, gU, gX, gT, gM, gI, gN, gK, fZ, fU, if_true, if_false, aoD, aoH, aoF, aoG, aoJ, aoI, aoC, aoB, fM, fK, eZ, fQ, cU, eQ, eE, dJ, bO, fR, eS, aQ, cY, bF, bP, bJ, aI, cP, cB, eP, aF, gR, aK, cJ, aS, bS, fS, cC, cD, aB, gC, fC, aJ, aD, bH, gO, aP, eU, dT, dV, gG, dH, fH, dB, eH, eT, fD, cF, dF, gJ, dQ, cH, bA, bZ, cG, fP, aE, aG, aO, aV, bD, cL, bN, aA, fE, aM, cO, fI, eY, gH, bK, eK, eL, bW, fW, fF, eJ, dD, cR, dG, aW, bB, aH, gA, aL, dC, dW, aX, cI, fJ, dK, gD, fL, fA, fB, dP, aN, bX, dE, fY, fX, fG, dI, aT, dZ, fT, cQ, eX, fN, bY, bL, dU, aZ, dY, dO, cK, eI, eM, aY, dA, bE, dN, dS, dR, bM, cN, cM, dM, bR, cW, cV, fO, bV, eF, eN, gF, dX, eD, dL, cZ, bG, bQ, bT, bU, aR, cX, aU, c0, d]
  refine FP o1 rfl (by simp [one]) (by simp) fun w2 o2 x2 s2 => ?_
  refine Qw o2 (by simp [Qx]) ⟨?_, x1.new x2 (aoP _)⟩
  rw [decide_eq_false h4]
  unfold RD rO
  rw [dif_neg h4]
  rfl
structure Kept (n : Nat) (es : List (Nf 4 × atP)) (A : List Int) : Prop where
 es : ∀ q ∈ es, ∃ x : Nat, q.2 = .int .i64 x /\ x < n
 ah : ∀ i (h : i < A.length), -1 <= A[i] /\ A[i] <= i
theorem Kept.mono {n m : Nat} {es : List (Nf 4 × atP)} {A : List Int} (h : Kept n es A) (hm : n <= m) : Kept m es A :=
 ⟨fun q hq => let ⟨x, e, hx⟩ := h.es q hq; ⟨x, e, by omega⟩, h.ah⟩
theorem Kept.assoc {n : Nat} {es : List (Nf 4 × atP)} {A : List Int} (h : Kept n es A) {k : Nf 4} {v : atP} (he : En.assoc k es = some v) : ∃ x : Nat, v = .int .i64 x /\ x < n := h.es _ (aaU he)
theorem Kept.set {n i : Nat} {es : List (Nf 4 × atP)} {A : List Int} (h : Kept n es A) {x : Int} (h0 : -1 <= x) (h1 : x <= i) : Kept n es (A.set i x) :=
 ⟨h.es, fun j hj => by
   rw [List.getElem_set]
   split
   .rename_i e; subst e; exact ⟨h0, h1⟩
   .exact h.ah j _⟩
def noted (B : List UInt8) (at_ : Nat) (es : List (Nf 4 × atP)) : List (Nf 4 × atP) := if at_ + 4 <= B.length then Xv (rO B at_) (.int .i64 at_) es else es
theorem Kept.noted {at_ : Nat} {B : List UInt8} {es : List (Nf 4 × atP)} {A : List Int} (h : Kept (at_ + 1) es A) : Kept (at_ + 1) (noted B at_ es) A := by
 refine ⟨fun q hq => ?_, h.ah⟩
 unfold Go.Proofs.YtoecppploooloaaGreatDoor.noted at hq
 split at hq
 .rcases ZO hq with rfl | hq
  .exact ⟨at_, rfl, by omega⟩
  .exact h.es q hq
 .exact h.es q hq
theorem WT {w w' : atO} {p mb ab : Nat} {bv : atP} {B : List UInt8} {to tries at_ : Nat} {es : List (Nf 4 × atP)} {A : List Int} (hf : V9 w' p mb ab bv B to tries es A) (hk : Kept (at_ + 1) es A)
 (hd : p ≠ mb /\ p ≠ ab /\ mb ≠ ab) (hb : ¬ Lf bv fun b => b = mb ∨ b = ab) {kb : Nat} (hkb : mQ w' kb ((rO B at_).1.map oZ)) (hx : jM w w' fun b => b = mb ∨ b = ab)
 {R : atO -> Prop} (hR : ∀ w' A', V9 w' p mb ab bv B to tries (noted B at_ es) A' -> Kept (at_ + 1) (noted B at_ es) A' -> jM w w' (fun b => b = mb ∨ b = ab) -> R w') :
 oJ R (.pointer (some ⟨p, 0, none⟩)) (.int .i64 at_) (.pointer (some ⟨kb, 0, none⟩)) (.bool (decide (at_ + 4 <= B.length))) w' := by
 have hkept := hk.noted (B := B)
 have hn : noted B at_ es = if at_ + 4 <= B.length then Xv (rO B at_) (.int .i64 at_) es else es := rfl
 by_cases h4 : at_ + 4 <= B.length
 .rw [decide_eq_true h4]
  rw [if_pos h4] at hn
  rw [hn] at hR hkept
  have hf := hf.dr
  have hkb := GB hkb
  have c2 := hf.own.cell (off := 2)
  simp only [aoB, aoC] at c2
  have hlen := (rO B at_).2
  have l1 := Jp (off := 0) hkb (by simp [hlen])
  have l2 : (((rO B at_).1.map oZ).drop 0).take 4 = (rO B at_).1.map oZ := by rw [arF, aoU (by simp [hlen])]
  rw [l2] at l1
  simp (disch := omega) only [oJ, qW, rB, zG, gE, jE, cS, stepR_skip, hO, iA, iO, iM, iJ, iL, jH, iT, gL, iD, iF, iC, iH, hJ, iN, hU, iE, iR, iS, iI, gQ, iQ, iP, iG, kR, kQ, lE, lH, lG, lD, lF, lC, lB, gB, Result.ok.injEq, Next.value.injEq, true_and, and_true, gY, hZ, iV, iW, iU, jG, aoE, gV, gU, gX, gT, gM, gI, gN, gK, fZ, fU, if_true, if_false, aoD, aoH, aoF, aoG, aoJ, aoI, aoC, aoB, fM, fK, eZ, fQ, cU, eQ, eE, dJ, bO, fR, eS, aQ, cY, bF, bP, bJ, aI, cP, cB, eP, aF, gR, aK, cJ, aS, bS, fS, cC, cD, aB, gC, fC, aJ, aD, bH, gO, aP, eU, dT, dV, gG, dH, fH, dB, eH, eT, fD, cF, dF, gJ, dQ, cH, bA, bZ, cG, fP, aE, aG, aO, aV, bD, cL, bN, aA, fE, aM, cO, fI, eY, gH, bK, eK, eL, bW, fW, fF, eJ, dD, cR, dG, aW, bB, aH, gA, aL, dC, dW, aX, cI, fJ, dK, gD, fL, fA, fB, dP, aN, bX, dE, fY, fX, fG, dI, aT, dZ, fT, cQ, eX, fN, bY, bL, dU, aZ, dY, dO, cK, eI, eM, aY, dA, bE, dN, dS, dR, bM, cN, cM, dM, bR, cW, cV, fO, bV, eF, eN, gF, dX, eD, dL, cZ, bG, bQ, bT, bU, aR, cX, aU, c2, l1]
  refine NJ hf.map (rO B at_) _ fun w2 m2 x2 s2 => ?_
  refine hR w2 A ⟨hf.own.ext x2 hd.1, hf.bs.ext x2 (fun h => hb (B3 h fun _ => .inl)), m2, hf.ah.ext x2 (fun e => hd.2.2 e.symm), hf.len, hf.le, hf.big⟩ hkept ?_
  exact (hx.seq (jM.dr _ _)).seq (x2.mono fun b _ h => .inl h)
 .rw [decide_eq_false h4]
  rw [if_neg h4] at hn
  rw [hn] at hR hkept
  simp (disch := omega) only [oJ, qW, rB, zG, gE, jE, cS, stepR_skip, hO, iA, iO, iM, iJ, iL, jH, iT, gL, iD, iF, iC, iH, hJ, iN, hU, iE, iR, iS, iI, gQ, iQ, iP, iG, kR, kQ, lE, lH, lG, lD, lF, lC, lB, gB, Result.ok.injEq, Next.value.injEq, true_and, and_true, gY, hZ, iV, iW, iU, jG, aoE, gV, gU, gX, gT, gM, gI, gN, gK, fZ, fU, if_true, if_false, aoD, aoH, aoF, aoG, aoJ, aoI, aoC, aoB, fM, fK, eZ, fQ, cU, eQ, eE, dJ, bO, fR, eS, aQ, cY, bF, bP, bJ, aI, cP, cB, eP, aF, gR, aK, cJ, aS, bS, fS, cC, cD, aB, gC, fC, aJ, aD, bH, gO, aP, eU, dT, dV, gG, dH, fH, dB, eH, eT, fD, cF, dF, gJ, dQ, cH, bA, bZ, cG, fP, aE, aG, aO, aV, bD, cL, bN, aA, fE, aM, cO, fI, eY, gH, bK, eK, eL, bW, fW, fF, eJ, dD, cR, dG, aW, bB, aH, gA, aL, dC, dW, aX, cI, fJ, dK, gD, fL, fA, fB, dP, aN, bX, dE, fY, fX, fG, dI, aT, dZ, fT, cQ, eX, fN, bY, bL, dU, aZ, dY, dO, cK, eI, eM, aY, dA, bE, dN, dS, dR, bM, cN, cM, dM, bR, cW, cV, fO, bV, eF, eN, gF, dX, eD, dL, cZ, bG, bQ, bT, bU, aR, cX, aU]
  exact hR _ A hf hkept hx
theorem akO {w : atO} {p mb ab : Nat} {bv : atP} {B : List UInt8} {to tries at_ : Nat} {es : List (Nf 4 × atP)} {A : List Int} (hf : V9 w p mb ab bv B to tries es A) (hk : Kept (at_ + 1) es A)
 (hd : p ≠ mb /\ p ≠ ab /\ mb ≠ ab) (hb : ¬ Lf bv fun b => b = mb ∨ b = ab) (ha : at_ < to) :
 jD pg nY #[.pointer (some ⟨p, 0, none⟩), .int .i64 at_] w (fun _ w' => ∃ A', V9 w' p mb ab bv B to tries (noted B at_ es) A' /\ Kept (at_ + 1) (noted B at_ es) A' /\ jM w w' (fun b => b = mb ∨ b = ab)) := by
 have hle := hf.le
 have hbig := hf.big
 refine LI ?_
 unfold zG rB qW
 refine (ZP hf at_ (by omega)).mono ?_
 rintro r w1 ⟨rfl, x1⟩
 have hf := hf.same x1
 have hlen := (rO B at_).2
 simp (disch := omega) only [gE, jE, cS, stepR_skip, hO, iA, iO, iM, iJ, iL, jH, iT, gL, iD, iF, iC, iH, hJ, iN, hU, iE, iR, iS, iI, gQ, iQ, iP, iG, kR, kQ, lE, lH, lG, lD, lF, lC, lB, gB, Result.ok.injEq, Next.value.injEq, true_and, and_true, gY, hZ, iV, iW, iU, jG, aoE, gV, gU, gX, gT, gM, gI, gN, gK, fZ, fU, if_true, if_false, aoD, aoH, aoF, aoG, aoJ, aoI, aoC, aoB, fM, fK, eZ, fQ, cU, eQ, eE, dJ, bO, fR, eS, aQ, cY, bF, bP, bJ, aI, cP, cB, eP, aF, gR, aK, cJ, aS, bS, fS, cC, cD, aB, gC, fC, aJ, aD, bH, gO, aP, eU, dT, dV, gG, dH, fH, dB, eH, eT, fD, cF, dF, gJ, dQ, cH, bA, bZ, cG, fP, aE, aG, aO, aV, bD, cL, bN, aA, fE, aM, cO, fI, eY, gH, bK, eK, eL, bW, fW, fF, eJ, dD, cR, dG, aW, bB, aH, gA, aL, dC, dW, aX, cI, fJ, dK, gD, fL, fA, fB, dP, aN, bX, dE, fY, fX, fG, dI, aT, dZ, fT, cQ, eX, fN, bY, bL, dU, aZ, dY, dO, cK, eI, eM, aY, dA, bE, dN, dS, dR, bM, cN, cM, dM, bR, cW, cV, fO, bV, eF, eN, gF, dX, eD, dL, cZ, bG, bQ, bT, bU, aR, cX, aU]
 refine Lk fun w2 o2 x2 s2 => ?_
 have hp1 := hf.own.lt
 have hm1 := hf.map.lt
 have ha1 := hf.ah.lt
 refine FP o2 (by simp [hlen]) (DA _) (by simp) fun w3 o3 x3 s3 => ?_
 have e3 : qL [.int .u8 0, .int .u8 0, .int .u8 0, .int .u8 0] 0 ((rO B at_).1.map oZ) = (rO B at_).1.map oZ := by
  generalize (rO B at_).1.map oZ = l, (show ((rO B at_).1.map oZ).length = 4 by simp [hlen]) = hl
  match l, hl with
  | [a, b, c, d], _ => rfl
 simp only [List.toList_toArray] at o3
 rw [e3] at o3
 have x13 : jM w1 w3 mN := (jM.refl _ _).seq (x2.new x3 (aoP _))
 have hf3 := (hf.same x13).dr
 have hkb := GB o3
 have c2 := hf3.own.cell (off := 2)
 have c3 := hf3.own.cell (off := 3)
 simp only [aoB, aoC] at c2 c3
 have l1 := Jp (off := 0) hkb (by simp [hlen])
 have l2 : (((rO B at_).1.map oZ).drop 0).take 4 = (rO B at_).1.map oZ := by rw [arF, aoU (by simp [hlen])]
 rw [l2] at l1
 have l3 := Gh hf3.map (rO B at_)
 unfold RD at l3
 have hx0 : jM w (dr w3) (fun b => b = mb ∨ b = ab) := ((x1.seq x13).seq (jM.dr _ _)).mono fun _ _ h => h.elim
 have hnew : ∀ x : Int, -1 <= x -> x <= at_ -> gE pg (kA 3 (.pointer (some ⟨ab, at_, none⟩)) (.int .i64 x)) (dr w3) fun _ w' =>
     oJ (fun w' => ∃ A', V9 w' p mb ab bv B to tries (noted B at_ es) A' /\ Kept (at_ + 1) (noted B at_ es) A' /\ jM w w' (fun b => b = mb ∨ b = ab)) (.pointer (some ⟨p, 0, none⟩)) (.int .i64 at_) (.pointer (some ⟨w1.heap.size, 0, none⟩)) (.bool (decide (at_ + 4 <= B.length))) w' := by
  intro x h0 h1
  refine Lt hf3.ah rfl (by simp [hf3.len]; omega) fun w4 o4 x4 s4 => ?_
  rw [<- asI] at o4
  have hab : ¬ w1.heap.size = ab := by omega
  refine WT (w := w) ⟨hf3.own.ext x4 hd.2.1, hf3.bs.ext x4 (fun h => hb (B3 h fun _ => .inr)), hf3.map.ext x4 hd.2.2, o4, by simp [hf3.len], hf3.le, hf3.big⟩ (hk.set h0 h1) hd hb (hkb.ext x4 hab) (hx0.seq (x4.mono fun b _ h => .inr h)) fun w' A' a b c => ⟨A', a, b, c⟩
 by_cases h4 : at_ + 4 <= B.length
 .rw [decide_eq_true h4] at hnew ⊢
  cases ha : En.assoc (rO B at_) es with
  | none =>
    rw [ha] at l3
    simp only [Option.getD_none, Option.isSome_none] at l3
    simp (disch := omega) only [gE, jE, cS, stepR_skip, hO, iA, iO, iM, iJ, iL, jH, iT, gL, iD, iF, iC, iH, hJ, iN, hU, iE, iR, iS, iI, gQ, iQ, iP, iG, kR, kQ, lE, lH, lG, lD, lF, lC, lB, gB, Result.ok.injEq, Next.value.injEq, true_and, and_true, gY, hZ, iV, iW, iU, jG, aoE, gV, gU, gX, gT, gM, gI, gN, gK, fZ, fU, if_true, if_false, aoD, aoH, aoF, aoG, aoJ, aoI, aoC, aoB, fM, fK, eZ, fQ, cU, eQ, eE, dJ, bO, fR, eS, aQ, cY, bF, bP, bJ, aI, cP, cB, eP, aF, gR, aK, cJ, aS, bS, fS, cC, cD, aB, gC, fC, aJ, aD, bH, gO, aP, eU, dT, dV, gG, dH, fH, dB, eH, eT, fD, cF, dF, gJ, dQ, cH, bA, bZ, cG, fP, aE, aG, aO, aV, bD, cL, bN, aA, fE, aM, cO, fI, eY, gH, bK, eK, eL, bW, fW, fF, eJ, dD, cR, dG, aW, bB, aH, gA, aL, dC, dW, aX, cI, fJ, dK, gD, fL, fA, fB, dP, aN, bX, dE, fY, fX, fG, dI, aT, dZ, fT, cQ, eX, fN, bY, bL, dU, aZ, dY, dO, cK, eI, eM, aY, dA, bE, dN, dS, dR, bM, cN, cM, dM, bR, cW, cV, fO, bV, eF, eN, gF, dX, eD, dL, cZ, bG, bQ, bT, bU, aR, cX, aU, c2, c3, l1, l3]
    exact hnew _ (by omega) (by omega)
  | some v =>
    obtain ⟨x, rfl, hx⟩ := hk.assoc ha
    rw [ha] at l3
    simp only [arK, Option.isSome_some] at l3
    by_cases hxa : x < at_
    .have d : decide ((x : Int) < (at_ : Int)) = true := by simp; omega
     simp (disch := omega) only [gE, jE, cS, stepR_skip, hO, iA, iO, iM, iJ, iL, jH, iT, gL, iD, iF, iC, iH, hJ, iN, hU, iE, iR, iS, iI, gQ, iQ, iP, iG, kR, kQ, lE, lH, lG, lD, lF, lC, lB, gB, Result.ok.injEq, Next.value.injEq, true_and, and_true, gY, hZ, iV, iW, iU, jG, aoE, gV, gU, gX, gT, gM, gI, gN, gK, fZ, fU, if_true, if_false, aoD, aoH, aoF, aoG, aoJ, aoI, aoC, aoB, fM, fK, eZ, fQ, cU, eQ, eE, dJ, bO, fR, eS, aQ, cY, bF, bP, bJ, aI, cP, cB, eP, aF, gR, aK, cJ, aS, bS, fS, cC, cD, aB, gC, fC, aJ, aD, bH, gO, aP, eU, dT, dV, gG, dH, fH, dB, eH, eT, fD, cF, dF, gJ, dQ, cH, bA, bZ, cG, fP, aE, aG, aO, aV, bD, cL, bN, aA, fE, aM, cO, fI, eY, gH, bK, eK, eL, bW, fW, fF, eJ, dD, cR, dG, aW, bB, aH, gA, aL, dC, dW, aX, cI, fJ, dK, gD, fL, fA, fB, dP, aN, bX, dE, fY, fX, fG, dI, aT, dZ, fT, cQ, eX, fN, bY, bL, dU, aZ, dY, dO, cK, eI, eM, aY, dA, bE, dN, dS, dR, bM, cN, cM, dM, bR, cW, cV, fO, bV, eF, eN, gF, dX, eD, dL, cZ, bG, bQ, bT, bU, aR, cX, aU, c2, c3, l1, l3, d]
     exact hnew _ (by omega) (by omega)
    .have d : decide ((x : Int) < (at_ : Int)) = false := by simp; omega
     simp (disch := omega) only [gE, jE, cS, stepR_skip, hO, iA, iO, iM, iJ, iL, jH, iT, gL, iD, iF, iC, iH, hJ, iN, hU, iE, iR, iS, iI, gQ, iQ, iP, iG, kR, kQ, lE, lH, lG, lD, lF, lC, lB, gB, Result.ok.injEq, Next.value.injEq, true_and, and_true, gY, hZ, iV, iW, iU, jG, aoE, gV, gU, gX, gT, gM, gI, gN, gK, fZ, fU, if_true, if_false, aoD, aoH, aoF, aoG, aoJ, aoI, aoC, aoB, fM, fK, eZ, fQ, cU, eQ, eE, dJ, bO, fR, eS, aQ, cY, bF, bP, bJ, aI, cP, cB, eP, aF, gR, aK, cJ, aS, bS, fS, cC, cD, aB, gC, fC, aJ, aD, bH, gO, aP, eU, dT, dV, gG, dH, fH, dB, eH, eT, fD, cF, dF, gJ, dQ, cH, bA, bZ, cG, fP, aE, aG, aO, aV, bD, cL, bN, aA, fE, aM, cO, fI, eY, gH, bK, eK, eL, bW, fW, fF, eJ, dD, cR, dG, aW, bB, aH, gA, aL, dC, dW, aX, cI, fJ, dK, gD, fL, fA, fB, dP, aN, bX, dE, fY, fX, fG, dI, aT, dZ, fT, cQ, eX, fN, bY, bL, dU, aZ, dY, dO, cK, eI, eM, aY, dA, bE, dN, dS, dR, bM, cN, cM, dM, bR, cW, cV, fO, bV, eF, eN, gF, dX, eD, dL, cZ, bG, bQ, bT, bU, aR, cX, aU, c2, c3, l1, l3, d]
     have := WT (w := w) hf3 hk hd hb hkb hx0 (R := fun w' => ∃ A', V9 w' p mb ab bv B to tries (noted B at_ es) A' /\ Kept (at_ + 1) (noted B at_ es) A' /\ jM w w' (fun b => b = mb ∨ b = ab)) fun w' A' a b c => ⟨A', a, b, c⟩
     rwa [decide_eq_true h4] at this
 .rw [decide_eq_false h4] at hnew ⊢
  simp (disch := omega) only [gE, jE, cS, stepR_skip, hO, iA, iO, iM, iJ, iL, jH, iT, gL, iD, iF, iC, iH, hJ, iN, hU, iE, iR, iS, iI, gQ, iQ, iP, iG, kR, kQ, lE, lH, lG, lD, lF, lC, lB, gB, Result.ok.injEq, Next.value.injEq, true_and, and_true, gY, hZ, iV, iW, iU, jG, aoE, gV, gU, gX, gT, gM, gI, gN, gK, fZ, fU, if_true, if_false, aoD, aoH, aoF, aoG, aoJ, aoI, aoC, aoB, fM, fK, eZ, fQ, cU, eQ, eE, dJ, bO, fR, eS, aQ, cY, bF, bP, bJ, aI, cP, cB, eP, aF, gR, aK, cJ, aS, bS, fS, cC, cD, aB, gC, fC, aJ, aD, bH, gO, aP, eU, dT, dV, gG, dH, fH, dB, eH, eT, fD, cF, dF, gJ, dQ, cH, bA, bZ, cG, fP, aE, aG, aO, aV, bD, cL, bN, aA, fE, aM, cO, fI, eY, gH, bK, eK, eL, bW, fW, fF, eJ, dD, cR, dG, aW, bB, aH, gA, aL, dC, dW, aX, cI, fJ, dK, gD, fL, fA, fB, dP, aN, bX, dE, fY, fX, fG, dI, aT, dZ, fT, cQ, eX, fN, bY, bL, dU, aZ, dY, dO, cK, eI, eM, aY, dA, bE, dN, dS, dR, bM, cN, cM, dM, bR, cW, cV, fO, bV, eF, eN, gF, dX, eD, dL, cZ, bG, bQ, bT, bU, aR, cX, aU, c2, c3, l1, l3]
  exact hnew _ (by omega) (by omega)
structure Bst (B : List UInt8) (to at_ n off : Nat) : Prop where
 one : (n = 0 /\ off = 0) ∨ (0 < n /\ 1 <= off /\ off <= at_ /\ Lng B to (at_ - off) at_ n)
theorem aaR {w0 w : atO} {p mb ab : Nat} {bv : atP} {B : List UInt8} {to tries at_ : Nat} {es : List (Nf 4 × atP)} {A : List Int} (hf : V9 w0 p mb ab bv B to tries es A) (hk : Kept at_ es A) (ha : at_ <= to) (ht : tries <= 1048576) (old0 : Nat) (ho : old0 < at_)
 (hx : jM w0 w mN) {k : atP -> atP -> atO -> Prop}
 (hR : ∀ (n off : Nat) w', Bst B to at_ n off -> (1 <= tries -> ∀ m, Lng B to old0 at_ m -> m <= n) -> jM w0 w' mN -> k (.int .i64 n) (.int .i64 off) w') :
 sY k (.pointer (some ⟨p, 0, none⟩)) (.int .i64 at_) (.int .i64 old0) (.int .i64 0) (.int .i64 0) (.int .i64 tries) (.int .i64 0) w := by
 have hle := hf.le
 have hbig := hf.big
 have hl := hf.len
 unfold sY
 refine kE.rule (fun m t w' => ∃ old n off i : Nat, m = tries - i /\ t = (.int .i64 old, .int .i64 n, .int .i64 off, .int .i64 i) /\ i <= tries /\ old < at_ /\ Bst B to at_ n off /\ (i = 0 -> old = old0) /\ (0 < i -> ∀ m, Lng B to old0 at_ m -> m <= n) /\ n <= 131074 /\ jM w0 w' mN) tries
  ⟨old0, 0, 0, 0, rfl, rfl, by omega, ho, ⟨.inl ⟨rfl, rfl⟩⟩, fun _ => rfl, fun h => by omega, by omega, hx⟩ ?_
 rintro m t w1 ⟨old, n, off, i, rfl, rfl, hi, hold, hb, h0, h1, hn, hx⟩
 by_cases hlt : i < tries
 .have d1 : decide ((i : Int) < (tries : Int)) = true := by simp; omega
  simp (disch := omega) only [oT, mB, pR, rE, pN, pT, pO, oN, gE, jE, cS, stepR_skip, hO, iA, iO, iM, iJ, iL, jH, iT, gL, iD, iF, iC, iH, hJ, iN, hU, iE, iR, iS, iI, gQ, iQ, iP, iG, kR, kQ, lE, lH, lG, lD, lF, lC, lB, gB, Result.ok.injEq, Next.value.injEq, true_and, and_true, gY, hZ, iV, iW, iU, jG, aoE, gV, gU, gX, gT, gM, gI, gN, gK, fZ, fU, if_true, if_false, aoD, aoH, aoF, aoG, aoJ, aoI, aoC, aoB, fM, fK, eZ, fQ, cU, eQ, eE, dJ, bO, fR, eS, aQ, cY, bF, bP, bJ, aI, cP, cB, eP, aF, gR, aK, cJ, aS, bS, fS, cC, cD, aB, gC, fC, aJ, aD, bH, gO, aP, eU, dT, dV, gG, dH, fH, dB, eH, eT, fD, cF, dF, gJ, dQ, cH, bA, bZ, cG, fP, aE, aG, aO, aV, bD, cL, bN, aA, fE, aM, cO, fI, eY, gH, bK, eK, eL, bW, fW, fF, eJ, dD, cR, dG, aW, bB, aH, gA, aL, dC, dW, aX, cI, fJ, dK, gD, fL, fA, fB, dP, aN, bX, dE, fY, fX, fG, dI, aT, dZ, fT, cQ, eX, fN, bY, bL, dU, aZ, dY, dO, cK, eI, eM, aY, dA, bE, dN, dS, dR, bM, cN, cM, dM, bR, cW, cV, fO, bV, eF, eN, gF, dX, eD, dL, cZ, bG, bQ, bT, bU, aR, cX, aU, d1]
  refine (akP (hf.same hx) old at_ hold (by omega)).mono ?_
  rintro r w2 ⟨n2, rfl, hl2, x2⟩
  have hx := hx.seq x2
  have hf2 := hf.same hx
  have c3 := hf2.own.cell (off := 3)
  simp only [aoB, aoC] at c3
  have hA := hk.ah old (by omega)
  have cA := hf2.ah.cell (off := old)
  rw [aoY, aoM (by omega)] at cA
  simp only [apM] at cA
  have step : ∀ (n3 off3 : Nat), Bst B to at_ n3 off3 -> (∀ m, Lng B to old at_ m -> m <= n3) -> n <= n3 -> n3 <= 131074 -> mB (fun _ _ mW jV kS _ t36 w => ∃ m', m' < tries - i /\ ∃ old n off i : Nat, m' = tries - i /\ (mW, jV, kS, IntKind.i64 |> fun k => (match t36 with | .int _ x => Value.int k (k.wrap (x + 1)) | v => v)) = ((.int .i64 old : atP), (.int .i64 n : atP), (.int .i64 off : atP), (.int .i64 i : atP)) /\ i <= tries /\ old < at_ /\ Bst B to at_ n off /\ (i = 0 -> old = old0) /\ (0 < i -> ∀ m, Lng B to old0 at_ m -> m <= n) /\ n <= 131074 /\ jM w0 w mN) k (.pointer (some ⟨p, 0, none⟩)) (.int .i64 at_) (.int .i64 old) (.int .i64 n3) (.int .i64 off3) (.int .i64 tries) (.int .i64 i) w2 := by
   intro n3 off3 hb3 hm3 hn3 h3m
   have hbest : ∀ m, Lng B to old0 at_ m -> m <= n3 := fun m hm => by
    rcases arE i with h | h
    .rw [<- h0 h] at hm; exact hm3 m hm
    .exact aqC (h1 h m hm) hn3
   by_cases hneg : A[old] < 0
   .have d2 : decide (A[old] < 0) = true := by simpa using hneg
    simp (disch := omega) only [oT, mB, pR, rE, pN, pT, pO, oN, gE, jE, cS, stepR_skip, hO, iA, iO, iM, iJ, iL, jH, iT, gL, iD, iF, iC, iH, hJ, iN, hU, iE, iR, iS, iI, gQ, iQ, iP, iG, kR, kQ, lE, lH, lG, lD, lF, lC, lB, gB, Result.ok.injEq, Next.value.injEq, true_and, and_true, gY, hZ, iV, iW, iU, jG, aoE, gV, gU, gX, gT, gM, gI, gN, gK, fZ, fU, if_true, if_false, aoD, aoH, aoF, aoG, aoJ, aoI, aoC, aoB, fM, fK, eZ, fQ, cU, eQ, eE, dJ, bO, fR, eS, aQ, cY, bF, bP, bJ, aI, cP, cB, eP, aF, gR, aK, cJ, aS, bS, fS, cC, cD, aB, gC, fC, aJ, aD, bH, gO, aP, eU, dT, dV, gG, dH, fH, dB, eH, eT, fD, cF, dF, gJ, dQ, cH, bA, bZ, cG, fP, aE, aG, aO, aV, bD, cL, bN, aA, fE, aM, cO, fI, eY, gH, bK, eK, eL, bW, fW, fF, eJ, dD, cR, dG, aW, bB, aH, gA, aL, dC, dW, aX, cI, fJ, dK, gD, fL, fA, fB, dP, aN, bX, dE, fY, fX, fG, dI, aT, dZ, fT, cQ, eX, fN, bY, bL, dU, aZ, dY, dO, cK, eI, eM, aY, dA, bE, dN, dS, dR, bM, cN, cM, dM, bR, cW, cV, fO, bV, eF, eN, gF, dX, eD, dL, cZ, bG, bQ, bT, bU, aR, cX, aU, c3, cA, d2]
    exact hR _ _ _ hb3 (fun _ => hbest) hx
   .have d2 : decide (A[old] < 0) = false := by simpa using hneg
    simp (disch := omega) only [oT, mB, pR, rE, pN, pT, pO, oN, gE, jE, cS, stepR_skip, hO, iA, iO, iM, iJ, iL, jH, iT, gL, iD, iF, iC, iH, hJ, iN, hU, iE, iR, iS, iI, gQ, iQ, iP, iG, kR, kQ, lE, lH, lG, lD, lF, lC, lB, gB, Result.ok.injEq, Next.value.injEq, true_and, and_true, gY, hZ, iV, iW, iU, jG, aoE, gV, gU, gX, gT, gM, gI, gN, gK, fZ, fU, if_true, if_false, aoD, aoH, aoF, aoG, aoJ, aoI, aoC, aoB, fM, fK, eZ, fQ, cU, eQ, eE, dJ, bO, fR, eS, aQ, cY, bF, bP, bJ, aI, cP, cB, eP, aF, gR, aK, cJ, aS, bS, fS, cC, cD, aB, gC, fC, aJ, aD, bH, gO, aP, eU, dT, dV, gG, dH, fH, dB, eH, eT, fD, cF, dF, gJ, dQ, cH, bA, bZ, cG, fP, aE, aG, aO, aV, bD, cL, bN, aA, fE, aM, cO, fI, eY, gH, bK, eK, eL, bW, fW, fF, eJ, dD, cR, dG, aW, bB, aH, gA, aL, dC, dW, aX, cI, fJ, dK, gD, fL, fA, fB, dP, aN, bX, dE, fY, fX, fG, dI, aT, dZ, fT, cQ, eX, fN, bY, bL, dU, aZ, dY, dO, cK, eI, eM, aY, dA, bE, dN, dS, dR, bM, cN, cM, dM, bR, cW, cV, fO, bV, eF, eN, gF, dX, eD, dL, cZ, bG, bQ, bT, bU, aR, cX, aU, c3, cA, d2]
    have e : A[old] = ((A[old].toNat : Nat) : Int) := by omega
    refine ⟨tries - (i + 1), by omega, A[old].toNat, n3, off3, i + 1, rfl, ?_, by omega, by omega, hb3, fun h => by omega, fun _ => hbest, h3m, hx⟩
    rw [<- e]
    rfl
  by_cases hg : n < n2
  .have d2 : decide ((n : Int) < (n2 : Int)) = true := by simp; omega
   have := step n2 (at_ - old) ⟨.inr ⟨by omega, by omega, by omega, by rw [show at_ - (at_ - old) = old from by omega]; exact hl2⟩⟩ (fun m hm => hm.le_of hl2) (by omega) hl2.most
   have e1 : ((at_ : Int) - (old : Int)) = ((at_ - old : Nat) : Int) := by omega
   unfold mB at this
   simp (disch := omega) only [gE, jE, cS, stepR_skip, hO, iA, iO, iM, iJ, iL, jH, iT, gL, iD, iF, iC, iH, hJ, iN, hU, iE, iR, iS, iI, gQ, iQ, iP, iG, kR, kQ, lE, lH, lG, lD, lF, lC, lB, gB, Result.ok.injEq, Next.value.injEq, true_and, and_true, gY, hZ, iV, iW, iU, jG, aoE, gV, gU, gX, gT, gM, gI, gN, gK, fZ, fU, if_true, if_false, aoD, aoH, aoF, aoG, aoJ, aoI, aoC, aoB, fM, fK, eZ, fQ, cU, eQ, eE, dJ, bO, fR, eS, aQ, cY, bF, bP, bJ, aI, cP, cB, eP, aF, gR, aK, cJ, aS, bS, fS, cC, cD, aB, gC, fC, aJ, aD, bH, gO, aP, eU, dT, dV, gG, dH, fH, dB, eH, eT, fD, cF, dF, gJ, dQ, cH, bA, bZ, cG, fP, aE, aG, aO, aV, bD, cL, bN, aA, fE, aM, cO, fI, eY, gH, bK, eK, eL, bW, fW, fF, eJ, dD, cR, dG, aW, bB, aH, gA, aL, dC, dW, aX, cI, fJ, dK, gD, fL, fA, fB, dP, aN, bX, dE, fY, fX, fG, dI, aT, dZ, fT, cQ, eX, fN, bY, bL, dU, aZ, dY, dO, cK, eI, eM, aY, dA, bE, dN, dS, dR, bM, cN, cM, dM, bR, cW, cV, fO, bV, eF, eN, gF, dX, eD, dL, cZ, bG, bQ, bT, bU, aR, cX, aU, d2, e1, c3, cA]
   simp (disch := omega) only [gE, jE, cS, stepR_skip, hO, iA, iO, iM, iJ, iL, jH, iT, gL, iD, iF, iC, iH, hJ, iN, hU, iE, iR, iS, iI, gQ, iQ, iP, iG, kR, kQ, lE, lH, lG, lD, lF, lC, lB, gB, Result.ok.injEq, Next.value.injEq, true_and, and_true, gY, hZ, iV, iW, iU, jG, aoE, gV, gU, gX, gT, gM, gI, gN, gK, fZ, fU, if_true, if_false, aoD, aoH, aoF, aoG, aoJ, aoI, aoC, aoB, fM, fK, eZ, fQ, cU, eQ, eE, dJ, bO, fR, eS, aQ, cY, bF, bP, bJ, aI, cP, cB, eP, aF, gR, aK, cJ, aS, bS, fS, cC, cD, aB, gC, fC, aJ, aD, bH, gO, aP, eU, dT, dV, gG, dH, fH, dB, eH, eT, fD, cF, dF, gJ, dQ, cH, bA, bZ, cG, fP, aE, aG, aO, aV, bD, cL, bN, aA, fE, aM, cO, fI, eY, gH, bK, eK, eL, bW, fW, fF, eJ, dD, cR, dG, aW, bB, aH, gA, aL, dC, dW, aX, cI, fJ, dK, gD, fL, fA, fB, dP, aN, bX, dE, fY, fX, fG, dI, aT, dZ, fT, cQ, eX, fN, bY, bL, dU, aZ, dY, dO, cK, eI, eM, aY, dA, bE, dN, dS, dR, bM, cN, cM, dM, bR, cW, cV, fO, bV, eF, eN, gF, dX, eD, dL, cZ, bG, bQ, bT, bU, aR, cX, aU, c3, cA] at this
   exact this
  .have d2 : decide ((n : Int) < (n2 : Int)) = false := by simp; omega
   have := step n off hb (fun m hm => aqC (hm.le_of hl2) (by omega)) (aoP _) hn
   unfold mB at this
   simp (disch := omega) only [gE, jE, cS, stepR_skip, hO, iA, iO, iM, iJ, iL, jH, iT, gL, iD, iF, iC, iH, hJ, iN, hU, iE, iR, iS, iI, gQ, iQ, iP, iG, kR, kQ, lE, lH, lG, lD, lF, lC, lB, gB, Result.ok.injEq, Next.value.injEq, true_and, and_true, gY, hZ, iV, iW, iU, jG, aoE, gV, gU, gX, gT, gM, gI, gN, gK, fZ, fU, if_true, if_false, aoD, aoH, aoF, aoG, aoJ, aoI, aoC, aoB, fM, fK, eZ, fQ, cU, eQ, eE, dJ, bO, fR, eS, aQ, cY, bF, bP, bJ, aI, cP, cB, eP, aF, gR, aK, cJ, aS, bS, fS, cC, cD, aB, gC, fC, aJ, aD, bH, gO, aP, eU, dT, dV, gG, dH, fH, dB, eH, eT, fD, cF, dF, gJ, dQ, cH, bA, bZ, cG, fP, aE, aG, aO, aV, bD, cL, bN, aA, fE, aM, cO, fI, eY, gH, bK, eK, eL, bW, fW, fF, eJ, dD, cR, dG, aW, bB, aH, gA, aL, dC, dW, aX, cI, fJ, dK, gD, fL, fA, fB, dP, aN, bX, dE, fY, fX, fG, dI, aT, dZ, fT, cQ, eX, fN, bY, bL, dU, aZ, dY, dO, cK, eI, eM, aY, dA, bE, dN, dS, dR, bM, cN, cM, dM, bR, cW, cV, fO, bV, eF, eN, gF, dX, eD, dL, cZ, bG, bQ, bT, bU, aR, cX, aU, d2, c3, cA]
   simp (disch := omega) only [gE, jE, cS, stepR_skip, hO, iA, iO, iM, iJ, iL, jH, iT, gL, iD, iF, iC, iH, hJ, iN, hU, iE, iR, iS, iI, gQ, iQ, iP, iG, kR, kQ, lE, lH, lG, lD, lF, lC, lB, gB, Result.ok.injEq, Next.value.injEq, true_and, and_true, gY, hZ, iV, iW, iU, jG, aoE, gV, gU, gX, gT, gM, gI, gN, gK, fZ, fU, if_true, if_false, aoD, aoH, aoF, aoG, aoJ, aoI, aoC, aoB, fM, fK, eZ, fQ, cU, eQ, eE, dJ, bO, fR, eS, aQ, cY, bF, bP, bJ, aI, cP, cB, eP, aF, gR, aK, cJ, aS, bS, fS, cC, cD, aB, gC, fC, aJ, aD, bH, gO, aP, eU, dT, dV, gG, dH, fH, dB, eH, eT, fD, cF, dF, gJ, dQ, cH, bA, bZ, cG, fP, aE, aG, aO, aV, bD, cL, bN, aA, fE, aM, cO, fI, eY, gH, bK, eK, eL, bW, fW, fF, eJ, dD, cR, dG, aW, bB, aH, gA, aL, dC, dW, aX, cI, fJ, dK, gD, fL, fA, fB, dP, aN, bX, dE, fY, fX, fG, dI, aT, dZ, fT, cQ, eX, fN, bY, bL, dU, aZ, dY, dO, cK, eI, eM, aY, dA, bE, dN, dS, dR, bM, cN, cM, dM, bR, cW, cV, fO, bV, eF, eN, gF, dX, eD, dL, cZ, bG, bQ, bT, bU, aR, cX, aU, c3, cA] at this
   exact this
 .have d1 : decide ((i : Int) < (tries : Int)) = false := by simp; omega
  simp (disch := omega) only [oT, mB, pR, rE, pN, pT, pO, oN, gE, jE, cS, stepR_skip, hO, iA, iO, iM, iJ, iL, jH, iT, gL, iD, iF, iC, iH, hJ, iN, hU, iE, iR, iS, iI, gQ, iQ, iP, iG, kR, kQ, lE, lH, lG, lD, lF, lC, lB, gB, Result.ok.injEq, Next.value.injEq, true_and, and_true, gY, hZ, iV, iW, iU, jG, aoE, gV, gU, gX, gT, gM, gI, gN, gK, fZ, fU, if_true, if_false, aoD, aoH, aoF, aoG, aoJ, aoI, aoC, aoB, fM, fK, eZ, fQ, cU, eQ, eE, dJ, bO, fR, eS, aQ, cY, bF, bP, bJ, aI, cP, cB, eP, aF, gR, aK, cJ, aS, bS, fS, cC, cD, aB, gC, fC, aJ, aD, bH, gO, aP, eU, dT, dV, gG, dH, fH, dB, eH, eT, fD, cF, dF, gJ, dQ, cH, bA, bZ, cG, fP, aE, aG, aO, aV, bD, cL, bN, aA, fE, aM, cO, fI, eY, gH, bK, eK, eL, bW, fW, fF, eJ, dD, cR, dG, aW, bB, aH, gA, aL, dC, dW, aX, cI, fJ, dK, gD, fL, fA, fB, dP, aN, bX, dE, fY, fX, fG, dI, aT, dZ, fT, cQ, eX, fN, bY, bL, dU, aZ, dY, dO, cK, eI, eM, aY, dA, bE, dN, dS, dR, bM, cN, cM, dM, bR, cW, cV, fO, bV, eF, eN, gF, dX, eD, dL, cZ, bG, bQ, bT, bU, aR, cX, aU, d1]
  exact hR _ _ _ hb (fun ht => h1 (by omega)) hx
theorem adZ {w : atO} {p mb ab : Nat} {bv : atP} {B : List UInt8} {to tries at_ : Nat} {es : List (Nf 4 × atP)} {A : List Int} (hf : V9 w p mb ab bv B to tries es A) (hk : Kept at_ es A) (ha : at_ <= to) (ht : tries <= 1048576) :
 jD pg rU #[.pointer (some ⟨p, 0, none⟩), .int .i64 at_] w (fun r w' => ∃ n off : Nat, r = .tuple #[.int .i64 n, .int .i64 off] /\ Bst B to at_ n off /\
  (at_ + 4 <= B.length -> 1 <= tries -> ∀ old : Nat, assoc (rO B at_) es = some (.int .i64 old) -> ∀ m, Lng B to old at_ m -> m <= n) /\ jM w w' mN) := by
 have hle := hf.le
 have hbig := hf.big
 refine Lu ?_
 unfold I5 yO yS yT Eu yR
 refine (ZP hf at_ (by omega)).mono ?_
 rintro r w1 ⟨rfl, x1⟩
 have hf1 := hf.same x1
 have hlen := (rO B at_).2
 simp (disch := omega) only [gE, jE, cS, stepR_skip, hO, iA, iO, iM, iJ, iL, jH, iT, gL, iD, iF, iC, iH, hJ, iN, hU, iE, iR, iS, iI, gQ, iQ, iP, iG, kR, kQ, lE, lH, lG, lD, lF, lC, lB, gB, Result.ok.injEq, Next.value.injEq, true_and, and_true, gY, hZ, iV, iW, iU, jG, aoE, gV, gU, gX, gT, gM, gI, gN, gK, fZ, fU, if_true, if_false, aoD, aoH, aoF, aoG, aoJ, aoI, aoC, aoB, fM, fK, eZ, fQ, cU, eQ, eE, dJ, bO, fR, eS, aQ, cY, bF, bP, bJ, aI, cP, cB, eP, aF, gR, aK, cJ, aS, bS, fS, cC, cD, aB, gC, fC, aJ, aD, bH, gO, aP, eU, dT, dV, gG, dH, fH, dB, eH, eT, fD, cF, dF, gJ, dQ, cH, bA, bZ, cG, fP, aE, aG, aO, aV, bD, cL, bN, aA, fE, aM, cO, fI, eY, gH, bK, eK, eL, bW, fW, fF, eJ, dD, cR, dG, aW, bB, aH, gA, aL, dC, dW, aX, cI, fJ, dK, gD, fL, fA, fB, dP, aN, bX, dE, fY, fX, fG, dI, aT, dZ, fT, cQ, eX, fN, bY, bL, dU, aZ, dY, dO, cK, eI, eM, aY, dA, bE, dN, dS, dR, bM, cN, cM, dM, bR, cW, cV, fO, bV, eF, eN, gF, dX, eD, dL, cZ, bG, bQ, bT, bU, aR, cX, aU]
 refine Lk fun w2 o2 x2 s2 => ?_
 refine FP o2 (by simp [hlen]) (DA _) (by simp) fun w3 o3 x3 s3 => ?_
 have e3 : qL [.int .u8 0, .int .u8 0, .int .u8 0, .int .u8 0] 0 ((rO B at_).1.map oZ) = (rO B at_).1.map oZ := by
  generalize (rO B at_).1.map oZ = l, (show ((rO B at_).1.map oZ).length = 4 by simp [hlen]) = hl
  match l, hl with
  | [a, b, c, d], _ => rfl
 simp only [List.toList_toArray] at o3
 rw [e3] at o3
 have x3 : jM w w3 mN := x1.seq (x2.new x3 (aoP _))
 by_cases h4 : at_ + 4 <= B.length
 .rw [decide_eq_true h4]
  have hf3 := (hf.same x3).dr
  have hkb := GB o3
  have c2 := hf3.own.cell (off := 2)
  have c4 := hf3.own.cell (off := 4)
  simp only [aoB, aoC] at c2 c4
  have l1 := Jp (off := 0) hkb (by simp [hlen])
  have l2 : (((rO B at_).1.map oZ).drop 0).take 4 = (rO B at_).1.map oZ := by rw [arF, aoU (by simp [hlen])]
  rw [l2] at l1
  have l3 := Gh hf3.map (rO B at_)
  unfold RD at l3
  cases has : En.assoc (rO B at_) es with
  | none =>
    rw [has] at l3
    simp only [Option.getD_none, Option.isSome_none] at l3
    simp (disch := omega) only [gE, jE, cS, stepR_skip, hO, iA, iO, iM, iJ, iL, jH, iT, gL, iD, iF, iC, iH, hJ, iN, hU, iE, iR, iS, iI, gQ, iQ, iP, iG, kR, kQ, lE, lH, lG, lD, lF, lC, lB, gB, Result.ok.injEq, Next.value.injEq, true_and, and_true, gY, hZ, iV, iW, iU, jG, aoE, gV, gU, gX, gT, gM, gI, gN, gK, fZ, fU, if_true, if_false, aoD, aoH, aoF, aoG, aoJ, aoI, aoC, aoB, fM, fK, eZ, fQ, cU, eQ, eE, dJ, bO, fR, eS, aQ, cY, bF, bP, bJ, aI, cP, cB, eP, aF, gR, aK, cJ, aS, bS, fS, cC, cD, aB, gC, fC, aJ, aD, bH, gO, aP, eU, dT, dV, gG, dH, fH, dB, eH, eT, fD, cF, dF, gJ, dQ, cH, bA, bZ, cG, fP, aE, aG, aO, aV, bD, cL, bN, aA, fE, aM, cO, fI, eY, gH, bK, eK, eL, bW, fW, fF, eJ, dD, cR, dG, aW, bB, aH, gA, aL, dC, dW, aX, cI, fJ, dK, gD, fL, fA, fB, dP, aN, bX, dE, fY, fX, fG, dI, aT, dZ, fT, cQ, eX, fN, bY, bL, dU, aZ, dY, dO, cK, eI, eM, aY, dA, bE, dN, dS, dR, bM, cN, cM, dM, bR, cW, cV, fO, bV, eF, eN, gF, dX, eD, dL, cZ, bG, bQ, bT, bU, aR, cX, aU, c2, l1, l3]
    exact ⟨0, 0, rfl, ⟨.inl ⟨rfl, rfl⟩⟩, (by intro _ _ old h; cases h), x3.seq (jM.dr _ _)⟩
  | some v =>
    obtain ⟨x, rfl, hxa⟩ := hk.assoc has
    rw [has] at l3
    simp only [arK, Option.isSome_some] at l3
    simp (disch := omega) only [gE, jE, cS, stepR_skip, hO, iA, iO, iM, iJ, iL, jH, iT, gL, iD, iF, iC, iH, hJ, iN, hU, iE, iR, iS, iI, gQ, iQ, iP, iG, kR, kQ, lE, lH, lG, lD, lF, lC, lB, gB, Result.ok.injEq, Next.value.injEq, true_and, and_true, gY, hZ, iV, iW, iU, jG, aoE, gV, gU, gX, gT, gM, gI, gN, gK, fZ, fU, if_true, if_false, aoD, aoH, aoF, aoG, aoJ, aoI, aoC, aoB, fM, fK, eZ, fQ, cU, eQ, eE, dJ, bO, fR, eS, aQ, cY, bF, bP, bJ, aI, cP, cB, eP, aF, gR, aK, cJ, aS, bS, fS, cC, cD, aB, gC, fC, aJ, aD, bH, gO, aP, eU, dT, dV, gG, dH, fH, dB, eH, eT, fD, cF, dF, gJ, dQ, cH, bA, bZ, cG, fP, aE, aG, aO, aV, bD, cL, bN, aA, fE, aM, cO, fI, eY, gH, bK, eK, eL, bW, fW, fF, eJ, dD, cR, dG, aW, bB, aH, gA, aL, dC, dW, aX, cI, fJ, dK, gD, fL, fA, fB, dP, aN, bX, dE, fY, fX, fG, dI, aT, dZ, fT, cQ, eX, fN, bY, bL, dU, aZ, dY, dO, cK, eI, eM, aY, dA, bE, dN, dS, dR, bM, cN, cM, dM, bR, cW, cV, fO, bV, eF, eN, gF, dX, eD, dL, cZ, bG, bQ, bT, bU, aR, cX, aU, c2, l1, l3]
    unfold yQ yU zC
    simp (disch := omega) only [gE, jE, cS, stepR_skip, hO, iA, iO, iM, iJ, iL, jH, iT, gL, iD, iF, iC, iH, hJ, iN, hU, iE, iR, iS, iI, gQ, iQ, iP, iG, kR, kQ, lE, lH, lG, lD, lF, lC, lB, gB, Result.ok.injEq, Next.value.injEq, true_and, and_true, gY, hZ, iV, iW, iU, jG, aoE, gV, gU, gX, gT, gM, gI, gN, gK, fZ, fU, if_true, if_false, aoD, aoH, aoF, aoG, aoJ, aoI, aoC, aoB, fM, fK, eZ, fQ, cU, eQ, eE, dJ, bO, fR, eS, aQ, cY, bF, bP, bJ, aI, cP, cB, eP, aF, gR, aK, cJ, aS, bS, fS, cC, cD, aB, gC, fC, aJ, aD, bH, gO, aP, eU, dT, dV, gG, dH, fH, dB, eH, eT, fD, cF, dF, gJ, dQ, cH, bA, bZ, cG, fP, aE, aG, aO, aV, bD, cL, bN, aA, fE, aM, cO, fI, eY, gH, bK, eK, eL, bW, fW, fF, eJ, dD, cR, dG, aW, bB, aH, gA, aL, dC, dW, aX, cI, fJ, dK, gD, fL, fA, fB, dP, aN, bX, dE, fY, fX, fG, dI, aT, dZ, fT, cQ, eX, fN, bY, bL, dU, aZ, dY, dO, cK, eI, eM, aY, dA, bE, dN, dS, dR, bM, cN, cM, dM, bR, cW, cV, fO, bV, eF, eN, gF, dX, eD, dL, cZ, bG, bQ, bT, bU, aR, cX, aU, c4]
    refine aaR hf hk ha ht x hxa (x3.seq (jM.dr _ _)) fun n off w' hb hm hx => ?_
    exact ⟨n, off, rfl, hb, fun _ ht old h m hl => (by cases h; exact hm ht m hl), hx⟩
 .rw [decide_eq_false h4]
  simp (disch := omega) only [gE, jE, cS, stepR_skip, hO, iA, iO, iM, iJ, iL, jH, iT, gL, iD, iF, iC, iH, hJ, iN, hU, iE, iR, iS, iI, gQ, iQ, iP, iG, kR, kQ, lE, lH, lG, lD, lF, lC, lB, gB, Result.ok.injEq, Next.value.injEq, true_and, and_true, gY, hZ, iV, iW, iU, jG, aoE, gV, gU, gX, gT, gM, gI, gN, gK, fZ, fU, if_true, if_false, aoD, aoH, aoF, aoG, aoJ, aoI, aoC, aoB, fM, fK, eZ, fQ, cU, eQ, eE, dJ, bO, fR, eS, aQ, cY, bF, bP, bJ, aI, cP, cB, eP, aF, gR, aK, cJ, aS, bS, fS, cC, cD, aB, gC, fC, aJ, aD, bH, gO, aP, eU, dT, dV, gG, dH, fH, dB, eH, eT, fD, cF, dF, gJ, dQ, cH, bA, bZ, cG, fP, aE, aG, aO, aV, bD, cL, bN, aA, fE, aM, cO, fI, eY, gH, bK, eK, eL, bW, fW, fF, eJ, dD, cR, dG, aW, bB, aH, gA, aL, dC, dW, aX, cI, fJ, dK, gD, fL, fA, fB, dP, aN, bX, dE, fY, fX, fG, dI, aT, dZ, fT, cQ, eX, fN, bY, bL, dU, aZ, dY, dO, cK, eI, eM, aY, dA, bE, dN, dS, dR, bM, cN, cM, dM, bR, cW, cV, fO, bV, eF, eN, gF, dX, eD, dL, cZ, bG, bQ, bT, bU, aR, cX, aU]
  exact ⟨0, 0, rfl, ⟨.inl ⟨rfl, rfl⟩⟩, fun h => absurd h h4, x3⟩
abbrev Sq := Nat × Nat × Nat
def YR (B : List UInt8) (to a : Nat) (s : Sq) : Prop := a + s.1 + s.2.1 <= to /\ 3 <= s.2.1 /\ s.2.1 <= 131074 /\ 1 <= s.2.2 /\ s.2.2 <= a + s.1 /\ ∀ k, k < s.2.1 -> B[a + s.1 + k]? = B[a + s.1 + k - s.2.2]?
def Yi (B : List UInt8) (to : Nat) : Nat -> List Sq -> Nat -> Prop
 | a, [], b => a = b
 | a, s :: r, b => YR B to a s /\ Yi B to (a + s.1 + s.2.1) r b
def flat : List Sq -> List atP
 | [] => []
 | s :: r => .int .u32 s.1 :: .int .u32 s.2.1 :: .int .u32 s.2.2 :: flat r
theorem WV (s : Sq) : ∀ L : List Sq, flat (L ++ [s]) = flat L ++ [.int .u32 s.1, .int .u32 s.2.1, .int .u32 s.2.2]
 | [] => rfl
 | x :: r => by simp [flat, WV s r]
theorem WI {B : List UInt8} {to : Nat} {s : Sq} : ∀ {L : List Sq} {a b : Nat}, Yi B to a L b -> YR B to b s -> Yi B to a (L ++ [s]) (b + s.1 + s.2.1)
 | [], a, b, h, hs => by obtain rfl : a = b := h; exact ⟨hs, rfl⟩
 | x :: r, a, b, h, hs => ⟨h.1, WI h.2 hs⟩
theorem U2 {B : List UInt8} {to : Nat} : ∀ {L : List Sq} {a b : Nat}, Yi B to a L b -> a <= to -> a + 3 * L.length <= b /\ b <= to
 | [], a, b, h, hs => by obtain rfl : a = b := h; simp; omega
 | x :: r, a, b, h, hs => by
   have h1 := h.1
   unfold YR at h1
   have := U2 h.2 h1.1
   simp only [aoV]
   omega
structure Dst (w0 : atO) (p mb ab base : Nat) (bv : atP) : Prop where
 ne : p ≠ mb /\ p ≠ ab /\ mb ≠ ab
 lo : w0.heap.size <= p /\ w0.heap.size <= mb /\ w0.heap.size <= ab
 hi : p < base /\ mb < base /\ ab < base
 bo : ¬ Lf bv (fun b => w0.heap.size <= b)
structure X4 (w0 w : atO) (p mb ab base : Nat) (bv : atP) (B : List UInt8) (to tries : Nat) (es : List (Nf 4 × atP)) (A : List Int) (out : atP) (L : List Sq) (a0 begun : Nat) : Prop where
 f : V9 w p mb ab bv B to tries es A
 o : yB w base 3 out L.length (flat L)
 pl : Yi B to a0 L begun
 x : jM w0 w mN
 hs : base <= w.heap.size
section
variable {w0 w : atO} {p mb ab base : Nat} {bv : atP} {B : List UInt8} {to tries : Nat} {es : List (Nf 4 × atP)} {A : List Int} {out : atP} {L : List Sq} {a0 begun : Nat}
theorem X4.same {w' : atO} (h : X4 w0 w p mb ab base bv B to tries es A out L a0 begun) (hx : jM w w' mN) : X4 w0 w' p mb ab base bv B to tries es A out L a0 begun :=
 ⟨h.f.same hx, h.o.ext hx (fun _ _ h => h), h.pl, h.x.seq hx, aqC h.hs hx.size⟩
theorem UY (D : Dst w0 p mb ab base bv) (h : X4 w0 w p mb ab base bv B to tries es A out L a0 begun) {j : Nat} (hk : Kept (j + 1) es A) (hj : j < to) :
 jD pg nY #[.pointer (some ⟨p, 0, none⟩), .int .i64 j] w (fun _ w' => ∃ A', X4 w0 w' p mb ab base bv B to tries (noted B j es) A' out L a0 begun /\ Kept (j + 1) (noted B j es) A') := by
 have d1 := D.lo
 have d2 := D.hi
 refine (akO h.f hk D.ne (fun hh => D.bo (B3 hh fun b hb => by rcases hb with rfl | rfl <;> omega)) hj).mono ?_
 rintro r w' ⟨A', f, k, x⟩
 refine ⟨A', ⟨f, h.o.ext x (fun b hb hh => by omega), h.pl, h.x.trans x (fun b hb hh => by omega), aqC h.hs x.size⟩, k⟩
theorem adG (D : Dst w0 p mb ab base bv) {at_ e q : Nat} (h : X4 w0 w p mb ab base bv B to tries es A out L a0 begun) (hk : Kept q es A) (hq : q <= at_ + 1) (hlt : at_ < e) (he : e <= to) (hb : B.length <= 4294967295)
 {t2 lv : atP} {k : atP -> atP -> atP -> atP -> atP -> atO -> Prop}
 (hR : ∀ w' es' A', X4 w0 w' p mb ab base bv B to tries es' A' out L a0 begun -> Kept e es' A' -> k t2 lv (.pointer (some ⟨p, 0, none⟩)) out (.int .i64 e) w') :
 FY k t2 lv (.pointer (some ⟨p, 0, none⟩)) out (.int .i64 at_) (.int .i64 e) w := by
 have hle := h.f.le
 unfold FY
 refine kE.rule (fun m t w' => ∃ (j q : Nat) (es' : List (Nf 4 × atP)) (A' : List Int), m = e - j /\ t = .int .i64 j /\ at_ <= j /\ j <= e /\ X4 w0 w' p mb ab base bv B to tries es' A' out L a0 begun /\ Kept q es' A' /\ q <= j + 1 /\ (at_ < j -> q <= j)) (e - at_)
  ⟨at_, q, es, A, rfl, rfl, aoP _, by omega, h, hk, hq, fun h => by omega⟩ ?_
 rintro m t w1 ⟨j, q, es1, A1, rfl, rfl, h1, h2, h3, h4, h5, h6⟩
 by_cases hj : j < e
 .have d1 : decide ((j : Int) < (e : Int)) = true := by simp; omega
  simp (disch := omega) only [BX, gE, jE, cS, stepR_skip, hO, iA, iO, iM, iJ, iL, jH, iT, gL, iD, iF, iC, iH, hJ, iN, hU, iE, iR, iS, iI, gQ, iQ, iP, iG, kR, kQ, lE, lH, lG, lD, lF, lC, lB, gB, Result.ok.injEq, Next.value.injEq, true_and, and_true, gY, hZ, iV, iW, iU, jG, aoE, gV, gU, gX, gT, gM, gI, gN, gK, fZ, fU, if_true, if_false, aoD, aoH, aoF, aoG, aoJ, aoI, aoC, aoB, fM, fK, eZ, fQ, cU, eQ, eE, dJ, bO, fR, eS, aQ, cY, bF, bP, bJ, aI, cP, cB, eP, aF, gR, aK, cJ, aS, bS, fS, cC, cD, aB, gC, fC, aJ, aD, bH, gO, aP, eU, dT, dV, gG, dH, fH, dB, eH, eT, fD, cF, dF, gJ, dQ, cH, bA, bZ, cG, fP, aE, aG, aO, aV, bD, cL, bN, aA, fE, aM, cO, fI, eY, gH, bK, eK, eL, bW, fW, fF, eJ, dD, cR, dG, aW, bB, aH, gA, aL, dC, dW, aX, cI, fJ, dK, gD, fL, fA, fB, dP, aN, bX, dE, fY, fX, fG, dI, aT, dZ, fT, cQ, eX, fN, bY, bL, dU, aZ, dY, dO, cK, eI, eM, aY, dA, bE, dN, dS, dR, bM, cN, cM, dM, bR, cW, cV, fO, bV, eF, eN, gF, dX, eD, dL, cZ, bG, bQ, bT, bU, aR, cX, aU, d1]
  refine (UY D h3 (h4.mono h5) (by omega)).mono ?_
  rintro r w2 ⟨A2, f2, k2⟩
  exact ⟨e - (j + 1), by omega, j + 1, j + 1, _, A2, rfl, rfl, by omega, by omega, f2, k2, by omega, fun _ => aoP _⟩
 .have d1 : decide ((j : Int) < (e : Int)) = false := by simp; omega
  have : j = e := by omega
  subst this
  simp (disch := omega) only [BX, gE, jE, cS, stepR_skip, hO, iA, iO, iM, iJ, iL, jH, iT, gL, iD, iF, iC, iH, hJ, iN, hU, iE, iR, iS, iI, gQ, iQ, iP, iG, kR, kQ, lE, lH, lG, lD, lF, lC, lB, gB, Result.ok.injEq, Next.value.injEq, true_and, and_true, gY, hZ, iV, iW, iU, jG, aoE, gV, gU, gX, gT, gM, gI, gN, gK, fZ, fU, if_true, if_false, aoD, aoH, aoF, aoG, aoJ, aoI, aoC, aoB, fM, fK, eZ, fQ, cU, eQ, eE, dJ, bO, fR, eS, aQ, cY, bF, bP, bJ, aI, cP, cB, eP, aF, gR, aK, cJ, aS, bS, fS, cC, cD, aB, gC, fC, aJ, aD, bH, gO, aP, eU, dT, dV, gG, dH, fH, dB, eH, eT, fD, cF, dF, gJ, dQ, cH, bA, bZ, cG, fP, aE, aG, aO, aV, bD, cL, bN, aA, fE, aM, cO, fI, eY, gH, bK, eK, eL, bW, fW, fF, eJ, dD, cR, dG, aW, bB, aH, gA, aL, dC, dW, aX, cI, fJ, dK, gD, fL, fA, fB, dP, aN, bX, dE, fY, fX, fG, dI, aT, dZ, fT, cQ, eX, fN, bY, bL, dU, aZ, dY, dO, cK, eI, eM, aY, dA, bE, dN, dS, dR, bM, cN, cM, dM, bR, cW, cV, fO, bV, eF, eN, gF, dX, eD, dL, cZ, bG, bQ, bT, bU, aR, cX, aU, d1]
  exact hR _ _ _ h3 (h4.mono (h6 hlt))
theorem aiA (D : Dst w0 p mb ab base bv) {at_ n off q : Nat} (h : X4 w0 w p mb ab base bv B to tries es A out L a0 begun) (h0 : a0 <= to) (hk : Kept q es A) (hq : q <= at_ + 1) (hbe : begun <= at_) (hbst : Bst B to at_ n off) (hn : 4 <= n) (hb : B.length <= 4294967295)
 {t2 lv : atP} {k : atP -> atP -> atP -> atP -> atP -> atP -> atO -> Prop}
 (hR : ∀ w' es' A' out' s, X4 w0 w' p mb ab base bv B to tries es' A' out' (L ++ [s]) a0 (at_ + n) -> at_ + n <= to -> Kept (at_ + n) es' A' -> k t2 lv (.pointer (some ⟨p, 0, none⟩)) out' (.int .i64 ((at_ + n : Nat) : Int)) (.int .i64 ((at_ + n : Nat) : Int)) w') :
 Ar k t2 lv (.pointer (some ⟨p, 0, none⟩)) out (.int .i64 begun) (.int .i64 at_) (.int .i64 n) (.int .i64 off) w := by
 have hle := h.f.le
 rcases hbst.one with ⟨rfl, rfl⟩ | ⟨hn0, ho1, ho2, hl⟩
 .omega
 have hend : at_ + n <= to := by rcases hl.le with h | h <;> omega
 have hm := hl.most
 have hpl := U2 h.pl h0
 unfold Ar J3
 have e1 : (at_ : Int) - (begun : Int) = ((at_ - begun : Nat) : Int) := by omega
 simp (disch := omega) only [gE, jE, cS, stepR_skip, hO, iA, iO, iM, iJ, iL, jH, iT, gL, iD, iF, iC, iH, hJ, iN, hU, iE, iR, iS, iI, gQ, iQ, iP, iG, kR, kQ, lE, lH, lG, lD, lF, lC, lB, gB, Result.ok.injEq, Next.value.injEq, true_and, and_true, gY, hZ, iV, iW, iU, jG, aoE, gV, gU, gX, gT, gM, gI, gN, gK, fZ, fU, if_true, if_false, aoD, aoH, aoF, aoG, aoJ, aoI, aoC, aoB, fM, fK, eZ, fQ, cU, eQ, eE, dJ, bO, fR, eS, aQ, cY, bF, bP, bJ, aI, cP, cB, eP, aF, gR, aK, cJ, aS, bS, fS, cC, cD, aB, gC, fC, aJ, aD, bH, gO, aP, eU, dT, dV, gG, dH, fH, dB, eH, eT, fD, cF, dF, gJ, dQ, cH, bA, bZ, cG, fP, aE, aG, aO, aV, bD, cL, bN, aA, fE, aM, cO, fI, eY, gH, bK, eK, eL, bW, fW, fF, eJ, dD, cR, dG, aW, bB, aH, gA, aL, dC, dW, aX, cI, fJ, dK, gD, fL, fA, fB, dP, aN, bX, dE, fY, fX, fG, dI, aT, dZ, fT, cQ, eX, fN, bY, bL, dU, aZ, dY, dO, cK, eI, eM, aY, dA, bE, dN, dS, dR, bM, cN, cM, dM, bR, cW, cV, fO, bV, eF, eN, gF, dX, eD, dL, cZ, bG, bQ, bT, bU, aR, cX, aU, e1]
 refine Q1 (cells := #[.int .u32 ((at_ - begun : Nat) : Int), .int .u32 n, .int .u32 off]) (by decide) (by decide) (by kernel_rfl) fun w2 o2 x2 s2 => ?_
 refine Cn (h.o.ext x2 (fun _ _ h => h)) (o2.cl (off := 0) (l := [.int .u32 ((at_ - begun : Nat) : Int), .int .u32 n, .int .u32 off]) rfl (fun i hi => by rw [aoH])) (by simp [one]) (aqC h.hs x2.size) (by omega) fun v3 w3 o3 x3 => ?_
 unfold JO JY JS JL
 have e2 : (at_ : Int) + (n : Int) = ((at_ + n : Nat) : Int) := by omega
 simp (disch := omega) only [gE, jE, cS, stepR_skip, hO, iA, iO, iM, iJ, iL, jH, iT, gL, iD, iF, iC, iH, hJ, iN, hU, iE, iR, iS, iI, gQ, iQ, iP, iG, kR, kQ, lE, lH, lG, lD, lF, lC, lB, gB, Result.ok.injEq, Next.value.injEq, true_and, and_true, gY, hZ, iV, iW, iU, jG, aoE, gV, gU, gX, gT, gM, gI, gN, gK, fZ, fU, if_true, if_false, aoD, aoH, aoF, aoG, aoJ, aoI, aoC, aoB, fM, fK, eZ, fQ, cU, eQ, eE, dJ, bO, fR, eS, aQ, cY, bF, bP, bJ, aI, cP, cB, eP, aF, gR, aK, cJ, aS, bS, fS, cC, cD, aB, gC, fC, aJ, aD, bH, gO, aP, eU, dT, dV, gG, dH, fH, dB, eH, eT, fD, cF, dF, gJ, dQ, cH, bA, bZ, cG, fP, aE, aG, aO, aV, bD, cL, bN, aA, fE, aM, cO, fI, eY, gH, bK, eK, eL, bW, fW, fF, eJ, dD, cR, dG, aW, bB, aH, gA, aL, dC, dW, aX, cI, fJ, dK, gD, fL, fA, fB, dP, aN, bX, dE, fY, fX, fG, dI, aT, dZ, fT, cQ, eX, fN, bY, bL, dU, aZ, dY, dO, cK, eI, eM, aY, dA, bE, dN, dS, dR, bM, cN, cM, dM, bR, cW, cV, fO, bV, eF, eN, gF, dX, eD, dL, cZ, bG, bQ, bT, bU, aR, cX, aU, e2]
 have hi := D.hi
 have hlo := D.lo
 have bo : ¬ Lf bv (fun b => base <= b) := fun hh => D.bo (B3 hh fun b hb => by omega)
 have f3 : V9 w3 p mb ab bv B to tries es A := (h.f.same x2).ext x3 (by omega) (by omega) (by omega) bo
 have hs : Yi B to a0 (L ++ [(at_ - begun, n, off)]) (at_ + n) := by
  have := WI (s := (at_ - begun, n, off)) h.pl ⟨by simp only; omega, by simp only; omega, hm, ho1, by simp only; omega, fun k hk => by
   simp only at hk ⊢
   rw [show begun + (at_ - begun) + k = at_ + k from by omega, show at_ + k - off = at_ - off + k from by omega]
   exact (hl.same k hk).symm⟩
  simp only at this
  rwa [show begun + (at_ - begun) + n = at_ + n from by omega] at this
 have F3 : X4 w0 w3 p mb ab base bv B to tries es A v3 (L ++ [(at_ - begun, n, off)]) a0 (at_ + n) :=
  ⟨f3, by rw [WV, aoL]; exact o3, hs, (h.x.seq x2).trans x3 (fun b hb hh => by omega), aqC (aqC h.hs x2.size) x3.size⟩
 refine adG D F3 hk hq (by omega) hend hb fun w' es' A' f k => ?_
 unfold F0
 exact hR _ _ _ _ _ f hend k
end
def adE (B : List UInt8) (a0 to : Nat) : Prop := (∃ c, ∀ i, i < B.length -> B[i]? = some c) /\ a0 = 0 /\ to = B.length /\ 8 <= to
def Ex8 (B : List UInt8) (a0 to at_ : Nat) (es : List (Nf 4 × atP)) (L : List Sq) : Prop :=
 adE B a0 to -> (at_ = 0 /\ es = []) ∨ (at_ = 1 /\ assoc (rO B 0) es = some (.int .i64 (0 : Nat))) ∨ L ≠ []
theorem aeX {B : List UInt8} {a0 to : Nat} (h : adE B a0 to) : rO B 1 = rO B 0 := by
 obtain ⟨⟨c, hc⟩, _, h1, h2⟩ := h
 unfold rO
 rw [dif_pos (by omega), dif_pos (by omega)]
 apply Subtype.ext
 simp only
 apply aqW
 intro i
 by_cases hi : i < 4
 .rw [aqD hi, aqD hi, arV, arV, hc _ (by omega), hc _ (by omega)]
 .rw [aoS (by simp; omega), aoS (by simp; omega)]
theorem agB {B : List UInt8} {a0 to : Nat} (h : adE B a0 to) : Lng B to 0 1 (min (to - 1) 131074) := by
 obtain ⟨⟨c, hc⟩, _, h1, h2⟩ := h
 refine ⟨.inl (by omega), by omega, fun j hj => by rw [hc _ (by omega), hc _ (by omega)], ?_⟩
 by_cases hh : to - 1 <= 131074
 .exact .inr (.inl (by omega))
 .exact .inl (by omega)
theorem ajK {w0 w : atO} {p mb ab base : Nat} {bv : atP} {B : List UInt8} {to lvl : Nat} {es : List (Nf 4 × atP)} {A : List Int} {a0 : Nat} (hlv : lvl <= 9) (h0 : a0 <= to) (hb : B.length <= 4294967295)
 (D : Dst w0 p mb ab base bv) (h : X4 w0 w p mb ab base bv B to (2 ^ lvl) es A (.slice none 0 0) [] a0 a0) (hk : Kept a0 es A) (hE : Ex8 B a0 to a0 es [])
 {k : atP -> atP -> atP -> atO -> Prop}
 (hR : ∀ w' out L b, yB w' base 3 out L.length (flat L) -> Yi B to a0 L b -> b <= to -> jM w0 w' mN -> (adE B a0 to -> L ≠ []) -> k (.int .i64 to) out (.int .i64 b) w') :
 D0 k (.int .i64 to) (.int .i64 lvl) (.pointer (some ⟨p, 0, none⟩)) (.slice none 0 0) (.int .i64 a0) (.int .i64 a0) w := by
 have htr1 : 1 <= 2 ^ lvl := Nat.one_le_two_pow
 have htr2 : 2 ^ lvl <= 1048576 := aqC (apE (by omega) hlv) (by decide)
 have hle := h.f.le
 unfold D0
 refine kE.rule (fun m t w' => ∃ (out : atP) (L : List Sq) (begun at_ : Nat) (es : List (Nf 4 × atP)) (A : List Int), m = to - at_ /\ t = (out, .int .i64 begun, .int .i64 at_) /\ begun <= at_ /\ at_ <= to /\ X4 w0 w' p mb ab base bv B to (2 ^ lvl) es A out L a0 begun /\ Kept at_ es A /\ Ex8 B a0 to at_ es L) (to - a0)
  ⟨_, [], a0, a0, es, A, rfl, rfl, aoP _, h0, h, hk, hE⟩ ?_
 clear h hk hE
 rintro m t w1 ⟨out, L, begun, at_, es, A, rfl, rfl, hbe, hat, h, hk, hE⟩
 have hpl := U2 h.pl h0
 by_cases hlt : at_ < to
 .have d1 : decide ((at_ : Int) < (to : Int)) = true := by simp; omega
  unfold Ak DZ HW Ot HQ
  simp (disch := omega) only [gE, jE, cS, stepR_skip, hO, iA, iO, iM, iJ, iL, jH, iT, gL, iD, iF, iC, iH, hJ, iN, hU, iE, iR, iS, iI, gQ, iQ, iP, iG, kR, kQ, lE, lH, lG, lD, lF, lC, lB, gB, Result.ok.injEq, Next.value.injEq, true_and, and_true, gY, hZ, iV, iW, iU, jG, aoE, gV, gU, gX, gT, gM, gI, gN, gK, fZ, fU, if_true, if_false, aoD, aoH, aoF, aoG, aoJ, aoI, aoC, aoB, fM, fK, eZ, fQ, cU, eQ, eE, dJ, bO, fR, eS, aQ, cY, bF, bP, bJ, aI, cP, cB, eP, aF, gR, aK, cJ, aS, bS, fS, cC, cD, aB, gC, fC, aJ, aD, bH, gO, aP, eU, dT, dV, gG, dH, fH, dB, eH, eT, fD, cF, dF, gJ, dQ, cH, bA, bZ, cG, fP, aE, aG, aO, aV, bD, cL, bN, aA, fE, aM, cO, fI, eY, gH, bK, eK, eL, bW, fW, fF, eJ, dD, cR, dG, aW, bB, aH, gA, aL, dC, dW, aX, cI, fJ, dK, gD, fL, fA, fB, dP, aN, bX, dE, fY, fX, fG, dI, aT, dZ, fT, cQ, eX, fN, bY, bL, dU, aZ, dY, dO, cK, eI, eM, aY, dA, bE, dN, dS, dR, bM, cN, cM, dM, bR, cW, cV, fO, bV, eF, eN, gF, dX, eD, dL, cZ, bG, bQ, bT, bU, aR, cX, aU, d1]
  refine (adZ h.f hk hat htr2).mono ?_
  rintro r w2 ⟨n, off, rfl, hbst, hlong, x2⟩
  have h2 := h.same x2
  have fin : ∀ {w3 : atO} {es3 : List (Nf 4 × atP)} {A3 : List Int} {at3 n3 off3 : Nat}, X4 w0 w3 p mb ab base bv B to (2 ^ lvl) es3 A3 out L a0 begun -> Kept at3 es3 A3 ∨ Kept (at3 + 1) es3 A3 -> begun <= at3 -> at_ <= at3 -> Bst B to at3 n3 off3 -> 4 <= n3 →
      Ar (fun _ _ _ jQ jP kL w => ∃ m, m < to - at_ /\ ∃ (out : atP) (L : List Sq) (begun at_ : Nat) (es : List (Nf 4 × atP)) (A : List Int), m = to - at_ /\ (jQ, jP, kL) = (out, .int .i64 begun, .int .i64 at_) /\ begun <= at_ /\ at_ <= to /\ X4 w0 w p mb ab base bv B to (2 ^ lvl) es A out L a0 begun /\ Kept at_ es A /\ Ex8 B a0 to at_ es L)
       (.int .i64 to) (.int .i64 lvl) (.pointer (some ⟨p, 0, none⟩)) out (.int .i64 begun) (.int .i64 at3) (.int .i64 n3) (.int .i64 off3) w3 := by
   intro w3 es3 A3 at3 n3 off3 F K hb3 ha3 hbst3 hn3
   have K : Kept (at3 + 1) es3 A3 := by
    rcases K with K | K
    .exact K.mono (by omega)
    .exact K
   refine aiA D F h0 K (aoP _) hb3 hbst3 hn3 hb fun w' es' A' out' s F' hto K' => ?_
   exact ⟨to - (at3 + n3), by omega, out', L ++ [s], at3 + n3, at3 + n3, es', A', rfl, rfl, aoP _, hto, F', K', fun _ => .inr (.inr (by simp))⟩
  by_cases hn : n < 4
  .have d2 : decide ((n : Int) < 4) = true := by simp; omega
   simp (disch := omega) only [gE, jE, cS, stepR_skip, hO, iA, iO, iM, iJ, iL, jH, iT, gL, iD, iF, iC, iH, hJ, iN, hU, iE, iR, iS, iI, gQ, iQ, iP, iG, kR, kQ, lE, lH, lG, lD, lF, lC, lB, gB, Result.ok.injEq, Next.value.injEq, true_and, and_true, gY, hZ, iV, iW, iU, jG, aoE, gV, gU, gX, gT, gM, gI, gN, gK, fZ, fU, if_true, if_false, aoD, aoH, aoF, aoG, aoJ, aoI, aoC, aoB, fM, fK, eZ, fQ, cU, eQ, eE, dJ, bO, fR, eS, aQ, cY, bF, bP, bJ, aI, cP, cB, eP, aF, gR, aK, cJ, aS, bS, fS, cC, cD, aB, gC, fC, aJ, aD, bH, gO, aP, eU, dT, dV, gG, dH, fH, dB, eH, eT, fD, cF, dF, gJ, dQ, cH, bA, bZ, cG, fP, aE, aG, aO, aV, bD, cL, bN, aA, fE, aM, cO, fI, eY, gH, bK, eK, eL, bW, fW, fF, eJ, dD, cR, dG, aW, bB, aH, gA, aL, dC, dW, aX, cI, fJ, dK, gD, fL, fA, fB, dP, aN, bX, dE, fY, fX, fG, dI, aT, dZ, fT, cQ, eX, fN, bY, bL, dU, aZ, dY, dO, cK, eI, eM, aY, dA, bE, dN, dS, dR, bM, cN, cM, dM, bR, cW, cV, fO, bV, eF, eN, gF, dX, eD, dL, cZ, bG, bQ, bT, bU, aR, cX, aU, d2]
   refine (UY D h2 (hk.mono (by omega)) hlt).mono ?_
   rintro r w3 ⟨A3, h3, k3⟩
   refine ⟨to - (at_ + 1), by omega, out, L, begun, at_ + 1, _, A3, rfl, rfl, by omega, by omega, h3, k3, fun h8 => ?_⟩
   rcases hE h8 with ⟨e1, e2⟩ | ⟨e1, e2⟩ | e
   .subst e1 e2
    refine .inr (.inl ⟨rfl, ?_⟩)
    obtain ⟨_, _, h81, h82⟩ := h8
    unfold noted
    rw [if_pos (by omega), acJ, if_pos rfl]
   .exfalso
    subst e1
    have hl := agB h8
    have hky := aeX h8
    obtain ⟨_, _, h81, h82⟩ := h8
    have := hlong (by omega) htr1 0 (by rw [hky]; exact e2) _ hl
    omega
   .exact .inr (.inr e)
  .have d2 : decide ((n : Int) < 4) = false := by simp; omega
   by_cases hl4 : 4 < lvl
   .have d3 : decide ((4 : Int) < (lvl : Int)) = true := by simp; omega
    by_cases ha1 : at_ + 1 < to
    .have d4 : decide ((at_ : Int) + 1 < (to : Int)) = true := by simp; omega
     simp (disch := omega) only [gE, jE, cS, stepR_skip, hO, iA, iO, iM, iJ, iL, jH, iT, gL, iD, iF, iC, iH, hJ, iN, hU, iE, iR, iS, iI, gQ, iQ, iP, iG, kR, kQ, lE, lH, lG, lD, lF, lC, lB, gB, Result.ok.injEq, Next.value.injEq, true_and, and_true, gY, hZ, iV, iW, iU, jG, aoE, gV, gU, gX, gT, gM, gI, gN, gK, fZ, fU, if_true, if_false, aoD, aoH, aoF, aoG, aoJ, aoI, aoC, aoB, fM, fK, eZ, fQ, cU, eQ, eE, dJ, bO, fR, eS, aQ, cY, bF, bP, bJ, aI, cP, cB, eP, aF, gR, aK, cJ, aS, bS, fS, cC, cD, aB, gC, fC, aJ, aD, bH, gO, aP, eU, dT, dV, gG, dH, fH, dB, eH, eT, fD, cF, dF, gJ, dQ, cH, bA, bZ, cG, fP, aE, aG, aO, aV, bD, cL, bN, aA, fE, aM, cO, fI, eY, gH, bK, eK, eL, bW, fW, fF, eJ, dD, cR, dG, aW, bB, aH, gA, aL, dC, dW, aX, cI, fJ, dK, gD, fL, fA, fB, dP, aN, bX, dE, fY, fX, fG, dI, aT, dZ, fT, cQ, eX, fN, bY, bL, dU, aZ, dY, dO, cK, eI, eM, aY, dA, bE, dN, dS, dR, bM, cN, cM, dM, bR, cW, cV, fO, bV, eF, eN, gF, dX, eD, dL, cZ, bG, bQ, bT, bU, aR, cX, aU, d2, d3, d4]
     refine (UY D h2 (hk.mono (by omega)) hlt).mono ?_
     rintro r w3 ⟨A3, h3, k3⟩
     have e1 : (at_ : Int) + 1 = ((at_ + 1 : Nat) : Int) := by omega
     rw [e1]
     refine (adZ h3.f k3 (by omega) htr2).mono ?_
     rintro r w4 ⟨n4, off4, rfl, hbst4, _, x4⟩
     have h4 := h3.same x4
     have hm4 : n4 <= 131074 /\ n <= 131074 := by
      refine ⟨?_, ?_⟩
      .rcases hbst4.one with ⟨rfl, _⟩ | ⟨_, _, _, hl⟩
       .omega
       .exact hl.most
      .rcases hbst.one with ⟨rfl, _⟩ | ⟨_, _, _, hl⟩
       .omega
       .exact hl.most
     by_cases hg : n + 1 < n4
     .have d5 : decide ((n : Int) + 1 < (n4 : Int)) = true := by simp; omega
      simp (disch := omega) only [gE, jE, cS, stepR_skip, hO, iA, iO, iM, iJ, iL, jH, iT, gL, iD, iF, iC, iH, hJ, iN, hU, iE, iR, iS, iI, gQ, iQ, iP, iG, kR, kQ, lE, lH, lG, lD, lF, lC, lB, gB, Result.ok.injEq, Next.value.injEq, true_and, and_true, gY, hZ, iV, iW, iU, jG, aoE, gV, gU, gX, gT, gM, gI, gN, gK, fZ, fU, if_true, if_false, aoD, aoH, aoF, aoG, aoJ, aoI, aoC, aoB, fM, fK, eZ, fQ, cU, eQ, eE, dJ, bO, fR, eS, aQ, cY, bF, bP, bJ, aI, cP, cB, eP, aF, gR, aK, cJ, aS, bS, fS, cC, cD, aB, gC, fC, aJ, aD, bH, gO, aP, eU, dT, dV, gG, dH, fH, dB, eH, eT, fD, cF, dF, gJ, dQ, cH, bA, bZ, cG, fP, aE, aG, aO, aV, bD, cL, bN, aA, fE, aM, cO, fI, eY, gH, bK, eK, eL, bW, fW, fF, eJ, dD, cR, dG, aW, bB, aH, gA, aL, dC, dW, aX, cI, fJ, dK, gD, fL, fA, fB, dP, aN, bX, dE, fY, fX, fG, dI, aT, dZ, fT, cQ, eX, fN, bY, bL, dU, aZ, dY, dO, cK, eI, eM, aY, dA, bE, dN, dS, dR, bM, cN, cM, dM, bR, cW, cV, fO, bV, eF, eN, gF, dX, eD, dL, cZ, bG, bQ, bT, bU, aR, cX, aU, d5]
      exact fin h4 (.inl k3) (by omega) (by omega) hbst4 (by omega)
     .have d5 : decide ((n : Int) + 1 < (n4 : Int)) = false := by simp; omega
      simp (disch := omega) only [gE, jE, cS, stepR_skip, hO, iA, iO, iM, iJ, iL, jH, iT, gL, iD, iF, iC, iH, hJ, iN, hU, iE, iR, iS, iI, gQ, iQ, iP, iG, kR, kQ, lE, lH, lG, lD, lF, lC, lB, gB, Result.ok.injEq, Next.value.injEq, true_and, and_true, gY, hZ, iV, iW, iU, jG, aoE, gV, gU, gX, gT, gM, gI, gN, gK, fZ, fU, if_true, if_false, aoD, aoH, aoF, aoG, aoJ, aoI, aoC, aoB, fM, fK, eZ, fQ, cU, eQ, eE, dJ, bO, fR, eS, aQ, cY, bF, bP, bJ, aI, cP, cB, eP, aF, gR, aK, cJ, aS, bS, fS, cC, cD, aB, gC, fC, aJ, aD, bH, gO, aP, eU, dT, dV, gG, dH, fH, dB, eH, eT, fD, cF, dF, gJ, dQ, cH, bA, bZ, cG, fP, aE, aG, aO, aV, bD, cL, bN, aA, fE, aM, cO, fI, eY, gH, bK, eK, eL, bW, fW, fF, eJ, dD, cR, dG, aW, bB, aH, gA, aL, dC, dW, aX, cI, fJ, dK, gD, fL, fA, fB, dP, aN, bX, dE, fY, fX, fG, dI, aT, dZ, fT, cQ, eX, fN, bY, bL, dU, aZ, dY, dO, cK, eI, eM, aY, dA, bE, dN, dS, dR, bM, cN, cM, dM, bR, cW, cV, fO, bV, eF, eN, gF, dX, eD, dL, cZ, bG, bQ, bT, bU, aR, cX, aU, d5]
      exact fin h4 (.inr k3) (by omega) (by omega) hbst (by omega)
    .have d4 : decide ((at_ : Int) + 1 < (to : Int)) = false := by simp; omega
     simp (disch := omega) only [gE, jE, cS, stepR_skip, hO, iA, iO, iM, iJ, iL, jH, iT, gL, iD, iF, iC, iH, hJ, iN, hU, iE, iR, iS, iI, gQ, iQ, iP, iG, kR, kQ, lE, lH, lG, lD, lF, lC, lB, gB, Result.ok.injEq, Next.value.injEq, true_and, and_true, gY, hZ, iV, iW, iU, jG, aoE, gV, gU, gX, gT, gM, gI, gN, gK, fZ, fU, if_true, if_false, aoD, aoH, aoF, aoG, aoJ, aoI, aoC, aoB, fM, fK, eZ, fQ, cU, eQ, eE, dJ, bO, fR, eS, aQ, cY, bF, bP, bJ, aI, cP, cB, eP, aF, gR, aK, cJ, aS, bS, fS, cC, cD, aB, gC, fC, aJ, aD, bH, gO, aP, eU, dT, dV, gG, dH, fH, dB, eH, eT, fD, cF, dF, gJ, dQ, cH, bA, bZ, cG, fP, aE, aG, aO, aV, bD, cL, bN, aA, fE, aM, cO, fI, eY, gH, bK, eK, eL, bW, fW, fF, eJ, dD, cR, dG, aW, bB, aH, gA, aL, dC, dW, aX, cI, fJ, dK, gD, fL, fA, fB, dP, aN, bX, dE, fY, fX, fG, dI, aT, dZ, fT, cQ, eX, fN, bY, bL, dU, aZ, dY, dO, cK, eI, eM, aY, dA, bE, dN, dS, dR, bM, cN, cM, dM, bR, cW, cV, fO, bV, eF, eN, gF, dX, eD, dL, cZ, bG, bQ, bT, bU, aR, cX, aU, d2, d3, d4]
     exact fin h2 (.inl hk) hbe (aoP _) hbst (by omega)
   .have d3 : decide ((4 : Int) < (lvl : Int)) = false := by simp; omega
    simp (disch := omega) only [gE, jE, cS, stepR_skip, hO, iA, iO, iM, iJ, iL, jH, iT, gL, iD, iF, iC, iH, hJ, iN, hU, iE, iR, iS, iI, gQ, iQ, iP, iG, kR, kQ, lE, lH, lG, lD, lF, lC, lB, gB, Result.ok.injEq, Next.value.injEq, true_and, and_true, gY, hZ, iV, iW, iU, jG, aoE, gV, gU, gX, gT, gM, gI, gN, gK, fZ, fU, if_true, if_false, aoD, aoH, aoF, aoG, aoJ, aoI, aoC, aoB, fM, fK, eZ, fQ, cU, eQ, eE, dJ, bO, fR, eS, aQ, cY, bF, bP, bJ, aI, cP, cB, eP, aF, gR, aK, cJ, aS, bS, fS, cC, cD, aB, gC, fC, aJ, aD, bH, gO, aP, eU, dT, dV, gG, dH, fH, dB, eH, eT, fD, cF, dF, gJ, dQ, cH, bA, bZ, cG, fP, aE, aG, aO, aV, bD, cL, bN, aA, fE, aM, cO, fI, eY, gH, bK, eK, eL, bW, fW, fF, eJ, dD, cR, dG, aW, bB, aH, gA, aL, dC, dW, aX, cI, fJ, dK, gD, fL, fA, fB, dP, aN, bX, dE, fY, fX, fG, dI, aT, dZ, fT, cQ, eX, fN, bY, bL, dU, aZ, dY, dO, cK, eI, eM, aY, dA, bE, dN, dS, dR, bM, cN, cM, dM, bR, cW, cV, fO, bV, eF, eN, gF, dX, eD, dL, cZ, bG, bQ, bT, bU, aR, cX, aU, d2, d3]
    exact fin h2 (.inl hk) hbe (aoP _) hbst (by omega)
 .have d1 : decide ((at_ : Int) < (to : Int)) = false := by simp; omega
  unfold Ak DZ
  simp (disch := omega) only [gE, jE, cS, stepR_skip, hO, iA, iO, iM, iJ, iL, jH, iT, gL, iD, iF, iC, iH, hJ, iN, hU, iE, iR, iS, iI, gQ, iQ, iP, iG, kR, kQ, lE, lH, lG, lD, lF, lC, lB, gB, Result.ok.injEq, Next.value.injEq, true_and, and_true, gY, hZ, iV, iW, iU, jG, aoE, gV, gU, gX, gT, gM, gI, gN, gK, fZ, fU, if_true, if_false, aoD, aoH, aoF, aoG, aoJ, aoI, aoC, aoB, fM, fK, eZ, fQ, cU, eQ, eE, dJ, bO, fR, eS, aQ, cY, bF, bP, bJ, aI, cP, cB, eP, aF, gR, aK, cJ, aS, bS, fS, cC, cD, aB, gC, fC, aJ, aD, bH, gO, aP, eU, dT, dV, gG, dH, fH, dB, eH, eT, fD, cF, dF, gJ, dQ, cH, bA, bZ, cG, fP, aE, aG, aO, aV, bD, cL, bN, aA, fE, aM, cO, fI, eY, gH, bK, eK, eL, bW, fW, fF, eJ, dD, cR, dG, aW, bB, aH, gA, aL, dC, dW, aX, cI, fJ, dK, gD, fL, fA, fB, dP, aN, bX, dE, fY, fX, fG, dI, aT, dZ, fT, cQ, eX, fN, bY, bL, dU, aZ, dY, dO, cK, eI, eM, aY, dA, bE, dN, dS, dR, bM, cN, cM, dM, bR, cW, cV, fO, bV, eF, eN, gF, dX, eD, dL, cZ, bG, bQ, bT, bU, aR, cX, aU, d1]
  refine hR _ _ _ _ h.o h.pl hpl.2 h.x fun h8 => ?_
  rcases hE h8 with ⟨e1, e2⟩ | ⟨e1, e2⟩ | e
  .obtain ⟨_, _, h81, h82⟩ := h8; omega
  .obtain ⟨_, _, h81, h82⟩ := h8; omega
  .exact e
structure Found (w0 w : atO) (B : List UInt8) (a0 to lvl : Nat) (r : atP) : Prop where
 ex : ∃ (v : atP) (L : List Sq) (b : Nat), r = .tuple #[v, .int .i64 ((to - b : Nat) : Int), .int .i64 0] /\ yB w w0.heap.size 3 v L.length (flat L) /\ Yi B to a0 L b /\ b <= to /\ (lvl = 0 -> L = []) /\ (1 <= lvl -> adE B a0 to -> L ≠ [])
 x : jM w0 w mN
theorem ahP (lvl : Nat) (h : lvl <= 9) : IntKind.i64.wrap (1 * 2 ^ (min lvl IntKind.i64.bits)) = ((2 ^ lvl : Nat) : Int) := by
 have : ∀ k : Fin 10, IntKind.i64.wrap (1 * 2 ^ (min k.val IntKind.i64.bits)) = ((2 ^ k.val : Nat) : Int) := by decide
 exact this ⟨lvl, by omega⟩
theorem Wk {w0 w : atO} {p mb ab : Nat} {bv : atP} {B : List UInt8} {to lvl a0 : Nat} (hl1 : 1 <= lvl) (hlv : lvl <= 9) (h0 : a0 <= to) (hto : to <= B.length) (hb : B.length <= 4294967295) (hbv : Bs w0 bv B)
 (hx : jM w0 w mN) (o : mQ w p [bv, .int .i64 to, .map (some mb), .slice (some ⟨ab, 0, none⟩) to to, .int .i64 ((2 ^ lvl : Nat) : Int)]) (m : Mp w mb RD ([] : List (Nf 4 × atP))) (oa : mQ w ab (List.replicate to (.int .i64 0)))
 (hne : p ≠ mb /\ p ≠ ab /\ mb ≠ ab) (hlo : w0.heap.size <= p /\ w0.heap.size <= mb /\ w0.heap.size <= ab) :
 Ed (fun r w' => Found w0 w' B a0 to lvl r) (.int .i64 a0) (.int .i64 to) (.int .i64 lvl) (.pointer (some ⟨p, 0, none⟩)) w := by
 have D : Dst w0 p mb ab w.heap.size bv := ⟨hne, hlo, ⟨o.lt, m.lt, oa.lt⟩, hbv.old⟩
 have F : X4 w0 w p mb ab w.heap.size bv B to (2 ^ lvl) [] (List.replicate to 0) (.slice none 0 0) [] a0 a0 :=
  ⟨⟨o, hbv.ext hx (kJ _), m, by simpa using oa, by simp, hto, by omega⟩, yB.nil _ _ _, rfl, hx, aoP _⟩
 have K : Kept 0 ([] : List (Nf 4 × atP)) (List.replicate to (0 : Int)) := ⟨fun q hq => absurd hq (by simp), fun i hi => by simp⟩
 unfold Ed Hb Ii Ir HU
 refine kE.rule (fun m t w' => ∃ (j : Nat) (es : List (Nf 4 × atP)) (A : List Int), m = a0 - j /\ t = .int .i64 j /\ j <= a0 /\ X4 w0 w' p mb ab w.heap.size bv B to (2 ^ lvl) es A (.slice none 0 0) [] a0 a0 /\ Kept j es A /\ (j = 0 -> es = [])) a0
  ⟨0, [], _, rfl, rfl, by omega, F, K, fun _ => rfl⟩ ?_
 rintro m t w1 ⟨j, es, A, rfl, rfl, hj, h, hk, he⟩
 by_cases hlt : j < a0
 .have d1 : decide ((j : Int) < (a0 : Int)) = true := by simp; omega
  simp (disch := omega) only [Af, gE, jE, cS, stepR_skip, hO, iA, iO, iM, iJ, iL, jH, iT, gL, iD, iF, iC, iH, hJ, iN, hU, iE, iR, iS, iI, gQ, iQ, iP, iG, kR, kQ, lE, lH, lG, lD, lF, lC, lB, gB, Result.ok.injEq, Next.value.injEq, true_and, and_true, gY, hZ, iV, iW, iU, jG, aoE, gV, gU, gX, gT, gM, gI, gN, gK, fZ, fU, if_true, if_false, aoD, aoH, aoF, aoG, aoJ, aoI, aoC, aoB, fM, fK, eZ, fQ, cU, eQ, eE, dJ, bO, fR, eS, aQ, cY, bF, bP, bJ, aI, cP, cB, eP, aF, gR, aK, cJ, aS, bS, fS, cC, cD, aB, gC, fC, aJ, aD, bH, gO, aP, eU, dT, dV, gG, dH, fH, dB, eH, eT, fD, cF, dF, gJ, dQ, cH, bA, bZ, cG, fP, aE, aG, aO, aV, bD, cL, bN, aA, fE, aM, cO, fI, eY, gH, bK, eK, eL, bW, fW, fF, eJ, dD, cR, dG, aW, bB, aH, gA, aL, dC, dW, aX, cI, fJ, dK, gD, fL, fA, fB, dP, aN, bX, dE, fY, fX, fG, dI, aT, dZ, fT, cQ, eX, fN, bY, bL, dU, aZ, dY, dO, cK, eI, eM, aY, dA, bE, dN, dS, dR, bM, cN, cM, dM, bR, cW, cV, fO, bV, eF, eN, gF, dX, eD, dL, cZ, bG, bQ, bT, bU, aR, cX, aU, d1]
  refine (UY D h (hk.mono (by omega)) (by omega)).mono ?_
  rintro r w2 ⟨A2, f2, k2⟩
  exact ⟨a0 - (j + 1), by omega, j + 1, _, A2, rfl, rfl, by omega, f2, k2, fun h => by omega⟩
 .have d1 : decide ((j : Int) < (a0 : Int)) = false := by simp; omega
  have : j = a0 := by omega
  subst this
  simp (disch := omega) only [Af, gE, jE, cS, stepR_skip, hO, iA, iO, iM, iJ, iL, jH, iT, gL, iD, iF, iC, iH, hJ, iN, hU, iE, iR, iS, iI, gQ, iQ, iP, iG, kR, kQ, lE, lH, lG, lD, lF, lC, lB, gB, Result.ok.injEq, Next.value.injEq, true_and, and_true, gY, hZ, iV, iW, iU, jG, aoE, gV, gU, gX, gT, gM, gI, gN, gK, fZ, fU, if_true, if_false, aoD, aoH, aoF, aoG, aoJ, aoI, aoC, aoB, fM, fK, eZ, fQ, cU, eQ, eE, dJ, bO, fR, eS, aQ, cY, bF, bP, bJ, aI, cP, cB, eP, aF, gR, aK, cJ, aS, bS, fS, cC, cD, aB, gC, fC, aJ, aD, bH, gO, aP, eU, dT, dV, gG, dH, fH, dB, eH, eT, fD, cF, dF, gJ, dQ, cH, bA, bZ, cG, fP, aE, aG, aO, aV, bD, cL, bN, aA, fE, aM, cO, fI, eY, gH, bK, eK, eL, bW, fW, fF, eJ, dD, cR, dG, aW, bB, aH, gA, aL, dC, dW, aX, cI, fJ, dK, gD, fL, fA, fB, dP, aN, bX, dE, fY, fX, fG, dI, aT, dZ, fT, cQ, eX, fN, bY, bL, dU, aZ, dY, dO, cK, eI, eM, aY, dA, bE, dN, dS, dR, bM, cN, cM, dM, bR, cW, cV, fO, bV, eF, eN, gF, dX, eD, dL, cZ, bG, bQ, bT, bU, aR, cX, aU, d1]
  unfold Hq HS Hj HB HZ HE
  refine ajK hlv h0 hb D h hk (fun h8 => .inl ⟨h8.2.1, he h8.2.1⟩) fun w' out L b ho hpl hbt hx' h8 => ?_
  unfold FV
  have e : (to : Int) - (b : Int) = ((to - b : Nat) : Int) := by omega
  simp (disch := omega) only [gE, jE, cS, stepR_skip, hO, iA, iO, iM, iJ, iL, jH, iT, gL, iD, iF, iC, iH, hJ, iN, hU, iE, iR, iS, iI, gQ, iQ, iP, iG, kR, kQ, lE, lH, lG, lD, lF, lC, lB, gB, Result.ok.injEq, Next.value.injEq, true_and, and_true, gY, hZ, iV, iW, iU, jG, aoE, gV, gU, gX, gT, gM, gI, gN, gK, fZ, fU, if_true, if_false, aoD, aoH, aoF, aoG, aoJ, aoI, aoC, aoB, fM, fK, eZ, fQ, cU, eQ, eE, dJ, bO, fR, eS, aQ, cY, bF, bP, bJ, aI, cP, cB, eP, aF, gR, aK, cJ, aS, bS, fS, cC, cD, aB, gC, fC, aJ, aD, bH, gO, aP, eU, dT, dV, gG, dH, fH, dB, eH, eT, fD, cF, dF, gJ, dQ, cH, bA, bZ, cG, fP, aE, aG, aO, aV, bD, cL, bN, aA, fE, aM, cO, fI, eY, gH, bK, eK, eL, bW, fW, fF, eJ, dD, cR, dG, aW, bB, aH, gA, aL, dC, dW, aX, cI, fJ, dK, gD, fL, fA, fB, dP, aN, bX, dE, fY, fX, fG, dI, aT, dZ, fT, cQ, eX, fN, bY, bL, dU, aZ, dY, dO, cK, eI, eM, aY, dA, bE, dN, dS, dR, bM, cN, cM, dM, bR, cW, cV, fO, bV, eF, eN, gF, dX, eD, dL, cZ, bG, bQ, bT, bU, aR, cX, aU, e]
  exact ⟨⟨out, L, b, rfl, yB.lower ho hx.size, hpl, hbt, fun h => by omega, fun _ => h8⟩, hx'⟩
theorem akV {w : atO} {bv : atP} {B : List UInt8} {to lvl a0 : Nat} (hlv : lvl <= 9) (h0 : a0 <= to) (hto : to <= B.length) (hb : B.length <= 4294967295) (hbv : Bs w bv B) :
 jD pg Du #[bv, .int .i64 a0, .int .i64 to, .int .i64 lvl] w (fun r w' => Found w w' B a0 to lvl r) := by
 refine UJ ?_
 obtain ⟨a, c, hv, hc⟩ := hbv.len
 simp only [aoK] at hv hc
 unfold VH Iw H5
 have d1 : decide ((a0 : Int) < 0) = false := by simp
 have d2 : decide ((to : Int) < (a0 : Int)) = false := by simp; omega
 have d3 : decide ((B.length : Int) < (to : Int)) = false := by simp; omega
 have d4 : decide ((lvl : Int) < 0) = false := by simp
 have d5 : decide ((9 : Int) < (lvl : Int)) = false := by simp; omega
 subst hv
 have ln := fM (ty := 3) a B.length c w
 by_cases hl : lvl = 0
 .subst hl
  have d6 : (((0 : Nat) : Int) == 0) = true := by simp
  have e : (to : Int) - (a0 : Int) = ((to - a0 : Nat) : Int) := by omega
  simp (disch := omega) only [gE, jE, cS, stepR_skip, hO, iA, iO, iM, iJ, iL, jH, iT, gL, iD, iF, iC, iH, hJ, iN, hU, iE, iR, iS, iI, gQ, iQ, iP, iG, kR, kQ, lE, lH, lG, lD, lF, lC, lB, gB, Result.ok.injEq, Next.value.injEq, true_and, and_true, gY, hZ, iV, iW, iU, jG, aoE, gV, gU, gX, gT, gM, gI, gN, gK, fZ, fU, if_true, if_false, aoD, aoH, aoF, aoG, aoJ, aoI, aoC, aoB, fM, fK, eZ, fQ, cU, eQ, eE, dJ, bO, fR, eS, aQ, cY, bF, bP, bJ, aI, cP, cB, eP, aF, gR, aK, cJ, aS, bS, fS, cC, cD, aB, gC, fC, aJ, aD, bH, gO, aP, eU, dT, dV, gG, dH, fH, dB, eH, eT, fD, cF, dF, gJ, dQ, cH, bA, bZ, cG, fP, aE, aG, aO, aV, bD, cL, bN, aA, fE, aM, cO, fI, eY, gH, bK, eK, eL, bW, fW, fF, eJ, dD, cR, dG, aW, bB, aH, gA, aL, dC, dW, aX, cI, fJ, dK, gD, fL, fA, fB, dP, aN, bX, dE, fY, fX, fG, dI, aT, dZ, fT, cQ, eX, fN, bY, bL, dU, aZ, dY, dO, cK, eI, eM, aY, dA, bE, dN, dS, dR, bM, cN, cM, dM, bR, cW, cV, fO, bV, eF, eN, gF, dX, eD, dL, cZ, bG, bQ, bT, bU, aR, cX, aU, ln, d1, d2, d3, d4, d5, d6, e]
  exact ⟨⟨_, [], a0, rfl, yB.nil _ _ _, rfl, h0, fun _ => rfl, fun h => by omega⟩, jM.refl _ _⟩
 .have d6 : ((lvl : Int) == 0) = false := by simpa using hl
  have e1 := ahP lvl hlv
  have hbd := hbv.dr
  simp (disch := omega) only [gE, jE, cS, stepR_skip, hO, iA, iO, iM, iJ, iL, jH, iT, gL, iD, iF, iC, iH, hJ, iN, hU, iE, iR, iS, iI, gQ, iQ, iP, iG, kR, kQ, lE, lH, lG, lD, lF, lC, lB, gB, Result.ok.injEq, Next.value.injEq, true_and, and_true, gY, hZ, iV, iW, iU, jG, aoE, gV, gU, gX, gT, gM, gI, gN, gK, fZ, fU, if_true, if_false, aoD, aoH, aoF, aoG, aoJ, aoI, aoC, aoB, fM, fK, eZ, fQ, cU, eQ, eE, dJ, bO, fR, eS, aQ, cY, bF, bP, bJ, aI, cP, cB, eP, aF, gR, aK, cJ, aS, bS, fS, cC, cD, aB, gC, fC, aJ, aD, bH, gO, aP, eU, dT, dV, gG, dH, fH, dB, eH, eT, fD, cF, dF, gJ, dQ, cH, bA, bZ, cG, fP, aE, aG, aO, aV, bD, cL, bN, aA, fE, aM, cO, fI, eY, gH, bK, eK, eL, bW, fW, fF, eJ, dD, cR, dG, aW, bB, aH, gA, aL, dC, dW, aX, cI, fJ, dK, gD, fL, fA, fB, dP, aN, bX, dE, fY, fX, fG, dI, aT, dZ, fT, cQ, eX, fN, bY, bL, dU, aZ, dY, dO, cK, eI, eM, aY, dA, bE, dN, dS, dR, bM, cN, cM, dM, bR, cW, cV, fO, bV, eF, eN, gF, dX, eD, dL, cZ, bG, bQ, bT, bU, aR, cX, aU, ln, d1, d2, d3, d4, d5, d6]
  refine adS ?_ ?_
  .refine F8 fun w1 m1 x1 s1 => ?_
   refine Tq (by omega) (by omega) fun w2 o2 x2 s2 => ?_
   simp (disch := omega) only [gE, jE, cS, stepR_skip, hO, iA, iO, iM, iJ, iL, jH, iT, gL, iD, iF, iC, iH, hJ, iN, hU, iE, iR, iS, iI, gQ, iQ, iP, iG, kR, kQ, lE, lH, lG, lD, lF, lC, lB, gB, Result.ok.injEq, Next.value.injEq, true_and, and_true, gY, hZ, iV, iW, iU, jG, aoE, gV, gU, gX, gT, gM, gI, gN, gK, fZ, fU, if_true, if_false, aoD, aoH, aoF, aoG, aoJ, aoI, aoC, aoB, fM, fK, eZ, fQ, cU, eQ, eE, dJ, bO, fR, eS, aQ, cY, bF, bP, bJ, aI, cP, cB, eP, aF, gR, aK, cJ, aS, bS, fS, cC, cD, aB, gC, fC, aJ, aD, bH, gO, aP, eU, dT, dV, gG, dH, fH, dB, eH, eT, fD, cF, dF, gJ, dQ, cH, bA, bZ, cG, fP, aE, aG, aO, aV, bD, cL, bN, aA, fE, aM, cO, fI, eY, gH, bK, eK, eL, bW, fW, fF, eJ, dD, cR, dG, aW, bB, aH, gA, aL, dC, dW, aX, cI, fJ, dK, gD, fL, fA, fB, dP, aN, bX, dE, fY, fX, fG, dI, aT, dZ, fT, cQ, eX, fN, bY, bL, dU, aZ, dY, dO, cK, eI, eM, aY, dA, bE, dN, dS, dR, bM, cN, cM, dM, bR, cW, cV, fO, bV, eF, eN, gF, dX, eD, dL, cZ, bG, bQ, bT, bU, aR, cX, aU, e1]
   refine Cc fun w3 o3 x3 s3 => ?_
   refine Wk (w0 := w) (by omega) hlv h0 hto hb hbv ((((jM.dr w mN).seq x1).seq x2).seq x3) o3 ((m1.ext x2 fun h => h).ext x3 fun h => h) (o2.ext x3 fun h => h) ?_ ?_
   .have : (dr w).heap.size = w.heap.size := rfl
    refine ⟨?_, ?_, ?_⟩ <;> omega
   .have : (dr w).heap.size = w.heap.size := rfl
    refine ⟨?_, ?_, ?_⟩ <;> omega
  .refine Tq (by omega) (by omega) fun w1 o1 x1 s1 => ?_
   refine F8 fun w2 m2 x2 s2 => ?_
   simp (disch := omega) only [gE, jE, cS, stepR_skip, hO, iA, iO, iM, iJ, iL, jH, iT, gL, iD, iF, iC, iH, hJ, iN, hU, iE, iR, iS, iI, gQ, iQ, iP, iG, kR, kQ, lE, lH, lG, lD, lF, lC, lB, gB, Result.ok.injEq, Next.value.injEq, true_and, and_true, gY, hZ, iV, iW, iU, jG, aoE, gV, gU, gX, gT, gM, gI, gN, gK, fZ, fU, if_true, if_false, aoD, aoH, aoF, aoG, aoJ, aoI, aoC, aoB, fM, fK, eZ, fQ, cU, eQ, eE, dJ, bO, fR, eS, aQ, cY, bF, bP, bJ, aI, cP, cB, eP, aF, gR, aK, cJ, aS, bS, fS, cC, cD, aB, gC, fC, aJ, aD, bH, gO, aP, eU, dT, dV, gG, dH, fH, dB, eH, eT, fD, cF, dF, gJ, dQ, cH, bA, bZ, cG, fP, aE, aG, aO, aV, bD, cL, bN, aA, fE, aM, cO, fI, eY, gH, bK, eK, eL, bW, fW, fF, eJ, dD, cR, dG, aW, bB, aH, gA, aL, dC, dW, aX, cI, fJ, dK, gD, fL, fA, fB, dP, aN, bX, dE, fY, fX, fG, dI, aT, dZ, fT, cQ, eX, fN, bY, bL, dU, aZ, dY, dO, cK, eI, eM, aY, dA, bE, dN, dS, dR, bM, cN, cM, dM, bR, cW, cV, fO, bV, eF, eN, gF, dX, eD, dL, cZ, bG, bQ, bT, bU, aR, cX, aU, e1]
   refine Cc fun w3 o3 x3 s3 => ?_
   refine Wk (w0 := w) (by omega) hlv h0 hto hb hbv ((((jM.dr w mN).seq x1).seq x2).seq x3) o3 (m2.ext x3 fun h => h) ((o1.ext x2 fun h => h).ext x3 fun h => h) ?_ ?_
   .have : (dr w).heap.size = w.heap.size := rfl
    refine ⟨?_, ?_, ?_⟩ <;> omega
   .have : (dr w).heap.size = w.heap.size := rfl
    refine ⟨?_, ?_, ?_⟩ <;> omega
end Go.Proofs.YtoecppploooloaaGreatDoor
namespace Go.En
open Go
section
variable {P : Program} {w : atO} {t e : TypeId}
theorem XS {S : Nat -> Prop} {sz n m : Nat} {i : TypeInfo} {z : atP} {ty t2 : TypeId} {k : IntKind} (hu : P.underlying t = some (.slice e)) (hu2 : P.underlying t2 = some (.int k)) (hi : P.info? e = some i) (hsz : i.size = sz) (hz : i.zero = some z) (hzs : z.cells.size = sz)
 {v : atP} {l : List atP} (h : LF w S sz v n l) (hsz0 : 0 < sz) (hone : ∀ y ∈ z.cells.toList, one y = true) (hb : ∀ b, w.heap.size <= b -> S b)
 (hn : n + m <= 9223372036854775807) (hbytes : (n + m) * i.bytes <= 140737488355328) (hmb : m * i.bytes <= 140737488355328)
 {K : atP -> atO -> Prop} (hk : ∀ v' w', LF w' S sz v' (n + m) (l ++ (Builtin.zeroCells z.cells m).toList) -> jM w w' S -> K v' w') : gE P (oD .append #[t, t2] ty [v, .int k m]) w K := by
 generalize hnews : (Builtin.zeroCells z.cells m).toList = news at *
 have hnl : news.length = m * sz := by rw [<- hnews, arJ, vO, hzs]
 have hone' : ∀ y ∈ news, one y = true := by
  intro y hy
  rw [<- hnews] at hy
  simp only [Builtin.zeroCells, Array.toList_map, aqB] at hy
  obtain ⟨j, _, rfl⟩ := hy
  refine hone _ ?_
  have : j % z.cells.size < z.cells.size := atK _ (by omega)
  rw [getElem!_pos z.cells _ this]
  exact Array.getElem_mem_toList this
 have hmw : IntKind.i64.wrap ((m : Nat) : Int) = (m : Int) := gY (by omega) (by omega)
 have hm0 : ¬ ((m : Int) < 0) := by omega
 have hmx : ¬ ((m : Int) * (i.bytes : Nat) > 2 ^ 48) := by
  have : (m : Int) * (i.bytes : Nat) = ((m * i.bytes : Nat) : Int) := by simp
  rw [this]; omega
 have has : ∀ w, (asInt (.int k m)).run P w = .ok (m : Int) w := fun w => rfl
 have hz' : ∀ w, (zeroValue e).run P w = .ok z w := fun w => by simp [zeroValue, typeInfo, hi, hz]
 have hnw : ∀ w, (if m * sz = 0 then pure #[] else do pure (Builtin.zeroCells (<- zeroValue e).cells m) : Sem (Array atP)).run P w = .ok news.toArray w := fun w => by
  by_cases h0 : m * sz = 0
  .rw [if_pos h0, Sem.run_pure]
   have : news = [] := apT.1 (by omega)
   rw [this]
  .rw [if_neg h0, Sem.run_bind, hz', Result.andThen_ok, Sem.run_pure, <- hnews, Array.toArray_toList]
 have hmax : IntKind.i64.max = 9223372036854775807 := by decide
 have hnot : ¬ (((n + m : Nat) : Int) > IntKind.i64.max) := by rw [hmax]; omega
 have hlen := h.1
 rcases h.2 with ⟨rfl, rfl⟩ | ⟨b, c, rest, rfl, h2, h3, h4, h5⟩
 .have hl0 : l = [] := apT.1 (by omega)
  subst hl0
  by_cases hm : m = 0
  .subst hm
   have hn0 : news = [] := apT.1 (by omega)
   subst hn0
   have : (oD .append #[t, t2] ty [.slice none 0 0, .int k (0 : Nat)]).run P w = .ok (.value (.slice none 0 0)) w := by
    unfold oD builtin
    simp only [Builtin.append_, aqG, aoB, aoC]
    simp only [underlying, typeInfo, Sem.run_bind, run_program, Result.andThen_ok, hu, hu2, hi, Sem.run_pure, kU hi, hsz, has, hmw, hm0, hmx, if_true, if_false, aoE, aoJ, aoD, aoP, apY, hnw]
   unfold gE
   rw [this]
   exact hk _ _ ⟨by simp, .inl ⟨rfl, by omega⟩⟩ (jM.refl _ _)
  .have hfit := growslice_fits (need := 0 + m) (old := 0) (bytes := i.bytes) (by omega) (by omega)
   have hfit' : ¬ (Builtin.nextslicecap (0 + m) 0 * i.bytes > 2 ^ 48) := by omega
   have hle : ¬ (0 + m <= 0) := by omega
   have hq : (Question.appendCap (0 + m) 0 e).forced = false := rfl
   obtain ⟨r, hr⟩ : ∃ r, (Question.appendCap (0 + m) 0 e).cut (w.tape w.drawn (.appendCap (0 + m) 0 e)) = m + r :=
    ⟨(w.tape w.drawn (.appendCap (0 + m) 0 e)) % (2 ^ 63 - (0 + m)), by simp only [Question.cut]; omega⟩
   have : (oD .append #[t, t2] ty [.slice none 0 0, .int k m]).run P w = .ok (.value (.slice (some ⟨w.heap.size, 0, none⟩) (0 + m) (m + r))) ((dr w).alloc (.cells (news ++ (Builtin.zeroCells z.cells (m + r - (0 + m))).toList).toArray e)) := by
    unfold oD builtin
    simp only [Builtin.append_, aqG, aoB, aoC]
    simp only [underlying, typeInfo, Sem.run_bind, run_program, Result.andThen_ok, hu, hu2, hi, Sem.run_pure, kU hi, hsz, has, hmw, hm0, hmx, if_true, if_false, aoE, aoJ, aoD, hle, hnot, false_and, hfit', run_choose, hq, hr, run_askRoom]
    change ((Sem.run P _ (dr w)).andThen _).andThen _ = _
    simp only [Sem.run_bind, hnw, run_firstCells_none, Result.andThen_ok, hz', Sem.run_pure, newRow, run_newObj]
    have e1 : (#[] ++ news.toArray ++ Builtin.zeroCells z.cells (m + r - (0 + m)) : Array atP) = (news ++ (Builtin.zeroCells z.cells (m + r - (0 + m))).toList).toArray := by
     apply Array.ext'; simp
    rw [e1]
    rfl
   unfold gE
   rw [this]
   refine hk _ _ ⟨by simp only [aqA]; rw [hnl, aoH], .inr ⟨w.heap.size, m + r, (Builtin.zeroCells z.cells (m + r - (0 + m))).toList, by rw [aoH], hb _ (aoP _), mQ.alloc (dr w) _ _, ?_, by omega⟩⟩ ((jM.dr w _).seq (jM.alloc _ _ _))
   simp only [aqA, aoL, arJ, vO, hzs, hnl]
   rw [show m + r - (0 + m) = r from by omega, apW]
 .by_cases hc : n + m <= c
  .have hroom : news.length <= rest.length := by
    rw [aoL, hlen] at h4
    have : (n + m) * sz <= c * sz := apG _ hc
    rw [apW] at this; omega
   obtain ⟨w', s1, s2, s3, s4, _⟩ := Ei (P := P) (M := S) h2 news w (n * sz) 0 (l ++ rest) h3 (by rw [aoL, hlen]; omega) hone'
   have : (oD .append #[t, t2] ty [.slice (some ⟨b, 0, none⟩) n c, .int k m]).run P w = .ok (.value (.slice (some ⟨b, 0, none⟩) (n + m) c)) w' := by
    unfold oD builtin
    simp only [Builtin.append_, aqG, aoB, aoC]
    simp only [underlying, typeInfo, Sem.run_bind, run_program, Result.andThen_ok, hu, hu2, hi, Sem.run_pure, kU hi, hsz, has, hmw, hm0, hmx, if_true, if_false, aoE, aoJ, aoD, hc, hnw, EG, aoH, s1]
   unfold gE
   rw [this]
   rw [apY, <- hlen, Qz _ _ _ hroom] at s2
   refine hk _ _ ⟨by rw [aoL, hlen, hnl, apW], .inr ⟨b, c, rest.drop news.length, rfl, h2, s2, ?_, hc⟩⟩ s3
   rw [<- h4]; simp; omega
  .have hfit := growslice_fits (need := n + m) (old := c) (bytes := i.bytes) (by omega) hbytes
   have hfit' : ¬ (Builtin.nextslicecap (n + m) c * i.bytes > 2 ^ 48) := by omega
   have hq : (Question.appendCap (n + m) c e).forced = false := rfl
   obtain ⟨r, hr⟩ : ∃ r, (Question.appendCap (n + m) c e).cut (w.tape w.drawn (.appendCap (n + m) c e)) = n + m + r :=
    ⟨(w.tape w.drawn (.appendCap (n + m) c e)) % (2 ^ 63 - (n + m)), by simp only [Question.cut]⟩
   have hold : Cl (dr w) sz (.slice (some ⟨b, 0, none⟩) n c) n l := ⟨_, _, rfl, hlen, fun _ => ⟨b, 0, rfl, fun i hi => by
    show w.cell? _ = _
    rw [h3.cell, aoH, aoX hi]⟩⟩
   have : (oD .append #[t, t2] ty [.slice (some ⟨b, 0, none⟩) n c, .int k m]).run P w = .ok (.value (.slice (some ⟨w.heap.size, 0, none⟩) (n + m) (n + m + r))) ((dr w).alloc (.cells (l ++ news ++ (Builtin.zeroCells z.cells (n + m + r - (n + m))).toList).toArray e)) := by
    have hfo := BW (P := P) hold
    unfold oD builtin
    simp only [Builtin.append_, aqG, aoB, aoC]
    simp only [underlying, typeInfo, Sem.run_bind, run_program, Result.andThen_ok, hu, hu2, hi, Sem.run_pure, kU hi, hsz, has, hmw, hm0, hmx, if_true, if_false, aoE, aoJ, aoD, hc, hnot, false_and, hfit', run_choose, hq, hr, run_askRoom]
    change ((Sem.run P _ (dr w)).andThen _).andThen _ = _
    simp only [Sem.run_bind, hnw, hfo, Result.andThen_ok, hz', Sem.run_pure, newRow, run_newObj]
    have e1 : (l.toArray ++ news.toArray ++ Builtin.zeroCells z.cells (n + m + r - (n + m)) : Array atP) = (l ++ news ++ (Builtin.zeroCells z.cells (n + m + r - (n + m))).toList).toArray := by
     apply Array.ext'; simp
    rw [e1]
    rfl
   unfold gE
   rw [this]
   refine hk _ _ ⟨by rw [aoL, hlen, hnl, apW], .inr ⟨w.heap.size, n + m + r, _, rfl, hb _ (aoP _), mQ.alloc (dr w) _ _, ?_, by omega⟩⟩ ((jM.dr w _).seq (jM.alloc _ _ _))
   simp only [aoL, arJ, vO, hzs, hnl, hlen]
   rw [show n + m + r - (n + m) = r from by omega, apW, apW]
end
end Go.En
namespace Go.En
open Go
theorem akI {P : Program} {w : atO} {t e ty : TypeId} (hu : P.underlying t = some (.slice e)) (x : Option Addr) (n c : Nat) : (oD .cap #[t] ty [.slice x n c]).run P w = .ok (.value (.int .i64 c)) w := by
 simp [oD, builtin, Builtin.cap_, underlying, hu, goInt]
end Go.En
namespace Go.Proofs.YtoecppploooloaaGreatDoor
open Go Go.En Go.Pu
set_option maxRecDepth 4000
set_option linter.unusedSimpArgs false
set_option linter.unusedVariables false
theorem adP {y : atP} (hy : y ∈ (Value.int .u8 0).cells.toList) : one y = true := by
 have : y = .int .u8 0 := by simpa [Value.cells] using hy
 subst this; rfl
theorem ajZ {n : Nat} {w : atO} (h1 : 1 <= n) (hn : n <= 100000000) :
 jD pg wU #[.slice none 0 0, .int .i64 (n : Nat)] w (fun r w' => (∃ b c, r = .slice (some ⟨b, 0, none⟩) 0 c) /\ yB w' w.heap.size 1 r 0 [] /\ jM w w' mN) := by
 refine Nd ?_
 unfold KM Bw Br BA Be vH
 have d1 : decide (((n : Nat) : Int) < 0) = false := decide_eq_false (by omega)
 have hcap := fun (x : Option Addr) (n c : Nat) w => akI (P := pg) (w := w) (ty := 3) Tryz.underlying22 x n c
 have e1 : ((0 : Nat) : Int) = 0 := rfl
 have e2 : ((n : Nat) : Int) - (0 - 0) = ((n : Nat) : Int) := by omega
 have d2 : decide ((0 : Int) < ((n : Nat) : Int)) = true := decide_eq_true (by omega)
 have z0 : (0 : Int).toNat = 0 := rfl
 have s0 : nL none 0 0 1 = none := rfl
 have e3 : ((0 : Int) - 0) = 0 := rfl
 have e4 : ((n : Nat) : Int) - 0 = ((n : Nat) : Int) := by omega
 simp (disch := omega) only [gE, jE, cS, stepR_skip, hO, iA, iO, iM, iJ, iL, jH, iT, gL, iD, iF, iC, iH, hJ, iN, hU, iE, iR, iS, iI, gQ, iQ, iP, iG, kR, kQ, lE, lH, lG, lD, lF, lC, lB, gB, Result.ok.injEq, Next.value.injEq, true_and, and_true, gY, hZ, iV, iW, iU, jG, aoE, gV, gU, gX, gT, gM, gI, gN, gK, fZ, fU, if_true, if_false, aoD, aoH, aoF, aoG, aoJ, aoI, aoC, aoB, fM, fK, eZ, fQ, cU, eQ, eE, dJ, bO, fR, eS, aQ, cY, bF, bP, bJ, aI, cP, cB, eP, aF, gR, aK, cJ, aS, bS, fS, cC, cD, aB, gC, fC, aJ, aD, bH, gO, aP, eU, dT, dV, gG, dH, fH, dB, eH, eT, fD, cF, dF, gJ, dQ, cH, bA, bZ, cG, fP, aE, aG, aO, aV, bD, cL, bN, aA, fE, aM, cO, fI, eY, gH, bK, eK, eL, bW, fW, fF, eJ, dD, cR, dG, aW, bB, aH, gA, aL, dC, dW, aX, cI, fJ, dK, gD, fL, fA, fB, dP, aN, bX, dE, fY, fX, fG, dI, aT, dZ, fT, cQ, eX, fN, bY, bL, dU, aZ, dY, dO, cK, eI, eM, aY, dA, bE, dN, dS, dR, bM, cN, cM, dM, bR, cW, cV, fO, bV, eF, eN, gF, dX, eD, dL, cZ, bG, bQ, bT, bU, aR, cX, aU, d1, hcap, e1, e2, e3, e4, d2, z0, s0, asE]
 refine XS (m := n) (n := 0) (l := []) (S := fun y => w.heap.size <= y) (i := Tryz.t5) Tryz.underlying22 Tryz.underlying3 Hx rfl rfl rfl ⟨rfl, .inl ⟨rfl, rfl⟩⟩ (by decide) (fun y hy => adP hy) (fun b hb => hb) (by omega) (by rw [show Tryz.t5.bytes = 1 from rfl]; omega) (by rw [show Tryz.t5.bytes = 1 from rfl]; omega) fun v1 w1 o1 x1 => ?_
 rcases o1.2 with ⟨-, h0⟩ | ⟨b, c, rest, rfl, hb, ho, hc, hnc⟩
 .omega
 have hcn : ¬ c = 0 := by omega
 have s1 : nL (some ⟨b, 0, none⟩) c 0 1 = some ⟨b, 0, none⟩ := by unfold nL; rw [if_neg hcn, apM] <;> rfl
 simp (disch := omega) only [gE, jE, cS, stepR_skip, hO, iA, iO, iM, iJ, iL, jH, iT, gL, iD, iF, iC, iH, hJ, iN, hU, iE, iR, iS, iI, gQ, iQ, iP, iG, kR, kQ, lE, lH, lG, lD, lF, lC, lB, gB, Result.ok.injEq, Next.value.injEq, true_and, and_true, gY, hZ, iV, iW, iU, jG, aoE, gV, gU, gX, gT, gM, gI, gN, gK, fZ, fU, if_true, if_false, aoD, aoH, aoF, aoG, aoJ, aoI, aoC, aoB, fM, fK, eZ, fQ, cU, eQ, eE, dJ, bO, fR, eS, aQ, cY, bF, bP, bJ, aI, cP, cB, eP, aF, gR, aK, cJ, aS, bS, fS, cC, cD, aB, gC, fC, aJ, aD, bH, gO, aP, eU, dT, dV, gG, dH, fH, dB, eH, eT, fD, cF, dF, gJ, dQ, cH, bA, bZ, cG, fP, aE, aG, aO, aV, bD, cL, bN, aA, fE, aM, cO, fI, eY, gH, bK, eK, eL, bW, fW, fF, eJ, dD, cR, dG, aW, bB, aH, gA, aL, dC, dW, aX, cI, fJ, dK, gD, fL, fA, fB, dP, aN, bX, dE, fY, fX, fG, dI, aT, dZ, fT, cQ, eX, fN, bY, bL, dU, aZ, dY, dO, cK, eI, eM, aY, dA, bE, dN, dS, dR, bM, cN, cM, dM, bR, cW, cV, fO, bV, eF, eN, gF, dX, eD, dL, cZ, bG, bQ, bT, bU, aR, cX, aU, e1, z0, s1, asE]
 refine ⟨⟨b, c, rfl⟩, ⟨rfl, .inr ⟨b, c, _, rfl, hb, ho, hc, by omega⟩⟩, x1.mono fun y hy h => by omega⟩
theorem agT {b : Nat} {xv yv : atP} {l m : List UInt8} {w : atO} (o : mQ w b [xv, yv]) (hx : Bs w xv l) (hy : Bs w yv m) (h1 : 1 <= l.length) (hl : l.length <= 10000000) (hm : m.length <= 10000000) :
 jD pg tV #[.slice (some ⟨b, 0, none⟩) 2 2] w (fun r w' => yB w' w.heap.size 1 r (l ++ m).length ((l ++ m).map oZ) /\ jM w w' mN) := by
 refine Ks ?_
 obtain ⟨RR, hRR⟩ : ∃ RR : atP -> atO -> Prop, RR = fun r w' => yB w' w.heap.size 1 r (l ++ m).length ((l ++ m).map oZ) /\ jM w w' mN := ⟨_, rfl⟩
 rw [<- hRR]
 have hbx := hx
 have hby := hy
 obtain ⟨xa, xc, rfl, -⟩ := hx.len
 obtain ⟨ya, yc, rfl, -⟩ := hy.len
 rw [aoK] at hbx hby o
 rw [aoK] at o
 have z0 : (0 : Int).toNat = 0 := rfl
 have z1 : (1 : Int).toNat = 1 := rfl
 have n2 : ((2 : Nat) : Int) = 2 := rfl
 have c0 : ∀ {W}, jM w W mN -> W.cell? ⟨b, 0, none⟩ = some (.slice xa l.length xc) := fun x => (o.ext x (fun h => h)).cell (off := 0)
 have c1 : ∀ {W}, jM w W mN -> W.cell? ⟨b, 1, none⟩ = some (.slice ya m.length yc) := fun x => (o.ext x (fun h => h)).cell (off := 1)
 have c00 := c0 (jM.refl w mN)
 have c10 := c1 (jM.refl w mN)
 have d0 : decide ((0 : Int) < 2) = true := rfl
 have d1 : decide ((1 : Int) < 2) = true := rfl
 have d2 : decide ((2 : Int) < 2) = false := rfl
 have e01 : (0 : Int) + 1 = 1 := rfl
 have e12 : (1 : Int) + 1 = 2 := rfl
 unfold H6 xJ xC xI xT xY xB xK
 simp (disch := omega) only [gE, jE, cS, stepR_skip, hO, iA, iO, iM, iJ, iL, jH, iT, gL, iD, iF, iC, iH, hJ, iN, hU, iE, iR, iS, iI, gQ, iQ, iP, iG, kR, kQ, lE, lH, lG, lD, lF, lC, lB, gB, Result.ok.injEq, Next.value.injEq, true_and, and_true, gY, hZ, iV, iW, iU, jG, aoE, gV, gU, gX, gT, gM, gI, gN, gK, fZ, fU, if_true, if_false, aoD, aoH, aoF, aoG, aoJ, aoI, aoC, aoB, fM, fK, eZ, fQ, cU, eQ, eE, dJ, bO, fR, eS, aQ, cY, bF, bP, bJ, aI, cP, cB, eP, aF, gR, aK, cJ, aS, bS, fS, cC, cD, aB, gC, fC, aJ, aD, bH, gO, aP, eU, dT, dV, gG, dH, fH, dB, eH, eT, fD, cF, dF, gJ, dQ, cH, bA, bZ, cG, fP, aE, aG, aO, aV, bD, cL, bN, aA, fE, aM, cO, fI, eY, gH, bK, eK, eL, bW, fW, fF, eJ, dD, cR, dG, aW, bB, aH, gA, aL, dC, dW, aX, cI, fJ, dK, gD, fL, fA, fB, dP, aN, bX, dE, fY, fX, fG, dI, aT, dZ, fT, cQ, eX, fN, bY, bL, dU, aZ, dY, dO, cK, eI, eM, aY, dA, bE, dN, dS, dR, bM, cN, cM, dM, bR, cW, cV, fO, bV, eF, eN, gF, dX, eD, dL, cZ, bG, bQ, bT, bU, aR, cX, aU, n2]
 refine kE.rule (fun k (t : atP × atP) W => W = w /\ ((k = 2 /\ t = (.int .i64 0, .int .i64 0)) ∨ (k = 1 /\ t = (.int .i64 (l.length : Nat), .int .i64 1)) ∨ (k = 0 /\ t = (.int .i64 ((l.length + m.length : Nat) : Int), .int .i64 2)))) 2 ⟨rfl, .inl ⟨rfl, rfl⟩⟩ ?_
 rintro k t W ⟨rfl, ⟨rfl, rfl⟩ | ⟨rfl, rfl⟩ | ⟨rfl, rfl⟩⟩
 .unfold pC qC qB
  have e1 : (0 : Int) + (l.length : Int) = (l.length : Int) := by omega
  have d3 : decide ((l.length : Int) < 0) = false := decide_eq_false (by omega)
  simp (disch := omega) only [gE, jE, cS, stepR_skip, hO, iA, iO, iM, iJ, iL, jH, iT, gL, iD, iF, iC, iH, hJ, iN, hU, iE, iR, iS, iI, gQ, iQ, iP, iG, kR, kQ, lE, lH, lG, lD, lF, lC, lB, gB, Result.ok.injEq, Next.value.injEq, true_and, and_true, gY, hZ, iV, iW, iU, jG, aoE, gV, gU, gX, gT, gM, gI, gN, gK, fZ, fU, if_true, if_false, aoD, aoH, aoF, aoG, aoJ, aoI, aoC, aoB, fM, fK, eZ, fQ, cU, eQ, eE, dJ, bO, fR, eS, aQ, cY, bF, bP, bJ, aI, cP, cB, eP, aF, gR, aK, cJ, aS, bS, fS, cC, cD, aB, gC, fC, aJ, aD, bH, gO, aP, eU, dT, dV, gG, dH, fH, dB, eH, eT, fD, cF, dF, gJ, dQ, cH, bA, bZ, cG, fP, aE, aG, aO, aV, bD, cL, bN, aA, fE, aM, cO, fI, eY, gH, bK, eK, eL, bW, fW, fF, eJ, dD, cR, dG, aW, bB, aH, gA, aL, dC, dW, aX, cI, fJ, dK, gD, fL, fA, fB, dP, aN, bX, dE, fY, fX, fG, dI, aT, dZ, fT, cQ, eX, fN, bY, bL, dU, aZ, dY, dO, cK, eI, eM, aY, dA, bE, dN, dS, dR, bM, cN, cM, dM, bR, cW, cV, fO, bV, eF, eN, gF, dX, eD, dL, cZ, bG, bQ, bT, bU, aR, cX, aU, d0, z0, n2, c00, e1, d3, e01, asF, apY]
  first
   | exact ⟨1, by omega, rfl, .inr (.inl ⟨rfl, rfl⟩)⟩
   | exact ⟨1, by omega, .inr (.inl ⟨rfl, rfl⟩)⟩
   | exact ⟨1, by omega, .inr (.inl rfl)⟩
 .unfold pC qC qB
  have e1 : (l.length : Int) + (m.length : Int) = ((l.length + m.length : Nat) : Int) := by omega
  have d3 : decide (((l.length + m.length : Nat) : Int) < 0) = false := decide_eq_false (by omega)
  simp (disch := omega) only [gE, jE, cS, stepR_skip, hO, iA, iO, iM, iJ, iL, jH, iT, gL, iD, iF, iC, iH, hJ, iN, hU, iE, iR, iS, iI, gQ, iQ, iP, iG, kR, kQ, lE, lH, lG, lD, lF, lC, lB, gB, Result.ok.injEq, Next.value.injEq, true_and, and_true, gY, hZ, iV, iW, iU, jG, aoE, gV, gU, gX, gT, gM, gI, gN, gK, fZ, fU, if_true, if_false, aoD, aoH, aoF, aoG, aoJ, aoI, aoC, aoB, fM, fK, eZ, fQ, cU, eQ, eE, dJ, bO, fR, eS, aQ, cY, bF, bP, bJ, aI, cP, cB, eP, aF, gR, aK, cJ, aS, bS, fS, cC, cD, aB, gC, fC, aJ, aD, bH, gO, aP, eU, dT, dV, gG, dH, fH, dB, eH, eT, fD, cF, dF, gJ, dQ, cH, bA, bZ, cG, fP, aE, aG, aO, aV, bD, cL, bN, aA, fE, aM, cO, fI, eY, gH, bK, eK, eL, bW, fW, fF, eJ, dD, cR, dG, aW, bB, aH, gA, aL, dC, dW, aX, cI, fJ, dK, gD, fL, fA, fB, dP, aN, bX, dE, fY, fX, fG, dI, aT, dZ, fT, cQ, eX, fN, bY, bL, dU, aZ, dY, dO, cK, eI, eM, aY, dA, bE, dN, dS, dR, bM, cN, cM, dM, bR, cW, cV, fO, bV, eF, eN, gF, dX, eD, dL, cZ, bG, bQ, bT, bU, aR, cX, aU, d1, z1, n2, c10, e1, d3, e12, Nat.one_mul, aqK, aoH]
  first
   | exact ⟨0, by omega, rfl, .inr (.inr ⟨rfl, rfl⟩)⟩
   | exact ⟨0, by omega, .inr (.inr ⟨rfl, rfl⟩)⟩
   | exact ⟨0, by omega, .inr (.inr rfl)⟩
 .unfold pC qC yN yZ
  simp (disch := omega) only [gE, jE, cS, stepR_skip, hO, iA, iO, iM, iJ, iL, jH, iT, gL, iD, iF, iC, iH, hJ, iN, hU, iE, iR, iS, iI, gQ, iQ, iP, iG, kR, kQ, lE, lH, lG, lD, lF, lC, lB, gB, Result.ok.injEq, Next.value.injEq, true_and, and_true, gY, hZ, iV, iW, iU, jG, aoE, gV, gU, gX, gT, gM, gI, gN, gK, fZ, fU, if_true, if_false, aoD, aoH, aoF, aoG, aoJ, aoI, aoC, aoB, fM, fK, eZ, fQ, cU, eQ, eE, dJ, bO, fR, eS, aQ, cY, bF, bP, bJ, aI, cP, cB, eP, aF, gR, aK, cJ, aS, bS, fS, cC, cD, aB, gC, fC, aJ, aD, bH, gO, aP, eU, dT, dV, gG, dH, fH, dB, eH, eT, fD, cF, dF, gJ, dQ, cH, bA, bZ, cG, fP, aE, aG, aO, aV, bD, cL, bN, aA, fE, aM, cO, fI, eY, gH, bK, eK, eL, bW, fW, fF, eJ, dD, cR, dG, aW, bB, aH, gA, aL, dC, dW, aX, cI, fJ, dK, gD, fL, fA, fB, dP, aN, bX, dE, fY, fX, fG, dI, aT, dZ, fT, cQ, eX, fN, bY, bL, dU, aZ, dY, dO, cK, eI, eM, aY, dA, bE, dN, dS, dR, bM, cN, cM, dM, bR, cW, cV, fO, bV, eF, eN, gF, dX, eD, dL, cZ, bG, bQ, bT, bU, aR, cX, aU, d2]
  refine (ajZ (n := l.length + m.length) (by omega) (by omega)).mono ?_
  rintro r w1 ⟨-, o1, x1⟩
  have s1 := x1.size
  unfold zA zB yW yP zD
  simp (disch := omega) only [gE, jE, cS, stepR_skip, hO, iA, iO, iM, iJ, iL, jH, iT, gL, iD, iF, iC, iH, hJ, iN, hU, iE, iR, iS, iI, gQ, iQ, iP, iG, kR, kQ, lE, lH, lG, lD, lF, lC, lB, gB, Result.ok.injEq, Next.value.injEq, true_and, and_true, gY, hZ, iV, iW, iU, jG, aoE, gV, gU, gX, gT, gM, gI, gN, gK, fZ, fU, if_true, if_false, aoD, aoH, aoF, aoG, aoJ, aoI, aoC, aoB, fM, fK, eZ, fQ, cU, eQ, eE, dJ, bO, fR, eS, aQ, cY, bF, bP, bJ, aI, cP, cB, eP, aF, gR, aK, cJ, aS, bS, fS, cC, cD, aB, gC, fC, aJ, aD, bH, gO, aP, eU, dT, dV, gG, dH, fH, dB, eH, eT, fD, cF, dF, gJ, dQ, cH, bA, bZ, cG, fP, aE, aG, aO, aV, bD, cL, bN, aA, fE, aM, cO, fI, eY, gH, bK, eK, eL, bW, fW, fF, eJ, dD, cR, dG, aW, bB, aH, gA, aL, dC, dW, aX, cI, fJ, dK, gD, fL, fA, fB, dP, aN, bX, dE, fY, fX, fG, dI, aT, dZ, fT, cQ, eX, fN, bY, bL, dU, aZ, dY, dO, cK, eI, eM, aY, dA, bE, dN, dS, dR, bM, cN, cM, dM, bR, cW, cV, fO, bV, eF, eN, gF, dX, eD, dL, cZ, bG, bQ, bT, bU, aR, cX, aU, n2]
  obtain ⟨w0, hw0⟩ : ∃ w0, w0 = W.heap.size := ⟨_, rfl⟩
  rw [<- hw0] at o1
  refine kE.rule (fun k (t : atP × atP) W' => jM W W' mN /\ ((k = 2 /\ ∃ v, t = (v, .int .i64 0) /\ yB W' w0 1 v 0 []) ∨ (k = 1 /\ ∃ v, t = (v, .int .i64 1) /\ yB W' w0 1 v l.length (l.map oZ)) ∨ (k = 0 /\ ∃ v, t = (v, .int .i64 2) /\ yB W' w0 1 v (l ++ m).length ((l ++ m).map oZ)))) 2 ⟨x1, .inl ⟨rfl, _, rfl, o1⟩⟩ ?_
  rintro k t W' ⟨x, ⟨rfl, v, rfl, ov⟩ | ⟨rfl, v, rfl, ov⟩ | ⟨rfl, v, rfl, ov⟩⟩
  .unfold pH
   have cc := c0 x
   have hcl := (hbx.ext x (kJ _)).cl
   rw [aoK] at hcl
   have zz := x.size
   simp (disch := omega) only [gE, jE, cS, stepR_skip, hO, iA, iO, iM, iJ, iL, jH, iT, gL, iD, iF, iC, iH, hJ, iN, hU, iE, iR, iS, iI, gQ, iQ, iP, iG, kR, kQ, lE, lH, lG, lD, lF, lC, lB, gB, Result.ok.injEq, Next.value.injEq, true_and, and_true, gY, hZ, iV, iW, iU, jG, aoE, gV, gU, gX, gT, gM, gI, gN, gK, fZ, fU, if_true, if_false, aoD, aoH, aoF, aoG, aoJ, aoI, aoC, aoB, fM, fK, eZ, fQ, cU, eQ, eE, dJ, bO, fR, eS, aQ, cY, bF, bP, bJ, aI, cP, cB, eP, aF, gR, aK, cJ, aS, bS, fS, cC, cD, aB, gC, fC, aJ, aD, bH, gO, aP, eU, dT, dV, gG, dH, fH, dB, eH, eT, fD, cF, dF, gJ, dQ, cH, bA, bZ, cG, fP, aE, aG, aO, aV, bD, cL, bN, aA, fE, aM, cO, fI, eY, gH, bK, eK, eL, bW, fW, fF, eJ, dD, cR, dG, aW, bB, aH, gA, aL, dC, dW, aX, cI, fJ, dK, gD, fL, fA, fB, dP, aN, bX, dE, fY, fX, fG, dI, aT, dZ, fT, cQ, eX, fN, bY, bL, dU, aZ, dY, dO, cK, eI, eM, aY, dA, bE, dN, dS, dR, bM, cN, cM, dM, bR, cW, cV, fO, bV, eF, eN, gF, dX, eD, dL, cZ, bG, bQ, bT, bU, aR, cX, aU, d0, z0, n2, cc, asF, apY]
   refine lZ ov hcl (DA _) (by omega) (by omega) fun v2 w2 o2 x2 => ?_
   simp (disch := omega) only [gE, jE, cS, stepR_skip, hO, iA, iO, iM, iJ, iL, jH, iT, gL, iD, iF, iC, iH, hJ, iN, hU, iE, iR, iS, iI, gQ, iQ, iP, iG, kR, kQ, lE, lH, lG, lD, lF, lC, lB, gB, Result.ok.injEq, Next.value.injEq, true_and, and_true, gY, hZ, iV, iW, iU, jG, aoE, gV, gU, gX, gT, gM, gI, gN, gK, fZ, fU, if_true, if_false, aoD, aoH, aoF, aoG, aoJ, aoI, aoC, aoB, fM, fK, eZ, fQ, cU, eQ, eE, dJ, bO, fR, eS, aQ, cY, bF, bP, bJ, aI, cP, cB, eP, aF, gR, aK, cJ, aS, bS, fS, cC, cD, aB, gC, fC, aJ, aD, bH, gO, aP, eU, dT, dV, gG, dH, fH, dB, eH, eT, fD, cF, dF, gJ, dQ, cH, bA, bZ, cG, fP, aE, aG, aO, aV, bD, cL, bN, aA, fE, aM, cO, fI, eY, gH, bK, eK, eL, bW, fW, fF, eJ, dD, cR, dG, aW, bB, aH, gA, aL, dC, dW, aX, cI, fJ, dK, gD, fL, fA, fB, dP, aN, bX, dE, fY, fX, fG, dI, aT, dZ, fT, cQ, eX, fN, bY, bL, dU, aZ, dY, dO, cK, eI, eM, aY, dA, bE, dN, dS, dR, bM, cN, cM, dM, bR, cW, cV, fO, bV, eF, eN, gF, dX, eD, dL, cZ, bG, bQ, bT, bU, aR, cX, aU, e01]
   rw [aoH, aqA] at o2
   exact ⟨1, by omega, x.trans x2 fun y hy h => by omega, .inr (.inl ⟨rfl, _, rfl, o2⟩)⟩
  .unfold pH
   have cc := c1 x
   have hcl := (hby.ext x (kJ _)).cl
   rw [aoK] at hcl
   have zz := x.size
   simp (disch := omega) only [gE, jE, cS, stepR_skip, hO, iA, iO, iM, iJ, iL, jH, iT, gL, iD, iF, iC, iH, hJ, iN, hU, iE, iR, iS, iI, gQ, iQ, iP, iG, kR, kQ, lE, lH, lG, lD, lF, lC, lB, gB, Result.ok.injEq, Next.value.injEq, true_and, and_true, gY, hZ, iV, iW, iU, jG, aoE, gV, gU, gX, gT, gM, gI, gN, gK, fZ, fU, if_true, if_false, aoD, aoH, aoF, aoG, aoJ, aoI, aoC, aoB, fM, fK, eZ, fQ, cU, eQ, eE, dJ, bO, fR, eS, aQ, cY, bF, bP, bJ, aI, cP, cB, eP, aF, gR, aK, cJ, aS, bS, fS, cC, cD, aB, gC, fC, aJ, aD, bH, gO, aP, eU, dT, dV, gG, dH, fH, dB, eH, eT, fD, cF, dF, gJ, dQ, cH, bA, bZ, cG, fP, aE, aG, aO, aV, bD, cL, bN, aA, fE, aM, cO, fI, eY, gH, bK, eK, eL, bW, fW, fF, eJ, dD, cR, dG, aW, bB, aH, gA, aL, dC, dW, aX, cI, fJ, dK, gD, fL, fA, fB, dP, aN, bX, dE, fY, fX, fG, dI, aT, dZ, fT, cQ, eX, fN, bY, bL, dU, aZ, dY, dO, cK, eI, eM, aY, dA, bE, dN, dS, dR, bM, cN, cM, dM, bR, cW, cV, fO, bV, eF, eN, gF, dX, eD, dL, cZ, bG, bQ, bT, bU, aR, cX, aU, d1, z1, n2, cc, Nat.one_mul, aqK, aoH]
   refine lZ ov hcl (DA _) (by omega) (by omega) fun v2 w2 o2 x2 => ?_
   simp (disch := omega) only [gE, jE, cS, stepR_skip, hO, iA, iO, iM, iJ, iL, jH, iT, gL, iD, iF, iC, iH, hJ, iN, hU, iE, iR, iS, iI, gQ, iQ, iP, iG, kR, kQ, lE, lH, lG, lD, lF, lC, lB, gB, Result.ok.injEq, Next.value.injEq, true_and, and_true, gY, hZ, iV, iW, iU, jG, aoE, gV, gU, gX, gT, gM, gI, gN, gK, fZ, fU, if_true, if_false, aoD, aoH, aoF, aoG, aoJ, aoI, aoC, aoB, fM, fK, eZ, fQ, cU, eQ, eE, dJ, bO, fR, eS, aQ, cY, bF, bP, bJ, aI, cP, cB, eP, aF, gR, aK, cJ, aS, bS, fS, cC, cD, aB, gC, fC, aJ, aD, bH, gO, aP, eU, dT, dV, gG, dH, fH, dB, eH, eT, fD, cF, dF, gJ, dQ, cH, bA, bZ, cG, fP, aE, aG, aO, aV, bD, cL, bN, aA, fE, aM, cO, fI, eY, gH, bK, eK, eL, bW, fW, fF, eJ, dD, cR, dG, aW, bB, aH, gA, aL, dC, dW, aX, cI, fJ, dK, gD, fL, fA, fB, dP, aN, bX, dE, fY, fX, fG, dI, aT, dZ, fT, cQ, eX, fN, bY, bL, dU, aZ, dY, dO, cK, eI, eM, aY, dA, bE, dN, dS, dR, bM, cN, cM, dM, bR, cW, cV, fO, bV, eF, eN, gF, dX, eD, dL, cZ, bG, bQ, bT, bU, aR, cX, aU, e12]
   rw [<- apN, <- aoL] at o2
   exact ⟨0, by omega, x.trans x2 fun y hy h => by omega, .inr (.inr ⟨rfl, _, rfl, o2⟩)⟩
  .unfold pH tA
   simp (disch := omega) only [gE, jE, cS, stepR_skip, hO, iA, iO, iM, iJ, iL, jH, iT, gL, iD, iF, iC, iH, hJ, iN, hU, iE, iR, iS, iI, gQ, iQ, iP, iG, kR, kQ, lE, lH, lG, lD, lF, lC, lB, gB, Result.ok.injEq, Next.value.injEq, true_and, and_true, gY, hZ, iV, iW, iU, jG, aoE, gV, gU, gX, gT, gM, gI, gN, gK, fZ, fU, if_true, if_false, aoD, aoH, aoF, aoG, aoJ, aoI, aoC, aoB, fM, fK, eZ, fQ, cU, eQ, eE, dJ, bO, fR, eS, aQ, cY, bF, bP, bJ, aI, cP, cB, eP, aF, gR, aK, cJ, aS, bS, fS, cC, cD, aB, gC, fC, aJ, aD, bH, gO, aP, eU, dT, dV, gG, dH, fH, dB, eH, eT, fD, cF, dF, gJ, dQ, cH, bA, bZ, cG, fP, aE, aG, aO, aV, bD, cL, bN, aA, fE, aM, cO, fI, eY, gH, bK, eK, eL, bW, fW, fF, eJ, dD, cR, dG, aW, bB, aH, gA, aL, dC, dW, aX, cI, fJ, dK, gD, fL, fA, fB, dP, aN, bX, dE, fY, fX, fG, dI, aT, dZ, fT, cQ, eX, fN, bY, bL, dU, aZ, dY, dO, cK, eI, eM, aY, dA, bE, dN, dS, dR, bM, cN, cM, dM, bR, cW, cV, fO, bV, eF, eN, gF, dX, eD, dL, cZ, bG, bQ, bT, bU, aR, cX, aU, d2]
   rw [hRR, <- hw0]
   exact ⟨ov, x⟩
theorem X9 {a : Option Addr} {c : Nat} {w : atO} :
 jD pg zN #[.slice a 0 c] w (fun r w' => ∃ v, r = .tuple #[v, .int .i64 0] /\ yB w' w.heap.size 1 v 1 (([0] : List UInt8).map oZ) /\ jM w w' mN) := by
 refine O4 ?_
 unfold Mz BC Bz
 refine (ER w).mono ?_
 rintro r w1 ⟨rfl, hlt, h1, x1⟩
 have d1 : decide ((98047 : Int) < ((0 : Nat) : Int)) = false := rfl
 have n1 : (((0 : Nat) : Int) == 0) = true := rfl
 simp (disch := omega) only [gE, jE, cS, stepR_skip, hO, iA, iO, iM, iJ, iL, jH, iT, gL, iD, iF, iC, iH, hJ, iN, hU, iE, iR, iS, iI, gQ, iQ, iP, iG, kR, kQ, lE, lH, lG, lD, lF, lC, lB, gB, Result.ok.injEq, Next.value.injEq, true_and, and_true, gY, hZ, iV, iW, iU, jG, aoE, gV, gU, gX, gT, gM, gI, gN, gK, fZ, fU, if_true, if_false, aoD, aoH, aoF, aoG, aoJ, aoI, aoC, aoB, fM, fK, eZ, fQ, cU, eQ, eE, dJ, bO, fR, eS, aQ, cY, bF, bP, bJ, aI, cP, cB, eP, aF, gR, aK, cJ, aS, bS, fS, cC, cD, aB, gC, fC, aJ, aD, bH, gO, aP, eU, dT, dV, gG, dH, fH, dB, eH, eT, fD, cF, dF, gJ, dQ, cH, bA, bZ, cG, fP, aE, aG, aO, aV, bD, cL, bN, aA, fE, aM, cO, fI, eY, gH, bK, eK, eL, bW, fW, fF, eJ, dD, cR, dG, aW, bB, aH, gA, aL, dC, dW, aX, cI, fJ, dK, gD, fL, fA, fB, dP, aN, bX, dE, fY, fX, fG, dI, aT, dZ, fT, cQ, eX, fN, bY, bL, dU, aZ, dY, dO, cK, eI, eM, aY, dA, bE, dN, dS, dR, bM, cN, cM, dM, bR, cW, cV, fO, bV, eF, eN, gF, dX, eD, dL, cZ, bG, bQ, bT, bU, aR, cX, aU, d1, n1]
 refine sJ (cells := #[.int .u8 0]) (by decide) (by decide) (by kernel_rfl) fun w2 o2 x2 s2 => ?_
 have z1 := x1.size
 refine ⟨_, rfl, ?_⟩
 exact ⟨⟨rfl, .inr ⟨_, 1, [], rfl, by omega, o2, rfl, aoP _⟩⟩, x1.seq x2⟩
abbrev R9 (a b c : Nat) : atP := .agg #[.int .u32 (a : Nat), .int .u32 (b : Nat), .int .u32 (c : Nat)]
def PkO (w : atO) (base : Nat) (r : atP) : Prop :=
 (∃ (e : Int) (a b c : Nat), e ≠ 0 /\ r = .tuple #[.slice none 0 0, R9 a b c, .int .i64 e]) ∨
 (∃ (x : atP) (bytes : List UInt8) (a b c : Nat), r = .tuple #[x, R9 a b c, .int .i64 0] /\ yB w base 1 x bytes.length (bytes.map oZ) /\ 2 <= bytes.length)
theorem aaX {v : atP} {l : List UInt8} {lvl a b c : Nat} {w : atO} (h : Bs w v l) (hl : l.length <= 2) (hlv : lvl <= 9) :
 jD pg Cg #[v, .int .i64 0, .int .i64 (l.length : Nat), .int .i64 (lvl : Nat), R9 a b c] w (fun r w' => PkO w' w.heap.size r /\ jM w w' mN) := by
 refine QZ ?_
 obtain ⟨RR, hRR⟩ : ∃ RR : atP -> atO -> Prop, RR = fun r w' => PkO w' w.heap.size r /\ jM w w' mN := ⟨_, rfl⟩
 rw [<- hRR]
 have hv := h
 obtain ⟨va, vc, rfl, hvc⟩ := h.len
 rw [aoK] at hv hvc ⊢
 unfold Qr Fs EF
 refine Cc fun w1 o1 x1 s1 => ?_
 have o1 : mQ w1 w.heap.size [.int .u32 (a : Nat), .int .u32 (b : Nat), .int .u32 (c : Nat)] := o1
 obtain ⟨p, hp⟩ : ∃ p, p = w.heap.size := ⟨_, rfl⟩
 rw [<- hp] at o1 ⊢
 refine rM fun w2 o2 x2 s2 => ?_
 obtain ⟨q, hq⟩ : ∃ q, q = w1.heap.size := ⟨_, rfl⟩
 rw [<- hq] at o2 ⊢
 have o2 : mQ w2 q [.int .u32 0, .int .u32 0, .int .u32 0] := o2
 have x02 := x1.seq x2
 have hv2 := hv.ext x02 (kJ _)
 have hqp : q ≠ p := by omega
 have oP : ∀ {W}, jM w2 W mN -> mQ W p [.int .u32 (a : Nat), .int .u32 (b : Nat), .int .u32 (c : Nat)] := fun x => (o1.ext x2 (fun h => h)).ext x (fun h => h)
 have oQ : ∀ {W}, jM w2 W mN -> mQ W q [.int .u32 0, .int .u32 0, .int .u32 0] := fun x => o2.ext x (fun h => h)
 have ld : ∀ {W}, jM w2 W mN -> (jF 45 (.pointer (some ⟨p, 0, none⟩))).run pg W = .ok (.value (R9 a b c)) W := fun x => AJ (off := 0) (oP x) (by simp)
 have ldd : ∀ {W}, jM w2 W mN -> (jF 45 (.pointer (some ⟨p, 0, none⟩))).run pg (dr W) = .ok (.value (R9 a b c)) (dr W) := fun x => ld (x.seq (jM.dr _ mN))
 have n0 : ((0 : Int) != 0) = false := rfl
 have told : ∀ (W : atO) (K : atP -> atO -> Prop), jM w2 W mN -> (∀ W', jM w W' mN -> jM W W' (fun y => y = q) -> K (R9 a b c) W') →
     gE pg (kA 45 (.pointer (some ⟨q, 0, none⟩)) (R9 a b c)) W fun _u w => UE pg 45 (.pointer (some ⟨q, 0, none⟩)) w fun r1 => K r1 w := by
  intro W K x hK
  refine pS (oQ x) rfl (by simp [one]) (by simp) fun w4 o4 x4 s4 => ?_
  refine EO o4 (by simp [qL]) ?_
  exact hK w4 ((x02.seq x).trans x4 fun y hy h => by omega) x4
 refine (akV (a0 := 0) (to := l.length) (lvl := lvl) (B := l) hlv (by omega) (aoP _) (by omega) hv2).mono ?_
 rintro r w3 ⟨⟨fv, L, bg, rfl, oL, hpl, hbl, -, -⟩, x3⟩
 have hL0 : L = [] := by
  have := U2 hpl (by omega)
  exact apT.1 (by omega)
 subst hL0
 obtain ⟨fa, fc, rfl⟩ := oL.len
 unfold Fc EL Fa EV Fj
 have e0 : ((([] : List Sq).length : Nat) : Int) = 0 := rfl
 have e00 : ([] : List Sq).length = 0 := rfl
 simp (disch := omega) only [gE, jE, cS, stepR_skip, hO, iA, iO, iM, iJ, iL, jH, iT, gL, iD, iF, iC, iH, hJ, iN, hU, iE, iR, iS, iI, gQ, iQ, iP, iG, kR, kQ, lE, lH, lG, lD, lF, lC, lB, gB, Result.ok.injEq, Next.value.injEq, true_and, and_true, gY, hZ, iV, iW, iU, jG, aoE, gV, gU, gX, gT, gM, gI, gN, gK, fZ, fU, if_true, if_false, aoD, aoH, aoF, aoG, aoJ, aoI, aoC, aoB, fM, fK, eZ, fQ, cU, eQ, eE, dJ, bO, fR, eS, aQ, cY, bF, bP, bJ, aI, cP, cB, eP, aF, gR, aK, cJ, aS, bS, fS, cC, cD, aB, gC, fC, aJ, aD, bH, gO, aP, eU, dT, dV, gG, dH, fH, dB, eH, eT, fD, cF, dF, gJ, dQ, cH, bA, bZ, cG, fP, aE, aG, aO, aV, bD, cL, bN, aA, fE, aM, cO, fI, eY, gH, bK, eK, eL, bW, fW, fF, eJ, dD, cR, dG, aW, bB, aH, gA, aL, dC, dW, aX, cI, fJ, dK, gD, fL, fA, fB, dP, aN, bX, dE, fY, fX, fG, dI, aT, dZ, fT, cQ, eX, fN, bY, bL, dU, aZ, dY, dO, cK, eI, eM, aY, dA, bE, dN, dS, dR, bM, cN, cM, dM, bR, cW, cV, fO, bV, eF, eN, gF, dX, eD, dL, cZ, bG, bQ, bT, bU, aR, cX, aU, n0, e0, e00]
 refine kE.rule (fun m (t : atP × atP × atP) W => m = 0 /\ t = (.slice none 0 0, .int .i64 0, .int .i64 0) /\ W = w3) 0 ⟨rfl, rfl, rfl⟩ ?_
 rintro m t W ⟨rfl, rfl, rfl⟩
 unfold AW
 have d0 : decide ((0 : Int) < ((0 : Nat) : Int)) = false := rfl
 have d0' : decide ((0 : Int) < 0) = false := rfl
 unfold A6
 have x23 : jM w2 W mN := x3
 have z23 := x23.size
 have hn : ((l.length : Nat) : Int).toNat = l.length := aoE _
 have z0 : (0 : Int).toNat = 0 := rfl
 simp (disch := omega) only [gE, jE, cS, stepR_skip, hO, iA, iO, iM, iJ, iL, jH, iT, gL, iD, iF, iC, iH, hJ, iN, hU, iE, iR, iS, iI, gQ, iQ, iP, iG, kR, kQ, lE, lH, lG, lD, lF, lC, lB, gB, Result.ok.injEq, Next.value.injEq, true_and, and_true, gY, hZ, iV, iW, iU, jG, aoE, gV, gU, gX, gT, gM, gI, gN, gK, fZ, fU, if_true, if_false, aoD, aoH, aoF, aoG, aoJ, aoI, aoC, aoB, fM, fK, eZ, fQ, cU, eQ, eE, dJ, bO, fR, eS, aQ, cY, bF, bP, bJ, aI, cP, cB, eP, aF, gR, aK, cJ, aS, bS, fS, cC, cD, aB, gC, fC, aJ, aD, bH, gO, aP, eU, dT, dV, gG, dH, fH, dB, eH, eT, fD, cF, dF, gJ, dQ, cH, bA, bZ, cG, fP, aE, aG, aO, aV, bD, cL, bN, aA, fE, aM, cO, fI, eY, gH, bK, eK, eL, bW, fW, fF, eJ, dD, cR, dG, aW, bB, aH, gA, aL, dC, dW, aX, cI, fJ, dK, gD, fL, fA, fB, dP, aN, bX, dE, fY, fX, fG, dI, aT, dZ, fT, cQ, eX, fN, bY, bL, dU, aZ, dY, dO, cK, eI, eM, aY, dA, bE, dN, dS, dR, bM, cN, cM, dM, bR, cW, cV, fO, bV, eF, eN, gF, dX, eD, dL, cZ, bG, bQ, bT, bU, aR, cX, aU, d0, d0', hn, z0]
 have hsl : Bs W (.slice (nL va vc 0 1) (l.length - 0) (vc - 0)) l := by
  have := Sl.take' (hv.ext (x02.seq x23) (kJ _)) (k := l.length) (aoP _)
  rw [aoU (by rw [aoK]; omega)] at this
  exact this
 have hcl := hsl.cl
 rw [aoK] at hcl
 refine lZ (yB.nil W W.heap.size 1) hcl (DA _) (aoP _) (by omega) fun v4 w4 o4 x4 => ?_
 rw [aoH, aqA] at o4
 have x24 : jM w2 w4 mN := x23.trans x4 fun y hy h => by omega
 refine (acP (l := l) o4.sl (by omega)).mono ?_
 rintro r w5 ⟨⟨xv, bytes, rfl, o5, hb1, hb2⟩, x5⟩
 have x25 := x24.seq x5
 have z25 := x25.size
 simp (disch := omega) only [gE, jE, cS, stepR_skip, hO, iA, iO, iM, iJ, iL, jH, iT, gL, iD, iF, iC, iH, hJ, iN, hU, iE, iR, iS, iI, gQ, iQ, iP, iG, kR, kQ, lE, lH, lG, lD, lF, lC, lB, gB, Result.ok.injEq, Next.value.injEq, true_and, and_true, gY, hZ, iV, iW, iU, jG, aoE, gV, gU, gX, gT, gM, gI, gN, gK, fZ, fU, if_true, if_false, aoD, aoH, aoF, aoG, aoJ, aoI, aoC, aoB, fM, fK, eZ, fQ, cU, eQ, eE, dJ, bO, fR, eS, aQ, cY, bF, bP, bJ, aI, cP, cB, eP, aF, gR, aK, cJ, aS, bS, fS, cC, cD, aB, gC, fC, aJ, aD, bH, gO, aP, eU, dT, dV, gG, dH, fH, dB, eH, eT, fD, cF, dF, gJ, dQ, cH, bA, bZ, cG, fP, aE, aG, aO, aV, bD, cL, bN, aA, fE, aM, cO, fI, eY, gH, bK, eK, eL, bW, fW, fF, eJ, dD, cR, dG, aW, bB, aH, gA, aL, dC, dW, aX, cI, fJ, dK, gD, fL, fA, fB, dP, aN, bX, dE, fY, fX, fG, dI, aT, dZ, fT, cQ, eX, fN, bY, bL, dU, aZ, dY, dO, cK, eI, eM, aY, dA, bE, dN, dS, dR, bM, cN, cM, dM, bR, cW, cV, fO, bV, eF, eN, gF, dX, eD, dL, cZ, bG, bQ, bT, bU, aR, cX, aU, n0]
 refine (X9).mono ?_
 rintro r w6 ⟨yv, rfl, o6, x6⟩
 have x26 := x25.seq x6
 have z26 := x26.size
 have hx6 : Bs w6 xv bytes := (o5.sl).ext x6 (kJ _)
 have hy6 : Bs w6 yv [0] := o6.sl
 have hx6' := hx6
 have hy6' := hy6
 obtain ⟨xa, xc, rfl, -⟩ := hx6.len
 obtain ⟨ya, yc, rfl, -⟩ := hy6.len
 rw [aoK] at hx6' hy6'
 rw [aoK, aoK]
 have l6 := ldd x26
 simp (disch := omega) only [gE, jE, cS, stepR_skip, hO, iA, iO, iM, iJ, iL, jH, iT, gL, iD, iF, iC, iH, hJ, iN, hU, iE, iR, iS, iI, gQ, iQ, iP, iG, kR, kQ, lE, lH, lG, lD, lF, lC, lB, gB, Result.ok.injEq, Next.value.injEq, true_and, and_true, gY, hZ, iV, iW, iU, jG, aoE, gV, gU, gX, gT, gM, gI, gN, gK, fZ, fU, if_true, if_false, aoD, aoH, aoF, aoG, aoJ, aoI, aoC, aoB, fM, fK, eZ, fQ, cU, eQ, eE, dJ, bO, fR, eS, aQ, cY, bF, bP, bJ, aI, cP, cB, eP, aF, gR, aK, cJ, aS, bS, fS, cC, cD, aB, gC, fC, aJ, aD, bH, gO, aP, eU, dT, dV, gG, dH, fH, dB, eH, eT, fD, cF, dF, gJ, dQ, cH, bA, bZ, cG, fP, aE, aG, aO, aV, bD, cL, bN, aA, fE, aM, cO, fI, eY, gH, bK, eK, eL, bW, fW, fF, eJ, dD, cR, dG, aW, bB, aH, gA, aL, dC, dW, aX, cI, fJ, dK, gD, fL, fA, fB, dP, aN, bX, dE, fY, fX, fG, dI, aT, dZ, fT, cQ, eX, fN, bY, bL, dU, aZ, dY, dO, cK, eI, eM, aY, dA, bE, dN, dS, dR, bM, cN, cM, dM, bR, cW, cV, fO, bV, eF, eN, gF, dX, eD, dL, cZ, bG, bQ, bT, bU, aR, cX, aU, n0]
 refine Oz (cells := #[.slice xa bytes.length xc, .slice ya [(0 : UInt8)].length yc]) (by decide) (by decide) (by kernel_rfl) fun w7 o7 x7 s7 => ?_
 have x6d : jM w2 (dr w6) mN := x26.seq (jM.dr _ mN)
 have x27 := x6d.seq x7
 have z27 := x27.size
 have hx7 : Bs w7 (.slice xa bytes.length xc) bytes := (hx6'.ext (jM.dr _ mN) (kJ _)).ext x7 (kJ _)
 have hy7 : Bs w7 (.slice ya [(0 : UInt8)].length yc) [0] := (hy6'.ext (jM.dr _ mN) (kJ _)).ext x7 (kJ _)
 refine (agT (l := bytes) (m := [0]) o7 hx7 hy7 hb1 (by omega) (by simp)).mono ?_
 rintro r w8 ⟨o8, x8⟩
 have x28 := x27.seq x8
 have l7 := ld x27
 have l8 := ld x28
 simp (disch := omega) only [gE, jE, cS, stepR_skip, hO, iA, iO, iM, iJ, iL, jH, iT, gL, iD, iF, iC, iH, hJ, iN, hU, iE, iR, iS, iI, gQ, iQ, iP, iG, kR, kQ, lE, lH, lG, lD, lF, lC, lB, gB, Result.ok.injEq, Next.value.injEq, true_and, and_true, gY, hZ, iV, iW, iU, jG, aoE, gV, gU, gX, gT, gM, gI, gN, gK, fZ, fU, if_true, if_false, aoD, aoH, aoF, aoG, aoJ, aoI, aoC, aoB, fM, fK, eZ, fQ, cU, eQ, eE, dJ, bO, fR, eS, aQ, cY, bF, bP, bJ, aI, cP, cB, eP, aF, gR, aK, cJ, aS, bS, fS, cC, cD, aB, gC, fC, aJ, aD, bH, gO, aP, eU, dT, dV, gG, dH, fH, dB, eH, eT, fD, cF, dF, gJ, dQ, cH, bA, bZ, cG, fP, aE, aG, aO, aV, bD, cL, bN, aA, fE, aM, cO, fI, eY, gH, bK, eK, eL, bW, fW, fF, eJ, dD, cR, dG, aW, bB, aH, gA, aL, dC, dW, aX, cI, fJ, dK, gD, fL, fA, fB, dP, aN, bX, dE, fY, fX, fG, dI, aT, dZ, fT, cQ, eX, fN, bY, bL, dU, aZ, dY, dO, cK, eI, eM, aY, dA, bE, dN, dS, dR, bM, cN, cM, dM, bR, cW, cV, fO, bV, eF, eN, gF, dX, eD, dL, cZ, bG, bQ, bT, bU, aR, cX, aU, l6, l7, l8]
 refine told w8 (fun r1 w => RR (.tuple #[r, r1, .int .i64 0]) w) x28 fun W' xw xq => ?_
 rw [hRR]
 refine ⟨.inr ⟨r, bytes ++ [0], a, b, c, rfl, ?_, by rw [aoL]; simp; omega⟩, xw⟩
 exact (o8.ext xq (fun y hy h => by omega)).lower (by omega)
end Go.Proofs.YtoecppploooloaaGreatDoor
namespace Go.Proofs.YtoecppploooloaaGreatDoor
open Go Go.En Go.Pu
set_option maxRecDepth 4000
def Db (l : List UInt8) : List UInt8 := if Fm l then ahT l.length (l.headD 0) true else ajL l
def alG (w : atO) (base : Nat) (l : List UInt8) (r : atP) : Prop := ∃ (v : atP) (a b c : Nat), r = .tuple #[v, R9 a b c, .int .i64 0] /\ yB w base 1 v (Db l).length ((Db l).map oZ)
theorem aiL {v : atP} {l : List UInt8} {lvl a b c : Nat} {w : atO} (h : Bs w v l) (h1 : 1 <= l.length) (hl : l.length <= 65536) (hs : Fm l = true ∨ l.length <= 2) (hlv : lvl <= 9) :
 jD pg DL #[v, .int .i64 0, .int .i64 (l.length : Nat), .int .i64 (lvl : Nat), R9 a b c] w (fun r w' => alG w' w.heap.size l r /\ jM w w' mN) := by
 refine Ro ?_
 obtain ⟨RR, hRR⟩ : ∃ RR : atP -> atO -> Prop, RR = fun r w' => alG w' w.heap.size l r /\ jM w w' mN := ⟨_, rfl⟩
 rw [<- hRR]
 have hv := h
 obtain ⟨va, vc, rfl, hvc⟩ := h.len
 rw [aoK] at hv hvc ⊢
 unfold RU GC Gy
 refine Cc fun w1 o1 x1 s1 => ?_
 have o1 : mQ w1 w.heap.size [.int .u32 (a : Nat), .int .u32 (b : Nat), .int .u32 (c : Nat)] := o1
 obtain ⟨p, hp⟩ : ∃ p, p = w.heap.size := ⟨_, rfl⟩
 rw [<- hp] at o1 ⊢
 refine rM fun w2 o2 x2 s2 => ?_
 obtain ⟨q, hq⟩ : ∃ q, q = w1.heap.size := ⟨_, rfl⟩
 rw [<- hq] at o2 ⊢
 have o2 : mQ w2 q [.int .u32 0, .int .u32 0, .int .u32 0] := o2
 have hn : ((l.length : Nat) : Int).toNat = l.length := aoE _
 have z0 : (0 : Int).toNat = 0 := rfl
 have k1 : (((l.length : Nat) : Int) == ((l.length : Nat) : Int)) = true := beq_self_eq_true _
 have hs0 : l.length - 0 = l.length := rfl
 simp (disch := omega) only [gE, jE, cS, stepR_skip, hO, iA, iO, iM, iJ, iL, jH, iT, gL, iD, iF, iC, iH, hJ, iN, hU, iE, iR, iS, iI, gQ, iQ, iP, iG, kR, kQ, lE, lH, lG, lD, lF, lC, lB, gB, Result.ok.injEq, Next.value.injEq, true_and, and_true, gY, hZ, iV, iW, iU, jG, aoE, gV, gU, gX, gT, gM, gI, gN, gK, fZ, fU, if_true, if_false, aoD, aoH, aoF, aoG, aoJ, aoI, aoC, aoB, fM, fK, eZ, fQ, cU, eQ, eE, dJ, bO, fR, eS, aQ, cY, bF, bP, bJ, aI, cP, cB, eP, aF, gR, aK, cJ, aS, bS, fS, cC, cD, aB, gC, fC, aJ, aD, bH, gO, aP, eU, dT, dV, gG, dH, fH, dB, eH, eT, fD, cF, dF, gJ, dQ, cH, bA, bZ, cG, fP, aE, aG, aO, aV, bD, cL, bN, aA, fE, aM, cO, fI, eY, gH, bK, eK, eL, bW, fW, fF, eJ, dD, cR, dG, aW, bB, aH, gA, aL, dC, dW, aX, cI, fJ, dK, gD, fL, fA, fB, dP, aN, bX, dE, fY, fX, fG, dI, aT, dZ, fT, cQ, eX, fN, bY, bL, dU, aZ, dY, dO, cK, eI, eM, aY, dA, bE, dN, dS, dR, bM, cN, cM, dM, bR, cW, cV, fO, bV, eF, eN, gF, dX, eD, dL, cZ, bG, bQ, bT, bU, aR, cX, aU, hn, z0, k1, hs0]
 obtain ⟨na, hna⟩ : ∃ na, na = nL va vc 0 1 := ⟨_, rfl⟩
 rw [<- hna]
 refine VM fun w3 o3 x3 s3 => ?_
 obtain ⟨x, hx⟩ : ∃ x, x = w2.heap.size := ⟨_, rfl⟩
 rw [<- hx] at o3 ⊢
 refine Ux o3 rfl (by simp [one]) (by simp) fun w4 o4 x4 s4 => ?_
 have o4 : mQ w4 x [.bool true, .int .i64 0, .int .i64 (l.length : Nat)] := o4
 have x24 : jM w2 w4 mN := x3.trans x4 fun y hy h => by omega
 have x04 : jM w w4 mN := (x1.seq x2).seq x24
 have hpq : p ≠ q := by omega
 have hxp : x ≠ p := by omega
 have hxq : x ≠ q := by omega
 have oP : ∀ {W} {M : Nat -> Prop}, jM w4 W M -> ¬ M p -> mQ W p [.int .u32 (a : Nat), .int .u32 (b : Nat), .int .u32 (c : Nat)] := fun xx hm => ((o1.ext x2 (fun h => h)).ext x24 (fun h => h)).ext xx hm
 have oQ : ∀ {W} {M : Nat -> Prop}, jM w4 W M -> ¬ M q -> mQ W q [.int .u32 0, .int .u32 0, .int .u32 0] := fun xx hm => (o2.ext x24 (fun h => h)).ext xx hm
 have ld : ∀ {W} {M : Nat -> Prop}, jM w4 W M -> ¬ M p -> (jF 45 (.pointer (some ⟨p, 0, none⟩))).run pg W = .ok (.value (R9 a b c)) W := fun xx hm => AJ (off := 0) (oP xx hm) (by simp)
 have lt4 : x < w4.heap.size := o4.lt
 have hold : ¬ Lf (.slice na l.length (vc - 0)) (fun y => w2.heap.size <= y) := by
  have := Sl.take' (hv.ext (x1.seq x2) (kJ _)) (k := l.length) (aoP _)
  rw [<- hna] at this
  exact this.old
 have hsl : Bs w4 (.slice na l.length (vc - 0)) l := by
  have := Sl.take' (hv.ext x04 (kJ _)) (k := l.length) (aoP _)
  rw [aoU (by rw [aoK]; omega), <- hna] at this
  exact this
 obtain ⟨nc, hnc⟩ : ∃ nc, nc = vc - 0 := ⟨_, rfl⟩
 rw [<- hnc] at hsl hold ⊢
 have n0 : ((0 : Int) != 0) = false := rfl
 have told : ∀ (W : atO) (K : atP -> atO -> Prop) (M : Nat -> Prop), jM w4 W M -> ¬ M q -> jM w W mN -> (∀ W', jM w W' mN -> jM W W' (fun y => y = q) -> K (R9 a b c) W') →
     gE pg (kA 45 (.pointer (some ⟨q, 0, none⟩)) (R9 a b c)) W fun _u w => UE pg 45 (.pointer (some ⟨q, 0, none⟩)) w fun r1 => K r1 w := by
  intro W K M xx hm x0 hK
  refine pS (oQ xx hm) rfl (by simp [one]) (by simp) fun w5 o5 x5 s5 => ?_
  refine EO o5 (by simp [qL]) ?_
  exact hK w5 (x0.trans x5 fun y hy h => by omega) x5
 have tail : ∀ (W : atO) (k : Nat) (ba : Option Addr) (bc : Nat) (bl : List UInt8), k <= 2 -> mQ W x [.bool true, .int .i64 (k : Nat), .int .i64 (l.length : Nat)] -> jM w4 W (fun y => y = x) -> Bs W (.slice ba bl.length bc) bl -> bl.length <= 65536 -> b3 (8 * l.length + 2 * k + 1) ++ bl = Db l →
     tM RR (.pointer (some ⟨p, 0, none⟩)) (.pointer (some ⟨q, 0, none⟩)) (.pointer (some ⟨x, 0, none⟩)) (.slice ba bl.length bc) W := by
  intro W k ba bc bl hk oX xW hb hbl he
  unfold tM
  have ldx : (jF 65 (.pointer (some ⟨x, 0, none⟩))).run pg W = .ok (.value (.agg #[.bool true, .int .i64 (k : Nat), .int .i64 (l.length : Nat)])) W := UM (off := 0) oX (by simp)
  have x0W : jM w W mN := x04.trans xW fun y hy h => by omega
  simp (disch := omega) only [gE, jE, cS, stepR_skip, hO, iA, iO, iM, iJ, iL, jH, iT, gL, iD, iF, iC, iH, hJ, iN, hU, iE, iR, iS, iI, gQ, iQ, iP, iG, kR, kQ, lE, lH, lG, lD, lF, lC, lB, gB, Result.ok.injEq, Next.value.injEq, true_and, and_true, gY, hZ, iV, iW, iU, jG, aoE, gV, gU, gX, gT, gM, gI, gN, gK, fZ, fU, if_true, if_false, aoD, aoH, aoF, aoG, aoJ, aoI, aoC, aoB, fM, fK, eZ, fQ, cU, eQ, eE, dJ, bO, fR, eS, aQ, cY, bF, bP, bJ, aI, cP, cB, eP, aF, gR, aK, cJ, aS, bS, fS, cC, cD, aB, gC, fC, aJ, aD, bH, gO, aP, eU, dT, dV, gG, dH, fH, dB, eH, eT, fD, cF, dF, gJ, dQ, cH, bA, bZ, cG, fP, aE, aG, aO, aV, bD, cL, bN, aA, fE, aM, cO, fI, eY, gH, bK, eK, eL, bW, fW, fF, eJ, dD, cR, dG, aW, bB, aH, gA, aL, dC, dW, aX, cI, fJ, dK, gD, fL, fA, fB, dP, aN, bX, dE, fY, fX, fG, dI, aT, dZ, fT, cQ, eX, fN, bY, bL, dU, aZ, dY, dO, cK, eI, eM, aY, dA, bE, dN, dS, dR, bM, cN, cM, dM, bR, cW, cV, fO, bV, eF, eN, gF, dX, eD, dL, cZ, bG, bQ, bT, bU, aR, cX, aU, ldx]
  refine (WY hk (by omega)).mono ?_
  rintro r w5 ⟨hv5, rfl, o5, x5⟩
  have he1 : (8 * l.length + 2 * k + if true = true then 1 else 0) = 8 * l.length + 2 * k + 1 := by simp
  rw [he1] at o5
  have x45 : jM w4 w5 (fun y => y = x) := xW.seq (x5.mono fun _ _ h => h.elim)
  have l5 := ld x45 (fun h => hxp h.symm)
  have x4d : jM w4 (dr w5) (fun y => y = x) := x45.seq (jM.dr _ _)
  have l5d := ld x4d (fun h => hxp h.symm)
  have z5 := x5.size
  simp (disch := omega) only [gE, jE, cS, stepR_skip, hO, iA, iO, iM, iJ, iL, jH, iT, gL, iD, iF, iC, iH, hJ, iN, hU, iE, iR, iS, iI, gQ, iQ, iP, iG, kR, kQ, lE, lH, lG, lD, lF, lC, lB, gB, Result.ok.injEq, Next.value.injEq, true_and, and_true, gY, hZ, iV, iW, iU, jG, aoE, gV, gU, gX, gT, gM, gI, gN, gK, fZ, fU, if_true, if_false, aoD, aoH, aoF, aoG, aoJ, aoI, aoC, aoB, fM, fK, eZ, fQ, cU, eQ, eE, dJ, bO, fR, eS, aQ, cY, bF, bP, bJ, aI, cP, cB, eP, aF, gR, aK, cJ, aS, bS, fS, cC, cD, aB, gC, fC, aJ, aD, bH, gO, aP, eU, dT, dV, gG, dH, fH, dB, eH, eT, fD, cF, dF, gJ, dQ, cH, bA, bZ, cG, fP, aE, aG, aO, aV, bD, cL, bN, aA, fE, aM, cO, fI, eY, gH, bK, eK, eL, bW, fW, fF, eJ, dD, cR, dG, aW, bB, aH, gA, aL, dC, dW, aX, cI, fJ, dK, gD, fL, fA, fB, dP, aN, bX, dE, fY, fX, fG, dI, aT, dZ, fT, cQ, eX, fN, bY, bL, dU, aZ, dY, dO, cK, eI, eM, aY, dA, bE, dN, dS, dR, bM, cN, cM, dM, bR, cW, cV, fO, bV, eF, eN, gF, dX, eD, dL, cZ, bG, bQ, bT, bU, aR, cX, aU, n0, l5d]
  have hb5 := (hb.ext x5 (kJ _)).ext (jM.dr _ mN) (kJ _)
  have hcl := hb5.cl
  rw [aoK] at hcl
  refine lZ (o5.ext (jM.dr _ mN) (fun _ _ h => h)) hcl (DA _) (by show W.heap.size <= (dr w5).heap.size; exact z5) (by omega) fun v6 w6 o6 x6 => ?_
  have o6 : yB w6 W.heap.size 1 v6 (Db l).length ((Db l).map oZ) := by
   rw [<- he, aoL, apN]
   exact o6
  have zW := xW.size
  have x46 : jM w4 w6 (fun y => y = x) := x4d.trans x6 fun y hy h => by omega
  have l6 := ld x46 (fun h => hxp h.symm)
  have x06 : jM w w6 mN := ((x0W.seq x5).seq (jM.dr _ mN)).trans x6 fun y hy h => by omega
  simp (disch := omega) only [gE, jE, cS, stepR_skip, hO, iA, iO, iM, iJ, iL, jH, iT, gL, iD, iF, iC, iH, hJ, iN, hU, iE, iR, iS, iI, gQ, iQ, iP, iG, kR, kQ, lE, lH, lG, lD, lF, lC, lB, gB, Result.ok.injEq, Next.value.injEq, true_and, and_true, gY, hZ, iV, iW, iU, jG, aoE, gV, gU, gX, gT, gM, gI, gN, gK, fZ, fU, if_true, if_false, aoD, aoH, aoF, aoG, aoJ, aoI, aoC, aoB, fM, fK, eZ, fQ, cU, eQ, eE, dJ, bO, fR, eS, aQ, cY, bF, bP, bJ, aI, cP, cB, eP, aF, gR, aK, cJ, aS, bS, fS, cC, cD, aB, gC, fC, aJ, aD, bH, gO, aP, eU, dT, dV, gG, dH, fH, dB, eH, eT, fD, cF, dF, gJ, dQ, cH, bA, bZ, cG, fP, aE, aG, aO, aV, bD, cL, bN, aA, fE, aM, cO, fI, eY, gH, bK, eK, eL, bW, fW, fF, eJ, dD, cR, dG, aW, bB, aH, gA, aL, dC, dW, aX, cI, fJ, dK, gD, fL, fA, fB, dP, aN, bX, dE, fY, fX, fG, dI, aT, dZ, fT, cQ, eX, fN, bY, bL, dU, aZ, dY, dO, cK, eI, eM, aY, dA, bE, dN, dS, dR, bM, cN, cM, dM, bR, cW, cV, fO, bV, eF, eN, gF, dX, eD, dL, cZ, bG, bQ, bT, bU, aR, cX, aU, l6, l5d]
  refine told w6 (fun r1 w => RR (.tuple #[v6, r1, .int .i64 0]) w) _ x46 (fun h => hxq h.symm) x06 fun W' xw xq => ?_
  rw [hRR]
  refine ⟨⟨v6, a, b, c, rfl, ?_⟩, xw⟩
  refine (o6.ext xq fun y hy h => by omega).lower (by omega)
 refine (aaD hsl (by omega)).mono ?_
 rintro r w5 ⟨rfl, x5⟩
 have o5 := o4.ext x5 (fun h => h)
 cases hal : Fm l with
 | true =>
   have hblk : Db l = ahT l.length (l.headD 0) true := by unfold Db; rw [if_pos hal]
   have z1 : (1 : Int).toNat = 1 := rfl
   have d1 : (1 : Int) <= (nc : Int) := by
    have := hsl.len
    obtain ⟨a', c', he, hc'⟩ := this
    simp only [Value.slice.injEq] at he
    rw [aoK] at hc'
    omega
   have hn10 : 1 - 0 = 1 := rfl
   simp (disch := omega) only [gE, jE, cS, stepR_skip, hO, iA, iO, iM, iJ, iL, jH, iT, gL, iD, iF, iC, iH, hJ, iN, hU, iE, iR, iS, iI, gQ, iQ, iP, iG, kR, kQ, lE, lH, lG, lD, lF, lC, lB, gB, Result.ok.injEq, Next.value.injEq, true_and, and_true, gY, hZ, iV, iW, iU, jG, aoE, gV, gU, gX, gT, gM, gI, gN, gK, fZ, fU, if_true, if_false, aoD, aoH, aoF, aoG, aoJ, aoI, aoC, aoB, fM, fK, eZ, fQ, cU, eQ, eE, dJ, bO, fR, eS, aQ, cY, bF, bP, bJ, aI, cP, cB, eP, aF, gR, aK, cJ, aS, bS, fS, cC, cD, aB, gC, fC, aJ, aD, bH, gO, aP, eU, dT, dV, gG, dH, fH, dB, eH, eT, fD, cF, dF, gJ, dQ, cH, bA, bZ, cG, fP, aE, aG, aO, aV, bD, cL, bN, aA, fE, aM, cO, fI, eY, gH, bK, eK, eL, bW, fW, fF, eJ, dD, cR, dG, aW, bB, aH, gA, aL, dC, dW, aX, cI, fJ, dK, gD, fL, fA, fB, dP, aN, bX, dE, fY, fX, fG, dI, aT, dZ, fT, cQ, eX, fN, bY, bL, dU, aZ, dY, dO, cK, eI, eM, aY, dA, bE, dN, dS, dR, bM, cN, cM, dM, bR, cW, cV, fO, bV, eF, eN, gF, dX, eD, dL, cZ, bG, bQ, bT, bU, aR, cX, aU, z1, hn10]
   obtain ⟨ma, hma⟩ : ∃ ma, ma = nL na nc 0 1 := ⟨_, rfl⟩
   rw [<- hma]
   have s5d := fun (W : atO) => eE (k := .i64) (hi := (1 : Int)) na l.length nc W (by omega) (by omega)
   rw [<- hma] at s5d
   refine Lt (off := 1) (o5.ext (jM.dr _ mN) (fun h => h)) rfl (by simp) fun w6 o6 x6 s6 => ?_
   simp only [aoZ, apC] at o6
   have x46 : jM w4 w6 (fun y => y = x) := (x5.mono fun _ _ h => h.elim).seq ((jM.dr _ _).seq x6)
   have hb6 : Bs w6 (.slice ma 1 (nc - 0)) [l.headD 0] := by
    have := Sl.take' (hsl.ext x46 fun hi => ?_) (k := 1) (by omega)
    .rw [<- hma] at this
     have e : (l.map oZ).take 1 = ([l.headD 0] : List UInt8).map oZ := by
      cases l with
      | nil => cases h1
      | cons c r => rfl
     rw [e] at this
     exact this
    .exact hold (B3 hi fun y hy => by omega)
   have t6 := tail w6 1 ma (nc - 0) [l.headD 0] (by omega) o6 x46 hb6 (by simp) (by rw [hblk]; unfold ahT smX; simp)
   first
    | exact t6
    | (simp (disch := omega) only [gE, jE, cS, stepR_skip, hO, iA, iO, iM, iJ, iL, jH, iT, gL, iD, iF, iC, iH, hJ, iN, hU, iE, iR, iS, iI, gQ, iQ, iP, iG, kR, kQ, lE, lH, lG, lD, lF, lC, lB, gB, Result.ok.injEq, Next.value.injEq, true_and, and_true, gY, hZ, iV, iW, iU, jG, aoE, gV, gU, gX, gT, gM, gI, gN, gK, fZ, fU, if_true, if_false, aoD, aoH, aoF, aoG, aoJ, aoI, aoC, aoB, fM, fK, eZ, fQ, cU, eQ, eE, dJ, bO, fR, eS, aQ, cY, bF, bP, bJ, aI, cP, cB, eP, aF, gR, aK, cJ, aS, bS, fS, cC, cD, aB, gC, fC, aJ, aD, bH, gO, aP, eU, dT, dV, gG, dH, fH, dB, eH, eT, fD, cF, dF, gJ, dQ, cH, bA, bZ, cG, fP, aE, aG, aO, aV, bD, cL, bN, aA, fE, aM, cO, fI, eY, gH, bK, eK, eL, bW, fW, fF, eJ, dD, cR, dG, aW, bB, aH, gA, aL, dC, dW, aX, cI, fJ, dK, gD, fL, fA, fB, dP, aN, bX, dE, fY, fX, fG, dI, aT, dZ, fT, cQ, eX, fN, bY, bL, dU, aZ, dY, dO, cK, eI, eM, aY, dA, bE, dN, dS, dR, bM, cN, cM, dM, bR, cW, cV, fO, bV, eF, eN, gF, dX, eD, dL, cZ, bG, bQ, bT, bU, aR, cX, aU, s5d, z1, hn10]
       exact t6)
    | (simp (disch := omega) only [gE, jE, cS, stepR_skip, hO, iA, iO, iM, iJ, iL, jH, iT, gL, iD, iF, iC, iH, hJ, iN, hU, iE, iR, iS, iI, gQ, iQ, iP, iG, kR, kQ, lE, lH, lG, lD, lF, lC, lB, gB, Result.ok.injEq, Next.value.injEq, true_and, and_true, gY, hZ, iV, iW, iU, jG, aoE, gV, gU, gX, gT, gM, gI, gN, gK, fZ, fU, if_true, if_false, aoD, aoH, aoF, aoG, aoJ, aoI, aoC, aoB, fM, fK, eZ, fQ, cU, eQ, eE, dJ, bO, fR, eS, aQ, cY, bF, bP, bJ, aI, cP, cB, eP, aF, gR, aK, cJ, aS, bS, fS, cC, cD, aB, gC, fC, aJ, aD, bH, gO, aP, eU, dT, dV, gG, dH, fH, dB, eH, eT, fD, cF, dF, gJ, dQ, cH, bA, bZ, cG, fP, aE, aG, aO, aV, bD, cL, bN, aA, fE, aM, cO, fI, eY, gH, bK, eK, eL, bW, fW, fF, eJ, dD, cR, dG, aW, bB, aH, gA, aL, dC, dW, aX, cI, fJ, dK, gD, fL, fA, fB, dP, aN, bX, dE, fY, fX, fG, dI, aT, dZ, fT, cQ, eX, fN, bY, bL, dU, aZ, dY, dO, cK, eI, eM, aY, dA, bE, dN, dS, dR, bM, cN, cM, dM, bR, cW, cV, fO, bV, eF, eN, gF, dX, eD, dL, cZ, bG, bQ, bT, bU, aR, cX, aU, s5d, z1, hn10])
 | false =>
   have hl2 : l.length <= 2 := by
    rcases hs with h | h
    .rw [hal] at h; cases h
    .exact h
   have x45 : jM w4 w5 (fun y => y = x) := x5.mono fun _ _ h => h.elim
   have hblk : Db l = ajL l := by unfold Db; rw [if_neg (by rw [hal]; decide)]
   have l5 := ld x45 (fun h => hxp h.symm)
   try simp (disch := omega) only [gE, jE, cS, stepR_skip, hO, iA, iO, iM, iJ, iL, jH, iT, gL, iD, iF, iC, iH, hJ, iN, hU, iE, iR, iS, iI, gQ, iQ, iP, iG, kR, kQ, lE, lH, lG, lD, lF, lC, lB, gB, Result.ok.injEq, Next.value.injEq, true_and, and_true, gY, hZ, iV, iW, iU, jG, aoE, gV, gU, gX, gT, gM, gI, gN, gK, fZ, fU, if_true, if_false, aoD, aoH, aoF, aoG, aoJ, aoI, aoC, aoB, fM, fK, eZ, fQ, cU, eQ, eE, dJ, bO, fR, eS, aQ, cY, bF, bP, bJ, aI, cP, cB, eP, aF, gR, aK, cJ, aS, bS, fS, cC, cD, aB, gC, fC, aJ, aD, bH, gO, aP, eU, dT, dV, gG, dH, fH, dB, eH, eT, fD, cF, dF, gJ, dQ, cH, bA, bZ, cG, fP, aE, aG, aO, aV, bD, cL, bN, aA, fE, aM, cO, fI, eY, gH, bK, eK, eL, bW, fW, fF, eJ, dD, cR, dG, aW, bB, aH, gA, aL, dC, dW, aX, cI, fJ, dK, gD, fL, fA, fB, dP, aN, bX, dE, fY, fX, fG, dI, aT, dZ, fT, cQ, eX, fN, bY, bL, dU, aZ, dY, dO, cK, eI, eM, aY, dA, bE, dN, dS, dR, bM, cN, cM, dM, bR, cW, cV, fO, bV, eF, eN, gF, dX, eD, dL, cZ, bG, bQ, bT, bU, aR, cX, aU, l5]
   refine (aaX (l := l) (lvl := lvl) (hv.ext (x04.seq x5) (kJ _)) hl2 hlv).mono ?_
   rintro r w6 ⟨ho, x6⟩
   have hb6 := (hsl.ext x5 (kJ _)).ext x6 (kJ _)
   have fin : ∀ W, jM w6 W mN -> tM RR (.pointer (some ⟨p, 0, none⟩)) (.pointer (some ⟨q, 0, none⟩)) (.pointer (some ⟨x, 0, none⟩)) (.slice na l.length nc) W := fun W xx =>
    tail W 0 na nc l (by omega) ((o5.ext x6 (fun h => h)).ext xx (fun h => h)) ((x45.seq (x6.mono fun _ _ h => h.elim)).seq (xx.mono fun _ _ h => h.elim)) (hb6.ext xx (kJ _)) hl (by rw [hblk] <;> rfl)
   rcases ho with ⟨e, a', b', c', he, rfl⟩ | ⟨xv, bytes, a', b', c', rfl, ox, hb2⟩
   .have e0 : (e == 0) = false := beq_eq_false_iff_ne.2 he
    simp (disch := omega) only [gE, jE, cS, stepR_skip, hO, iA, iO, iM, iJ, iL, jH, iT, gL, iD, iF, iC, iH, hJ, iN, hU, iE, iR, iS, iI, gQ, iQ, iP, iG, kR, kQ, lE, lH, lG, lD, lF, lC, lB, gB, Result.ok.injEq, Next.value.injEq, true_and, and_true, gY, hZ, iV, iW, iU, jG, aoE, gV, gU, gX, gT, gM, gI, gN, gK, fZ, fU, if_true, if_false, aoD, aoH, aoF, aoG, aoJ, aoI, aoC, aoB, fM, fK, eZ, fQ, cU, eQ, eE, dJ, bO, fR, eS, aQ, cY, bF, bP, bJ, aI, cP, cB, eP, aF, gR, aK, cJ, aS, bS, fS, cC, cD, aB, gC, fC, aJ, aD, bH, gO, aP, eU, dT, dV, gG, dH, fH, dB, eH, eT, fD, cF, dF, gJ, dQ, cH, bA, bZ, cG, fP, aE, aG, aO, aV, bD, cL, bN, aA, fE, aM, cO, fI, eY, gH, bK, eK, eL, bW, fW, fF, eJ, dD, cR, dG, aW, bB, aH, gA, aL, dC, dW, aX, cI, fJ, dK, gD, fL, fA, fB, dP, aN, bX, dE, fY, fX, fG, dI, aT, dZ, fT, cQ, eX, fN, bY, bL, dU, aZ, dY, dO, cK, eI, eM, aY, dA, bE, dN, dS, dR, bM, cN, cM, dM, bR, cW, cV, fO, bV, eF, eN, gF, dX, eD, dL, cZ, bG, bQ, bT, bU, aR, cX, aU]
    refine rM fun w7 o7 x7 s7 => ?_
    refine pS o7 rfl (by simp [one]) (by simp) fun w8 o8 x8 s8 => ?_
    simp (disch := omega) only [gE, jE, cS, stepR_skip, hO, iA, iO, iM, iJ, iL, jH, iT, gL, iD, iF, iC, iH, hJ, iN, hU, iE, iR, iS, iI, gQ, iQ, iP, iG, kR, kQ, lE, lH, lG, lD, lF, lC, lB, gB, Result.ok.injEq, Next.value.injEq, true_and, and_true, gY, hZ, iV, iW, iU, jG, aoE, gV, gU, gX, gT, gM, gI, gN, gK, fZ, fU, if_true, if_false, aoD, aoH, aoF, aoG, aoJ, aoI, aoC, aoB, fM, fK, eZ, fQ, cU, eQ, eE, dJ, bO, fR, eS, aQ, cY, bF, bP, bJ, aI, cP, cB, eP, aF, gR, aK, cJ, aS, bS, fS, cC, cD, aB, gC, fC, aJ, aD, bH, gO, aP, eU, dT, dV, gG, dH, fH, dB, eH, eT, fD, cF, dF, gJ, dQ, cH, bA, bZ, cG, fP, aE, aG, aO, aV, bD, cL, bN, aA, fE, aM, cO, fI, eY, gH, bK, eK, eL, bW, fW, fF, eJ, dD, cR, dG, aW, bB, aH, gA, aL, dC, dW, aX, cI, fJ, dK, gD, fL, fA, fB, dP, aN, bX, dE, fY, fX, fG, dI, aT, dZ, fT, cQ, eX, fN, bY, bL, dU, aZ, dY, dO, cK, eI, eM, aY, dA, bE, dN, dS, dR, bM, cN, cM, dM, bR, cW, cV, fO, bV, eF, eN, gF, dX, eD, dL, cZ, bG, bQ, bT, bU, aR, cX, aU, e0]
    exact fin w8 (x7.trans x8 fun y hy h => by omega)
   .have e0 : ((0 : Int) == 0) = true := rfl
    obtain ⟨xa, xc, rfl⟩ := ox.len
    have d1 : decide ((bytes.length : Int) < (l.length : Int)) = false := decide_eq_false (by omega)
    simp (disch := omega) only [gE, jE, cS, stepR_skip, hO, iA, iO, iM, iJ, iL, jH, iT, gL, iD, iF, iC, iH, hJ, iN, hU, iE, iR, iS, iI, gQ, iQ, iP, iG, kR, kQ, lE, lH, lG, lD, lF, lC, lB, gB, Result.ok.injEq, Next.value.injEq, true_and, and_true, gY, hZ, iV, iW, iU, jG, aoE, gV, gU, gX, gT, gM, gI, gN, gK, fZ, fU, if_true, if_false, aoD, aoH, aoF, aoG, aoJ, aoI, aoC, aoB, fM, fK, eZ, fQ, cU, eQ, eE, dJ, bO, fR, eS, aQ, cY, bF, bP, bJ, aI, cP, cB, eP, aF, gR, aK, cJ, aS, bS, fS, cC, cD, aB, gC, fC, aJ, aD, bH, gO, aP, eU, dT, dV, gG, dH, fH, dB, eH, eT, fD, cF, dF, gJ, dQ, cH, bA, bZ, cG, fP, aE, aG, aO, aV, bD, cL, bN, aA, fE, aM, cO, fI, eY, gH, bK, eK, eL, bW, fW, fF, eJ, dD, cR, dG, aW, bB, aH, gA, aL, dC, dW, aX, cI, fJ, dK, gD, fL, fA, fB, dP, aN, bX, dE, fY, fX, fG, dI, aT, dZ, fT, cQ, eX, fN, bY, bL, dU, aZ, dY, dO, cK, eI, eM, aY, dA, bE, dN, dS, dR, bM, cN, cM, dM, bR, cW, cV, fO, bV, eF, eN, gF, dX, eD, dL, cZ, bG, bQ, bT, bU, aR, cX, aU]
    refine rM fun w7 o7 x7 s7 => ?_
    refine pS o7 rfl (by simp [one]) (by simp) fun w8 o8 x8 s8 => ?_
    simp (disch := omega) only [gE, jE, cS, stepR_skip, hO, iA, iO, iM, iJ, iL, jH, iT, gL, iD, iF, iC, iH, hJ, iN, hU, iE, iR, iS, iI, gQ, iQ, iP, iG, kR, kQ, lE, lH, lG, lD, lF, lC, lB, gB, Result.ok.injEq, Next.value.injEq, true_and, and_true, gY, hZ, iV, iW, iU, jG, aoE, gV, gU, gX, gT, gM, gI, gN, gK, fZ, fU, if_true, if_false, aoD, aoH, aoF, aoG, aoJ, aoI, aoC, aoB, fM, fK, eZ, fQ, cU, eQ, eE, dJ, bO, fR, eS, aQ, cY, bF, bP, bJ, aI, cP, cB, eP, aF, gR, aK, cJ, aS, bS, fS, cC, cD, aB, gC, fC, aJ, aD, bH, gO, aP, eU, dT, dV, gG, dH, fH, dB, eH, eT, fD, cF, dF, gJ, dQ, cH, bA, bZ, cG, fP, aE, aG, aO, aV, bD, cL, bN, aA, fE, aM, cO, fI, eY, gH, bK, eK, eL, bW, fW, fF, eJ, dD, cR, dG, aW, bB, aH, gA, aL, dC, dW, aX, cI, fJ, dK, gD, fL, fA, fB, dP, aN, bX, dE, fY, fX, fG, dI, aT, dZ, fT, cQ, eX, fN, bY, bL, dU, aZ, dY, dO, cK, eI, eM, aY, dA, bE, dN, dS, dR, bM, cN, cM, dM, bR, cW, cV, fO, bV, eF, eN, gF, dX, eD, dL, cZ, bG, bQ, bT, bU, aR, cX, aU, e0, d1]
    exact fin w8 (x7.trans x8 fun y hy h => by omega)
theorem agJ {R : atP -> atO -> Prop} {S : Nat -> Prop} {base : Nat} {v0 vo : atP} {b out : List UInt8} {s : Bool} {w : atO} (h0 : Bs w v0 b) (hb : b.length <= 1000000) (ho : LF w S 1 vo out.length (out.map oZ)) (hout : out.length <= 1000000) (hS : ∀ b, w.heap.size <= b -> S b)
 (hk : ∀ w' vr, LF w' S 1 vr (out ++ enT b s).length ((out ++ enT b s).map oZ) -> jM w w' S -> R (.tuple #[vr, .int .i64 0]) w') :
 A8 R v0 (.bool s) vo w := by
 unfold A8 Fb
 cases s with
 | false =>
   unfold enT at hk
   simp only [aoD, if_false, aqR] at hk
   simp (disch := omega) only [gE, jE, cS, stepR_skip, hO, iA, iO, iM, iJ, iL, jH, iT, gL, iD, iF, iC, iH, hJ, iN, hU, iE, iR, iS, iI, gQ, iQ, iP, iG, kR, kQ, lE, lH, lG, lD, lF, lC, lB, gB, Result.ok.injEq, Next.value.injEq, true_and, and_true, gY, hZ, iV, iW, iU, jG, aoE, gV, gU, gX, gT, gM, gI, gN, gK, fZ, fU, if_true, if_false, aoD, aoH, aoF, aoG, aoJ, aoI, aoC, aoB, fM, fK, eZ, fQ, cU, eQ, eE, dJ, bO, fR, eS, aQ, cY, bF, bP, bJ, aI, cP, cB, eP, aF, gR, aK, cJ, aS, bS, fS, cC, cD, aB, gC, fC, aJ, aD, bH, gO, aP, eU, dT, dV, gG, dH, fH, dB, eH, eT, fD, cF, dF, gJ, dQ, cH, bA, bZ, cG, fP, aE, aG, aO, aV, bD, cL, bN, aA, fE, aM, cO, fI, eY, gH, bK, eK, eL, bW, fW, fF, eJ, dD, cR, dG, aW, bB, aH, gA, aL, dC, dW, aX, cI, fJ, dK, gD, fL, fA, fB, dP, aN, bX, dE, fY, fX, fG, dI, aT, dZ, fT, cQ, eX, fN, bY, bL, dU, aZ, dY, dO, cK, eI, eM, aY, dA, bE, dN, dS, dR, bM, cN, cM, dM, bR, cW, cV, fO, bV, eF, eN, gF, dX, eD, dL, cZ, bG, bQ, bT, bU, aR, cX, aU]
   unfold vK
   exact hk w vo ho (jM.refl _ _)
 | true =>
   unfold enT at hk
   simp only [if_true] at hk
   simp (disch := omega) only [gE, jE, cS, stepR_skip, hO, iA, iO, iM, iJ, iL, jH, iT, gL, iD, iF, iC, iH, hJ, iN, hU, iE, iR, iS, iI, gQ, iQ, iP, iG, kR, kQ, lE, lH, lG, lD, lF, lC, lB, gB, Result.ok.injEq, Next.value.injEq, true_and, and_true, gY, hZ, iV, iW, iU, jG, aoE, gV, gU, gX, gT, gM, gI, gN, gK, fZ, fU, if_true, if_false, aoD, aoH, aoF, aoG, aoJ, aoI, aoC, aoB, fM, fK, eZ, fQ, cU, eQ, eE, dJ, bO, fR, eS, aQ, cY, bF, bP, bJ, aI, cP, cB, eP, aF, gR, aK, cJ, aS, bS, fS, cC, cD, aB, gC, fC, aJ, aD, bH, gO, aP, eU, dT, dV, gG, dH, fH, dB, eH, eT, fD, cF, dF, gJ, dQ, cH, bA, bZ, cG, fP, aE, aG, aO, aV, bD, cL, bN, aA, fE, aM, cO, fI, eY, gH, bK, eK, eL, bW, fW, fF, eJ, dD, cR, dG, aW, bB, aH, gA, aL, dC, dW, aX, cI, fJ, dK, gD, fL, fA, fB, dP, aN, bX, dE, fY, fX, fG, dI, aT, dZ, fT, cQ, eX, fN, bY, bL, dU, aZ, dY, dO, cK, eI, eM, aY, dA, bE, dN, dS, dR, bM, cN, cM, dM, bR, cW, cV, fO, bV, eF, eN, gF, dX, eD, dL, cZ, bG, bQ, bT, bU, aR, cX, aU]
   refine (ajV b (by omega) v0 w h0).mono ?_
   rintro r w1 ⟨rfl, x1⟩
   rw [alB]
   obtain ⟨X, hX⟩ : ∃ X, X = XN b := ⟨_, rfl⟩
   have hXl := amB b
   rw [<- hX] at hXl hk ⊢
   have q1 : (X : Int).fdiv (2 ^ min (Int.toNat 8) IntKind.u64.bits) = ((X / 256 : Nat) : Int) := by
    have : (2 : Int) ^ min (Int.toNat 8) IntKind.u64.bits = 256 := by decide
    rw [this, arA _ (by omega)]; omega
   have q2 : (X : Int).fdiv (2 ^ min (Int.toNat 16) IntKind.u64.bits) = ((X / 65536 : Nat) : Int) := by
    have : (2 : Int) ^ min (Int.toNat 16) IntKind.u64.bits = 65536 := by decide
    rw [this, arA _ (by omega)]; omega
   have q3 : (X : Int).fdiv (2 ^ min (Int.toNat 24) IntKind.u64.bits) = ((X / 16777216 : Nat) : Int) := by
    have : (2 : Int) ^ min (Int.toNat 24) IntKind.u64.bits = 16777216 := by decide
    rw [this, arA _ (by omega)]; omega
   simp (disch := omega) only [gE, jE, cS, stepR_skip, hO, iA, iO, iM, iJ, iL, jH, iT, gL, iD, iF, iC, iH, hJ, iN, hU, iE, iR, iS, iI, gQ, iQ, iP, iG, kR, kQ, lE, lH, lG, lD, lF, lC, lB, gB, Result.ok.injEq, Next.value.injEq, true_and, and_true, gY, hZ, iV, iW, iU, jG, aoE, gV, gU, gX, gT, gM, gI, gN, gK, fZ, fU, if_true, if_false, aoD, aoH, aoF, aoG, aoJ, aoI, aoC, aoB, fM, fK, eZ, fQ, cU, eQ, eE, dJ, bO, fR, eS, aQ, cY, bF, bP, bJ, aI, cP, cB, eP, aF, gR, aK, cJ, aS, bS, fS, cC, cD, aB, gC, fC, aJ, aD, bH, gO, aP, eU, dT, dV, gG, dH, fH, dB, eH, eT, fD, cF, dF, gJ, dQ, cH, bA, bZ, cG, fP, aE, aG, aO, aV, bD, cL, bN, aA, fE, aM, cO, fI, eY, gH, bK, eK, eL, bW, fW, fF, eJ, dD, cR, dG, aW, bB, aH, gA, aL, dC, dW, aX, cI, fJ, dK, gD, fL, fA, fB, dP, aN, bX, dE, fY, fX, fG, dI, aT, dZ, fT, cQ, eX, fN, bY, bL, dU, aZ, dY, dO, cK, eI, eM, aY, dA, bE, dN, dS, dR, bM, cN, cM, dM, bR, cW, cV, fO, bV, eF, eN, gF, dX, eD, dL, cZ, bG, bQ, bT, bU, aR, cX, aU, q1, q2, q3, wu8]
   refine sJ (cells := #[.int .u8 ((X : Int) % 256), .int .u8 (((X / 256 : Nat) : Int) % 256), .int .u8 (((X / 65536 : Nat) : Int) % 256), .int .u8 (((X / 16777216 : Nat) : Int) % 256)]) (by decide) (by decide) (by kernel_rfl) fun w2 o2 x2 s2 => ?_
   have hc : (#[.int .u8 ((X : Int) % 256), .int .u8 (((X / 256 : Nat) : Int) % 256), .int .u8 (((X / 65536 : Nat) : Int) % 256), .int .u8 (((X / 16777216 : Nat) : Int) % 256)] : Array atP).toList = (pB X 4).map oZ := by
    simp only [pB, apJ, atL, oZ]
    rw [ofN (by omega), ofN (by omega), ofN (by omega), ofN (by omega), aqY, aqY]
    rfl
   rw [hc] at o2
   have hb2 := akL o2
   rw [mC] at hb2
   have z1 := x1.size
   have z2 := x2.size
   refine apB ((ho.ext x1 fun _ _ h => h).ext x2 fun _ _ h => h) hb2 (fun y hy => hS y (by omega)) (by rw [mC]; omega) fun v3 w3 o3 x3 => ?_
   unfold vK
   exact hk w3 v3 o3 ((((x1.seq x2).mono fun _ _ h => h.elim).seq x3))
theorem Zv {v : atP} {l : List UInt8} {lvl : Nat} {s : Bool} {w : atO} (h : Bs w v l) (h1 : 1 <= l.length) (hl : l.length <= 65536) (hs : Fm l = true ∨ l.length <= 2) (hlv : lvl <= 9) :
 jD pg B7 #[v, .int .i64 (lvl : Nat), .bool s] w (fun r w' => (∃ x, r = .tuple #[x, .int .i64 0] /\ yB w' w.heap.size 1 x (enF l (Db l) s).length ((enF l (Db l) s).map oZ)) /\ jM w w' mN) := by
 refine Q0 ?_
 obtain ⟨RR, hRR⟩ : ∃ RR : atP -> atO -> Prop, RR = fun r w' => (∃ x, r = .tuple #[x, .int .i64 0] /\ yB w' w.heap.size 1 x (enF l (Db l) s).length ((enF l (Db l) s).map oZ)) /\ jM w w' mN := ⟨_, rfl⟩
 rw [<- hRR]
 have hv := h
 obtain ⟨va, vc, rfl, hvc⟩ := h.len
 rw [aoK] at hv hvc ⊢
 have d1 : decide ((lvl : Int) < 0) = false := decide_eq_false (by omega)
 have d2 : decide ((9 : Int) < (lvl : Int)) = false := decide_eq_false (by omega)
 have d3 : decide ((4194304 : Int) < (l.length : Int)) = false := decide_eq_false (by omega)
 have e1 : IntKind.u64.wrap ((l.length : Nat) : Int) = ((l.length : Nat) : Int) := hZ (by omega) (by omega)
 unfold Qv D5 Dg
 simp (disch := omega) only [gE, jE, cS, stepR_skip, hO, iA, iO, iM, iJ, iL, jH, iT, gL, iD, iF, iC, iH, hJ, iN, hU, iE, iR, iS, iI, gQ, iQ, iP, iG, kR, kQ, lE, lH, lG, lD, lF, lC, lB, gB, Result.ok.injEq, Next.value.injEq, true_and, and_true, gY, hZ, iV, iW, iU, jG, aoE, gV, gU, gX, gT, gM, gI, gN, gK, fZ, fU, if_true, if_false, aoD, aoH, aoF, aoG, aoJ, aoI, aoC, aoB, fM, fK, eZ, fQ, cU, eQ, eE, dJ, bO, fR, eS, aQ, cY, bF, bP, bJ, aI, cP, cB, eP, aF, gR, aK, cJ, aS, bS, fS, cC, cD, aB, gC, fC, aJ, aD, bH, gO, aP, eU, dT, dV, gG, dH, fH, dB, eH, eT, fD, cF, dF, gJ, dQ, cH, bA, bZ, cG, fP, aE, aG, aO, aV, bD, cL, bN, aA, fE, aM, cO, fI, eY, gH, bK, eK, eL, bW, fW, fF, eJ, dD, cR, dG, aW, bB, aH, gA, aL, dC, dW, aX, cI, fJ, dK, gD, fL, fA, fB, dP, aN, bX, dE, fY, fX, fG, dI, aT, dZ, fT, cQ, eX, fN, bY, bL, dU, aZ, dY, dO, cK, eI, eM, aY, dA, bE, dN, dS, dR, bM, cN, cM, dM, bR, cW, cV, fO, bV, eF, eN, gF, dX, eD, dL, cZ, bG, bQ, bT, bU, aR, cX, aU, d1, d2, d3, e1]
 refine (Xr (n := l.length) (by omega)).mono ?_
 rintro r w1 ⟨o1, x1⟩
 refine ahQ.mono ?_
 rintro r1 w2 ⟨rfl, x2⟩
 refine rM fun w3 o3 x3 s3 => ?_
 obtain ⟨p, hp⟩ : ∃ p, p = w2.heap.size := ⟨_, rfl⟩
 rw [<- hp] at o3 ⊢
 refine pS o3 rfl (by simp [one]) (by simp) fun w4 o4 x4 s4 => ?_
 have o4 : mQ w4 p [.int .u32 (1 : Nat), .int .u32 (4 : Nat), .int .u32 (8 : Nat)] := o4
 have z1 := x1.size
 have z2 := x2.size
 have x24 : jM w2 w4 mN := x3.trans x4 fun y hy h => by omega
 have x04 : jM w w4 mN := (x1.seq x2).seq x24
 have z4 := x04.size
 let S : Nat -> Prop := fun y => w.heap.size <= y /\ y ≠ p
 have S4 : LF w4 S 1 r (Lm l.length s).length ((Lm l.length s).map oZ) := (((yB.ne o1 (by omega)).ext x2 (fun _ _ h => h)).ext x24 (fun _ _ h => h))
 have hpl := Xy l.length s
 have lt4 : p < w4.heap.size := o4.lt
 unfold Fe FB EJ Fg ET
 have hbl : (Db l).length <= 65540 := by
  unfold Db; split
  .simp [ahT, b3]
  .simp [ajL, b3]; omega
 refine kE.rule (fun m (t : atP × atP) W => (m = 1 /\ t = (r, .int .i64 0) /\ W = w4) ∨ (m = 0 /\ ∃ vo, t = (vo, .int .i64 65536) /\ LF W S 1 vo (Lm l.length s ++ Db l).length ((Lm l.length s ++ Db l).map oZ) /\ jM w W mN /\ p < W.heap.size)) 1 (.inl ⟨rfl, rfl, rfl⟩) ?_
 rintro m t W (⟨rfl, rfl, rfl⟩ | ⟨rfl, vo, rfl, oW, xW, ltW⟩)
 .unfold vT
  have k1 : ((0 : Int) == 0) = true := rfl
  have k3 : (0 : Int) + 65536 = 65536 := rfl
  have k4 : (if ((l.length : Nat) : Int) < (65536 : Int) then ((l.length : Nat) : Int) else (65536 : Int)) = ((l.length : Nat) : Int) := by split <;> omega
  have ld : (jF 45 (.pointer (some ⟨p, 0, none⟩))).run pg W = .ok (.value (R9 1 4 8)) W := AJ (off := 0) o4 (by simp)
  simp (disch := omega) only [gE, jE, cS, stepR_skip, hO, iA, iO, iM, iJ, iL, jH, iT, gL, iD, iF, iC, iH, hJ, iN, hU, iE, iR, iS, iI, gQ, iQ, iP, iG, kR, kQ, lE, lH, lG, lD, lF, lC, lB, gB, Result.ok.injEq, Next.value.injEq, true_and, and_true, gY, hZ, iV, iW, iU, jG, aoE, gV, gU, gX, gT, gM, gI, gN, gK, fZ, fU, if_true, if_false, aoD, aoH, aoF, aoG, aoJ, aoI, aoC, aoB, fM, fK, eZ, fQ, cU, eQ, eE, dJ, bO, fR, eS, aQ, cY, bF, bP, bJ, aI, cP, cB, eP, aF, gR, aK, cJ, aS, bS, fS, cC, cD, aB, gC, fC, aJ, aD, bH, gO, aP, eU, dT, dV, gG, dH, fH, dB, eH, eT, fD, cF, dF, gJ, dQ, cH, bA, bZ, cG, fP, aE, aG, aO, aV, bD, cL, bN, aA, fE, aM, cO, fI, eY, gH, bK, eK, eL, bW, fW, fF, eJ, dD, cR, dG, aW, bB, aH, gA, aL, dC, dW, aX, cI, fJ, dK, gD, fL, fA, fB, dP, aN, bX, dE, fY, fX, fG, dI, aT, dZ, fT, cQ, eX, fN, bY, bL, dU, aZ, dY, dO, cK, eI, eM, aY, dA, bE, dN, dS, dR, bM, cN, cM, dM, bR, cW, cV, fO, bV, eF, eN, gF, dX, eD, dL, cZ, bG, bQ, bT, bU, aR, cX, aU, k1, k3, k4, ld]
  have hv4 := hv.ext x04 (kJ _)
  have hb := aiL (lvl := lvl) (a := 1) (b := 4) (c := 8) hv4 h1 hl hs hlv
  refine hb.mono ?_
  rintro r5 w5 ⟨⟨bv, a', b', c', rfl, o5⟩, x5⟩
  have n0 : ((0 : Int) != 0) = false := rfl
  simp (disch := omega) only [gE, jE, cS, stepR_skip, hO, iA, iO, iM, iJ, iL, jH, iT, gL, iD, iF, iC, iH, hJ, iN, hU, iE, iR, iS, iI, gQ, iQ, iP, iG, kR, kQ, lE, lH, lG, lD, lF, lC, lB, gB, Result.ok.injEq, Next.value.injEq, true_and, and_true, gY, hZ, iV, iW, iU, jG, aoE, gV, gU, gX, gT, gM, gI, gN, gK, fZ, fU, if_true, if_false, aoD, aoH, aoF, aoG, aoJ, aoI, aoC, aoB, fM, fK, eZ, fQ, cU, eQ, eE, dJ, bO, fR, eS, aQ, cY, bF, bP, bJ, aI, cP, cB, eP, aF, gR, aK, cJ, aS, bS, fS, cC, cD, aB, gC, fC, aJ, aD, bH, gO, aP, eU, dT, dV, gG, dH, fH, dB, eH, eT, fD, cF, dF, gJ, dQ, cH, bA, bZ, cG, fP, aE, aG, aO, aV, bD, cL, bN, aA, fE, aM, cO, fI, eY, gH, bK, eK, eL, bW, fW, fF, eJ, dD, cR, dG, aW, bB, aH, gA, aL, dC, dW, aX, cI, fJ, dK, gD, fL, fA, fB, dP, aN, bX, dE, fY, fX, fG, dI, aT, dZ, fT, cQ, eX, fN, bY, bL, dU, aZ, dY, dO, cK, eI, eM, aY, dA, bE, dN, dS, dR, bM, cN, cM, dM, bR, cW, cV, fO, bV, eF, eN, gF, dX, eD, dL, cZ, bG, bQ, bT, bU, aR, cX, aU]
  refine rM fun w6 o6 x6 s6 => ?_
  obtain ⟨q, hq⟩ : ∃ q, q = w5.heap.size := ⟨_, rfl⟩
  rw [<- hq] at o6 ⊢
  refine pS o6 rfl (by simp [one]) (by simp) fun w7 o7 x7 s7 => ?_
  have o7 : mQ w7 q [.int .u32 (a' : Nat), .int .u32 (b' : Nat), .int .u32 (c' : Nat)] := o7
  have z5 := x5.size
  have x57 : jM w5 w7 mN := x6.trans x7 fun y hy h => by omega
  have x47 := x5.seq x57
  have xd : jM w5 (dr w7) mN := x57.seq (jM.dr _ mN)
  have ldq : ∀ {W'}, jM w7 W' (fun y => S y /\ y ≠ q) -> (jF 45 (.pointer (some ⟨q, 0, none⟩))).run pg W' = .ok (.value (R9 a' b' c')) W' := fun xx => AJ (off := 0) (o7.ext xx fun hh => hh.2 rfl) (by simp)
  have l7 := ldq (jM.dr w7 _)
  simp (disch := omega) only [gE, jE, cS, stepR_skip, hO, iA, iO, iM, iJ, iL, jH, iT, gL, iD, iF, iC, iH, hJ, iN, hU, iE, iR, iS, iI, gQ, iQ, iP, iG, kR, kQ, lE, lH, lG, lD, lF, lC, lB, gB, Result.ok.injEq, Next.value.injEq, true_and, and_true, gY, hZ, iV, iW, iU, jG, aoE, gV, gU, gX, gT, gM, gI, gN, gK, fZ, fU, if_true, if_false, aoD, aoH, aoF, aoG, aoJ, aoI, aoC, aoB, fM, fK, eZ, fQ, cU, eQ, eE, dJ, bO, fR, eS, aQ, cY, bF, bP, bJ, aI, cP, cB, eP, aF, gR, aK, cJ, aS, bS, fS, cC, cD, aB, gC, fC, aJ, aD, bH, gO, aP, eU, dT, dV, gG, dH, fH, dB, eH, eT, fD, cF, dF, gJ, dQ, cH, bA, bZ, cG, fP, aE, aG, aO, aV, bD, cL, bN, aA, fE, aM, cO, fI, eY, gH, bK, eK, eL, bW, fW, fF, eJ, dD, cR, dG, aW, bB, aH, gA, aL, dC, dW, aX, cI, fJ, dK, gD, fL, fA, fB, dP, aN, bX, dE, fY, fX, fG, dI, aT, dZ, fT, cQ, eX, fN, bY, bL, dU, aZ, dY, dO, cK, eI, eM, aY, dA, bE, dN, dS, dR, bM, cN, cM, dM, bR, cW, cV, fO, bV, eF, eN, gF, dX, eD, dL, cZ, bG, bQ, bT, bU, aR, cX, aU, n0, l7]
  have hpq : p ≠ q := by omega
  have hb5 : Bs w5 bv (Db l) := o5.sl
  have hb7 : Bs (dr w7) bv (Db l) := hb5.ext xd (kJ _)
  let S2 : Nat -> Prop := fun y => S y /\ y ≠ q
  have S7 : LF (dr w7) S2 1 r (Lm l.length s).length ((Lm l.length s).map oZ) := by
   have hS := S4
   have := hS.2
   refine ⟨hS.1, ?_⟩
   have S7' := ((S4.ext x47 (fun _ _ h => h)).ext (jM.dr _ mN) (fun _ _ h => h)).2
   rcases this with ⟨h, h0⟩ | ⟨b1, c1, rest, h1, h2, h3, h4⟩
   .exact .inl ⟨h, h0⟩
   .have hlt := h3.lt
    exact .inr ⟨b1, c1, rest, h1, ⟨h2, by omega⟩, (h3.ext x47 (fun h => h)).ext (jM.dr _ mN) (fun h => h), h4⟩
  have zd : (dr w7).heap.size = w7.heap.size := rfl
  have lt7 : q < w7.heap.size := o7.lt
  refine apB S7 hb7 (fun y hy => ⟨⟨by omega, by omega⟩, by omega⟩) (by omega) fun v8 w8 o8 x8 => ?_
  have l8 := ldq ((jM.dr w7 _).seq x8)
  have zz8 := x8.size
  simp (disch := omega) only [gE, jE, cS, stepR_skip, hO, iA, iO, iM, iJ, iL, jH, iT, gL, iD, iF, iC, iH, hJ, iN, hU, iE, iR, iS, iI, gQ, iQ, iP, iG, kR, kQ, lE, lH, lG, lD, lF, lC, lB, gB, Result.ok.injEq, Next.value.injEq, true_and, and_true, gY, hZ, iV, iW, iU, jG, aoE, gV, gU, gX, gT, gM, gI, gN, gK, fZ, fU, if_true, if_false, aoD, aoH, aoF, aoG, aoJ, aoI, aoC, aoB, fM, fK, eZ, fQ, cU, eQ, eE, dJ, bO, fR, eS, aQ, cY, bF, bP, bJ, aI, cP, cB, eP, aF, gR, aK, cJ, aS, bS, fS, cC, cD, aB, gC, fC, aJ, aD, bH, gO, aP, eU, dT, dV, gG, dH, fH, dB, eH, eT, fD, cF, dF, gJ, dQ, cH, bA, bZ, cG, fP, aE, aG, aO, aV, bD, cL, bN, aA, fE, aM, cO, fI, eY, gH, bK, eK, eL, bW, fW, fF, eJ, dD, cR, dG, aW, bB, aH, gA, aL, dC, dW, aX, cI, fJ, dK, gD, fL, fA, fB, dP, aN, bX, dE, fY, fX, fG, dI, aT, dZ, fT, cQ, eX, fN, bY, bL, dU, aZ, dY, dO, cK, eI, eM, aY, dA, bE, dN, dS, dR, bM, cN, cM, dM, bR, cW, cV, fO, bV, eF, eN, gF, dX, eD, dL, cZ, bG, bQ, bT, bU, aR, cX, aU, l7, l8]
  have oP8 : mQ w8 p [.int .u32 (1 : Nat), .int .u32 (4 : Nat), .int .u32 (8 : Nat)] := ((o4.ext x47 (fun h => h)).ext (jM.dr _ mN) (fun h => h)).ext x8 (fun hh => hh.1.2 rfl)
  refine pS oP8 rfl (by simp [one]) (by simp) fun w9 o9 x9 s9 => ?_
  refine ⟨0, by omega, .inr ⟨rfl, v8, rfl, ?_, ?_, by have := x47.size; omega⟩⟩
  .have := o8.ext x9 (fun y hy hh => by rw [hh] at hy; exact hy.1.2 rfl)
   refine ⟨this.1, ?_⟩
   rcases this.2 with h | ⟨b1, c1, rest, h1, h2, h3⟩
   .exact .inl h
   .exact .inr ⟨b1, c1, rest, h1, h2.1, h3⟩
  .exact (((x04.seq x47).seq (jM.dr _ mN)).trans x8 fun y hy h => by have := h.1.1; omega).trans x9 fun y hy h => by omega
 .unfold vT
  have k1 : ((65536 : Int) == 0) = false := rfl
  have d4 : decide ((65536 : Int) < ((l.length : Nat) : Int)) = false := decide_eq_false (by omega)
  simp (disch := omega) only [gE, jE, cS, stepR_skip, hO, iA, iO, iM, iJ, iL, jH, iT, gL, iD, iF, iC, iH, hJ, iN, hU, iE, iR, iS, iI, gQ, iQ, iP, iG, kR, kQ, lE, lH, lG, lD, lF, lC, lB, gB, Result.ok.injEq, Next.value.injEq, true_and, and_true, gY, hZ, iV, iW, iU, jG, aoE, gV, gU, gX, gT, gM, gI, gN, gK, fZ, fU, if_true, if_false, aoD, aoH, aoF, aoG, aoJ, aoI, aoC, aoB, fM, fK, eZ, fQ, cU, eQ, eE, dJ, bO, fR, eS, aQ, cY, bF, bP, bJ, aI, cP, cB, eP, aF, gR, aK, cJ, aS, bS, fS, cC, cD, aB, gC, fC, aJ, aD, bH, gO, aP, eU, dT, dV, gG, dH, fH, dB, eH, eT, fD, cF, dF, gJ, dQ, cH, bA, bZ, cG, fP, aE, aG, aO, aV, bD, cL, bN, aA, fE, aM, cO, fI, eY, gH, bK, eK, eL, bW, fW, fF, eJ, dD, cR, dG, aW, bB, aH, gA, aL, dC, dW, aX, cI, fJ, dK, gD, fL, fA, fB, dP, aN, bX, dE, fY, fX, fG, dI, aT, dZ, fT, cQ, eX, fN, bY, bL, dU, aZ, dY, dO, cK, eI, eM, aY, dA, bE, dN, dS, dR, bM, cN, cM, dM, bR, cW, cV, fO, bV, eF, eN, gF, dX, eD, dL, cZ, bG, bQ, bT, bU, aR, cX, aU, k1, d4]
  refine agJ (S := S) (b := l) (out := Lm l.length s ++ Db l) (base := 0) (hv.ext xW (kJ _)) (by omega) oW (by rw [aoL]; omega) (fun y hy => ⟨by have := xW.size; omega, by omega⟩) fun w' vr ov xv => ?_
  rw [apK] at ov
  have ov : LF w' S 1 vr (enF l (Db l) s).length ((enF l (Db l) s).map oZ) := ov
  rw [hRR]
  refine ⟨⟨vr, rfl, ov.1, ?_⟩, xW.trans xv fun y hy h => by have := h.1; omega⟩
  rcases ov.2 with h | ⟨b1, c1, rest, h1, h2, h3⟩
  .exact .inl h
  .exact .inr ⟨b1, c1, rest, h1, h2.1, h3⟩
theorem ajH (l : List UInt8) : ((⟨l.toArray⟩ : ByteArray).toList == (⟨l.toArray⟩ : ByteArray).toList) = true := beq_self_eq_true _
end Go.Proofs.YtoecppploooloaaGreatDoor
namespace Go.Pu
section
variable {κ β : Type} [DecidableEq κ]
end
def over (old : List UInt8) (a : Nat) (b : List UInt8) : List UInt8 := (old ++ List.replicate (max old.length (a + b.length) - old.length) 0).take a ++ b ++ (old ++ List.replicate (max old.length (a + b.length) - old.length) 0).drop (a + b.length)
section
variable (cf : List UInt8 -> Nat)
end
def UD (L k : Nat) : Nat := if 0 < L % k then L / k + 1 else L / k
theorem W7 {L k i : Nat} (hk : 0 < k) : i < UD L k ↔ k * i < L := by
 unfold UD
 have h1 := Nat.div_add_mod L k
 have h2 := atK L hk
 generalize L / k = q at *
 generalize L % k = r at *
 split
 .constructor
  .intro h
   have : k * i <= k * q := asS _ (by omega)
   omega
  .intro h
   by_cases h3 : i < q + 1
   .exact h3
   .have : k * (q + 1) <= k * i := asS _ (by omega)
    rw [asO] at this; omega
 .constructor
  .intro h
   have : k * (i + 1) <= k * q := asS _ (by omega)
   rw [asO] at this; omega
  .intro h
   by_cases h3 : i < q
   .exact h3
   .have : k * q <= k * i := asS _ (by omega)
    omega
def spN (L k i : Nat) : Nat := min (L - k * i) k
end Go.Pu
namespace Go.Proofs.YtoecppploooloaaGreatDoor
open Go Go.En Go.Pu
set_option maxRecDepth 4000
def DN (L : Nat) (k : Int) : Nat × Int := if k < 1 ∨ 65536 < k then (0, 1) else if 1024 < UD L k.toNat then (0, 12) else (UD L k.toNat, 0)
abbrev TX (L : Nat) (k : Int) : atP := .tuple #[.int .i64 ((DN L k).1 : Nat), .int .i64 (DN L k).2]
def We (L : Nat) (k i : Int) : Nat × Nat × Int := if (DN L k).2 ≠ 0 then (0, 0, (DN L k).2) else if i < 0 ∨ ((DN L k).1 : Int) <= i then (0, 0, 17) else (k.toNat * i.toNat, spN L k.toNat i.toNat, 0)
abbrev Vu (L : Nat) (k i : Int) : atP := .tuple #[.int .u64 ((We L k i).1 : Nat), .int .i64 ((We L k i).2.1 : Nat), .int .i64 (We L k i).2.2]
theorem UX {L : Nat} {k : Int} (h : k < 1 ∨ 65536 < k) : DN L k = (0, 1) := by unfold DN; rw [if_pos h]
theorem ZL {L k : Nat} (h1 : 1 <= k) (h2 : k <= 65536) : DN L (k : Nat) = if 1024 < UD L k then (0, 12) else (UD L k, 0) := by
 unfold DN
 rw [if_neg (by omega), aoE]
theorem aaE {L : Nat} {k : Int} (h : (DN L k).2 = 0) : 1 <= k /\ k <= 65536 /\ UD L k.toNat <= 1024 /\ (DN L k).1 = UD L k.toNat := by
 unfold DN at *
 split at h
 .cases h
 .rename_i h1
  split at h
  .cases h
  .rename_i h2
   rw [if_neg h1, if_neg h2]
   exact ⟨by omega, by omega, by omega, rfl⟩
theorem VB {L : Nat} {k : Int} {w : atO} (hL : L < 2 ^ 64) (hk : -9223372036854775808 <= k /\ k <= 9223372036854775807) :
 jD pg yM #[.int .u64 (L : Nat), .int .i64 k] w (fun r w' => r = TX L k /\ w' = w) := by
 refine T6 ?_
 obtain ⟨RR, hRR⟩ : ∃ RR : atP -> atO -> Prop, RR = fun r w' => r = TX L k /\ w' = w := ⟨_, rfl⟩
 rw [<- hRR]
 unfold Ue Hr Ib
 by_cases hb : k < 1
 .have d1 : decide (k < 1) = true := by simpa using hb
  simp (disch := omega) only [gE, jE, cS, stepR_skip, hO, iA, iO, iM, iJ, iL, jH, iT, gL, iD, iF, iC, iH, hJ, iN, hU, iE, iR, iS, iI, gQ, iQ, iP, iG, kR, kQ, lE, lH, lG, lD, lF, lC, lB, gB, Result.ok.injEq, Next.value.injEq, true_and, and_true, gY, hZ, iV, iW, iU, jG, aoE, gV, gU, gX, gT, gM, gI, gN, gK, fZ, fU, if_true, if_false, aoD, aoH, aoF, aoG, aoJ, aoI, aoC, aoB, fM, fK, eZ, fQ, cU, eQ, eE, dJ, bO, fR, eS, aQ, cY, bF, bP, bJ, aI, cP, cB, eP, aF, gR, aK, cJ, aS, bS, fS, cC, cD, aB, gC, fC, aJ, aD, bH, gO, aP, eU, dT, dV, gG, dH, fH, dB, eH, eT, fD, cF, dF, gJ, dQ, cH, bA, bZ, cG, fP, aE, aG, aO, aV, bD, cL, bN, aA, fE, aM, cO, fI, eY, gH, bK, eK, eL, bW, fW, fF, eJ, dD, cR, dG, aW, bB, aH, gA, aL, dC, dW, aX, cI, fJ, dK, gD, fL, fA, fB, dP, aN, bX, dE, fY, fX, fG, dI, aT, dZ, fT, cQ, eX, fN, bY, bL, dU, aZ, dY, dO, cK, eI, eM, aY, dA, bE, dN, dS, dR, bM, cN, cM, dM, bR, cW, cV, fO, bV, eF, eN, gF, dX, eD, dL, cZ, bG, bQ, bT, bU, aR, cX, aU, d1]
  rw [hRR]
  unfold TX
  rw [UX (.inl hb)]
  exact ⟨rfl, rfl⟩
 have d1 : decide (k < 1) = false := by simpa using hb
 by_cases hb2 : 65536 < k
 .have d2 : decide ((65536 : Int) < k) = true := by simpa using hb2
  simp (disch := omega) only [gE, jE, cS, stepR_skip, hO, iA, iO, iM, iJ, iL, jH, iT, gL, iD, iF, iC, iH, hJ, iN, hU, iE, iR, iS, iI, gQ, iQ, iP, iG, kR, kQ, lE, lH, lG, lD, lF, lC, lB, gB, Result.ok.injEq, Next.value.injEq, true_and, and_true, gY, hZ, iV, iW, iU, jG, aoE, gV, gU, gX, gT, gM, gI, gN, gK, fZ, fU, if_true, if_false, aoD, aoH, aoF, aoG, aoJ, aoI, aoC, aoB, fM, fK, eZ, fQ, cU, eQ, eE, dJ, bO, fR, eS, aQ, cY, bF, bP, bJ, aI, cP, cB, eP, aF, gR, aK, cJ, aS, bS, fS, cC, cD, aB, gC, fC, aJ, aD, bH, gO, aP, eU, dT, dV, gG, dH, fH, dB, eH, eT, fD, cF, dF, gJ, dQ, cH, bA, bZ, cG, fP, aE, aG, aO, aV, bD, cL, bN, aA, fE, aM, cO, fI, eY, gH, bK, eK, eL, bW, fW, fF, eJ, dD, cR, dG, aW, bB, aH, gA, aL, dC, dW, aX, cI, fJ, dK, gD, fL, fA, fB, dP, aN, bX, dE, fY, fX, fG, dI, aT, dZ, fT, cQ, eX, fN, bY, bL, dU, aZ, dY, dO, cK, eI, eM, aY, dA, bE, dN, dS, dR, bM, cN, cM, dM, bR, cW, cV, fO, bV, eF, eN, gF, dX, eD, dL, cZ, bG, bQ, bT, bU, aR, cX, aU, d1, d2]
  rw [hRR]
  unfold TX
  rw [UX (.inr hb2)]
  exact ⟨rfl, rfl⟩
 have d2 : decide ((65536 : Int) < k) = false := by simpa using hb2
 obtain ⟨k, rfl⟩ : ∃ n : Nat, k = n := ⟨k.toNat, by omega⟩
 have e1 : (L : Int).tdiv (k : Int) = ((L / k : Nat) : Int) := rfl
 have e2 : (L : Int).tmod (k : Int) = ((L % k : Nat) : Int) := rfl
 have hq : L / k <= L := asV _ _
 have hm := atK L (show 0 < k by omega)
 have hc : UD L k = if 0 < L % k then L / k + 1 else L / k := rfl
 have hE := ZL (L := L) (k := k) (by omega) (by omega)
 have hdm := Nat.div_add_mod L k
 have hbig : 0 < L % k -> L / k + 1 < 2 ^ 64 := fun h => by
  have : 2 * (L / k) <= k * (L / k) := apG _ (by omega)
  omega
 unfold TX at hRR
 generalize DN L k = E at *
 generalize L / k = q at *
 generalize L % k = r at *
 by_cases hr : 0 < r
 .rw [if_pos hr] at hc
  have hbig := hbig hr
  have d3 : decide ((0 : Int) < (r : Int)) = true := by simp only [decide_eq_true_eq]; omega
  have e3 : (q : Int) + 1 = ((q + 1 : Nat) : Int) := by omega
  rw [hc] at hE
  by_cases hb : 1024 < q + 1
  .have d4 : decide ((1024 : Int) < ((q + 1 : Nat) : Int)) = true := by simp only [decide_eq_true_eq]; omega
   rw [if_pos hb] at hE
   unfold sW
   simp (disch := omega) only [gE, jE, cS, stepR_skip, hO, iA, iO, iM, iJ, iL, jH, iT, gL, iD, iF, iC, iH, hJ, iN, hU, iE, iR, iS, iI, gQ, iQ, iP, iG, kR, kQ, lE, lH, lG, lD, lF, lC, lB, gB, Result.ok.injEq, Next.value.injEq, true_and, and_true, gY, hZ, iV, iW, iU, jG, aoE, gV, gU, gX, gT, gM, gI, gN, gK, fZ, fU, if_true, if_false, aoD, aoH, aoF, aoG, aoJ, aoI, aoC, aoB, fM, fK, eZ, fQ, cU, eQ, eE, dJ, bO, fR, eS, aQ, cY, bF, bP, bJ, aI, cP, cB, eP, aF, gR, aK, cJ, aS, bS, fS, cC, cD, aB, gC, fC, aJ, aD, bH, gO, aP, eU, dT, dV, gG, dH, fH, dB, eH, eT, fD, cF, dF, gJ, dQ, cH, bA, bZ, cG, fP, aE, aG, aO, aV, bD, cL, bN, aA, fE, aM, cO, fI, eY, gH, bK, eK, eL, bW, fW, fF, eJ, dD, cR, dG, aW, bB, aH, gA, aL, dC, dW, aX, cI, fJ, dK, gD, fL, fA, fB, dP, aN, bX, dE, fY, fX, fG, dI, aT, dZ, fT, cQ, eX, fN, bY, bL, dU, aZ, dY, dO, cK, eI, eM, aY, dA, bE, dN, dS, dR, bM, cN, cM, dM, bR, cW, cV, fO, bV, eF, eN, gF, dX, eD, dL, cZ, bG, bQ, bT, bU, aR, cX, aU, d1, d2, e1, e2, d3, e3, d4]
   rw [hRR, hE]
   exact ⟨rfl, rfl⟩
  .have d4 : decide ((1024 : Int) < ((q + 1 : Nat) : Int)) = false := by simp only [decide_eq_false_iff_not]; omega
   rw [if_neg hb] at hE
   unfold sW
   simp (disch := omega) only [gE, jE, cS, stepR_skip, hO, iA, iO, iM, iJ, iL, jH, iT, gL, iD, iF, iC, iH, hJ, iN, hU, iE, iR, iS, iI, gQ, iQ, iP, iG, kR, kQ, lE, lH, lG, lD, lF, lC, lB, gB, Result.ok.injEq, Next.value.injEq, true_and, and_true, gY, hZ, iV, iW, iU, jG, aoE, gV, gU, gX, gT, gM, gI, gN, gK, fZ, fU, if_true, if_false, aoD, aoH, aoF, aoG, aoJ, aoI, aoC, aoB, fM, fK, eZ, fQ, cU, eQ, eE, dJ, bO, fR, eS, aQ, cY, bF, bP, bJ, aI, cP, cB, eP, aF, gR, aK, cJ, aS, bS, fS, cC, cD, aB, gC, fC, aJ, aD, bH, gO, aP, eU, dT, dV, gG, dH, fH, dB, eH, eT, fD, cF, dF, gJ, dQ, cH, bA, bZ, cG, fP, aE, aG, aO, aV, bD, cL, bN, aA, fE, aM, cO, fI, eY, gH, bK, eK, eL, bW, fW, fF, eJ, dD, cR, dG, aW, bB, aH, gA, aL, dC, dW, aX, cI, fJ, dK, gD, fL, fA, fB, dP, aN, bX, dE, fY, fX, fG, dI, aT, dZ, fT, cQ, eX, fN, bY, bL, dU, aZ, dY, dO, cK, eI, eM, aY, dA, bE, dN, dS, dR, bM, cN, cM, dM, bR, cW, cV, fO, bV, eF, eN, gF, dX, eD, dL, cZ, bG, bQ, bT, bU, aR, cX, aU, d1, d2, e1, e2, d3, e3, d4]
   rw [hRR, hE]
   exact ⟨rfl, rfl⟩
 .rw [if_neg hr] at hc
  have d3 : decide ((0 : Int) < (r : Int)) = false := by simp only [decide_eq_false_iff_not]; omega
  rw [hc] at hE
  by_cases hb : 1024 < q
  .have d4 : decide ((1024 : Int) < (q : Int)) = true := by simp only [decide_eq_true_eq]; omega
   rw [if_pos hb] at hE
   unfold sW
   simp (disch := omega) only [gE, jE, cS, stepR_skip, hO, iA, iO, iM, iJ, iL, jH, iT, gL, iD, iF, iC, iH, hJ, iN, hU, iE, iR, iS, iI, gQ, iQ, iP, iG, kR, kQ, lE, lH, lG, lD, lF, lC, lB, gB, Result.ok.injEq, Next.value.injEq, true_and, and_true, gY, hZ, iV, iW, iU, jG, aoE, gV, gU, gX, gT, gM, gI, gN, gK, fZ, fU, if_true, if_false, aoD, aoH, aoF, aoG, aoJ, aoI, aoC, aoB, fM, fK, eZ, fQ, cU, eQ, eE, dJ, bO, fR, eS, aQ, cY, bF, bP, bJ, aI, cP, cB, eP, aF, gR, aK, cJ, aS, bS, fS, cC, cD, aB, gC, fC, aJ, aD, bH, gO, aP, eU, dT, dV, gG, dH, fH, dB, eH, eT, fD, cF, dF, gJ, dQ, cH, bA, bZ, cG, fP, aE, aG, aO, aV, bD, cL, bN, aA, fE, aM, cO, fI, eY, gH, bK, eK, eL, bW, fW, fF, eJ, dD, cR, dG, aW, bB, aH, gA, aL, dC, dW, aX, cI, fJ, dK, gD, fL, fA, fB, dP, aN, bX, dE, fY, fX, fG, dI, aT, dZ, fT, cQ, eX, fN, bY, bL, dU, aZ, dY, dO, cK, eI, eM, aY, dA, bE, dN, dS, dR, bM, cN, cM, dM, bR, cW, cV, fO, bV, eF, eN, gF, dX, eD, dL, cZ, bG, bQ, bT, bU, aR, cX, aU, d1, d2, e1, e2, d3, d4]
   rw [hRR, hE]
   exact ⟨rfl, rfl⟩
  .have d4 : decide ((1024 : Int) < (q : Int)) = false := by simp only [decide_eq_false_iff_not]; omega
   rw [if_neg hb] at hE
   unfold sW
   simp (disch := omega) only [gE, jE, cS, stepR_skip, hO, iA, iO, iM, iJ, iL, jH, iT, gL, iD, iF, iC, iH, hJ, iN, hU, iE, iR, iS, iI, gQ, iQ, iP, iG, kR, kQ, lE, lH, lG, lD, lF, lC, lB, gB, Result.ok.injEq, Next.value.injEq, true_and, and_true, gY, hZ, iV, iW, iU, jG, aoE, gV, gU, gX, gT, gM, gI, gN, gK, fZ, fU, if_true, if_false, aoD, aoH, aoF, aoG, aoJ, aoI, aoC, aoB, fM, fK, eZ, fQ, cU, eQ, eE, dJ, bO, fR, eS, aQ, cY, bF, bP, bJ, aI, cP, cB, eP, aF, gR, aK, cJ, aS, bS, fS, cC, cD, aB, gC, fC, aJ, aD, bH, gO, aP, eU, dT, dV, gG, dH, fH, dB, eH, eT, fD, cF, dF, gJ, dQ, cH, bA, bZ, cG, fP, aE, aG, aO, aV, bD, cL, bN, aA, fE, aM, cO, fI, eY, gH, bK, eK, eL, bW, fW, fF, eJ, dD, cR, dG, aW, bB, aH, gA, aL, dC, dW, aX, cI, fJ, dK, gD, fL, fA, fB, dP, aN, bX, dE, fY, fX, fG, dI, aT, dZ, fT, cQ, eX, fN, bY, bL, dU, aZ, dY, dO, cK, eI, eM, aY, dA, bE, dN, dS, dR, bM, cN, cM, dM, bR, cW, cV, fO, bV, eF, eN, gF, dX, eD, dL, cZ, bG, bQ, bT, bU, aR, cX, aU, d1, d2, e1, e2, d3, d4]
   rw [hRR, hE]
   exact ⟨rfl, rfl⟩
theorem Z2 {L : Nat} {k i : Int} {w : atO} (hL : L < 2 ^ 64) (hk : -9223372036854775808 <= k /\ k <= 9223372036854775807) (hi : -9223372036854775808 <= i /\ i <= 9223372036854775807) :
 jD pg Dy #[.int .u64 (L : Nat), .int .i64 k, .int .i64 i] w (fun r w' => r = Vu L k i /\ w' = w) := by
 refine UB ?_
 obtain ⟨RR, hRR⟩ : ∃ RR : atP -> atO -> Prop, RR = fun r w' => r = Vu L k i /\ w' = w := ⟨_, rfl⟩
 rw [<- hRR]
 unfold Ve JE
 refine (VB hL hk).mono ?_
 rintro r w1 ⟨rfl, hw⟩
 rw [hw]; clear hw w1
 by_cases h0 : (DN L k).2 = 0
 rotate_left
 .have n0 : ((DN L k).2 != 0) = true := bne_iff_ne.2 h0
  simp (disch := omega) only [gE, jE, cS, stepR_skip, hO, iA, iO, iM, iJ, iL, jH, iT, gL, iD, iF, iC, iH, hJ, iN, hU, iE, iR, iS, iI, gQ, iQ, iP, iG, kR, kQ, lE, lH, lG, lD, lF, lC, lB, gB, Result.ok.injEq, Next.value.injEq, true_and, and_true, gY, hZ, iV, iW, iU, jG, aoE, gV, gU, gX, gT, gM, gI, gN, gK, fZ, fU, if_true, if_false, aoD, aoH, aoF, aoG, aoJ, aoI, aoC, aoB, fM, fK, eZ, fQ, cU, eQ, eE, dJ, bO, fR, eS, aQ, cY, bF, bP, bJ, aI, cP, cB, eP, aF, gR, aK, cJ, aS, bS, fS, cC, cD, aB, gC, fC, aJ, aD, bH, gO, aP, eU, dT, dV, gG, dH, fH, dB, eH, eT, fD, cF, dF, gJ, dQ, cH, bA, bZ, cG, fP, aE, aG, aO, aV, bD, cL, bN, aA, fE, aM, cO, fI, eY, gH, bK, eK, eL, bW, fW, fF, eJ, dD, cR, dG, aW, bB, aH, gA, aL, dC, dW, aX, cI, fJ, dK, gD, fL, fA, fB, dP, aN, bX, dE, fY, fX, fG, dI, aT, dZ, fT, cQ, eX, fN, bY, bL, dU, aZ, dY, dO, cK, eI, eM, aY, dA, bE, dN, dS, dR, bM, cN, cM, dM, bR, cW, cV, fO, bV, eF, eN, gF, dX, eD, dL, cZ, bG, bQ, bT, bU, aR, cX, aU, n0]
  rw [hRR]
  unfold Vu We
  rw [if_pos h0]
  exact ⟨rfl, rfl⟩
 have n0 : ((DN L k).2 != 0) = false := by rw [h0] <;> rfl
 have hS : We L k i = if i < 0 ∨ ((DN L k).1 : Int) <= i then (0, 0, 17) else (k.toNat * i.toNat, spN L k.toNat i.toNat, 0) := by unfold We; rw [if_neg (by omega)]
 obtain ⟨k1, k2, k3, k4⟩ := aaE h0
 unfold Vu at hRR
 by_cases h1 : i < 0
 .have d1 : decide (i < 0) = true := by simpa using h1
  simp (disch := omega) only [gE, jE, cS, stepR_skip, hO, iA, iO, iM, iJ, iL, jH, iT, gL, iD, iF, iC, iH, hJ, iN, hU, iE, iR, iS, iI, gQ, iQ, iP, iG, kR, kQ, lE, lH, lG, lD, lF, lC, lB, gB, Result.ok.injEq, Next.value.injEq, true_and, and_true, gY, hZ, iV, iW, iU, jG, aoE, gV, gU, gX, gT, gM, gI, gN, gK, fZ, fU, if_true, if_false, aoD, aoH, aoF, aoG, aoJ, aoI, aoC, aoB, fM, fK, eZ, fQ, cU, eQ, eE, dJ, bO, fR, eS, aQ, cY, bF, bP, bJ, aI, cP, cB, eP, aF, gR, aK, cJ, aS, bS, fS, cC, cD, aB, gC, fC, aJ, aD, bH, gO, aP, eU, dT, dV, gG, dH, fH, dB, eH, eT, fD, cF, dF, gJ, dQ, cH, bA, bZ, cG, fP, aE, aG, aO, aV, bD, cL, bN, aA, fE, aM, cO, fI, eY, gH, bK, eK, eL, bW, fW, fF, eJ, dD, cR, dG, aW, bB, aH, gA, aL, dC, dW, aX, cI, fJ, dK, gD, fL, fA, fB, dP, aN, bX, dE, fY, fX, fG, dI, aT, dZ, fT, cQ, eX, fN, bY, bL, dU, aZ, dY, dO, cK, eI, eM, aY, dA, bE, dN, dS, dR, bM, cN, cM, dM, bR, cW, cV, fO, bV, eF, eN, gF, dX, eD, dL, cZ, bG, bQ, bT, bU, aR, cX, aU, n0, d1]
  rw [hRR, hS, if_pos (.inl h1)]
  exact ⟨rfl, rfl⟩
 have d1 : decide (i < 0) = false := by simpa using h1
 by_cases h2 : ((DN L k).1 : Int) <= i
 .have d2 : decide (((DN L k).1 : Int) <= i) = true := by simpa using h2
  simp (disch := omega) only [gE, jE, cS, stepR_skip, hO, iA, iO, iM, iJ, iL, jH, iT, gL, iD, iF, iC, iH, hJ, iN, hU, iE, iR, iS, iI, gQ, iQ, iP, iG, kR, kQ, lE, lH, lG, lD, lF, lC, lB, gB, Result.ok.injEq, Next.value.injEq, true_and, and_true, gY, hZ, iV, iW, iU, jG, aoE, gV, gU, gX, gT, gM, gI, gN, gK, fZ, fU, if_true, if_false, aoD, aoH, aoF, aoG, aoJ, aoI, aoC, aoB, fM, fK, eZ, fQ, cU, eQ, eE, dJ, bO, fR, eS, aQ, cY, bF, bP, bJ, aI, cP, cB, eP, aF, gR, aK, cJ, aS, bS, fS, cC, cD, aB, gC, fC, aJ, aD, bH, gO, aP, eU, dT, dV, gG, dH, fH, dB, eH, eT, fD, cF, dF, gJ, dQ, cH, bA, bZ, cG, fP, aE, aG, aO, aV, bD, cL, bN, aA, fE, aM, cO, fI, eY, gH, bK, eK, eL, bW, fW, fF, eJ, dD, cR, dG, aW, bB, aH, gA, aL, dC, dW, aX, cI, fJ, dK, gD, fL, fA, fB, dP, aN, bX, dE, fY, fX, fG, dI, aT, dZ, fT, cQ, eX, fN, bY, bL, dU, aZ, dY, dO, cK, eI, eM, aY, dA, bE, dN, dS, dR, bM, cN, cM, dM, bR, cW, cV, fO, bV, eF, eN, gF, dX, eD, dL, cZ, bG, bQ, bT, bU, aR, cX, aU, n0, d1, d2]
  rw [hRR, hS, if_pos (.inr h2)]
  exact ⟨rfl, rfl⟩
 have d2 : decide (((DN L k).1 : Int) <= i) = false := by simpa using h2
 rw [if_neg (by omega)] at hS
 obtain ⟨k, rfl⟩ : ∃ n : Nat, k = n := ⟨k.toNat, by omega⟩
 obtain ⟨i, rfl⟩ : ∃ n : Nat, i = n := ⟨i.toNat, by omega⟩
 simp only [aoE] at hS k3 k4
 have hlt := (W7 (L := L) (k := k) (i := i) (by omega)).1 (by omega)
 have e1 : (k : Int) * (i : Int) = ((k * i : Nat) : Int) := by simp
 obtain ⟨q, hq⟩ : ∃ q, q = k * i := ⟨_, rfl⟩
 have e2 : (L : Int) - ((q : Nat) : Int) = ((L - q : Nat) : Int) := by omega
 have e3 : (if ((k : Nat) : Int) < ((L - q : Nat) : Int) then ((k : Nat) : Int) else ((L - q : Nat) : Int)) = ((spN L k i : Nat) : Int) := by
  unfold spN
  rw [<- hq]
  split <;> omega
 have hsp : spN L k i <= k := by unfold spN; omega
 rw [hS] at hRR
 rw [<- hq] at e1 hlt hRR
 simp (disch := omega) only [gE, jE, cS, stepR_skip, hO, iA, iO, iM, iJ, iL, jH, iT, gL, iD, iF, iC, iH, hJ, iN, hU, iE, iR, iS, iI, gQ, iQ, iP, iG, kR, kQ, lE, lH, lG, lD, lF, lC, lB, gB, Result.ok.injEq, Next.value.injEq, true_and, and_true, gY, hZ, iV, iW, iU, jG, aoE, gV, gU, gX, gT, gM, gI, gN, gK, fZ, fU, if_true, if_false, aoD, aoH, aoF, aoG, aoJ, aoI, aoC, aoB, fM, fK, eZ, fQ, cU, eQ, eE, dJ, bO, fR, eS, aQ, cY, bF, bP, bJ, aI, cP, cB, eP, aF, gR, aK, cJ, aS, bS, fS, cC, cD, aB, gC, fC, aJ, aD, bH, gO, aP, eU, dT, dV, gG, dH, fH, dB, eH, eT, fD, cF, dF, gJ, dQ, cH, bA, bZ, cG, fP, aE, aG, aO, aV, bD, cL, bN, aA, fE, aM, cO, fI, eY, gH, bK, eK, eL, bW, fW, fF, eJ, dD, cR, dG, aW, bB, aH, gA, aL, dC, dW, aX, cI, fJ, dK, gD, fL, fA, fB, dP, aN, bX, dE, fY, fX, fG, dI, aT, dZ, fT, cQ, eX, fN, bY, bL, dU, aZ, dY, dO, cK, eI, eM, aY, dA, bE, dN, dS, dR, bM, cN, cM, dM, bR, cW, cV, fO, bV, eF, eN, gF, dX, eD, dL, cZ, bG, bQ, bT, bU, aR, cX, aU, n0, d1, d2, e1, e2, e3]
 rw [hRR]
 exact ⟨rfl, rfl⟩
theorem Um {L : Nat} {k : Int} {w : atO} (hL : L < 2 ^ 64) (hk : -9223372036854775808 <= k /\ k <= 9223372036854775807) :
 jD pg B5 #[.int .u64 (L : Nat), .int .i64 k] w (fun r w' => r = TX L k /\ w' = w) := by
 refine T3 ?_
 obtain ⟨RR, hRR⟩ : ∃ RR : atP -> atO -> Prop, RR = fun r w' => r = TX L k /\ w' = w := ⟨_, rfl⟩
 rw [<- hRR]
 unfold Uc HF HH
 by_cases hb : k < 1
 .have d1 : decide (k < 1) = true := by simpa using hb
  simp (disch := omega) only [gE, jE, cS, stepR_skip, hO, iA, iO, iM, iJ, iL, jH, iT, gL, iD, iF, iC, iH, hJ, iN, hU, iE, iR, iS, iI, gQ, iQ, iP, iG, kR, kQ, lE, lH, lG, lD, lF, lC, lB, gB, Result.ok.injEq, Next.value.injEq, true_and, and_true, gY, hZ, iV, iW, iU, jG, aoE, gV, gU, gX, gT, gM, gI, gN, gK, fZ, fU, if_true, if_false, aoD, aoH, aoF, aoG, aoJ, aoI, aoC, aoB, fM, fK, eZ, fQ, cU, eQ, eE, dJ, bO, fR, eS, aQ, cY, bF, bP, bJ, aI, cP, cB, eP, aF, gR, aK, cJ, aS, bS, fS, cC, cD, aB, gC, fC, aJ, aD, bH, gO, aP, eU, dT, dV, gG, dH, fH, dB, eH, eT, fD, cF, dF, gJ, dQ, cH, bA, bZ, cG, fP, aE, aG, aO, aV, bD, cL, bN, aA, fE, aM, cO, fI, eY, gH, bK, eK, eL, bW, fW, fF, eJ, dD, cR, dG, aW, bB, aH, gA, aL, dC, dW, aX, cI, fJ, dK, gD, fL, fA, fB, dP, aN, bX, dE, fY, fX, fG, dI, aT, dZ, fT, cQ, eX, fN, bY, bL, dU, aZ, dY, dO, cK, eI, eM, aY, dA, bE, dN, dS, dR, bM, cN, cM, dM, bR, cW, cV, fO, bV, eF, eN, gF, dX, eD, dL, cZ, bG, bQ, bT, bU, aR, cX, aU, d1]
  rw [hRR]
  unfold TX
  rw [UX (.inl hb)]
  exact ⟨rfl, rfl⟩
 have d1 : decide (k < 1) = false := by simpa using hb
 by_cases hb2 : 65536 < k
 .have d2 : decide ((65536 : Int) < k) = true := by simpa using hb2
  simp (disch := omega) only [gE, jE, cS, stepR_skip, hO, iA, iO, iM, iJ, iL, jH, iT, gL, iD, iF, iC, iH, hJ, iN, hU, iE, iR, iS, iI, gQ, iQ, iP, iG, kR, kQ, lE, lH, lG, lD, lF, lC, lB, gB, Result.ok.injEq, Next.value.injEq, true_and, and_true, gY, hZ, iV, iW, iU, jG, aoE, gV, gU, gX, gT, gM, gI, gN, gK, fZ, fU, if_true, if_false, aoD, aoH, aoF, aoG, aoJ, aoI, aoC, aoB, fM, fK, eZ, fQ, cU, eQ, eE, dJ, bO, fR, eS, aQ, cY, bF, bP, bJ, aI, cP, cB, eP, aF, gR, aK, cJ, aS, bS, fS, cC, cD, aB, gC, fC, aJ, aD, bH, gO, aP, eU, dT, dV, gG, dH, fH, dB, eH, eT, fD, cF, dF, gJ, dQ, cH, bA, bZ, cG, fP, aE, aG, aO, aV, bD, cL, bN, aA, fE, aM, cO, fI, eY, gH, bK, eK, eL, bW, fW, fF, eJ, dD, cR, dG, aW, bB, aH, gA, aL, dC, dW, aX, cI, fJ, dK, gD, fL, fA, fB, dP, aN, bX, dE, fY, fX, fG, dI, aT, dZ, fT, cQ, eX, fN, bY, bL, dU, aZ, dY, dO, cK, eI, eM, aY, dA, bE, dN, dS, dR, bM, cN, cM, dM, bR, cW, cV, fO, bV, eF, eN, gF, dX, eD, dL, cZ, bG, bQ, bT, bU, aR, cX, aU, d1, d2]
  rw [hRR]
  unfold TX
  rw [UX (.inr hb2)]
  exact ⟨rfl, rfl⟩
 have d2 : decide ((65536 : Int) < k) = false := by simpa using hb2
 obtain ⟨k, rfl⟩ : ∃ n : Nat, k = n := ⟨k.toNat, by omega⟩
 have hE := ZL (L := L) (k := k) (by omega) (by omega)
 unfold TX at hRR
 generalize DN L k = E at *
 simp (disch := omega) only [gE, jE, cS, stepR_skip, hO, iA, iO, iM, iJ, iL, jH, iT, gL, iD, iF, iC, iH, hJ, iN, hU, iE, iR, iS, iI, gQ, iQ, iP, iG, kR, kQ, lE, lH, lG, lD, lF, lC, lB, gB, Result.ok.injEq, Next.value.injEq, true_and, and_true, gY, hZ, iV, iW, iU, jG, aoE, gV, gU, gX, gT, gM, gI, gN, gK, fZ, fU, if_true, if_false, aoD, aoH, aoF, aoG, aoJ, aoI, aoC, aoB, fM, fK, eZ, fQ, cU, eQ, eE, dJ, bO, fR, eS, aQ, cY, bF, bP, bJ, aI, cP, cB, eP, aF, gR, aK, cJ, aS, bS, fS, cC, cD, aB, gC, fC, aJ, aD, bH, gO, aP, eU, dT, dV, gG, dH, fH, dB, eH, eT, fD, cF, dF, gJ, dQ, cH, bA, bZ, cG, fP, aE, aG, aO, aV, bD, cL, bN, aA, fE, aM, cO, fI, eY, gH, bK, eK, eL, bW, fW, fF, eJ, dD, cR, dG, aW, bB, aH, gA, aL, dC, dW, aX, cI, fJ, dK, gD, fL, fA, fB, dP, aN, bX, dE, fY, fX, fG, dI, aT, dZ, fT, cQ, eX, fN, bY, bL, dU, aZ, dY, dO, cK, eI, eM, aY, dA, bE, dN, dS, dR, bM, cN, cM, dM, bR, cW, cV, fO, bV, eF, eN, gF, dX, eD, dL, cZ, bG, bQ, bT, bU, aR, cX, aU, d1, d2]
 unfold HG Hf Iy Ij Hi
 refine kE.rule (fun m (t : atP) w' => ∃ i : Nat, m = 1025 - i /\ i <= 1025 /\ i <= UD L k /\ t = .int .u64 (i : Nat) /\ w' = w) 1025 ⟨0, rfl, by omega, by omega, rfl, rfl⟩ ?_
 rintro m t w' ⟨i, rfl, hi, hic, rfl, rfl⟩
 by_cases h24 : i <= 1024
 rotate_left
 .have d3 : decide (((i : Nat) : Int) <= 1024) = false := by simp only [decide_eq_false_iff_not]; omega
  unfold AF DJ
  simp (disch := omega) only [gE, jE, cS, stepR_skip, hO, iA, iO, iM, iJ, iL, jH, iT, gL, iD, iF, iC, iH, hJ, iN, hU, iE, iR, iS, iI, gQ, iQ, iP, iG, kR, kQ, lE, lH, lG, lD, lF, lC, lB, gB, Result.ok.injEq, Next.value.injEq, true_and, and_true, gY, hZ, iV, iW, iU, jG, aoE, gV, gU, gX, gT, gM, gI, gN, gK, fZ, fU, if_true, if_false, aoD, aoH, aoF, aoG, aoJ, aoI, aoC, aoB, fM, fK, eZ, fQ, cU, eQ, eE, dJ, bO, fR, eS, aQ, cY, bF, bP, bJ, aI, cP, cB, eP, aF, gR, aK, cJ, aS, bS, fS, cC, cD, aB, gC, fC, aJ, aD, bH, gO, aP, eU, dT, dV, gG, dH, fH, dB, eH, eT, fD, cF, dF, gJ, dQ, cH, bA, bZ, cG, fP, aE, aG, aO, aV, bD, cL, bN, aA, fE, aM, cO, fI, eY, gH, bK, eK, eL, bW, fW, fF, eJ, dD, cR, dG, aW, bB, aH, gA, aL, dC, dW, aX, cI, fJ, dK, gD, fL, fA, fB, dP, aN, bX, dE, fY, fX, fG, dI, aT, dZ, fT, cQ, eX, fN, bY, bL, dU, aZ, dY, dO, cK, eI, eM, aY, dA, bE, dN, dS, dR, bM, cN, cM, dM, bR, cW, cV, fO, bV, eF, eN, gF, dX, eD, dL, cZ, bG, bQ, bT, bU, aR, cX, aU, d3]
  rw [if_pos (by omega)] at hE
  rw [hRR, hE]
  exact ⟨rfl, rfl⟩
 have d3 : decide (((i : Nat) : Int) <= 1024) = true := by simp only [decide_eq_true_eq]; omega
 have e1 : IntKind.u64.wrap ((k : Nat) : Int) = ((k : Nat) : Int) := hZ (by omega) (by omega)
 have hik : i * k <= 1024 * 65536 := Nat.mul_le_mul (by omega) (by omega)
 have e2 : ((i : Nat) : Int) * ((k : Nat) : Int) = ((i * k : Nat) : Int) := by rw [Int.natCast_mul]
 have e4 : IntKind.i64.wrap ((i : Nat) : Int) = ((i : Nat) : Int) := gY (by omega) (by omega)
 have e5 : ((i : Nat) : Int) + 1 = ((i + 1 : Nat) : Int) := by omega
 have hlt := W7 (L := L) (k := k) (i := i) (by omega)
 rw [apU k i] at hlt
 generalize i * k = T at *
 unfold AF
 by_cases hge : L <= T
 .have d4 : decide (((L : Nat) : Int) <= ((T : Nat) : Int)) = true := by simp only [decide_eq_true_eq]; omega
  have hic : i = UD L k := by
   by_cases h : i < UD L k
   .have := hlt.1 h; omega
   .omega
  simp (disch := omega) only [gE, jE, cS, stepR_skip, hO, iA, iO, iM, iJ, iL, jH, iT, gL, iD, iF, iC, iH, hJ, iN, hU, iE, iR, iS, iI, gQ, iQ, iP, iG, kR, kQ, lE, lH, lG, lD, lF, lC, lB, gB, Result.ok.injEq, Next.value.injEq, true_and, and_true, gY, hZ, iV, iW, iU, jG, aoE, gV, gU, gX, gT, gM, gI, gN, gK, fZ, fU, if_true, if_false, aoD, aoH, aoF, aoG, aoJ, aoI, aoC, aoB, fM, fK, eZ, fQ, cU, eQ, eE, dJ, bO, fR, eS, aQ, cY, bF, bP, bJ, aI, cP, cB, eP, aF, gR, aK, cJ, aS, bS, fS, cC, cD, aB, gC, fC, aJ, aD, bH, gO, aP, eU, dT, dV, gG, dH, fH, dB, eH, eT, fD, cF, dF, gJ, dQ, cH, bA, bZ, cG, fP, aE, aG, aO, aV, bD, cL, bN, aA, fE, aM, cO, fI, eY, gH, bK, eK, eL, bW, fW, fF, eJ, dD, cR, dG, aW, bB, aH, gA, aL, dC, dW, aX, cI, fJ, dK, gD, fL, fA, fB, dP, aN, bX, dE, fY, fX, fG, dI, aT, dZ, fT, cQ, eX, fN, bY, bL, dU, aZ, dY, dO, cK, eI, eM, aY, dA, bE, dN, dS, dR, bM, cN, cM, dM, bR, cW, cV, fO, bV, eF, eN, gF, dX, eD, dL, cZ, bG, bQ, bT, bU, aR, cX, aU, d3, e1, e2, d4, e4]
  rw [if_neg (by omega), <- hic] at hE
  rw [hRR, hE]
  exact ⟨rfl, rfl⟩
 .have d4 : decide (((L : Nat) : Int) <= ((T : Nat) : Int)) = false := by simp only [decide_eq_false_iff_not]; omega
  have h3 := hlt.2 (by omega)
  simp (disch := omega) only [gE, jE, cS, stepR_skip, hO, iA, iO, iM, iJ, iL, jH, iT, gL, iD, iF, iC, iH, hJ, iN, hU, iE, iR, iS, iI, gQ, iQ, iP, iG, kR, kQ, lE, lH, lG, lD, lF, lC, lB, gB, Result.ok.injEq, Next.value.injEq, true_and, and_true, gY, hZ, iV, iW, iU, jG, aoE, gV, gU, gX, gT, gM, gI, gN, gK, fZ, fU, if_true, if_false, aoD, aoH, aoF, aoG, aoJ, aoI, aoC, aoB, fM, fK, eZ, fQ, cU, eQ, eE, dJ, bO, fR, eS, aQ, cY, bF, bP, bJ, aI, cP, cB, eP, aF, gR, aK, cJ, aS, bS, fS, cC, cD, aB, gC, fC, aJ, aD, bH, gO, aP, eU, dT, dV, gG, dH, fH, dB, eH, eT, fD, cF, dF, gJ, dQ, cH, bA, bZ, cG, fP, aE, aG, aO, aV, bD, cL, bN, aA, fE, aM, cO, fI, eY, gH, bK, eK, eL, bW, fW, fF, eJ, dD, cR, dG, aW, bB, aH, gA, aL, dC, dW, aX, cI, fJ, dK, gD, fL, fA, fB, dP, aN, bX, dE, fY, fX, fG, dI, aT, dZ, fT, cQ, eX, fN, bY, bL, dU, aZ, dY, dO, cK, eI, eM, aY, dA, bE, dN, dS, dR, bM, cN, cM, dM, bR, cW, cV, fO, bV, eF, eN, gF, dX, eD, dL, cZ, bG, bQ, bT, bU, aR, cX, aU, d3, e1, e2, d4, e5]
  first
   | exact ⟨1025 - (i + 1), by omega, i + 1, rfl, by omega, by omega, rfl, rfl⟩
   | exact ⟨1025 - (i + 1), by omega, i + 1, rfl, by omega, by omega, rfl⟩
theorem Y1 {L : Nat} {k i : Int} {w : atO} (hL : L < 2 ^ 64) (hk : -9223372036854775808 <= k /\ k <= 9223372036854775807) (hi : -9223372036854775808 <= i /\ i <= 9223372036854775807) :
 jD pg GZ #[.int .u64 (L : Nat), .int .i64 k, .int .i64 i] w (fun r w' => r = Vu L k i /\ w' = w) := by
 refine UN ?_
 obtain ⟨RR, hRR⟩ : ∃ RR : atP -> atO -> Prop, RR = fun r w' => r = Vu L k i /\ w' = w := ⟨_, rfl⟩
 rw [<- hRR]
 unfold Vh JD
 refine (Um hL hk).mono ?_
 rintro r w1 ⟨rfl, hw⟩
 rw [hw]; clear hw w1
 by_cases h0 : (DN L k).2 = 0
 rotate_left
 .have n0 : ((DN L k).2 != 0) = true := bne_iff_ne.2 h0
  simp (disch := omega) only [gE, jE, cS, stepR_skip, hO, iA, iO, iM, iJ, iL, jH, iT, gL, iD, iF, iC, iH, hJ, iN, hU, iE, iR, iS, iI, gQ, iQ, iP, iG, kR, kQ, lE, lH, lG, lD, lF, lC, lB, gB, Result.ok.injEq, Next.value.injEq, true_and, and_true, gY, hZ, iV, iW, iU, jG, aoE, gV, gU, gX, gT, gM, gI, gN, gK, fZ, fU, if_true, if_false, aoD, aoH, aoF, aoG, aoJ, aoI, aoC, aoB, fM, fK, eZ, fQ, cU, eQ, eE, dJ, bO, fR, eS, aQ, cY, bF, bP, bJ, aI, cP, cB, eP, aF, gR, aK, cJ, aS, bS, fS, cC, cD, aB, gC, fC, aJ, aD, bH, gO, aP, eU, dT, dV, gG, dH, fH, dB, eH, eT, fD, cF, dF, gJ, dQ, cH, bA, bZ, cG, fP, aE, aG, aO, aV, bD, cL, bN, aA, fE, aM, cO, fI, eY, gH, bK, eK, eL, bW, fW, fF, eJ, dD, cR, dG, aW, bB, aH, gA, aL, dC, dW, aX, cI, fJ, dK, gD, fL, fA, fB, dP, aN, bX, dE, fY, fX, fG, dI, aT, dZ, fT, cQ, eX, fN, bY, bL, dU, aZ, dY, dO, cK, eI, eM, aY, dA, bE, dN, dS, dR, bM, cN, cM, dM, bR, cW, cV, fO, bV, eF, eN, gF, dX, eD, dL, cZ, bG, bQ, bT, bU, aR, cX, aU, n0]
  rw [hRR]
  unfold Vu We
  rw [if_pos h0]
  exact ⟨rfl, rfl⟩
 have n0 : ((DN L k).2 != 0) = false := by rw [h0] <;> rfl
 have hS : We L k i = if i < 0 ∨ ((DN L k).1 : Int) <= i then (0, 0, 17) else (k.toNat * i.toNat, spN L k.toNat i.toNat, 0) := by unfold We; rw [if_neg (by omega)]
 obtain ⟨k1, k2, k3, k4⟩ := aaE h0
 unfold Vu at hRR
 by_cases h1 : i < 0
 .have d1 : decide (i < 0) = true := by simpa using h1
  simp (disch := omega) only [gE, jE, cS, stepR_skip, hO, iA, iO, iM, iJ, iL, jH, iT, gL, iD, iF, iC, iH, hJ, iN, hU, iE, iR, iS, iI, gQ, iQ, iP, iG, kR, kQ, lE, lH, lG, lD, lF, lC, lB, gB, Result.ok.injEq, Next.value.injEq, true_and, and_true, gY, hZ, iV, iW, iU, jG, aoE, gV, gU, gX, gT, gM, gI, gN, gK, fZ, fU, if_true, if_false, aoD, aoH, aoF, aoG, aoJ, aoI, aoC, aoB, fM, fK, eZ, fQ, cU, eQ, eE, dJ, bO, fR, eS, aQ, cY, bF, bP, bJ, aI, cP, cB, eP, aF, gR, aK, cJ, aS, bS, fS, cC, cD, aB, gC, fC, aJ, aD, bH, gO, aP, eU, dT, dV, gG, dH, fH, dB, eH, eT, fD, cF, dF, gJ, dQ, cH, bA, bZ, cG, fP, aE, aG, aO, aV, bD, cL, bN, aA, fE, aM, cO, fI, eY, gH, bK, eK, eL, bW, fW, fF, eJ, dD, cR, dG, aW, bB, aH, gA, aL, dC, dW, aX, cI, fJ, dK, gD, fL, fA, fB, dP, aN, bX, dE, fY, fX, fG, dI, aT, dZ, fT, cQ, eX, fN, bY, bL, dU, aZ, dY, dO, cK, eI, eM, aY, dA, bE, dN, dS, dR, bM, cN, cM, dM, bR, cW, cV, fO, bV, eF, eN, gF, dX, eD, dL, cZ, bG, bQ, bT, bU, aR, cX, aU, n0, d1]
  rw [hRR, hS, if_pos (.inl h1)]
  exact ⟨rfl, rfl⟩
 have d1 : decide (i < 0) = false := by simpa using h1
 by_cases h2 : ((DN L k).1 : Int) <= i
 .have d2 : decide (((DN L k).1 : Int) <= i) = true := by simpa using h2
  simp (disch := omega) only [gE, jE, cS, stepR_skip, hO, iA, iO, iM, iJ, iL, jH, iT, gL, iD, iF, iC, iH, hJ, iN, hU, iE, iR, iS, iI, gQ, iQ, iP, iG, kR, kQ, lE, lH, lG, lD, lF, lC, lB, gB, Result.ok.injEq, Next.value.injEq, true_and, and_true, gY, hZ, iV, iW, iU, jG, aoE, gV, gU, gX, gT, gM, gI, gN, gK, fZ, fU, if_true, if_false, aoD, aoH, aoF, aoG, aoJ, aoI, aoC, aoB, fM, fK, eZ, fQ, cU, eQ, eE, dJ, bO, fR, eS, aQ, cY, bF, bP, bJ, aI, cP, cB, eP, aF, gR, aK, cJ, aS, bS, fS, cC, cD, aB, gC, fC, aJ, aD, bH, gO, aP, eU, dT, dV, gG, dH, fH, dB, eH, eT, fD, cF, dF, gJ, dQ, cH, bA, bZ, cG, fP, aE, aG, aO, aV, bD, cL, bN, aA, fE, aM, cO, fI, eY, gH, bK, eK, eL, bW, fW, fF, eJ, dD, cR, dG, aW, bB, aH, gA, aL, dC, dW, aX, cI, fJ, dK, gD, fL, fA, fB, dP, aN, bX, dE, fY, fX, fG, dI, aT, dZ, fT, cQ, eX, fN, bY, bL, dU, aZ, dY, dO, cK, eI, eM, aY, dA, bE, dN, dS, dR, bM, cN, cM, dM, bR, cW, cV, fO, bV, eF, eN, gF, dX, eD, dL, cZ, bG, bQ, bT, bU, aR, cX, aU, n0, d1, d2]
  rw [hRR, hS, if_pos (.inr h2)]
  exact ⟨rfl, rfl⟩
 have d2 : decide (((DN L k).1 : Int) <= i) = false := by simpa using h2
 rw [if_neg (by omega)] at hS
 obtain ⟨k, rfl⟩ : ∃ n : Nat, k = n := ⟨k.toNat, by omega⟩
 obtain ⟨i, rfl⟩ : ∃ n : Nat, i = n := ⟨i.toNat, by omega⟩
 simp only [aoE] at hS k3 k4
 have hlt := (W7 (L := L) (k := k) (i := i) (by omega)).1 (by omega)
 have e1 : IntKind.u64.wrap ((k : Nat) : Int) = ((k : Nat) : Int) := hZ (by omega) (by omega)
 have e2 : IntKind.u64.wrap ((i : Nat) : Int) = ((i : Nat) : Int) := hZ (by omega) (by omega)
 have e3 : ((k : Nat) : Int) * ((i : Nat) : Int) = ((k * i : Nat) : Int) := by rw [Int.natCast_mul]
 obtain ⟨T, hT⟩ : ∃ T, T = k * i := ⟨_, rfl⟩
 have hsp : spN L k i = min (L - T) k := by unfold spN; rw [hT]
 rw [hS, hsp] at hRR
 rw [<- hT] at e3 hlt hRR
 have e4 : ((L : Nat) : Int) - ((T : Nat) : Int) = ((L - T : Nat) : Int) := by omega
 by_cases hs : L - T < k
 .have d3 : decide (((L - T : Nat) : Int) < ((k : Nat) : Int)) = true := by simp only [decide_eq_true_eq]; omega
  have e5 : IntKind.i64.wrap ((L - T : Nat) : Int) = ((L - T : Nat) : Int) := gY (by omega) (by omega)
  rw [aqX (by omega)] at hRR
  simp (disch := omega) only [gE, jE, cS, stepR_skip, hO, iA, iO, iM, iJ, iL, jH, iT, gL, iD, iF, iC, iH, hJ, iN, hU, iE, iR, iS, iI, gQ, iQ, iP, iG, kR, kQ, lE, lH, lG, lD, lF, lC, lB, gB, Result.ok.injEq, Next.value.injEq, true_and, and_true, gY, hZ, iV, iW, iU, jG, aoE, gV, gU, gX, gT, gM, gI, gN, gK, fZ, fU, if_true, if_false, aoD, aoH, aoF, aoG, aoJ, aoI, aoC, aoB, fM, fK, eZ, fQ, cU, eQ, eE, dJ, bO, fR, eS, aQ, cY, bF, bP, bJ, aI, cP, cB, eP, aF, gR, aK, cJ, aS, bS, fS, cC, cD, aB, gC, fC, aJ, aD, bH, gO, aP, eU, dT, dV, gG, dH, fH, dB, eH, eT, fD, cF, dF, gJ, dQ, cH, bA, bZ, cG, fP, aE, aG, aO, aV, bD, cL, bN, aA, fE, aM, cO, fI, eY, gH, bK, eK, eL, bW, fW, fF, eJ, dD, cR, dG, aW, bB, aH, gA, aL, dC, dW, aX, cI, fJ, dK, gD, fL, fA, fB, dP, aN, bX, dE, fY, fX, fG, dI, aT, dZ, fT, cQ, eX, fN, bY, bL, dU, aZ, dY, dO, cK, eI, eM, aY, dA, bE, dN, dS, dR, bM, cN, cM, dM, bR, cW, cV, fO, bV, eF, eN, gF, dX, eD, dL, cZ, bG, bQ, bT, bU, aR, cX, aU, n0, d1, d2, e1, e2, e3, e4, d3, e5]
  rw [hRR]
  exact ⟨rfl, rfl⟩
 .have d3 : decide (((L - T : Nat) : Int) < ((k : Nat) : Int)) = false := by simp only [decide_eq_false_iff_not]; omega
  rw [Nat.min_eq_right (by omega)] at hRR
  simp (disch := omega) only [gE, jE, cS, stepR_skip, hO, iA, iO, iM, iJ, iL, jH, iT, gL, iD, iF, iC, iH, hJ, iN, hU, iE, iR, iS, iI, gQ, iQ, iP, iG, kR, kQ, lE, lH, lG, lD, lF, lC, lB, gB, Result.ok.injEq, Next.value.injEq, true_and, and_true, gY, hZ, iV, iW, iU, jG, aoE, gV, gU, gX, gT, gM, gI, gN, gK, fZ, fU, if_true, if_false, aoD, aoH, aoF, aoG, aoJ, aoI, aoC, aoB, fM, fK, eZ, fQ, cU, eQ, eE, dJ, bO, fR, eS, aQ, cY, bF, bP, bJ, aI, cP, cB, eP, aF, gR, aK, cJ, aS, bS, fS, cC, cD, aB, gC, fC, aJ, aD, bH, gO, aP, eU, dT, dV, gG, dH, fH, dB, eH, eT, fD, cF, dF, gJ, dQ, cH, bA, bZ, cG, fP, aE, aG, aO, aV, bD, cL, bN, aA, fE, aM, cO, fI, eY, gH, bK, eK, eL, bW, fW, fF, eJ, dD, cR, dG, aW, bB, aH, gA, aL, dC, dW, aX, cI, fJ, dK, gD, fL, fA, fB, dP, aN, bX, dE, fY, fX, fG, dI, aT, dZ, fT, cQ, eX, fN, bY, bL, dU, aZ, dY, dO, cK, eI, eM, aY, dA, bE, dN, dS, dR, bM, cN, cM, dM, bR, cW, cV, fO, bV, eF, eN, gF, dX, eD, dL, cZ, bG, bQ, bT, bU, aR, cX, aU, n0, d1, d2, e1, e2, e3, e4, d3]
  rw [hRR]
  exact ⟨rfl, rfl⟩
theorem akF {v : atP} {l : List UInt8} {lvl : Nat} {w : atO} (h : Bs w v l) (h1 : 1 <= l.length) (hl : l.length <= 65536) (hs : Fm l = true ∨ l.length <= 2) (hlv : lvl <= 9) :
 jD pg GW #[v, .int .i64 (lvl : Nat)] w (fun r w' => (∃ x, r = .tuple #[.int .u8 (if (enF l (Db l) false).length < l.length then 1 else 0), x, .int .i64 0] /\ Bs w' x (if (enF l (Db l) false).length < l.length then enF l (Db l) false else l)) /\ jM w w' mN) := by
 refine US ?_
 obtain ⟨RR, hRR⟩ : ∃ RR : atP -> atO -> Prop, RR = fun r w' => (∃ x, r = .tuple #[.int .u8 (if (enF l (Db l) false).length < l.length then 1 else 0), x, .int .i64 0] /\ Bs w' x (if (enF l (Db l) false).length < l.length then enF l (Db l) false else l)) /\ jM w w' mN := ⟨_, rfl⟩
 rw [<- hRR]
 have hv := h
 obtain ⟨va, vc, rfl, hvc⟩ := h.len
 rw [aoK] at hv hvc ⊢
 have d1 : decide ((65536 : Int) < (l.length : Int)) = false := decide_eq_false (by omega)
 unfold VW JK
 simp (disch := omega) only [gE, jE, cS, stepR_skip, hO, iA, iO, iM, iJ, iL, jH, iT, gL, iD, iF, iC, iH, hJ, iN, hU, iE, iR, iS, iI, gQ, iQ, iP, iG, kR, kQ, lE, lH, lG, lD, lF, lC, lB, gB, Result.ok.injEq, Next.value.injEq, true_and, and_true, gY, hZ, iV, iW, iU, jG, aoE, gV, gU, gX, gT, gM, gI, gN, gK, fZ, fU, if_true, if_false, aoD, aoH, aoF, aoG, aoJ, aoI, aoC, aoB, fM, fK, eZ, fQ, cU, eQ, eE, dJ, bO, fR, eS, aQ, cY, bF, bP, bJ, aI, cP, cB, eP, aF, gR, aK, cJ, aS, bS, fS, cC, cD, aB, gC, fC, aJ, aD, bH, gO, aP, eU, dT, dV, gG, dH, fH, dB, eH, eT, fD, cF, dF, gJ, dQ, cH, bA, bZ, cG, fP, aE, aG, aO, aV, bD, cL, bN, aA, fE, aM, cO, fI, eY, gH, bK, eK, eL, bW, fW, fF, eJ, dD, cR, dG, aW, bB, aH, gA, aL, dC, dW, aX, cI, fJ, dK, gD, fL, fA, fB, dP, aN, bX, dE, fY, fX, fG, dI, aT, dZ, fT, cQ, eX, fN, bY, bL, dU, aZ, dY, dO, cK, eI, eM, aY, dA, bE, dN, dS, dR, bM, cN, cM, dM, bR, cW, cV, fO, bV, eF, eN, gF, dX, eD, dL, cZ, bG, bQ, bT, bU, aR, cX, aU, d1]
 have he := Zv (s := false) hv h1 hl hs hlv
 refine he.mono ?_
 rintro r w1 ⟨⟨x, rfl, o1⟩, x1⟩
 generalize enF l (Db l) false = F at *
 obtain ⟨xa, xc, rfl⟩ := o1.len
 have n0 : ((0 : Int) != 0) = false := rfl
 by_cases hlt : F.length < l.length
 .have d2 : decide ((F.length : Int) < (l.length : Int)) = true := decide_eq_true (by omega)
  simp (disch := omega) only [gE, jE, cS, stepR_skip, hO, iA, iO, iM, iJ, iL, jH, iT, gL, iD, iF, iC, iH, hJ, iN, hU, iE, iR, iS, iI, gQ, iQ, iP, iG, kR, kQ, lE, lH, lG, lD, lF, lC, lB, gB, Result.ok.injEq, Next.value.injEq, true_and, and_true, gY, hZ, iV, iW, iU, jG, aoE, gV, gU, gX, gT, gM, gI, gN, gK, fZ, fU, if_true, if_false, aoD, aoH, aoF, aoG, aoJ, aoI, aoC, aoB, fM, fK, eZ, fQ, cU, eQ, eE, dJ, bO, fR, eS, aQ, cY, bF, bP, bJ, aI, cP, cB, eP, aF, gR, aK, cJ, aS, bS, fS, cC, cD, aB, gC, fC, aJ, aD, bH, gO, aP, eU, dT, dV, gG, dH, fH, dB, eH, eT, fD, cF, dF, gJ, dQ, cH, bA, bZ, cG, fP, aE, aG, aO, aV, bD, cL, bN, aA, fE, aM, cO, fI, eY, gH, bK, eK, eL, bW, fW, fF, eJ, dD, cR, dG, aW, bB, aH, gA, aL, dC, dW, aX, cI, fJ, dK, gD, fL, fA, fB, dP, aN, bX, dE, fY, fX, fG, dI, aT, dZ, fT, cQ, eX, fN, bY, bL, dU, aZ, dY, dO, cK, eI, eM, aY, dA, bE, dN, dS, dR, bM, cN, cM, dM, bR, cW, cV, fO, bV, eF, eN, gF, dX, eD, dL, cZ, bG, bQ, bT, bU, aR, cX, aU, n0, d2]
  rw [hRR, if_pos hlt, if_pos hlt]
  exact ⟨⟨_, rfl, o1.sl⟩, x1⟩
 .have d2 : decide ((F.length : Int) < (l.length : Int)) = false := decide_eq_false (by omega)
  simp (disch := omega) only [gE, jE, cS, stepR_skip, hO, iA, iO, iM, iJ, iL, jH, iT, gL, iD, iF, iC, iH, hJ, iN, hU, iE, iR, iS, iI, gQ, iQ, iP, iG, kR, kQ, lE, lH, lG, lD, lF, lC, lB, gB, Result.ok.injEq, Next.value.injEq, true_and, and_true, gY, hZ, iV, iW, iU, jG, aoE, gV, gU, gX, gT, gM, gI, gN, gK, fZ, fU, if_true, if_false, aoD, aoH, aoF, aoG, aoJ, aoI, aoC, aoB, fM, fK, eZ, fQ, cU, eQ, eE, dJ, bO, fR, eS, aQ, cY, bF, bP, bJ, aI, cP, cB, eP, aF, gR, aK, cJ, aS, bS, fS, cC, cD, aB, gC, fC, aJ, aD, bH, gO, aP, eU, dT, dV, gG, dH, fH, dB, eH, eT, fD, cF, dF, gJ, dQ, cH, bA, bZ, cG, fP, aE, aG, aO, aV, bD, cL, bN, aA, fE, aM, cO, fI, eY, gH, bK, eK, eL, bW, fW, fF, eJ, dD, cR, dG, aW, bB, aH, gA, aL, dC, dW, aX, cI, fJ, dK, gD, fL, fA, fB, dP, aN, bX, dE, fY, fX, fG, dI, aT, dZ, fT, cQ, eX, fN, bY, bL, dU, aZ, dY, dO, cK, eI, eM, aY, dA, bE, dN, dS, dR, bM, cN, cM, dM, bR, cW, cV, fO, bV, eF, eN, gF, dX, eD, dL, cZ, bG, bQ, bT, bU, aR, cX, aU, n0, d2]
  have hc := UT (l := l) (hv.ext x1 (kJ _)) (by omega)
  refine hc.mono ?_
  rintro r w2 ⟨o2, x2⟩
  rw [hRR, if_neg hlt, if_neg hlt]
  exact ⟨⟨_, rfl, o2.sl⟩, x1.seq x2⟩
theorem abA {v : atP} {l : List UInt8} {w : atO} (h : Bs w v l) (hl : l.length <= 65536) :
 jD pg Eg #[.int .u8 0, v, .int .i64 (l.length : Nat)] w (fun r w' => (∃ x, r = .tuple #[x, .int .i64 0] /\ Bs w' x l) /\ jM w w' mN) := by
 refine Sb ?_
 have hv := h
 obtain ⟨va, vc, rfl, hvc⟩ := h.len
 rw [aoK] at hv hvc ⊢
 have d0 : decide (((l.length : Nat) : Int) < 0) = false := decide_eq_false (by omega)
 have d1 : decide ((65536 : Int) < (l.length : Int)) = false := decide_eq_false (by omega)
 have n0 : ((0 : Int) == 0) = true := rfl
 have n1 : (((l.length : Nat) : Int) == ((l.length : Nat) : Int)) = true := beq_self_eq_true _
 unfold Rw GF
 simp (disch := omega) only [gE, jE, cS, stepR_skip, hO, iA, iO, iM, iJ, iL, jH, iT, gL, iD, iF, iC, iH, hJ, iN, hU, iE, iR, iS, iI, gQ, iQ, iP, iG, kR, kQ, lE, lH, lG, lD, lF, lC, lB, gB, Result.ok.injEq, Next.value.injEq, true_and, and_true, gY, hZ, iV, iW, iU, jG, aoE, gV, gU, gX, gT, gM, gI, gN, gK, fZ, fU, if_true, if_false, aoD, aoH, aoF, aoG, aoJ, aoI, aoC, aoB, fM, fK, eZ, fQ, cU, eQ, eE, dJ, bO, fR, eS, aQ, cY, bF, bP, bJ, aI, cP, cB, eP, aF, gR, aK, cJ, aS, bS, fS, cC, cD, aB, gC, fC, aJ, aD, bH, gO, aP, eU, dT, dV, gG, dH, fH, dB, eH, eT, fD, cF, dF, gJ, dQ, cH, bA, bZ, cG, fP, aE, aG, aO, aV, bD, cL, bN, aA, fE, aM, cO, fI, eY, gH, bK, eK, eL, bW, fW, fF, eJ, dD, cR, dG, aW, bB, aH, gA, aL, dC, dW, aX, cI, fJ, dK, gD, fL, fA, fB, dP, aN, bX, dE, fY, fX, fG, dI, aT, dZ, fT, cQ, eX, fN, bY, bL, dU, aZ, dY, dO, cK, eI, eM, aY, dA, bE, dN, dS, dR, bM, cN, cM, dM, bR, cW, cV, fO, bV, eF, eN, gF, dX, eD, dL, cZ, bG, bQ, bT, bU, aR, cX, aU, d0, d1, n0, n1]
 refine (UT (l := l) hv (by omega)).mono ?_
 rintro r w2 ⟨o2, x2⟩
 exact ⟨⟨_, rfl, o2.sl⟩, x2⟩
theorem aiP : (enF [1, 2] (Db [1, 2]) false).length = 11 := by decide +kernel
theorem abF (w : atO) : jD pg FX #[] w (fun r w' => r = .bool true /\ jM w w' mN) := by
 refine TE ?_
 unfold Ut Hg
 refine (VB (L := 10) (k := 4) (by decide) (by decide)).mono ?_
 rintro r w1 ⟨rfl, hw⟩
 rw [hw]; clear hw w1
 have ec : DN 10 4 = (3, 0) := by decide
 unfold TX
 rw [ec]
 simp (disch := omega) only [gE, jE, cS, stepR_skip, hO, iA, iO, iM, iJ, iL, jH, iT, gL, iD, iF, iC, iH, hJ, iN, hU, iE, iR, iS, iI, gQ, iQ, iP, iG, kR, kQ, lE, lH, lG, lD, lF, lC, lB, gB, Result.ok.injEq, Next.value.injEq, true_and, and_true, gY, hZ, iV, iW, iU, jG, aoE, gV, gU, gX, gT, gM, gI, gN, gK, fZ, fU, if_true, if_false, aoD, aoH, aoF, aoG, aoJ, aoI, aoC, aoB, fM, fK, eZ, fQ, cU, eQ, eE, dJ, bO, fR, eS, aQ, cY, bF, bP, bJ, aI, cP, cB, eP, aF, gR, aK, cJ, aS, bS, fS, cC, cD, aB, gC, fC, aJ, aD, bH, gO, aP, eU, dT, dV, gG, dH, fH, dB, eH, eT, fD, cF, dF, gJ, dQ, cH, bA, bZ, cG, fP, aE, aG, aO, aV, bD, cL, bN, aA, fE, aM, cO, fI, eY, gH, bK, eK, eL, bW, fW, fF, eJ, dD, cR, dG, aW, bB, aH, gA, aL, dC, dW, aX, cI, fJ, dK, gD, fL, fA, fB, dP, aN, bX, dE, fY, fX, fG, dI, aT, dZ, fT, cQ, eX, fN, bY, bL, dU, aZ, dY, dO, cK, eI, eM, aY, dA, bE, dN, dS, dR, bM, cN, cM, dM, bR, cW, cV, fO, bV, eF, eN, gF, dX, eD, dL, cZ, bG, bQ, bT, bU, aR, cX, aU]
 refine (Z2 (L := 10) (k := 4) (i := 2) (by decide) (by decide) (by decide)).mono ?_
 rintro r w1 ⟨rfl, hw⟩
 rw [hw]; clear hw w1
 have es : We 10 4 2 = (8, 2, 0) := by decide
 unfold Vu
 rw [es]
 simp (disch := omega) only [gE, jE, cS, stepR_skip, hO, iA, iO, iM, iJ, iL, jH, iT, gL, iD, iF, iC, iH, hJ, iN, hU, iE, iR, iS, iI, gQ, iQ, iP, iG, kR, kQ, lE, lH, lG, lD, lF, lC, lB, gB, Result.ok.injEq, Next.value.injEq, true_and, and_true, gY, hZ, iV, iW, iU, jG, aoE, gV, gU, gX, gT, gM, gI, gN, gK, fZ, fU, if_true, if_false, aoD, aoH, aoF, aoG, aoJ, aoI, aoC, aoB, fM, fK, eZ, fQ, cU, eQ, eE, dJ, bO, fR, eS, aQ, cY, bF, bP, bJ, aI, cP, cB, eP, aF, gR, aK, cJ, aS, bS, fS, cC, cD, aB, gC, fC, aJ, aD, bH, gO, aP, eU, dT, dV, gG, dH, fH, dB, eH, eT, fD, cF, dF, gJ, dQ, cH, bA, bZ, cG, fP, aE, aG, aO, aV, bD, cL, bN, aA, fE, aM, cO, fI, eY, gH, bK, eK, eL, bW, fW, fF, eJ, dD, cR, dG, aW, bB, aH, gA, aL, dC, dW, aX, cI, fJ, dK, gD, fL, fA, fB, dP, aN, bX, dE, fY, fX, fG, dI, aT, dZ, fT, cQ, eX, fN, bY, bL, dU, aZ, dY, dO, cK, eI, eM, aY, dA, bE, dN, dS, dR, bM, cN, cM, dM, bR, cW, cV, fO, bV, eF, eN, gF, dX, eD, dL, cZ, bG, bQ, bT, bU, aR, cX, aU]
 refine sJ (cells := #[.int .u8 1, .int .u8 2]) (by decide) (by decide) (by kernel_rfl) fun w1 o1 x1 s1 => ?_
 have b1 : Bs w1 (.slice (some ⟨w.heap.size, 0, none⟩) 2 2) [1, 2] := o1.bs (off := 0) (c := 2) (l := [1, 2]) (by decide) (fun i hi => by
  match i, hi with
  | 0, _ => rfl
  | 1, _ => rfl)
 refine (akF (lvl := 5) b1 (by decide) (by decide) (.inr (by decide)) (by omega)).mono ?_
 rintro r w2 ⟨⟨x, rfl, b2⟩, x2⟩
 have hl12 : ([1, 2] : List UInt8).length = 2 := rfl
 rw [aiP, hl12, if_neg (by omega)]
 rw [aiP, hl12, if_neg (by omega)] at b2
 simp (disch := omega) only [gE, jE, cS, stepR_skip, hO, iA, iO, iM, iJ, iL, jH, iT, gL, iD, iF, iC, iH, hJ, iN, hU, iE, iR, iS, iI, gQ, iQ, iP, iG, kR, kQ, lE, lH, lG, lD, lF, lC, lB, gB, Result.ok.injEq, Next.value.injEq, true_and, and_true, gY, hZ, iV, iW, iU, jG, aoE, gV, gU, gX, gT, gM, gI, gN, gK, fZ, fU, if_true, if_false, aoD, aoH, aoF, aoG, aoJ, aoI, aoC, aoB, fM, fK, eZ, fQ, cU, eQ, eE, dJ, bO, fR, eS, aQ, cY, bF, bP, bJ, aI, cP, cB, eP, aF, gR, aK, cJ, aS, bS, fS, cC, cD, aB, gC, fC, aJ, aD, bH, gO, aP, eU, dT, dV, gG, dH, fH, dB, eH, eT, fD, cF, dF, gJ, dQ, cH, bA, bZ, cG, fP, aE, aG, aO, aV, bD, cL, bN, aA, fE, aM, cO, fI, eY, gH, bK, eK, eL, bW, fW, fF, eJ, dD, cR, dG, aW, bB, aH, gA, aL, dC, dW, aX, cI, fJ, dK, gD, fL, fA, fB, dP, aN, bX, dE, fY, fX, fG, dI, aT, dZ, fT, cQ, eX, fN, bY, bL, dU, aZ, dY, dO, cK, eI, eM, aY, dA, bE, dN, dS, dR, bM, cN, cM, dM, bR, cW, cV, fO, bV, eF, eN, gF, dX, eD, dL, cZ, bG, bQ, bT, bU, aR, cX, aU]
 refine (abA (l := [1, 2]) b2 (by decide)).mono ?_
 rintro r w3 ⟨⟨y, rfl, b3⟩, x3⟩
 have hs := QH b3
 have e1 := ajH [1, 2]
 have n3 : (((3 : Nat) : Int) == 3) = true := rfl
 have n8 : (((8 : Nat) : Int) == 8) = true := rfl
 have n2 : (((2 : Nat) : Int) == 2) = true := rfl
 have n0 : ((0 : Int) == 0) = true := rfl
 simp (disch := omega) only [gE, jE, cS, stepR_skip, hO, iA, iO, iM, iJ, iL, jH, iT, gL, iD, iF, iC, iH, hJ, iN, hU, iE, iR, iS, iI, gQ, iQ, iP, iG, kR, kQ, lE, lH, lG, lD, lF, lC, lB, gB, Result.ok.injEq, Next.value.injEq, true_and, and_true, gY, hZ, iV, iW, iU, jG, aoE, gV, gU, gX, gT, gM, gI, gN, gK, fZ, fU, if_true, if_false, aoD, aoH, aoF, aoG, aoJ, aoI, aoC, aoB, fM, fK, eZ, fQ, cU, eQ, eE, dJ, bO, fR, eS, aQ, cY, bF, bP, bJ, aI, cP, cB, eP, aF, gR, aK, cJ, aS, bS, fS, cC, cD, aB, gC, fC, aJ, aD, bH, gO, aP, eU, dT, dV, gG, dH, fH, dB, eH, eT, fD, cF, dF, gJ, dQ, cH, bA, bZ, cG, fP, aE, aG, aO, aV, bD, cL, bN, aA, fE, aM, cO, fI, eY, gH, bK, eK, eL, bW, fW, fF, eJ, dD, cR, dG, aW, bB, aH, gA, aL, dC, dW, aX, cI, fJ, dK, gD, fL, fA, fB, dP, aN, bX, dE, fY, fX, fG, dI, aT, dZ, fT, cQ, eX, fN, bY, bL, dU, aZ, dY, dO, cK, eI, eM, aY, dA, bE, dN, dS, dR, bM, cN, cM, dM, bR, cW, cV, fO, bV, eF, eN, gF, dX, eD, dL, cZ, bG, bQ, bT, bU, aR, cX, aU, n3, n8, n2, n0, hs, e1, ajN]
 exact (x1.seq x2).seq x3
theorem WX {L : Nat} {k i : Int} {w : atO} (hL : L < 18446744073709551616) (hk : -9223372036854775808 <= k /\ k <= 9223372036854775807) (hi : -9223372036854775808 <= i /\ i <= 9223372036854775807) :
 jD pg CB #[.int .u64 (L : Nat), .int .i64 k, .int .i64 i] w (fun r w' => r = .bool true /\ jM w w' mN) := by
 refine M3 ?_
 unfold Ky Bu
 refine (abF w).mono ?_
 rintro r w1 ⟨rfl, x1⟩
 have hL2 : L < 2 ^ 64 := by omega
 simp (disch := omega) only [gE, jE, cS, stepR_skip, hO, iA, iO, iM, iJ, iL, jH, iT, gL, iD, iF, iC, iH, hJ, iN, hU, iE, iR, iS, iI, gQ, iQ, iP, iG, kR, kQ, lE, lH, lG, lD, lF, lC, lB, gB, Result.ok.injEq, Next.value.injEq, true_and, and_true, gY, hZ, iV, iW, iU, jG, aoE, gV, gU, gX, gT, gM, gI, gN, gK, fZ, fU, if_true, if_false, aoD, aoH, aoF, aoG, aoJ, aoI, aoC, aoB, fM, fK, eZ, fQ, cU, eQ, eE, dJ, bO, fR, eS, aQ, cY, bF, bP, bJ, aI, cP, cB, eP, aF, gR, aK, cJ, aS, bS, fS, cC, cD, aB, gC, fC, aJ, aD, bH, gO, aP, eU, dT, dV, gG, dH, fH, dB, eH, eT, fD, cF, dF, gJ, dQ, cH, bA, bZ, cG, fP, aE, aG, aO, aV, bD, cL, bN, aA, fE, aM, cO, fI, eY, gH, bK, eK, eL, bW, fW, fF, eJ, dD, cR, dG, aW, bB, aH, gA, aL, dC, dW, aX, cI, fJ, dK, gD, fL, fA, fB, dP, aN, bX, dE, fY, fX, fG, dI, aT, dZ, fT, cQ, eX, fN, bY, bL, dU, aZ, dY, dO, cK, eI, eM, aY, dA, bE, dN, dS, dR, bM, cN, cM, dM, bR, cW, cV, fO, bV, eF, eN, gF, dX, eD, dL, cZ, bG, bQ, bT, bU, aR, cX, aU]
 refine (VB hL2 hk).mono ?_
 rintro r w2 ⟨rfl, hw⟩
 rw [hw]; clear hw w2
 unfold TX
 simp (disch := omega) only [gE, jE, cS, stepR_skip, hO, iA, iO, iM, iJ, iL, jH, iT, gL, iD, iF, iC, iH, hJ, iN, hU, iE, iR, iS, iI, gQ, iQ, iP, iG, kR, kQ, lE, lH, lG, lD, lF, lC, lB, gB, Result.ok.injEq, Next.value.injEq, true_and, and_true, gY, hZ, iV, iW, iU, jG, aoE, gV, gU, gX, gT, gM, gI, gN, gK, fZ, fU, if_true, if_false, aoD, aoH, aoF, aoG, aoJ, aoI, aoC, aoB, fM, fK, eZ, fQ, cU, eQ, eE, dJ, bO, fR, eS, aQ, cY, bF, bP, bJ, aI, cP, cB, eP, aF, gR, aK, cJ, aS, bS, fS, cC, cD, aB, gC, fC, aJ, aD, bH, gO, aP, eU, dT, dV, gG, dH, fH, dB, eH, eT, fD, cF, dF, gJ, dQ, cH, bA, bZ, cG, fP, aE, aG, aO, aV, bD, cL, bN, aA, fE, aM, cO, fI, eY, gH, bK, eK, eL, bW, fW, fF, eJ, dD, cR, dG, aW, bB, aH, gA, aL, dC, dW, aX, cI, fJ, dK, gD, fL, fA, fB, dP, aN, bX, dE, fY, fX, fG, dI, aT, dZ, fT, cQ, eX, fN, bY, bL, dU, aZ, dY, dO, cK, eI, eM, aY, dA, bE, dN, dS, dR, bM, cN, cM, dM, bR, cW, cV, fO, bV, eF, eN, gF, dX, eD, dL, cZ, bG, bQ, bT, bU, aR, cX, aU]
 refine (Um hL2 hk).mono ?_
 rintro r w2 ⟨rfl, hw⟩
 rw [hw]; clear hw w2
 unfold TX
 simp (disch := omega) only [gE, jE, cS, stepR_skip, hO, iA, iO, iM, iJ, iL, jH, iT, gL, iD, iF, iC, iH, hJ, iN, hU, iE, iR, iS, iI, gQ, iQ, iP, iG, kR, kQ, lE, lH, lG, lD, lF, lC, lB, gB, Result.ok.injEq, Next.value.injEq, true_and, and_true, gY, hZ, iV, iW, iU, jG, aoE, gV, gU, gX, gT, gM, gI, gN, gK, fZ, fU, if_true, if_false, aoD, aoH, aoF, aoG, aoJ, aoI, aoC, aoB, fM, fK, eZ, fQ, cU, eQ, eE, dJ, bO, fR, eS, aQ, cY, bF, bP, bJ, aI, cP, cB, eP, aF, gR, aK, cJ, aS, bS, fS, cC, cD, aB, gC, fC, aJ, aD, bH, gO, aP, eU, dT, dV, gG, dH, fH, dB, eH, eT, fD, cF, dF, gJ, dQ, cH, bA, bZ, cG, fP, aE, aG, aO, aV, bD, cL, bN, aA, fE, aM, cO, fI, eY, gH, bK, eK, eL, bW, fW, fF, eJ, dD, cR, dG, aW, bB, aH, gA, aL, dC, dW, aX, cI, fJ, dK, gD, fL, fA, fB, dP, aN, bX, dE, fY, fX, fG, dI, aT, dZ, fT, cQ, eX, fN, bY, bL, dU, aZ, dY, dO, cK, eI, eM, aY, dA, bE, dN, dS, dR, bM, cN, cM, dM, bR, cW, cV, fO, bV, eF, eN, gF, dX, eD, dL, cZ, bG, bQ, bT, bU, aR, cX, aU]
 refine (Z2 hL2 hk hi).mono ?_
 rintro r w2 ⟨rfl, hw⟩
 rw [hw]; clear hw w2
 unfold Vu
 simp (disch := omega) only [gE, jE, cS, stepR_skip, hO, iA, iO, iM, iJ, iL, jH, iT, gL, iD, iF, iC, iH, hJ, iN, hU, iE, iR, iS, iI, gQ, iQ, iP, iG, kR, kQ, lE, lH, lG, lD, lF, lC, lB, gB, Result.ok.injEq, Next.value.injEq, true_and, and_true, gY, hZ, iV, iW, iU, jG, aoE, gV, gU, gX, gT, gM, gI, gN, gK, fZ, fU, if_true, if_false, aoD, aoH, aoF, aoG, aoJ, aoI, aoC, aoB, fM, fK, eZ, fQ, cU, eQ, eE, dJ, bO, fR, eS, aQ, cY, bF, bP, bJ, aI, cP, cB, eP, aF, gR, aK, cJ, aS, bS, fS, cC, cD, aB, gC, fC, aJ, aD, bH, gO, aP, eU, dT, dV, gG, dH, fH, dB, eH, eT, fD, cF, dF, gJ, dQ, cH, bA, bZ, cG, fP, aE, aG, aO, aV, bD, cL, bN, aA, fE, aM, cO, fI, eY, gH, bK, eK, eL, bW, fW, fF, eJ, dD, cR, dG, aW, bB, aH, gA, aL, dC, dW, aX, cI, fJ, dK, gD, fL, fA, fB, dP, aN, bX, dE, fY, fX, fG, dI, aT, dZ, fT, cQ, eX, fN, bY, bL, dU, aZ, dY, dO, cK, eI, eM, aY, dA, bE, dN, dS, dR, bM, cN, cM, dM, bR, cW, cV, fO, bV, eF, eN, gF, dX, eD, dL, cZ, bG, bQ, bT, bU, aR, cX, aU]
 refine (Y1 hL2 hk hi).mono ?_
 rintro r w2 ⟨rfl, hw⟩
 rw [hw]; clear hw w2
 unfold Vu
 have q : ∀ z : Int, (z == z) = true := fun z => beq_self_eq_true z
 simp (disch := omega) only [gE, jE, cS, stepR_skip, hO, iA, iO, iM, iJ, iL, jH, iT, gL, iD, iF, iC, iH, hJ, iN, hU, iE, iR, iS, iI, gQ, iQ, iP, iG, kR, kQ, lE, lH, lG, lD, lF, lC, lB, gB, Result.ok.injEq, Next.value.injEq, true_and, and_true, gY, hZ, iV, iW, iU, jG, aoE, gV, gU, gX, gT, gM, gI, gN, gK, fZ, fU, if_true, if_false, aoD, aoH, aoF, aoG, aoJ, aoI, aoC, aoB, fM, fK, eZ, fQ, cU, eQ, eE, dJ, bO, fR, eS, aQ, cY, bF, bP, bJ, aI, cP, cB, eP, aF, gR, aK, cJ, aS, bS, fS, cC, cD, aB, gC, fC, aJ, aD, bH, gO, aP, eU, dT, dV, gG, dH, fH, dB, eH, eT, fD, cF, dF, gJ, dQ, cH, bA, bZ, cG, fP, aE, aG, aO, aV, bD, cL, bN, aA, fE, aM, cO, fI, eY, gH, bK, eK, eL, bW, fW, fF, eJ, dD, cR, dG, aW, bB, aH, gA, aL, dC, dW, aX, cI, fJ, dK, gD, fL, fA, fB, dP, aN, bX, dE, fY, fX, fG, dI, aT, dZ, fT, cQ, eX, fN, bY, bL, dU, aZ, dY, dO, cK, eI, eM, aY, dA, bE, dN, dS, dR, bM, cN, cM, dM, bR, cW, cV, fO, bV, eF, eN, gF, dX, eD, dL, cZ, bG, bQ, bT, bU, aR, cX, aU, q]
 exact x1
end Go.Proofs.YtoecppploooloaaGreatDoor
namespace Go.En
open Go Go.ChangeShapes Go.WideShapes Go.ChangeAt Go.RowKit
theorem Wc {H : Type} {enc : TypeId × atP -> H} {P : Program} (hl : laidOutB P = true) {W W' : atO} (hb : Below W.heap.size W W') : ∀ (ts : List TypeId) (vs : List atP) (ds : List (DataW H)) (ps : List MemPlace),
 (ts.all fun t => P.readableRec t && decide (t < P.types.size)) = true -> DataW.TrodAll enc P W 0 (fun _ => true) true ts vs ds ps -> (∀ x ∈ ps, x.block < W.heap.size) →
 DataW.TrodAll enc P W' 0 (fun b => decide (b < W.heap.size)) true ts vs ds ps := by
 intro ts
 induction ts with
 | nil =>
   intro vs ds ps _ h _
   cases vs <;> cases ds <;> simp [DataW.TrodAll] at h ⊢
   exact h
 | cons t ts ih =>
   intro vs ds ps hr h hlt
   cases vs with
   | nil => simp [DataW.TrodAll] at h
   | cons v vs =>
     cases ds with
     | nil => simp [DataW.TrodAll] at h
     | cons d ds =>
       obtain ⟨p, q, h1, h2, rfl⟩ := h
       rw [List.all_cons, aoQ, aoQ, decide_eq_true_eq] at hr
       exact ⟨p, q, Below.trod hl hr.1.1 hr.1.2 h1 hb (fun x hx => hlt x (arH _ hx)), ih _ _ _ hr.2 h2 (fun x hx => hlt x (asA _ hx)), rfl⟩
theorem afG {H : Type} {enc : TypeId × atP -> H} {P : Program} {f : Func} {s : ChangeSpec} {apart fresh handsOn : Bool} {tb : TypeId} {W W' : atO} {args : Array atP} {ds gs : List (DataW H)} {before : List MemPlace}
 (hl : laidOutB P = true) (hr : (f.params.toList.all fun t => P.readableRec t && decide (t < P.types.size)) = true) (hres : f.resultTypes = #[tb]) (hbool : P.underlying tb = some .bool)
 (hW : DataW.Whole enc P f.params.toList s.vars apart W args.toList ds gs before) (hvars : s.vars = []) (h1 : (s.fn H (ds ++ gs)).results = [.lit (.bool true)]) (h2 : (s.fn H (ds ++ gs)).args = ds) (h3 : (s.fn H (ds ++ gs)).vars = [])
 (hx : jM W W' mN) : s.post enc P f apart fresh handsOn false W args (.bool true) W' := by
 have hb := hx.below
 have hlt : ∀ x ∈ before, x.block < W.heap.size := fun x hx => hW.lt x hx
 have hW' := hW
 obtain ⟨p, q, hA, hV, rfl, _, _⟩ := hW
 rw [hvars] at hV
 obtain ⟨_, rfl⟩ := trodVars_none hV
 rw [aqR] at hW' hlt
 refine ⟨ds, gs, p, [], p, [], hW', ?_, ?_, ?_, hb.frame _, fun h => by cases h⟩
 .rw [h1, hres]
  exact trodAll_cons_mk (shut_bool hbool _) trodAll_mk0
 .rw [h2]; exact Wc hl hb _ _ _ _ hr hA hlt
 .rw [h3, hvars] <;> rfl
end Go.En
