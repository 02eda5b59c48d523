/- Parts of the proof of DecodeSkips: merged and given short names by a program of ours. -/
import Derived.WalkKit
import Derived.ProofKit
import Derived.OpenShut
import Derived.Deep.Matrix
import Derived.Test.YthohephggmkeeaaDoorZsB
set_option linter.unusedVariables false
set_option linter.unusedSimpArgs false
open Bool renaming false_eq_true → Lh, not_false → Ll, not_true → Lm, and_eq_true → Lo, or_eq_false_iff → Mk, false_or → Mm
open Int renaming toNat_natCast → Lk
open List renaming append_assoc → L3, getElem?_map → L4, mem_cons → L5, take_append_of_le_length → L6, length_cons → LA, take_of_length_le → LD, take_zero → LG, getD_eq_getElem?_getD → LN, map_congr_left → LR, mem_append_left → LZ, getElem?_cons_zero → Lf, getElem?_cons_succ → Lg, length_map → Lq, getElem?_eq_getElem → Lr, length_take → Lt, length_drop → Lv, length_append → Lw, mem_cons_of_mem → Lx, getElem?_take_of_lt → Mc, cons_append → Md, mem_append_right → Mh, map_take → Mw, append_nil → Mz
open Nat renaming pow_le_pow_right → L1, le_refl → LB, min_eq_left → LW, zero_add → Ln
open Option renaming map_some → LH, isNone_some → Li, isNone_none → Lj, getD_some → Ml
open UInt8 renaming toNat_ofNat' → Ma
namespace Go.Proofs.YthohephggmkeeaaDoor
open Go Go.En Go.Pu
set_option maxRecDepth 4000
def Jv (l : List UInt8) (log most : Nat) : Option (Except Int (List UInt8 × Nat × Nat)) := AW (2 ^ log) most (l.length + 1) l [] 0 0
theorem FE {v : MB} {l : List UInt8} {log most : Nat} {w : MA} {mm : Except Int (List UInt8 × Nat × Nat)} (hb : Bs w v l) (hl : l.length <= 1000000) (hlog : 10 <= log /\ log <= 22) (hmost : most <= 2000000) (hm : Jv l log most = some mm) :
 fI pg oJ #[v, .int .i64 (log : Nat), .int .i64 (most : Nat)] w (fun r w' => ∃ p, JD w.heap.size p w (2 ^ log) most r w' mm) := by
 refine zX ?_
 obtain ⟨RR, hRR⟩ : ∃ RR : MB -> MA -> Prop, RR = fun r w' => ∃ p, JD w.heap.size p w (2 ^ log) most r w' mm := ⟨_, rfl⟩
 rw [<- hRR]
 unfold BC rF qV
 have d1 : decide ((log : Int) < 10) = false := decide_eq_false (by omega)
 have d2 : decide ((log : Int) > 22) = false := decide_eq_false (by omega)
 have d3 : decide ((22 : Int) < (log : Int)) = false := decide_eq_false (by omega)
 have d4 : decide ((most : Int) < 0) = false := decide_eq_false (by omega)
 have hlb : 2 ^ log <= 2 ^ 22 := L1 (by omega) hlog.2
 have e1 : (1 : Int) * 2 ^ min log IntKind.u64.bits = ((2 ^ log : Nat) : Int) := by
  rw [LW (by have : IntKind.u64.bits = 64 := rfl; omega)]
  simp
 have e2 : IntKind.u64.wrap ((2 ^ log : Nat) : Int) = ((2 ^ log : Nat) : Int) := by
  have : ∀ W : Nat, W <= 2 ^ 22 -> IntKind.u64.wrap (W : Int) = (W : Int) := fun W hW => dX (by omega) (by omega)
  exact this _ hlb
 have t0 : (log : Int).toNat = log := Lk _
 have g0 : (0 : Int) <= (log : Int) := by omega
 simp (disch := omega) only [dQ, fE, cQ, stepR_skip, eD, eQ, eF, eX, eY, eP, fH, eK, dK, eJ, eT, fB, eA, eE, eI, eH, eC, fA, eU, eB, dR, eS, eL, dZ, gT, gQ, gM, gS, gO, gN, gU, gP, gR, dH, Result.ok.injEq, Next.value.injEq, true_and, and_true, dY, dX, eN, eZ, eM, fG, Lk, dS, dT, dV, dW, dN, dL, dO, dM, dI, cY, if_true, if_false, Lh, Ln, Li, Lj, Lm, Ll, Lg, Lf, cR, cM, cH, bY, cV, dJ, bU, bX, cS, cN, cO, dE, cL, dD, dG, dU, dB, cD, bH, bR, aU, aE, aH, dF, aL, cG, dA, cZ, bN, aK, bC, aZ, cP, aC, aX, aM, aV, cU, aW, cJ, bS, aF, aG, aJ, dP, aP, aN, bD, aQ, cC, aD, bZ, bT, bL, bB, aY, cX, aI, bE, aT, aS, aR, aA, dC, cK, bP, aO, cW, bW, bV, cF, bQ, bO, bK, cI, bF, cB, bA, bG, bM, bJ, cA, d1, d2, d3, d4]
 have hb1 := hb.ext (gA.dr w nQ) (jX _)
 refine (sX hb1 (by omega)).mono ?_
 rintro r w1 ⟨pr, rfl, hr, x1⟩
 have zd := (gA.dr w nQ).size
 have z1 := x1.size
 simp (disch := omega) only [dQ, fE, cQ, stepR_skip, eD, eQ, eF, eX, eY, eP, fH, eK, dK, eJ, eT, fB, eA, eE, eI, eH, eC, fA, eU, eB, dR, eS, eL, dZ, gT, gQ, gM, gS, gO, gN, gU, gP, gR, dH, Result.ok.injEq, Next.value.injEq, true_and, and_true, dY, dX, eN, eZ, eM, fG, Lk, dS, dT, dV, dW, dN, dL, dO, dM, dI, cY, if_true, if_false, Lh, Ln, Li, Lj, Lm, Ll, Lg, Lf, cR, cM, cH, bY, cV, dJ, bU, bX, cS, cN, cO, dE, cL, dD, dG, dU, dB, cD, bH, bR, aU, aE, aH, dF, aL, cG, dA, cZ, bN, aK, bC, aZ, cP, aC, aX, aM, aV, cU, aW, cJ, bS, aF, aG, aJ, dP, aP, aN, bD, aQ, cC, aD, bZ, bT, bL, bB, aY, cX, aI, bE, aT, aS, aR, aA, dC, cK, bP, aO, cW, bW, bV, cF, bQ, bO, bK, cI, bF, cB, bA, bG, bM, bJ, cA, e1, e2, t0, g0]
 refine Dn fun w2 o2 x2 s2 => ?_
 have o2 : iD w2 w1.heap.size (lU pr tY ⟨l, 2 ^ log, most, [], 0, 0⟩) := o2
 have hz := o2.lt
 have hpr : (dr w).heap.size <= pr /\ pr < w1.heap.size := ⟨hr.1, hr.2.1⟩
 refine IN (base := w.heap.size) (p := w1.heap.size) (w0 := w) (w := w2) (f := l.length + 1) (l := l) (win := 2 ^ log) (most := most) (mm := mm) ((((gA.dr w nQ).seq x1).seq x2).mono fun _ _ h => h.elim) ⟨pr, tY, (dr w).heap.size, w1.heap.size, (fun b => False), o2, hr.ext x2 (fun _ _ _ h => h), ⟨rfl, .inl ⟨rfl, rfl⟩⟩, by omega, by omega, fun b h => h.elim, by omega, by omega⟩ (by omega) hl hmost hm fun r w' h => ?_
 rw [hRR]
 exact ⟨_, h⟩
theorem GF {v : MB} {log most : Int} {w : MA} (h : log < 10) :
 fI pg oJ #[v, .int .i64 log, .int .i64 most] w (fun r w' => r = .tuple #[.pointer none, .int .i64 1] /\ w' = w) := by
 refine zX ?_
 unfold BC rF qV
 have d1 : decide ((log : Int) < 10) = true := decide_eq_true (by omega)
 simp (disch := omega) only [dQ, fE, cQ, stepR_skip, eD, eQ, eF, eX, eY, eP, fH, eK, dK, eJ, eT, fB, eA, eE, eI, eH, eC, fA, eU, eB, dR, eS, eL, dZ, gT, gQ, gM, gS, gO, gN, gU, gP, gR, dH, Result.ok.injEq, Next.value.injEq, true_and, and_true, dY, dX, eN, eZ, eM, fG, Lk, dS, dT, dV, dW, dN, dL, dO, dM, dI, cY, if_true, if_false, Lh, Ln, Li, Lj, Lm, Ll, Lg, Lf, cR, cM, cH, bY, cV, dJ, bU, bX, cS, cN, cO, dE, cL, dD, dG, dU, dB, cD, bH, bR, aU, aE, aH, dF, aL, cG, dA, cZ, bN, aK, bC, aZ, cP, aC, aX, aM, aV, cU, aW, cJ, bS, aF, aG, aJ, dP, aP, aN, bD, aQ, cC, aD, bZ, bT, bL, bB, aY, cX, aI, bE, aT, aS, aR, aA, dC, cK, bP, aO, cW, bW, bV, cF, bQ, bO, bK, cI, bF, cB, bA, bG, bM, bJ, cA, d1]
def KN (w : MA) (r : MB) (w' : MA) : Except Int (List UInt8 × Nat × Nat) -> Prop
 | .error e => r = .tuple #[tY, .int .i64 e] /\ gA w w' nQ
 | .ok (out, fr, sk) => ∃ v, r = .tuple #[v, .int .i64 0] /\ Bs w' v out /\ gA w w' nQ
theorem Ax {v : MB} {l : List UInt8} {log most : Nat} {w : MA} {mm : Except Int (List UInt8 × Nat × Nat)} (hb : Bs w v l) (hl : l.length <= 1000000) (hlog : 10 <= log /\ log <= 22) (hmost : most <= 2000000) (hm : Jv l log most = some mm) :
 fI pg iO #[v, .int .i64 (log : Nat), .int .i64 (most : Nat)] w (fun r w' => KN w r w' mm) := by
 refine uF ?_
 unfold xM oK
 refine (FE hb hl hlog hmost hm).mono ?_
 rintro r w1 ⟨p, hq⟩
 cases mm with
 | error e =>
   obtain ⟨he, rfl, x⟩ := hq
   have n1 : (e != 0) = true := by simp [he]
   simp (disch := omega) only [dQ, fE, cQ, stepR_skip, eD, eQ, eF, eX, eY, eP, fH, eK, dK, eJ, eT, fB, eA, eE, eI, eH, eC, fA, eU, eB, dR, eS, eL, dZ, gT, gQ, gM, gS, gO, gN, gU, gP, gR, dH, Result.ok.injEq, Next.value.injEq, true_and, and_true, dY, dX, eN, eZ, eM, fG, Lk, dS, dT, dV, dW, dN, dL, dO, dM, dI, cY, if_true, if_false, Lh, Ln, Li, Lj, Lm, Ll, Lg, Lf, cR, cM, cH, bY, cV, dJ, bU, bX, cS, cN, cO, dE, cL, dD, dG, dU, dB, cD, bH, bR, aU, aE, aH, dF, aL, cG, dA, cZ, bN, aK, bC, aZ, cP, aC, aX, aM, aV, cU, aW, cJ, bS, aF, aG, aJ, dP, aP, aN, bD, aQ, cC, aD, bZ, bT, bL, bB, aY, cX, aI, bE, aT, aS, aR, aA, dC, cK, bP, aO, cW, bW, bV, cF, bQ, bO, bK, cI, bF, cB, bA, bG, bM, bJ, cA, n1]
   exact ⟨rfl, x.mono fun y hy h => by omega⟩
 | ok t =>
   obtain ⟨out, fr, sk⟩ := t
   obtain ⟨rfl, ⟨l', hd⟩, x⟩ := hq
   obtain ⟨pr, vo, lo, hi, O, o, hr, oo, hp, hlo, hO, q1, hhi⟩ := hd
   have n1 : ((0 : Int) != 0) = false := rfl
   have c3 := o.cell (off := 3)
   simp only [lU, Lf, Lg] at c3
   simp (disch := omega) only [dQ, fE, cQ, stepR_skip, eD, eQ, eF, eX, eY, eP, fH, eK, dK, eJ, eT, fB, eA, eE, eI, eH, eC, fA, eU, eB, dR, eS, eL, dZ, gT, gQ, gM, gS, gO, gN, gU, gP, gR, dH, Result.ok.injEq, Next.value.injEq, true_and, and_true, dY, dX, eN, eZ, eM, fG, Lk, dS, dT, dV, dW, dN, dL, dO, dM, dI, cY, if_true, if_false, Lh, Ln, Li, Lj, Lm, Ll, Lg, Lf, cR, cM, cH, bY, cV, dJ, bU, bX, cS, cN, cO, dE, cL, dD, dG, dU, dB, cD, bH, bR, aU, aE, aH, dF, aL, cG, dA, cZ, bN, aK, bC, aZ, cP, aC, aX, aM, aV, cU, aW, cJ, bS, aF, aG, aJ, dP, aP, aN, bD, aQ, cC, aD, bZ, bT, bL, bB, aY, cX, aI, bE, aT, aS, aR, aA, dC, cK, bP, aO, cW, bW, bV, cF, bQ, bO, bK, cI, bF, cB, bA, bG, bM, bJ, cA, n1, c3]
   exact ⟨vo, rfl, EO oo, x.mono fun y hy h => by omega⟩
theorem Ge {v : MB} {log most : Int} {w : MA} (h : log < 10) :
 fI pg iO #[v, .int .i64 log, .int .i64 most] w (fun r w' => r = .tuple #[tY, .int .i64 1] /\ w' = w) := by
 refine uF ?_
 unfold xM oK
 refine (GF h).mono ?_
 rintro r w1 ⟨rfl, h2⟩
 rw [h2]; clear h2 w1
 have n1 : ((1 : Int) != 0) = true := rfl
 simp (disch := omega) only [dQ, fE, cQ, stepR_skip, eD, eQ, eF, eX, eY, eP, fH, eK, dK, eJ, eT, fB, eA, eE, eI, eH, eC, fA, eU, eB, dR, eS, eL, dZ, gT, gQ, gM, gS, gO, gN, gU, gP, gR, dH, Result.ok.injEq, Next.value.injEq, true_and, and_true, dY, dX, eN, eZ, eM, fG, Lk, dS, dT, dV, dW, dN, dL, dO, dM, dI, cY, if_true, if_false, Lh, Ln, Li, Lj, Lm, Ll, Lg, Lf, cR, cM, cH, bY, cV, dJ, bU, bX, cS, cN, cO, dE, cL, dD, dG, dU, dB, cD, bH, bR, aU, aE, aH, dF, aL, cG, dA, cZ, bN, aK, bC, aZ, cP, aC, aX, aM, aV, cU, aW, cJ, bS, aF, aG, aJ, dP, aP, aN, bD, aQ, cC, aD, bZ, bT, bL, bB, aY, cX, aI, bE, aT, aS, aR, aA, dC, cK, bP, aO, cW, bW, bV, cF, bQ, bO, bK, cI, bF, cB, bA, bG, bM, bJ, cA, n1]
 exact rfl
def Io : Except Int (List UInt8 × Nat × Nat) -> MB
 | .error e => .tuple #[.int .i64 0, .int .i64 0, .int .i64 e]
 | .ok (_, fr, sk) => .tuple #[.int .i64 (fr : Nat), .int .i64 (sk : Nat), .int .i64 0]
theorem Fy {v : MB} {l : List UInt8} {log most : Nat} {w : MA} {mm : Except Int (List UInt8 × Nat × Nat)} (hb : Bs w v l) (hl : l.length <= 1000000) (hlog : 10 <= log /\ log <= 22) (hmost : most <= 2000000) (hm : Jv l log most = some mm) :
 fI pg mL #[v, .int .i64 (log : Nat), .int .i64 (most : Nat)] w (fun r w' => r = Io mm /\ gA w w' nQ) := by
 refine By ?_
 unfold Br sB
 refine (FE hb hl hlog hmost hm).mono ?_
 rintro r w1 ⟨p, hq⟩
 cases mm with
 | error e =>
   obtain ⟨he, rfl, x⟩ := hq
   have n1 : (e != 0) = true := by simp [he]
   simp (disch := omega) only [dQ, fE, cQ, stepR_skip, eD, eQ, eF, eX, eY, eP, fH, eK, dK, eJ, eT, fB, eA, eE, eI, eH, eC, fA, eU, eB, dR, eS, eL, dZ, gT, gQ, gM, gS, gO, gN, gU, gP, gR, dH, Result.ok.injEq, Next.value.injEq, true_and, and_true, dY, dX, eN, eZ, eM, fG, Lk, dS, dT, dV, dW, dN, dL, dO, dM, dI, cY, if_true, if_false, Lh, Ln, Li, Lj, Lm, Ll, Lg, Lf, cR, cM, cH, bY, cV, dJ, bU, bX, cS, cN, cO, dE, cL, dD, dG, dU, dB, cD, bH, bR, aU, aE, aH, dF, aL, cG, dA, cZ, bN, aK, bC, aZ, cP, aC, aX, aM, aV, cU, aW, cJ, bS, aF, aG, aJ, dP, aP, aN, bD, aQ, cC, aD, bZ, bT, bL, bB, aY, cX, aI, bE, aT, aS, aR, aA, dC, cK, bP, aO, cW, bW, bV, cF, bQ, bO, bK, cI, bF, cB, bA, bG, bM, bJ, cA, n1]
   exact ⟨rfl, x.mono fun y hy h => by omega⟩
 | ok t =>
   obtain ⟨out, fr, sk⟩ := t
   obtain ⟨rfl, ⟨l', hd⟩, x⟩ := hq
   obtain ⟨pr, vo, lo, hi, O, o, hr, oo, hp, hlo, hO, q1, hhi⟩ := hd
   have n1 : ((0 : Int) != 0) = false := rfl
   have c4 := o.cell (off := 4)
   have c5 := o.cell (off := 5)
   have d4 := (iQ o).cell (off := 4)
   have d5 := (iQ o).cell (off := 5)
   simp only [lU, Lf, Lg] at c4 c5 d4 d5
   simp (disch := omega) only [dQ, fE, cQ, stepR_skip, eD, eQ, eF, eX, eY, eP, fH, eK, dK, eJ, eT, fB, eA, eE, eI, eH, eC, fA, eU, eB, dR, eS, eL, dZ, gT, gQ, gM, gS, gO, gN, gU, gP, gR, dH, Result.ok.injEq, Next.value.injEq, true_and, and_true, dY, dX, eN, eZ, eM, fG, Lk, dS, dT, dV, dW, dN, dL, dO, dM, dI, cY, if_true, if_false, Lh, Ln, Li, Lj, Lm, Ll, Lg, Lf, cR, cM, cH, bY, cV, dJ, bU, bX, cS, cN, cO, dE, cL, dD, dG, dU, dB, cD, bH, bR, aU, aE, aH, dF, aL, cG, dA, cZ, bN, aK, bC, aZ, cP, aC, aX, aM, aV, cU, aW, cJ, bS, aF, aG, aJ, dP, aP, aN, bD, aQ, cC, aD, bZ, bT, bL, bB, aY, cX, aI, bE, aT, aS, aR, aA, dC, cK, bP, aO, cW, bW, bV, cF, bQ, bO, bK, cI, bF, cB, bA, bG, bM, bJ, cA, n1, c4, c5, d4, d5]
   exact ⟨rfl, (x.seq (gA.dr w1 _)).mono fun y hy h => by omega⟩
theorem Hr (w : MA) : fI pg sL #[] w (fun r w' => r = .bool true /\ gA w w' nQ) := by
 refine CJ ?_
 unfold CV uI
 refine vO (cells := #[.int .u8 40, .int .u8 181, .int .u8 47, .int .u8 253, .int .u8 32, .int .u8 2, .int .u8 17, .int .u8 0, .int .u8 0, .int .u8 7, .int .u8 8]) (by decide) (by decide) (by kernel_rfl) fun w1 o1 x1 s1 => ?_
 refine Ca o1 fun w2 o2 x2 s2 => ?_
 have x02 : gA w w2 nQ := x1.new x2 (by omega)
 have b2 := o2.bs (off := 0) (c := 11) (l := [40, 181, 47, 253, 32, 2, 17, 0, 0, 7, 8]) (by decide) (fun i hi => by
  have : ∀ i : Fin 11, ([.int .u8 40, .int .u8 181, .int .u8 47, .int .u8 253, .int .u8 32, .int .u8 2, .int .u8 17, .int .u8 0, .int .u8 0, .int .u8 7, .int .u8 8] : List MB)[0 + i.val]? = some (rE (([40, 181, 47, 253, 32, 2, 17, 0, 0, 7, 8] : List UInt8)[i.val])) := by
   intro i
   match i with
   | ⟨0, _⟩ => rfl
   | ⟨1, _⟩ => rfl
   | ⟨2, _⟩ => rfl
   | ⟨3, _⟩ => rfl
   | ⟨4, _⟩ => rfl
   | ⟨5, _⟩ => rfl
   | ⟨6, _⟩ => rfl
   | ⟨7, _⟩ => rfl
   | ⟨8, _⟩ => rfl
   | ⟨9, _⟩ => rfl
   | ⟨10, _⟩ => rfl
  exact this ⟨i, hi⟩)
 refine (Ax (log := 20) (most := 100) (mm := .ok ([7, 8], 1, 0)) b2 (by decide) (by omega) (by omega) (by kernel_rfl)).mono ?_
 rintro r w3 ⟨v3, rfl, b3, x3⟩
 simp (disch := omega) only [dQ, fE, cQ, stepR_skip, eD, eQ, eF, eX, eY, eP, fH, eK, dK, eJ, eT, fB, eA, eE, eI, eH, eC, fA, eU, eB, dR, eS, eL, dZ, gT, gQ, gM, gS, gO, gN, gU, gP, gR, dH, Result.ok.injEq, Next.value.injEq, true_and, and_true, dY, dX, eN, eZ, eM, fG, Lk, dS, dT, dV, dW, dN, dL, dO, dM, dI, cY, if_true, if_false, Lh, Ln, Li, Lj, Lm, Ll, Lg, Lf, cR, cM, cH, bY, cV, dJ, bU, bX, cS, cN, cO, dE, cL, dD, dG, dU, dB, cD, bH, bR, aU, aE, aH, dF, aL, cG, dA, cZ, bN, aK, bC, aZ, cP, aC, aX, aM, aV, cU, aW, cJ, bS, aF, aG, aJ, dP, aP, aN, bD, aQ, cC, aD, bZ, bT, bL, bB, aY, cX, aI, bE, aT, aS, aR, aA, dC, cK, bP, aO, cW, bW, bV, cF, bQ, bO, bK, cI, bF, cB, bA, bG, bM, bJ, cA]
 refine vO (cells := #[.int .u8 1, .int .u8 2, .int .u8 3]) (by decide) (by decide) (by kernel_rfl) fun w4 o4 x4 s4 => ?_
 have b4 := o4.bs (off := 0) (c := 3) (l := [1, 2, 3]) (by decide) (fun i hi => by
  match i, hi with
  | 0, _ => rfl
  | 1, _ => rfl
  | 2, _ => rfl)
 refine (Ax (log := 20) (most := 100) (mm := .error 10) b4 (by decide) (by omega) (by omega) (by kernel_rfl)).mono ?_
 rintro r w5 ⟨rfl, x5⟩
 unfold tY
 simp (disch := omega) only [dQ, fE, cQ, stepR_skip, eD, eQ, eF, eX, eY, eP, fH, eK, dK, eJ, eT, fB, eA, eE, eI, eH, eC, fA, eU, eB, dR, eS, eL, dZ, gT, gQ, gM, gS, gO, gN, gU, gP, gR, dH, Result.ok.injEq, Next.value.injEq, true_and, and_true, dY, dX, eN, eZ, eM, fG, Lk, dS, dT, dV, dW, dN, dL, dO, dM, dI, cY, if_true, if_false, Lh, Ln, Li, Lj, Lm, Ll, Lg, Lf, cR, cM, cH, bY, cV, dJ, bU, bX, cS, cN, cO, dE, cL, dD, dG, dU, dB, cD, bH, bR, aU, aE, aH, dF, aL, cG, dA, cZ, bN, aK, bC, aZ, cP, aC, aX, aM, aV, cU, aW, cJ, bS, aF, aG, aJ, dP, aP, aN, bD, aQ, cC, aD, bZ, bT, bL, bB, aY, cX, aI, bE, aT, aS, aR, aA, dC, cK, bP, aO, cW, bW, bV, cF, bQ, bO, bK, cI, bF, cB, bA, bG, bM, bJ, cA]
 refine (Ge (by omega)).mono ?_
 rintro r w6 ⟨rfl, h6⟩
 rw [h6]; clear h6 w6
 unfold tY
 simp (disch := omega) only [dQ, fE, cQ, stepR_skip, eD, eQ, eF, eX, eY, eP, fH, eK, dK, eJ, eT, fB, eA, eE, eI, eH, eC, fA, eU, eB, dR, eS, eL, dZ, gT, gQ, gM, gS, gO, gN, gU, gP, gR, dH, Result.ok.injEq, Next.value.injEq, true_and, and_true, dY, dX, eN, eZ, eM, fG, Lk, dS, dT, dV, dW, dN, dL, dO, dM, dI, cY, if_true, if_false, Lh, Ln, Li, Lj, Lm, Ll, Lg, Lf, cR, cM, cH, bY, cV, dJ, bU, bX, cS, cN, cO, dE, cL, dD, dG, dU, dB, cD, bH, bR, aU, aE, aH, dF, aL, cG, dA, cZ, bN, aK, bC, aZ, cP, aC, aX, aM, aV, cU, aW, cJ, bS, aF, aG, aJ, dP, aP, aN, bD, aQ, cC, aD, bZ, bT, bL, bB, aY, cX, aI, bE, aT, aS, aR, aA, dC, cK, bP, aO, cW, bW, bV, cF, bQ, bO, bK, cI, bF, cB, bA, bG, bM, bJ, cA]
 refine vO (cells := #[.int .u8 80, .int .u8 42, .int .u8 77, .int .u8 24, .int .u8 1, .int .u8 0, .int .u8 0, .int .u8 0, .int .u8 9]) (by decide) (by decide) (by kernel_rfl) fun w6 o6 x6 s6 => ?_
 refine Ca o6 fun w7 o7 x7 s7 => ?_
 have b7 := o7.bs (off := 0) (c := 9) (l := [80, 42, 77, 24, 1, 0, 0, 0, 9]) (by decide) (fun i hi => by
  match i, hi with
  | 0, _ => rfl
  | 1, _ => rfl
  | 2, _ => rfl
  | 3, _ => rfl
  | 4, _ => rfl
  | 5, _ => rfl
  | 6, _ => rfl
  | 7, _ => rfl
  | 8, _ => rfl)
 have x57 : gA w5 w7 nQ := x6.new x7 (by omega)
 refine (Fy (log := 20) (most := 100) (mm := .ok ([], 0, 1)) b7 (by decide) (by omega) (by omega) (by kernel_rfl)).mono ?_
 rintro r w8 ⟨rfl, x8⟩
 have b8 := ((((b3.ext x4 (jX _)).ext x5 (jX _)).ext x57 (jX _)).ext x8 (jX _))
 have hs := Bt b8
 have e1 : ((⟨#[7, 8]⟩ : ByteArray).toList == (⟨#[7, 8]⟩ : ByteArray).toList) = true := beq_self_eq_true _
 have n0 : ((0 : Int) == 0) = true := rfl
 have n1 : (((0 : Nat) : Int) == 0) = true := rfl
 have n2 : (((1 : Nat) : Int) == 1) = true := rfl
 have n3 : ((10 : Int) == 10) = true := rfl
 have n4 : ((1 : Int) == 1) = true := rfl
 unfold Io
 simp (disch := omega) only [dQ, fE, cQ, stepR_skip, eD, eQ, eF, eX, eY, eP, fH, eK, dK, eJ, eT, fB, eA, eE, eI, eH, eC, fA, eU, eB, dR, eS, eL, dZ, gT, gQ, gM, gS, gO, gN, gU, gP, gR, dH, Result.ok.injEq, Next.value.injEq, true_and, and_true, dY, dX, eN, eZ, eM, fG, Lk, dS, dT, dV, dW, dN, dL, dO, dM, dI, cY, if_true, if_false, Lh, Ln, Li, Lj, Lm, Ll, Lg, Lf, cR, cM, cH, bY, cV, dJ, bU, bX, cS, cN, cO, dE, cL, dD, dG, dU, dB, cD, bH, bR, aU, aE, aH, dF, aL, cG, dA, cZ, bN, aK, bC, aZ, cP, aC, aX, aM, aV, cU, aW, cJ, bS, aF, aG, aJ, dP, aP, aN, bD, aQ, cC, aD, bZ, bT, bL, bB, aY, cX, aI, bE, aT, aS, aR, aA, dC, cK, bP, aO, cW, bW, bV, cF, bQ, bO, bK, cI, bF, cB, bA, bG, bM, bJ, cA, hs, e1, JM, n0, n1, n2, n3, n4]
 exact ((((((x02.seq x3).seq x4).seq x5).seq x57).seq x8))
def FP (k : UInt8) (b : List UInt8) : List UInt8 := UInt8.ofNat (80 + k.toNat % 16) :: 42 :: 77 :: 24 :: UInt8.ofNat b.length :: 0 :: 0 :: 0 :: b
theorem mC (k : UInt8) (b : List UInt8) : (FP k b).length = 8 + b.length := by simp [FP]; omega
theorem GH (k : UInt8) : lB [UInt8.ofNat (80 + k.toNat % 16), 42, 77, 24] = 407710288 + k.toNat % 16 := by
 simp only [lB]
 have : (UInt8.ofNat (80 + k.toNat % 16)).toNat = 80 + k.toNat % 16 := by rw [Ma]; omega
 rw [this]
 have h1 : (42 : UInt8).toNat = 42 := rfl
 have h2 : (77 : UInt8).toNat = 77 := rfl
 have h3 : (24 : UInt8).toNat = 24 := rfl
 rw [h1, h2, h3]
 omega
theorem GM (n : Nat) (h : n <= 255) : lB [UInt8.ofNat n, 0, 0, 0] = n := by
 simp only [lB]
 have : (UInt8.ofNat n).toNat = n := by rw [Ma]; omega
 rw [this]
 have h1 : (0 : UInt8).toNat = 0 := rfl
 rw [h1]
 omega
theorem Ej {win most f : Nat} {k : UInt8} {b r out : List UInt8} {fr sk : Nat} (hb : b.length <= 255) : AW win most (f + 1) (FP k b ++ r) out fr sk = AW win most f r out fr (sk + 1) := by
 rw [AW]
 have h1 : (FP k b ++ r).length = 8 + b.length + r.length := by rw [Lw, mC]
 rw [if_neg (by omega), if_neg (by omega)]
 have h2 : (FP k b ++ r).take 4 = [UInt8.ofNat (80 + k.toNat % 16), 42, 77, 24] := rfl
 rw [h2, GH, if_neg (by omega), if_pos (by omega)]
 have h3 : (FP k b ++ r).drop 4 = UInt8.ofNat b.length :: 0 :: 0 :: 0 :: (b ++ r) := rfl
 have h4 : (UInt8.ofNat b.length :: 0 :: 0 :: 0 :: (b ++ r)).take 4 = [UInt8.ofNat b.length, 0, 0, 0] := rfl
 have h5 : Eb (UInt8.ofNat b.length :: 0 :: 0 :: 0 :: (b ++ r)) = .ok r := by
  unfold Eb
  rw [h4, GM _ hb]
  rw [if_neg (by simp), if_neg (by simp)]
  congr 1
  rw [Nat.add_comm 4]
  simp only [List.drop_succ_cons]
  rw [List.drop_left]
 rw [h3, h5]
theorem F6 {win most f c : Nat} {k : UInt8} {b out : List UInt8} {fr sk : Nat} (hb : b.length <= 255) (h0 : 0 < c) (hc : c < 8 + b.length) : AW win most (f + 1) ((FP k b).take c) out fr sk = some (.error 10) := by
 rw [AW]
 have hl : ((FP k b).take c).length = c := by rw [Lt, mC]; omega
 rw [if_neg (by omega)]
 by_cases h4 : c < 4
 .rw [if_pos (by omega)]
 rw [if_neg (by omega)]
 have h2 : ((FP k b).take c).take 4 = [UInt8.ofNat (80 + k.toNat % 16), 42, 77, 24] := by
  rw [List.take_take, LW (by omega)] <;> rfl
 rw [h2, GH, if_neg (by omega), if_pos (by omega)]
 have h5 : Eb (((FP k b).take c).drop 4) = .error 10 := by
  unfold Eb
  have h6 : (((FP k b).take c).drop 4).length = c - 4 := by rw [Lv, hl]
  rw [h6]
  by_cases h8 : c - 4 < 4
  .rw [if_pos h8]
  .rw [if_neg h8]
   have h7 : (((FP k b).take c).drop 4).take 4 = [UInt8.ofNat b.length, 0, 0, 0] := by
    rw [List.drop_take, List.take_take, LW (by omega)] <;> rfl
   rw [h7, GM _ hb, if_pos (by omega)]
 rw [h5]
def iA : List (UInt8 × List UInt8) -> List UInt8
 | [] => []
 | (k, b) :: L => FP k b ++ iA L
def tV : List (UInt8 × List UInt8) -> Nat -> Bool
 | [], c => c == 0
 | (k, b) :: L, c => c == 0 || (decide (8 + b.length <= c) && tV L (c - (8 + b.length)))
theorem Ds {win most : Nat} {out : List UInt8} {fr : Nat} : ∀ (L : List (UInt8 × List UInt8)) (f sk : Nat), (∀ x ∈ L, x.2.length <= 255) -> L.length < f -> AW win most f (iA L) out fr sk = some (.ok (out, fr, sk + L.length))
 | [], f, sk, _, hf => by
   obtain ⟨f, rfl⟩ : ∃ g, f = g + 1 := ⟨f - 1, by omega⟩
   rw [AW] <;> rfl
 | (k, b) :: L, f, sk, hL, hf => by
   obtain ⟨f, rfl⟩ : ∃ g, f = g + 1 := ⟨f - 1, by omega⟩
   rw [iA, Ej (hL (k, b) (by simp)), Ds L f (sk + 1) (fun x hx => hL x (Lx _ hx)) (by simpa using hf), LA]
   congr 4
   omega
theorem Bp {win most : Nat} {out : List UInt8} {fr : Nat} : ∀ (L : List (UInt8 × List UInt8)) (f sk c : Nat), (∀ x ∈ L, x.2.length <= 255) -> c < f -> c <= (iA L).length -> (tV L c = true -> ∃ j, AW win most f ((iA L).take c) out fr sk = some (.ok (out, fr, j))) /\ (tV L c = false -> AW win most f ((iA L).take c) out fr sk = some (.error 10))
 | [], f, sk, c, _, hf, hc => by
   obtain ⟨f, rfl⟩ : ∃ g, f = g + 1 := ⟨f - 1, by omega⟩
   have : c = 0 := by simpa [iA] using hc
   subst this
   exact ⟨fun _ => ⟨sk, by rw [AW] <;> rfl⟩, fun h => by cases h⟩
 | (k, b) :: L, f, sk, c, hL, hf, hc => by
   obtain ⟨f, rfl⟩ : ∃ g, f = g + 1 := ⟨f - 1, by omega⟩
   have hb : b.length <= 255 := hL (k, b) (by simp)
   by_cases h0 : c = 0
   .subst h0
    exact ⟨fun _ => ⟨sk, by rw [LG, AW] <;> rfl⟩, fun h => by simp [tV] at h⟩
   .by_cases h8 : c < 8 + b.length
    .have e : (iA ((k, b) :: L)).take c = (FP k b).take c := by
      rw [iA, L6 (by rw [mC]; omega)]
     rw [e, F6 hb (by omega) h8]
     have : tV ((k, b) :: L) c = false := by
      simp only [tV]
      have h1 : (c == 0) = false := by simp [h0]
      have h2 : decide (8 + b.length <= c) = false := decide_eq_false (by omega)
      rw [h1, h2] <;> rfl
     rw [this]
     exact ⟨fun h => (by cases h), fun _ => rfl⟩
    .have e : (iA ((k, b) :: L)).take c = FP k b ++ (iA L).take (c - (8 + b.length)) := by
      rw [iA, List.take_append, mC, LD (by rw [mC]; omega)]
     have h1 : tV ((k, b) :: L) c = tV L (c - (8 + b.length)) := by
      simp only [tV]
      have h1 : (c == 0) = false := by simp [h0]
      have h2 : decide (8 + b.length <= c) = true := decide_eq_true (by omega)
      rw [h1, h2] <;> rfl
     have hlen : (iA ((k, b) :: L)).length = 8 + b.length + (iA L).length := by rw [iA, Lw, mC]
     rw [e, Ej hb, h1]
     exact Bp L f (sk + 1) (c - (8 + b.length)) (fun x hx => hL x (Lx _ hx)) (by omega) (by omega)
def pT : Nat -> List (UInt8 × List UInt8) -> List Nat
 | _, [] => []
 | n, (k, b) :: L => (n + (8 + b.length)) :: pT (n + (8 + b.length)) L
theorem wY : ∀ (L : List (UInt8 × List UInt8)) (n : Nat), (pT n L).length = L.length
 | [], _ => rfl
 | (k, b) :: L, n => by rw [pT, LA, wY L, LA]
theorem Eo : ∀ (L : List (UInt8 × List UInt8)) (n : Nat), ∀ x ∈ pT n L, n < x
 | [], _, x, h => by cases h
 | (k, b) :: L, n, x, h => by
   rw [pT, L5] at h
   rcases h with rfl | h
   .omega
   .have := Eo L _ x h; omega
theorem Dt : ∀ (L : List (UInt8 × List UInt8)) (n c : Nat), tV L c = (c == 0 || (pT n L).any (· == n + c))
 | [], n, c => by simp [tV, pT]
 | (k, b) :: L, n, c => by
   simp only [tV, pT, List.any_cons]
   by_cases h0 : c = 0
   .subst h0; rfl
   .have h1 : (c == 0) = false := by simp [h0]
    rw [h1, Mm, Mm]
    by_cases h8 : 8 + b.length <= c
    .have h2 : decide (8 + b.length <= c) = true := decide_eq_true h8
     rw [h2, Bool.true_and, Dt L (n + (8 + b.length)) (c - (8 + b.length))]
     have e1 : n + (8 + b.length) + (c - (8 + b.length)) = n + c := by omega
     rw [e1]
     congr 1
     by_cases h3 : c = 8 + b.length
     .subst h3; simp
     .have a1 : (c - (8 + b.length) == 0) = false := by simp; omega
      have a2 : (n + (8 + b.length) == n + c) = false := by simp; omega
      rw [a1, a2]
    .have h2 : decide (8 + b.length <= c) = false := decide_eq_false h8
     rw [h2, Bool.false_and]
     symm
     rw [Mk]
     refine ⟨by simp; omega, ?_⟩
     rw [List.any_eq_false]
     intro x hx
     have := Eo L _ x hx
     simp; omega
theorem DI : ∀ (L : List (UInt8 × List UInt8)) (k : UInt8) (b : List UInt8), iA (L ++ [(k, b)]) = iA L ++ FP k b
 | [], k, b => by simp [iA]
 | (k', b') :: L, k, b => by simp only [Md, iA, DI L, L3]
theorem C5 : ∀ (L : List (UInt8 × List UInt8)) (n : Nat) (k : UInt8) (b : List UInt8), pT n (L ++ [(k, b)]) = pT n L ++ [n + (iA L).length + (8 + b.length)]
 | [], n, k, b => by simp [pT, iA]
 | (k', b') :: L, n, k, b => by
   simp only [Md, pT, C5 L, iA, Lw, mC]
   congr 3
   omega
def IV (w : MA) (v : MB) (ls : List (List UInt8)) : Prop := ∃ vs : List MB, Sl w v vs /\ vs.length = ls.length /\ ∀ i (h : i < ls.length) (h' : i < vs.length), Bs w vs[i] ls[i]
theorem IV.ext {w w' : MA} {v : MB} {ls : List (List UInt8)} (h : IV w v ls) (x : gA w w' nQ) : IV w' v ls := by
 obtain ⟨vs, h1, h2, h3⟩ := h
 exact ⟨vs, h1.ext x (jX _), h2, fun i a b => (h3 i a b).ext x (jX _)⟩
theorem IV.len {w : MA} {v : MB} {ls : List (List UInt8)} (h : IV w v ls) : ∃ a c, v = .slice a ls.length c := by
 obtain ⟨vs, ⟨a, n, c, rfl, hn, hc, _⟩, h2, h3⟩ := h
 exact ⟨a, c, by rw [<- h2, hn]⟩
theorem IV.at {w : MA} {v : MB} {ls : List (List UInt8)} (h : IV w v ls) {i : Nat} (hi : i < ls.length) : ∃ b o c u, v = .slice (some ⟨b, o, none⟩) ls.length c /\ w.cell? ⟨b, o + i, none⟩ = some u /\ Bs w u (ls[i]'hi) := by
 obtain ⟨vs, ⟨a, n, c, rfl, hn, hc, hh⟩, h2, h3⟩ := h
 obtain ⟨b, o, rfl, h4⟩ := hh (by omega)
 have h5 := h4 i (by omega)
 rw [Lr (by omega)] at h5
 exact ⟨b, o, c, _, by rw [<- h2, hn], h5, h3 i hi (by omega)⟩
theorem KC {w : MA} {v : MB} {l : List UInt8} (h : Bs w v l) {i : Nat} (hi : i < l.length) : ∃ b o c, v = .slice (some ⟨b, o, none⟩) l.length c /\ w.cell? ⟨b, o + i, none⟩ = some (rE (l[i]'hi)) := by
 obtain ⟨a, n, c, rfl, hn, hc, hh⟩ := h
 rw [Lq] at hn
 obtain ⟨b, o, rfl, h4⟩ := hh (by omega)
 have h5 := h4 i (by omega)
 rw [L4, Lr hi] at h5
 exact ⟨b, o, c, by rw [hn], h5⟩
theorem J2 {w : MA} {b : Nat} {l : List UInt8} (h : iD w b (l.map rE)) : Bs w (.slice (some ⟨b, 0, none⟩) l.length l.length) l :=
 h.bs (off := 0) (c := l.length) (LB _) (fun i hi => by rw [Ln, L4, Lr hi] <;> rfl)
def iv (n : Nat) : MB := .int .i64 (n : Nat)
theorem Ld {S : Nat -> Prop} {v x : MB} {l : List Nat} {e : Nat} {w : MA} (h : vV w S 1 v l.length (l.map iv)) (hx : Cl w 1 x 1 [iv e]) (hb : ∀ b, w.heap.size <= b -> S b) (hn : l.length <= 10000000) {K : MB -> MA -> Prop}
 (hk : ∀ v' w', vV w' S 1 v' (l ++ [e]).length ((l ++ [e]).map iv) -> gA w w' S -> K v' w') : dQ pg (nR .append #[37, 37] 37 [v, x]) w K := by
 refine AR (m := 1) (news := [iv e]) (i := Tryd.t3) Tryd.underlying37 Tryd.underlying37 DP rfl rfl rfl h hx (by simp [iv, one]) hb (by omega) (by rw [show Tryd.t3.bytes = 8 from rfl]; omega) (by decide) fun v3 w3 o3 x3 => ?_
 refine hk v3 w3 ?_ x3
 rw [Lw, List.map_append]
 exact o3
theorem H0 (k : UInt8) : tC .u8 (k.toNat : Int) 15 = ((k.toNat % 16 : Nat) : Int) := by
 have : ∀ k : Fin 256, tC .u8 (k.val : Int) 15 = ((k.val % 16 : Nat) : Int) := by decide +kernel
 exact this ⟨k.toNat, UInt8.toNat_lt k⟩
def EV (k : UInt8) (n : Nat) : List UInt8 := [UInt8.ofNat (80 + k.toNat % 16), 42, 77, 24, UInt8.ofNat n, 0, 0, 0]
theorem Gf (k : UInt8) {n : Nat} (h : n <= 255) : (#[.int .u8 ((80 + k.toNat % 16 : Nat) : Int), .int .u8 42, .int .u8 77, .int .u8 24, .int .u8 (n : Nat), .int .u8 0, .int .u8 0, .int .u8 0] : Array MB).toList = (EV k n).map rE := by
 have e1 : (UInt8.ofNat (80 + k.toNat % 16)).toNat = 80 + k.toNat % 16 := by rw [Ma]; omega
 have e2 : (UInt8.ofNat n).toNat = n := by rw [Ma]; omega
 simp only [EV, List.map_cons, List.map_nil, rE, e1, e2]
 rfl
theorem CQ : ∀ (L : List (UInt8 × List UInt8)), (∀ x ∈ L, x.2.length <= 200) -> (iA L).length <= 208 * L.length
 | [], _ => by simp [iA]
 | (k, b) :: L, h => by
   have h1 := h (k, b) (by simp)
   have h2 := CQ L fun x hx => h x (Lx _ hx)
   rw [iA, Lw, mC, LA]
   simp only at h1
   omega
def Gy (base : Nat) (w : MA) (va ve : MB) (L : List (UInt8 × List UInt8)) : Prop :=
 ∃ S T : Nat -> Prop, vV w S 1 va (iA L).length ((iA L).map rE) /\ vV w T 1 ve (pT 0 L).length ((pT 0 L).map iv) /\ (∀ b, S b -> base <= b /\ ¬ T b) /\ (∀ b, T b -> base <= b)
theorem Gy.ext {base : Nat} {w w' : MA} {va ve : MB} {L : List (UInt8 × List UInt8)} (h : Gy base w va ve L) (x : gA w w' nQ) : Gy base w' va ve L := by
 obtain ⟨S, T, h1, h2, h3, h4⟩ := h
 exact ⟨S, T, h1.ext x (fun _ _ h => h), h2.ext x (fun _ _ h => h), h3, h4⟩
theorem Ix {k0 : MB -> MB -> MB -> MB -> MA -> Prop} {R : MB -> MA -> Prop} {v0 v1 vat : MB} {ls : List (List UInt8)} {ks : List UInt8} {w : MA} (h0 : IV w v0 ls) (h1 : Bs w v1 ks) (hls : ls.length <= 10) (hk : ls.length <= ks.length) (hks : ks.length <= 9223372036854775807) (hl : ∀ l ∈ ls, l.length <= 9223372036854775807)
 (hR : ∀ w', gA w w' nQ -> R (.bool true) w')
 (hk0 : ∀ w' va ve, (∀ l ∈ ls, l.length <= 200) -> Gy w.heap.size w' va ve (ks.zip ls) -> gA w w' nQ -> k0 v0 vat va ve w') :
 kH k0 R v0 v1 vat (.slice none 0 0) (.slice none 0 0) (.int .i64 0) w := by
 unfold kH mR
 have hz : (ks.zip ls).length = ls.length := by rw [List.length_zip]; omega
 refine iW.rule (fun m (t : MB × MB × MB) w1 => ∃ i va ve, m = ls.length - i /\ t = (va, ve, .int .i64 (i : Nat)) /\ i <= ls.length /\ (∀ j (hj : j < ls.length), j < i -> (ls[j]'hj).length <= 200) /\ Gy w.heap.size w1 va ve ((ks.zip ls).take i) /\ gA w w1 nQ) ls.length
  ⟨0, .slice none 0 0, .slice none 0 0, by omega, rfl, by omega, fun j hj h => by omega, ⟨fun _ => False, fun _ => False, ⟨rfl, .inl ⟨rfl, rfl⟩⟩, ⟨rfl, .inl ⟨rfl, rfl⟩⟩, fun b h => h.elim, fun b h => h.elim⟩, gA.refl _ _⟩ ?_
 rintro m t w1 ⟨i, va, ve, rfl, rfl, hi, hlen, hst, x1⟩
 have g0 := h0.ext x1
 have g1 := h1.ext x1 (jX _)
 obtain ⟨a0, c0, e0⟩ := g0.len
 show jJ _ k0 R v0 v1 vat va ve (.int .i64 (i : Nat)) w1
 unfold jJ
 by_cases hlt : i < ls.length
 rotate_left
 .have d1 : decide ((i : Int) < (ls.length : Int)) = false := decide_eq_false (by omega)
  have hi' : i = ls.length := by omega
  rw [hi', LD (by omega)] at hst
  subst e0
  simp (disch := omega) only [dQ, fE, cQ, stepR_skip, eD, eQ, eF, eX, eY, eP, fH, eK, dK, eJ, eT, fB, eA, eE, eI, eH, eC, fA, eU, eB, dR, eS, eL, dZ, gT, gQ, gM, gS, gO, gN, gU, gP, gR, dH, Result.ok.injEq, Next.value.injEq, true_and, and_true, dY, dX, eN, eZ, eM, fG, Lk, dS, dT, dV, dW, dN, dL, dO, dM, dI, cY, if_true, if_false, Lh, Ln, Li, Lj, Lm, Ll, Lg, Lf, cR, cM, cH, bY, cV, dJ, bU, bX, cS, cN, cO, dE, cL, dD, dG, dU, dB, cD, bH, bR, aU, aE, aH, dF, aL, cG, dA, cZ, bN, aK, bC, aZ, cP, aC, aX, aM, aV, cU, aW, cJ, bS, aF, aG, aJ, dP, aP, aN, bD, aQ, cC, aD, bZ, bT, bL, bB, aY, cX, aI, bE, aT, aS, aR, aA, dC, cK, bP, aO, cW, bW, bV, cF, bQ, bO, bK, cI, bF, cB, bA, bG, bM, bJ, cA, d1]
  refine hk0 w1 va ve ?_ hst x1
  intro l hl
  obtain ⟨j, hj, rfl⟩ := List.mem_iff_getElem.1 hl
  exact hlen j hj (by omega)
 have d1 : decide ((i : Int) < (ls.length : Int)) = true := decide_eq_true (by omega)
 obtain ⟨b, o, c, u, e1, hc, hu⟩ := g0.at hlt
 obtain ⟨b3, o3, c3, e3, hc3⟩ := KC g1 (i := i) (by omega)
 obtain ⟨l, hll⟩ : ∃ l, l = ls[i]'hlt := ⟨_, rfl⟩
 obtain ⟨k, hkk⟩ : ∃ k, k = ks[i]'(by omega) := ⟨_, rfl⟩
 rw [<- hll] at hu
 rw [<- hkk] at hc3
 have hu' := hu
 obtain ⟨a4, c4, e4, _⟩ := hu'.len
 rw [Lq] at e4
 have hl' := hl l (by rw [hll]; exact List.getElem_mem _)
 have t0 : (i : Int).toNat = i := Lk _
 subst e4
 have bb1 : (i : Int) < (ls.length : Int) := by omega
 have bb3 : (i : Int) < (ks.length : Int) := by omega
 by_cases h200 : 200 < l.length
 .have d2 : decide ((l.length : Int) > 200) = true := decide_eq_true (by omega)
  have d3 : decide ((200 : Int) < (l.length : Int)) = true := decide_eq_true (by omega)
  rw [e1]
  simp (disch := omega) only [dQ, fE, cQ, stepR_skip, eD, eQ, eF, eX, eY, eP, fH, eK, dK, eJ, eT, fB, eA, eE, eI, eH, eC, fA, eU, eB, dR, eS, eL, dZ, gT, gQ, gM, gS, gO, gN, gU, gP, gR, dH, Result.ok.injEq, Next.value.injEq, true_and, and_true, dY, dX, eN, eZ, eM, fG, Lk, dS, dT, dV, dW, dN, dL, dO, dM, dI, cY, if_true, if_false, Lh, Ln, Li, Lj, Lm, Ll, Lg, Lf, cR, cM, cH, bY, cV, dJ, bU, bX, cS, cN, cO, dE, cL, dD, dG, dU, dB, cD, bH, bR, aU, aE, aH, dF, aL, cG, dA, cZ, bN, aK, bC, aZ, cP, aC, aX, aM, aV, cU, aW, cJ, bS, aF, aG, aJ, dP, aP, aN, bD, aQ, cC, aD, bZ, bT, bL, bB, aY, cX, aI, bE, aT, aS, aR, aA, dC, cK, bP, aO, cW, bW, bV, cF, bQ, bO, bK, cI, bF, cB, bA, bG, bM, bJ, cA, d1, d2, d3, hc, t0]
  exact hR w1 x1
 have d2 : decide ((l.length : Int) > 200) = false := decide_eq_false (by omega)
 have d3 : decide ((200 : Int) < (l.length : Int)) = false := decide_eq_false (by omega)
 have a15 := H0 k
 have e5 : (80 : Int) + ((k.toNat % 16 : Nat) : Int) = ((80 + k.toNat % 16 : Nat) : Int) := by omega
 have w5 : IntKind.u8.wrap ((80 + k.toNat % 16 : Nat) : Int) = ((80 + k.toNat % 16 : Nat) : Int) := fG (by omega) (by omega)
 have w6 : IntKind.u8.wrap (l.length : Int) = (l.length : Int) := fG (by omega) (by omega)
 unfold rE at hc3
 rw [e3]
 rw [e1]
 simp (disch := omega) only [dQ, fE, cQ, stepR_skip, eD, eQ, eF, eX, eY, eP, fH, eK, dK, eJ, eT, fB, eA, eE, eI, eH, eC, fA, eU, eB, dR, eS, eL, dZ, gT, gQ, gM, gS, gO, gN, gU, gP, gR, dH, Result.ok.injEq, Next.value.injEq, true_and, and_true, dY, dX, eN, eZ, eM, fG, Lk, dS, dT, dV, dW, dN, dL, dO, dM, dI, cY, if_true, if_false, Lh, Ln, Li, Lj, Lm, Ll, Lg, Lf, cR, cM, cH, bY, cV, dJ, bU, bX, cS, cN, cO, dE, cL, dD, dG, dU, dB, cD, bH, bR, aU, aE, aH, dF, aL, cG, dA, cZ, bN, aK, bC, aZ, cP, aC, aX, aM, aV, cU, aW, cJ, bS, aF, aG, aJ, dP, aP, aN, bD, aQ, cC, aD, bZ, bT, bL, bB, aY, cX, aI, bE, aT, aS, aR, aA, dC, cK, bP, aO, cW, bW, bV, cF, bQ, bO, bK, cI, bF, cB, bA, bG, bM, bJ, cA, d1, d2, d3, hc, t0, hc3, a15, e5, w5, w6]
 refine vO (cells := #[.int .u8 ((80 + k.toNat % 16 : Nat) : Int), .int .u8 42, .int .u8 77, .int .u8 24, .int .u8 (l.length : Nat), .int .u8 0, .int .u8 0, .int .u8 0]) (by decide) (by decide) (by kernel_rfl) fun w2 o2 x2 s2 => ?_
 obtain ⟨S, T, hS, hT, hST, hTb⟩ := hst
 rw [Gf k (by omega)] at o2
 have hh2 := J2 o2
 have z1 := x1.size
 have z2 := x2.size
 have hsl : (iA ((ks.zip ls).take i)).length <= 208 * 10 := by
  have := CQ ((ks.zip ls).take i) fun x hx => by
   obtain ⟨j, hj, rfl⟩ := List.mem_iff_getElem.1 hx
   rw [Lt, hz] at hj
   rw [List.getElem_take, List.getElem_zip]
   exact hlen j (by omega) (by omega)
  rw [Lt, hz] at this
  omega
 have S2' : vV w2 (fun y => (S y /\ y < w1.heap.size) ∨ w2.heap.size <= y) 1 va _ _ := (sY hS fun y hy h => .inl ⟨hy, h⟩).ext x2 fun _ _ h => h
 refine Kx S2' hh2 (fun y hy => .inr hy) (by rw [show (EV k l.length).length = 8 from rfl]; omega) fun v3 w3 o3 x3 => ?_
 have z3 := x3.size
 have x03 : gA w w3 nQ := (x1.seq x2).trans x3 fun y hy h => by
  rcases h with h | h
  .have := (hST y h.1).1; omega
  .omega
 obtain ⟨b', o', c', u', e1', hc', hu'⟩ := (h0.ext x03).at hlt
 rw [e1] at e1'
 cases e1'
 rw [<- hll] at hu'
 simp (disch := omega) only [dQ, fE, cQ, stepR_skip, eD, eQ, eF, eX, eY, eP, fH, eK, dK, eJ, eT, fB, eA, eE, eI, eH, eC, fA, eU, eB, dR, eS, eL, dZ, gT, gQ, gM, gS, gO, gN, gU, gP, gR, dH, Result.ok.injEq, Next.value.injEq, true_and, and_true, dY, dX, eN, eZ, eM, fG, Lk, dS, dT, dV, dW, dN, dL, dO, dM, dI, cY, if_true, if_false, Lh, Ln, Li, Lj, Lm, Ll, Lg, Lf, cR, cM, cH, bY, cV, dJ, bU, bX, cS, cN, cO, dE, cL, dD, dG, dU, dB, cD, bH, bR, aU, aE, aH, dF, aL, cG, dA, cZ, bN, aK, bC, aZ, cP, aC, aX, aM, aV, cU, aW, cJ, bS, aF, aG, aJ, dP, aP, aN, bD, aQ, cC, aD, bZ, bT, bL, bB, aY, cX, aI, bE, aT, aS, aR, aA, dC, cK, bP, aO, cW, bW, bV, cF, bQ, bO, bK, cI, bF, cB, bA, bG, bM, bJ, cA, hc']
 refine Kx o3 hu' (fun y hy => .inr (by omega)) (by rw [Lw, show (EV k l.length).length = 8 from rfl]; omega) fun v4 w4 o4 x4 => ?_
 have z4 := x4.size
 obtain ⟨a6, c6, e6⟩ := o4.len
 subst e6
 simp (disch := omega) only [dQ, fE, cQ, stepR_skip, eD, eQ, eF, eX, eY, eP, fH, eK, dK, eJ, eT, fB, eA, eE, eI, eH, eC, fA, eU, eB, dR, eS, eL, dZ, gT, gQ, gM, gS, gO, gN, gU, gP, gR, dH, Result.ok.injEq, Next.value.injEq, true_and, and_true, dY, dX, eN, eZ, eM, fG, Lk, dS, dT, dV, dW, dN, dL, dO, dM, dI, cY, if_true, if_false, Lh, Ln, Li, Lj, Lm, Ll, Lg, Lf, cR, cM, cH, bY, cV, dJ, bU, bX, cS, cN, cO, dE, cL, dD, dG, dU, dB, cD, bH, bR, aU, aE, aH, dF, aL, cG, dA, cZ, bN, aK, bC, aZ, cP, aC, aX, aM, aV, cU, aW, cJ, bS, aF, aG, aJ, dP, aP, aN, bD, aQ, cC, aD, bZ, bT, bL, bB, aY, cX, aI, bE, aT, aS, aR, aA, dC, cK, bP, aO, cW, bW, bV, cF, bQ, bO, bK, cI, bF, cB, bA, bG, bM, bJ, cA]
 refine Hp (cells := #[iv ((iA ((ks.zip ls).take i) ++ EV k l.length ++ l).length)]) (by decide) (by decide) (by kernel_rfl) fun w5 o5 x5 s5 => ?_
 have z5 := x5.size
 have hT1 : vV w1 (fun y => T y /\ y < w1.heap.size) 1 ve _ _ := sY hT fun y hy h => ⟨hy, h⟩
 have x34 := x3.seq x4
 have hT4 := (hT1.ext x2 fun _ _ h => h).ext x34 fun y hy h => by
  rcases h with h | h
  .exact (hST y h.1).2 hy.1
  .have := hy.2; omega
 have hT5 : vV w5 (fun y => (T y /\ y < w1.heap.size) ∨ w5.heap.size <= y) 1 ve _ _ := (sY hT4 fun y hy h => .inl hy).ext x5 fun _ _ h => h
 refine Ld hT5 (o5.cl (off := 0) (l := [iv _]) (n := 1) rfl (fun j hj => by rw [Ln])) (fun y hy => .inr hy) (by rw [wY, Lt, hz]; omega) fun v6 w6 o6 x6 => ?_
 have z6 := x6.size
 have x46 : gA w4 w6 (fun y => (T y /\ y < w1.heap.size) ∨ w5.heap.size <= y) := (x5.mono fun _ _ h => h.elim).seq x6
 have o46 := (sY o4 (T := fun y => ((S y /\ y < w1.heap.size) ∨ w2.heap.size <= y) /\ y < w5.heap.size) fun y hy h => ⟨hy, by omega⟩).ext x46 fun y hy h => by
  rcases h with h | h
  .rcases hy.1 with h3 | h3
   .exact (hST y h3.1).2 h.1
   .omega
  .omega
 have htk : (ks.zip ls).take (i + 1) = (ks.zip ls).take i ++ [(k, l)] := by
  rw [List.take_add_one, Lr (by omega), List.getElem_zip, <- hkk, <- hll] <;> rfl
 have e7 : (i : Int) + 1 = ((i + 1 : Nat) : Int) := by omega
 rw [e7]
 refine ⟨ls.length - (i + 1), by omega, i + 1, _, _, rfl, rfl, by omega, ?_, ?_, ?_⟩
 .intro j hj hji
  by_cases h : j = i
  .subst h; rw [<- hll]; omega
  .exact hlen j hj (by omega)
 .rw [htk]
  refine ⟨fun y => ((S y /\ y < w1.heap.size) ∨ w2.heap.size <= y) /\ y < w5.heap.size, fun y => (T y /\ y < w1.heap.size) ∨ w5.heap.size <= y, ?_, ?_, ?_, ?_⟩
  .rw [DI]
   have e9 : iA ((ks.zip ls).take i) ++ EV k l.length ++ l = iA ((ks.zip ls).take i) ++ FP k l := by rw [L3] <;> rfl
   rw [e9] at o46 ⊢
   exact o46
  .rw [C5]
   have e8 : (iA ((ks.zip ls).take i) ++ EV k l.length ++ l).length = 0 + (iA ((ks.zip ls).take i)).length + (8 + l.length) := by
    simp only [Lw, EV, LA, List.length_nil]; omega
   rw [e8] at o6
   exact o6
  .rintro y ⟨h, h5⟩
   refine ⟨?_, ?_⟩
   .rcases h with h | h
    .exact (hST y h.1).1
    .omega
   .rintro (h6 | h6)
    .rcases h with h | h
     .exact (hST y h.1).2 h6.1
     .omega
    .omega
  .rintro y (h | h)
   .exact hTb y h.1
   .omega
 .refine (x03.trans x4 fun y hy h => ?_).trans x46 fun y hy h => ?_
  .rcases h with h | h
   .have := (hST y h.1).1; omega
   .omega
  .rcases h with h | h
   .have := hTb y h.1; omega
   .omega
theorem JV {w : MA} {S : Nat -> Prop} {v : MB} {l : List Nat} (h : vV w S 1 v l.length (l.map iv)) {i : Nat} (hi : i < l.length) : ∃ b o c, v = .slice (some ⟨b, o, none⟩) l.length c /\ w.cell? ⟨b, o + i, none⟩ = some (iv (l[i]'hi)) := by
 obtain ⟨a, n, c, rfl, hn, hc, hh⟩ := EO h
 rw [Lq] at hn
 obtain ⟨b, o, rfl, h4⟩ := hh (by omega)
 have h5 := h4 i (by omega)
 rw [L4, Lr hi] at h5
 exact ⟨b, o, c, by rw [hn], h5⟩
theorem Hl {k2 : MB -> MB -> MB -> MB -> MB -> MB -> MB -> MB -> MB -> MA -> Prop} {v0 va ve vb ee nn mm ff : MB} {c base : Nat} {L : List (UInt8 × List UInt8)} {w : MA} (hst : Gy base w va ve L) (hL : L.length <= 10)
 (hk : k2 v0 va vb ee nn mm ff (.int .i64 (c : Nat)) (.bool (tV L c)) w) :
 kS k2 v0 va ve vb ee nn mm ff (.int .i64 (c : Nat)) (.bool (c == 0)) w := by
 unfold kS oE nU oC
 obtain ⟨S, T, hS, hT, hST, hTb⟩ := hst
 have hE := wY L 0
 have hcut := Dt L 0 c
 rw [Ln] at hcut
 obtain ⟨E, hEE⟩ : ∃ E, E = pT 0 L := ⟨_, rfl⟩
 rw [<- hEE] at hT hE hcut
 refine iW.rule (fun m (t : MB × MB) w1 => ∃ i, m = E.length - i /\ t = (.bool (c == 0 || (E.take i).any (· == c)), .int .i64 (i : Nat)) /\ i <= E.length /\ w1 = w) E.length
  ⟨0, by omega, by simp, by omega, rfl⟩ ?_
 rintro m t w1 ⟨i, rfl, rfl, hi, hw⟩
 rw [hw]; clear hw w1
 show jP _ k2 v0 va ve vb ee nn mm ff (.int .i64 (c : Nat)) (.bool (c == 0 || (E.take i).any (· == c))) (.int .i64 (i : Nat)) w
 unfold jP
 obtain ⟨a, cc, hve⟩ := hT.len
 obtain ⟨q, hq⟩ : ∃ q, q = (c == 0 || (E.take i).any (· == c)) := ⟨_, rfl⟩
 rw [<- hq]
 by_cases hlt : i < E.length
 rotate_left
 .have d1 : decide ((i : Int) < (E.length : Int)) = false := decide_eq_false (by omega)
  have hi' : i = E.length := by omega
  rw [hi', List.take_length, <- hcut] at hq
  subst hve
  simp (disch := omega) only [dQ, fE, cQ, stepR_skip, eD, eQ, eF, eX, eY, eP, fH, eK, dK, eJ, eT, fB, eA, eE, eI, eH, eC, fA, eU, eB, dR, eS, eL, dZ, gT, gQ, gM, gS, gO, gN, gU, gP, gR, dH, Result.ok.injEq, Next.value.injEq, true_and, and_true, dY, dX, eN, eZ, eM, fG, Lk, dS, dT, dV, dW, dN, dL, dO, dM, dI, cY, if_true, if_false, Lh, Ln, Li, Lj, Lm, Ll, Lg, Lf, cR, cM, cH, bY, cV, dJ, bU, bX, cS, cN, cO, dE, cL, dD, dG, dU, dB, cD, bH, bR, aU, aE, aH, dF, aL, cG, dA, cZ, bN, aK, bC, aZ, cP, aC, aX, aM, aV, cU, aW, cJ, bS, aF, aG, aJ, dP, aP, aN, bD, aQ, cC, aD, bZ, bT, bL, bB, aY, cX, aI, bE, aT, aS, aR, aA, dC, cK, bP, aO, cW, bW, bV, cF, bQ, bO, bK, cI, bF, cB, bA, bG, bM, bJ, cA, d1]
  rw [hq]
  exact hk
 have d1 : decide ((i : Int) < (E.length : Int)) = true := decide_eq_true (by omega)
 obtain ⟨b, o, cp, he, hc⟩ := JV hT hlt
 have t0 : (i : Int).toNat = i := Lk _
 have bb : (i : Int) < (E.length : Int) := by omega
 have e7 : (i : Int) + 1 = ((i + 1 : Nat) : Int) := by omega
 have htk : (c == 0 || (E.take (i + 1)).any (· == c)) = (q || (E[i]'hlt == c)) := by
  rw [List.take_add_one, Lr hlt, List.any_append, hq, Bool.or_assoc]
  simp
 unfold iv at hc
 rw [he]
 cases hqq : q with
 | true =>
   rw [hqq, Bool.true_or] at htk
   simp (disch := omega) only [dQ, fE, cQ, stepR_skip, eD, eQ, eF, eX, eY, eP, fH, eK, dK, eJ, eT, fB, eA, eE, eI, eH, eC, fA, eU, eB, dR, eS, eL, dZ, gT, gQ, gM, gS, gO, gN, gU, gP, gR, dH, Result.ok.injEq, Next.value.injEq, true_and, and_true, dY, dX, eN, eZ, eM, fG, Lk, dS, dT, dV, dW, dN, dL, dO, dM, dI, cY, if_true, if_false, Lh, Ln, Li, Lj, Lm, Ll, Lg, Lf, cR, cM, cH, bY, cV, dJ, bU, bX, cS, cN, cO, dE, cL, dD, dG, dU, dB, cD, bH, bR, aU, aE, aH, dF, aL, cG, dA, cZ, bN, aK, bC, aZ, cP, aC, aX, aM, aV, cU, aW, cJ, bS, aF, aG, aJ, dP, aP, aN, bD, aQ, cC, aD, bZ, bT, bL, bB, aY, cX, aI, bE, aT, aS, aR, aA, dC, cK, bP, aO, cW, bW, bV, cF, bQ, bO, bK, cI, bF, cB, bA, bG, bM, bJ, cA, d1, hc, t0, e7]
   exact ⟨E.length - (i + 1), by omega, i + 1, rfl, by rw [htk], by omega⟩
 | false =>
   rw [hqq, Mm] at htk
   have e8 : (((E[i]'hlt : Nat) : Int) == (c : Int)) = (E[i]'hlt == c) := by
    by_cases h : E[i]'hlt = c
    .rw [h]; simp
    .have h2 : ¬ ((E[i]'hlt : Nat) : Int) = (c : Int) := by omega
     rw [beq_eq_false_iff_ne.2 h2, beq_eq_false_iff_ne.2 h]
   simp (disch := omega) only [dQ, fE, cQ, stepR_skip, eD, eQ, eF, eX, eY, eP, fH, eK, dK, eJ, eT, fB, eA, eE, eI, eH, eC, fA, eU, eB, dR, eS, eL, dZ, gT, gQ, gM, gS, gO, gN, gU, gP, gR, dH, Result.ok.injEq, Next.value.injEq, true_and, and_true, dY, dX, eN, eZ, eM, fG, Lk, dS, dT, dV, dW, dN, dL, dO, dM, dI, cY, if_true, if_false, Lh, Ln, Li, Lj, Lm, Ll, Lg, Lf, cR, cM, cH, bY, cV, dJ, bU, bX, cS, cN, cO, dE, cL, dD, dG, dU, dB, cD, bH, bR, aU, aE, aH, dF, aL, cG, dA, cZ, bN, aK, bC, aZ, cP, aC, aX, aM, aV, cU, aW, cJ, bS, aF, aG, aJ, dP, aP, aN, bD, aQ, cC, aD, bZ, bT, bL, bB, aY, cX, aI, bE, aT, aS, aR, aA, dC, cK, bP, aO, cW, bW, bV, cF, bQ, bO, bK, cI, bF, cB, bA, bG, bM, bJ, cA, d1, hc, t0, e7, e8]
   exact ⟨E.length - (i + 1), by omega, i + 1, rfl, by rw [htk], by omega⟩
theorem Fh {L : List (UInt8 × List UInt8)} (hL : ∀ x ∈ L, x.2.length <= 255) : Jv (iA L) 10 0 = some (.ok ([], 0, L.length)) := by
 unfold Jv
 have hl : ∀ L : List (UInt8 × List UInt8), L.length <= (iA L).length := by
  intro L
  induction L with
  | nil => simp
  | cons x L ih => obtain ⟨k, b⟩ := x; rw [iA, Lw, mC, LA]; omega
 rw [Ds L _ 0 hL (by have := hl L; omega), Ln]
theorem Fm {L : List (UInt8 × List UInt8)} {c : Nat} (hL : ∀ x ∈ L, x.2.length <= 255) (hc : c <= (iA L).length) : (tV L c = true -> ∃ j, Jv ((iA L).take c) 10 0 = some (.ok ([], 0, j))) /\ (tV L c = false -> Jv ((iA L).take c) 10 0 = some (.error 10)) := by
 have hlen : ((iA L).take c).length = c := by rw [Lt]; omega
 unfold Jv
 rw [hlen]
 exact Bp L (c + 1) 0 c hL (by omega) hc
theorem D5 {v0 v1 : MB} {ls : List (List UInt8)} {ks : List UInt8} {n2 : Nat} {w : MA} (h0 : IV w v0 ls) (h1 : Bs w v1 ks) (hls : ls.length <= 9223372036854775807) (hks : ks.length <= 9223372036854775807) (hl : ∀ l ∈ ls, l.length <= 9223372036854775807) (hn2 : n2 < 65536) :
 fI pg oY #[v0, v1, .int .u16 (n2 : Nat)] w (fun r w' => r = .bool true /\ gA w w' nQ) := by
 refine zK ?_
 obtain ⟨RR, hRR⟩ : ∃ RR : MB -> MA -> Prop, RR = fun r w' => r = .bool true /\ gA w w' nQ := ⟨_, rfl⟩
 rw [<- hRR]
 unfold vM mU nH
 refine (Hr w).mono ?_
 rintro r w1 ⟨rfl, x1⟩
 obtain ⟨a0, c0, e0⟩ := h0.len
 obtain ⟨a1, c1, e1, _⟩ := h1.len
 rw [Lq] at e1
 by_cases hbad : 10 < ls.length ∨ ks.length < ls.length
 .subst e0
  subst e1
  have fin : RR (.bool true) w1 := by rw [hRR]; exact ⟨rfl, x1⟩
  by_cases h10 : 10 < ls.length
  .have d1 : decide ((ls.length : Int) > 10) = true := decide_eq_true (by omega)
   have d2 : decide ((10 : Int) < (ls.length : Int)) = true := decide_eq_true (by omega)
   simp (disch := omega) only [dQ, fE, cQ, stepR_skip, eD, eQ, eF, eX, eY, eP, fH, eK, dK, eJ, eT, fB, eA, eE, eI, eH, eC, fA, eU, eB, dR, eS, eL, dZ, gT, gQ, gM, gS, gO, gN, gU, gP, gR, dH, Result.ok.injEq, Next.value.injEq, true_and, and_true, dY, dX, eN, eZ, eM, fG, Lk, dS, dT, dV, dW, dN, dL, dO, dM, dI, cY, if_true, if_false, Lh, Ln, Li, Lj, Lm, Ll, Lg, Lf, cR, cM, cH, bY, cV, dJ, bU, bX, cS, cN, cO, dE, cL, dD, dG, dU, dB, cD, bH, bR, aU, aE, aH, dF, aL, cG, dA, cZ, bN, aK, bC, aZ, cP, aC, aX, aM, aV, cU, aW, cJ, bS, aF, aG, aJ, dP, aP, aN, bD, aQ, cC, aD, bZ, bT, bL, bB, aY, cX, aI, bE, aT, aS, aR, aA, dC, cK, bP, aO, cW, bW, bV, cF, bQ, bO, bK, cI, bF, cB, bA, bG, bM, bJ, cA, d1, d2]
   exact fin
  .have d1 : decide ((ls.length : Int) > 10) = false := decide_eq_false (by omega)
   have d2 : decide ((10 : Int) < (ls.length : Int)) = false := decide_eq_false (by omega)
   have d3 : decide ((ks.length : Int) < (ls.length : Int)) = true := decide_eq_true (by omega)
   simp (disch := omega) only [dQ, fE, cQ, stepR_skip, eD, eQ, eF, eX, eY, eP, fH, eK, dK, eJ, eT, fB, eA, eE, eI, eH, eC, fA, eU, eB, dR, eS, eL, dZ, gT, gQ, gM, gS, gO, gN, gU, gP, gR, dH, Result.ok.injEq, Next.value.injEq, true_and, and_true, dY, dX, eN, eZ, eM, fG, Lk, dS, dT, dV, dW, dN, dL, dO, dM, dI, cY, if_true, if_false, Lh, Ln, Li, Lj, Lm, Ll, Lg, Lf, cR, cM, cH, bY, cV, dJ, bU, bX, cS, cN, cO, dE, cL, dD, dG, dU, dB, cD, bH, bR, aU, aE, aH, dF, aL, cG, dA, cZ, bN, aK, bC, aZ, cP, aC, aX, aM, aV, cU, aW, cJ, bS, aF, aG, aJ, dP, aP, aN, bD, aQ, cC, aD, bZ, bT, bL, bB, aY, cX, aI, bE, aT, aS, aR, aA, dC, cK, bP, aO, cW, bW, bV, cF, bQ, bO, bK, cI, bF, cB, bA, bG, bM, bJ, cA, d1, d2, d3]
   exact fin
 have d1 : decide ((ls.length : Int) > 10) = false := decide_eq_false (by omega)
 have d2 : decide ((10 : Int) < (ls.length : Int)) = false := decide_eq_false (by omega)
 have d3 : decide ((ks.length : Int) < (ls.length : Int)) = false := decide_eq_false (by omega)
 have main : kF RR v0 v1 (.int .u16 (n2 : Nat)) (.slice none 0 0) (.slice none 0 0) w1 := by
  unfold kF nE nC
  refine Ix (h0.ext x1) (h1.ext x1 (jX _)) (by omega) (by omega) hks hl (fun w' x => by rw [hRR]; exact ⟨rfl, x1.seq x⟩) fun w2 va ve hlen hst x2 => ?_
  obtain ⟨L, hL⟩ : ∃ L, L = ks.zip ls := ⟨_, rfl⟩
  rw [<- hL] at hst
  have hLl : L.length = ls.length := by rw [hL, List.length_zip]; omega
  have hL200 : ∀ x ∈ L, x.2.length <= 200 := by
   intro x hx
   rw [hL] at hx
   exact hlen _ (List.of_mem_zip hx).2
  have hL255 : ∀ x ∈ L, x.2.length <= 255 := fun x hx => by have := hL200 x hx; omega
  have hsl := CQ L hL200
  unfold nS nV
  obtain ⟨S, T, hS, hT, hST, hTb⟩ := hst
  have hb2 : Bs w2 va (iA L) := EO hS
  refine (Ax (log := 10) (most := 0) (mm := .ok ([], 0, L.length)) hb2 (by omega) (by omega) (by omega) (Fh hL255)).mono ?_
  rintro r w3 ⟨vb, rfl, hb3, x3⟩
  simp (disch := omega) only [dQ, fE, cQ, stepR_skip, eD, eQ, eF, eX, eY, eP, fH, eK, dK, eJ, eT, fB, eA, eE, eI, eH, eC, fA, eU, eB, dR, eS, eL, dZ, gT, gQ, gM, gS, gO, gN, gU, gP, gR, dH, Result.ok.injEq, Next.value.injEq, true_and, and_true, dY, dX, eN, eZ, eM, fG, Lk, dS, dT, dV, dW, dN, dL, dO, dM, dI, cY, if_true, if_false, Lh, Ln, Li, Lj, Lm, Ll, Lg, Lf, cR, cM, cH, bY, cV, dJ, bU, bX, cS, cN, cO, dE, cL, dD, dG, dU, dB, cD, bH, bR, aU, aE, aH, dF, aL, cG, dA, cZ, bN, aK, bC, aZ, cP, aC, aX, aM, aV, cU, aW, cJ, bS, aF, aG, aJ, dP, aP, aN, bD, aQ, cC, aD, bZ, bT, bL, bB, aY, cX, aI, bE, aT, aS, aR, aA, dC, cK, bP, aO, cW, bW, bV, cF, bQ, bO, bK, cI, bF, cB, bA, bG, bM, bJ, cA]
  refine (Fy (log := 10) (most := 0) (mm := .ok ([], 0, L.length)) (hb2.ext x3 (jX _)) (by omega) (by omega) (by omega) (Fh hL255)).mono ?_
  rintro r w4 ⟨rfl, x4⟩
  unfold Io
  obtain ⟨av, cv, hav⟩ := hS.len
  have x24 := x3.seq x4
  have hb4 := hb2.ext x24 (jX _)
  have hst4 : Gy w1.heap.size w4 va ve L := ⟨S, T, hS.ext x24 (fun _ _ h => h), hT.ext x24 (fun _ _ h => h), hST, hTb⟩
  obtain ⟨c, hc⟩ : ∃ c, c = n2 % ((iA L).length + 1) := ⟨_, rfl⟩
  have hcl : c <= (iA L).length := by have := Nat.mod_lt n2 (show 0 < (iA L).length + 1 by omega); omega
  have e5 : ((iA L).length : Int) + 1 = (((iA L).length + 1 : Nat) : Int) := by omega
  have w2' : IntKind.i64.wrap (n2 : Int) = n2 := dY (by omega) (by omega)
  have e6 : (n2 : Int).tmod (((iA L).length + 1 : Nat) : Int) = (c : Int) := by rw [hc] <;> rfl
  have e7 : ((c : Int) == 0) = (c == 0) := by
   by_cases h : c = 0
   .subst h; rfl
   .have h2 : ¬ (c : Int) = 0 := by omega
    rw [beq_eq_false_iff_ne.2 h2, beq_eq_false_iff_ne.2 h]
  have nz : ¬ (((iA L).length + 1 : Nat) : Int) = 0 := by omega
  subst hav
  simp (disch := omega) only [dQ, fE, cQ, stepR_skip, eD, eQ, eF, eX, eY, eP, fH, eK, dK, eJ, eT, fB, eA, eE, eI, eH, eC, fA, eU, eB, dR, eS, eL, dZ, gT, gQ, gM, gS, gO, gN, gU, gP, gR, dH, Result.ok.injEq, Next.value.injEq, true_and, and_true, dY, dX, eN, eZ, eM, fG, Lk, dS, dT, dV, dW, dN, dL, dO, dM, dI, cY, if_true, if_false, Lh, Ln, Li, Lj, Lm, Ll, Lg, Lf, cR, cM, cH, bY, cV, dJ, bU, bX, cS, cN, cO, dE, cL, dD, dG, dU, dB, cD, bH, bR, aU, aE, aH, dF, aL, cG, dA, cZ, bN, aK, bC, aZ, cP, aC, aX, aM, aV, cU, aW, cJ, bS, aF, aG, aJ, dP, aP, aN, bD, aQ, cC, aD, bZ, bT, bL, bB, aY, cX, aI, bE, aT, aS, aR, aA, dC, cK, bP, aO, cW, bW, bV, cF, bQ, bO, bK, cI, bF, cB, bA, bG, bM, bJ, cA, e5, w2', e6, e7]
  unfold oD
  refine Hl hst4 (by omega) ?_
  unfold kW
  have t0 : (c : Int).toNat = c := Lk _
  obtain ⟨av', cv', hee, hcap⟩ := hb4.len
  rw [Lq] at hcap hee
  cases hee
  have hbc0 := hb4.take' (k := c) hcl
  rw [<- Mw] at hbc0
  have hbc : Bs w4 _ ((iA L).take c) := hbc0
  have x04 : gA w w4 nQ := (x1.seq x2).seq x24
  have hlt : ((iA L).take c).length <= 1000000 := by rw [Lt]; omega
  obtain ⟨ab, cb, hvb, _⟩ := (hb3.ext x4 (jX _)).len
  simp only [List.map_nil, List.length_nil] at hvb
  have n0 : ((0 : Int) == 0) = true := rfl
  have n1 : (((0 : Nat) : Int) == 0) = true := rfl
  have n2 : ((L.length : Int) == (ls.length : Int)) = true := by rw [hLl]; simp
  have n3 : ((10 : Int) == 0) = false := rfl
  have n4 : ((0 : Int) == 10) = false := rfl
  have n5 : ((10 : Int) == 10) = true := rfl
  have q1 : (true == true) = true := rfl
  have q2 : (false == false) = true := rfl
  have hcut := Fm hL255 hcl
  subst hvb
  subst e0
  simp (disch := omega) only [dQ, fE, cQ, stepR_skip, eD, eQ, eF, eX, eY, eP, fH, eK, dK, eJ, eT, fB, eA, eE, eI, eH, eC, fA, eU, eB, dR, eS, eL, dZ, gT, gQ, gM, gS, gO, gN, gU, gP, gR, dH, Result.ok.injEq, Next.value.injEq, true_and, and_true, dY, dX, eN, eZ, eM, fG, Lk, dS, dT, dV, dW, dN, dL, dO, dM, dI, cY, if_true, if_false, Lh, Ln, Li, Lj, Lm, Ll, Lg, Lf, cR, cM, cH, bY, cV, dJ, bU, bX, cS, cN, cO, dE, cL, dD, dG, dU, dB, cD, bH, bR, aU, aE, aH, dF, aL, cG, dA, cZ, bN, aK, bC, aZ, cP, aC, aX, aM, aV, cU, aW, cJ, bS, aF, aG, aJ, dP, aP, aN, bD, aQ, cC, aD, bZ, bT, bL, bB, aY, cX, aI, bE, aT, aS, aR, aA, dC, cK, bP, aO, cW, bW, bV, cF, bQ, bO, bK, cI, bF, cB, bA, bG, bM, bJ, cA, t0]
  cases hs : tV L c with
  | true =>
    obtain ⟨j, hj⟩ := hcut.1 hs
    refine (Ax (log := 10) (most := 0) hbc hlt (by omega) (by omega) hj).mono ?_
    rintro r w5 ⟨v5, rfl, hb5, x5⟩
    simp (disch := omega) only [dQ, fE, cQ, stepR_skip, eD, eQ, eF, eX, eY, eP, fH, eK, dK, eJ, eT, fB, eA, eE, eI, eH, eC, fA, eU, eB, dR, eS, eL, dZ, gT, gQ, gM, gS, gO, gN, gU, gP, gR, dH, Result.ok.injEq, Next.value.injEq, true_and, and_true, dY, dX, eN, eZ, eM, fG, Lk, dS, dT, dV, dW, dN, dL, dO, dM, dI, cY, if_true, if_false, Lh, Ln, Li, Lj, Lm, Ll, Lg, Lf, cR, cM, cH, bY, cV, dJ, bU, bX, cS, cN, cO, dE, cL, dD, dG, dU, dB, cD, bH, bR, aU, aE, aH, dF, aL, cG, dA, cZ, bN, aK, bC, aZ, cP, aC, aX, aM, aV, cU, aW, cJ, bS, aF, aG, aJ, dP, aP, aN, bD, aQ, cC, aD, bZ, bT, bL, bB, aY, cX, aI, bE, aT, aS, aR, aA, dC, cK, bP, aO, cW, bW, bV, cF, bQ, bO, bK, cI, bF, cB, bA, bG, bM, bJ, cA, n0, n1, n2, n3, n4, n5, q1, q2]
    rw [hRR]
    exact ⟨rfl, x04.seq x5⟩
  | false =>
    refine (Ax (log := 10) (most := 0) hbc hlt (by omega) (by omega) (hcut.2 hs)).mono ?_
    rintro r w5 ⟨rfl, x5⟩
    simp (disch := omega) only [dQ, fE, cQ, stepR_skip, eD, eQ, eF, eX, eY, eP, fH, eK, dK, eJ, eT, fB, eA, eE, eI, eH, eC, fA, eU, eB, dR, eS, eL, dZ, gT, gQ, gM, gS, gO, gN, gU, gP, gR, dH, Result.ok.injEq, Next.value.injEq, true_and, and_true, dY, dX, eN, eZ, eM, fG, Lk, dS, dT, dV, dW, dN, dL, dO, dM, dI, cY, if_true, if_false, Lh, Ln, Li, Lj, Lm, Ll, Lg, Lf, cR, cM, cH, bY, cV, dJ, bU, bX, cS, cN, cO, dE, cL, dD, dG, dU, dB, cD, bH, bR, aU, aE, aH, dF, aL, cG, dA, cZ, bN, aK, bC, aZ, cP, aC, aX, aM, aV, cU, aW, cJ, bS, aF, aG, aJ, dP, aP, aN, bD, aQ, cC, aD, bZ, bT, bL, bB, aY, cX, aI, bE, aT, aS, aR, aA, dC, cK, bP, aO, cW, bW, bV, cF, bQ, bO, bK, cI, bF, cB, bA, bG, bM, bJ, cA, n0, n1, n2, n3, n4, n5, q1, q2]
    rw [hRR]
    exact ⟨rfl, x04.seq x5⟩
 subst e0
 subst e1
 simp (disch := omega) only [dQ, fE, cQ, stepR_skip, eD, eQ, eF, eX, eY, eP, fH, eK, dK, eJ, eT, fB, eA, eE, eI, eH, eC, fA, eU, eB, dR, eS, eL, dZ, gT, gQ, gM, gS, gO, gN, gU, gP, gR, dH, Result.ok.injEq, Next.value.injEq, true_and, and_true, dY, dX, eN, eZ, eM, fG, Lk, dS, dT, dV, dW, dN, dL, dO, dM, dI, cY, if_true, if_false, Lh, Ln, Li, Lj, Lm, Ll, Lg, Lf, cR, cM, cH, bY, cV, dJ, bU, bX, cS, cN, cO, dE, cL, dD, dG, dU, dB, cD, bH, bR, aU, aE, aH, dF, aL, cG, dA, cZ, bN, aK, bC, aZ, cP, aC, aX, aM, aV, cU, aW, cJ, bS, aF, aG, aJ, dP, aP, aN, bD, aQ, cC, aD, bZ, bT, bL, bB, aY, cX, aI, bE, aT, aS, aR, aA, dC, cK, bP, aO, cW, bW, bV, cF, bQ, bO, bK, cI, bF, cB, bA, bG, bM, bJ, cA, d1, d2, d3]
 exact main
end Go.Proofs.YthohephggmkeeaaDoor
namespace Go.En
open Go Go.ChangeShapes Go.WideShapes Go.ChangeAt Go.RowKit
theorem Ea {H : Type} {enc : TypeId × MB -> H} {P : Program} (hl : laidOutB P = true) {W W' : MA} (hb : Below W.heap.size W W') : ∀ (ts : List TypeId) (vs : List MB) (ds : List (DataW H)) (ps : List MemPlace),
 (ts.all fun t => P.readableRec t && decide (t < P.types.size)) = true -> DataW.TrodAll enc P W 0 (fun _ => true) true ts vs ds ps -> (∀ x ∈ ps, x.block < W.heap.size) →
 DataW.TrodAll enc P W' 0 (fun b => decide (b < W.heap.size)) true ts vs ds ps := by
 intro ts
 induction ts with
 | nil =>
   intro vs ds ps _ h _
   cases vs <;> cases ds <;> simp [DataW.TrodAll] at h ⊢
   exact h
 | cons t ts ih =>
   intro vs ds ps hr h hlt
   cases vs with
   | nil => simp [DataW.TrodAll] at h
   | cons v vs =>
     cases ds with
     | nil => simp [DataW.TrodAll] at h
     | cons d ds =>
       obtain ⟨p, q, h1, h2, rfl⟩ := h
       rw [List.all_cons, Lo, Lo, decide_eq_true_eq] at hr
       exact ⟨p, q, Below.trod hl hr.1.1 hr.1.2 h1 hb (fun x hx => hlt x (LZ _ hx)), ih _ _ _ hr.2 h2 (fun x hx => hlt x (Mh _ hx)), rfl⟩
theorem Ig {H : Type} {enc : TypeId × MB -> H} {P : Program} {f : Func} {s : ChangeSpec} {apart fresh handsOn : Bool} {tb : TypeId} {W W' : MA} {args : Array MB} {ds gs : List (DataW H)} {before : List MemPlace}
 (hl : laidOutB P = true) (hr : (f.params.toList.all fun t => P.readableRec t && decide (t < P.types.size)) = true) (hres : f.resultTypes = #[tb]) (hbool : P.underlying tb = some .bool)
 (hW : DataW.Whole enc P f.params.toList s.vars apart W args.toList ds gs before) (hvars : s.vars = []) (h1 : (s.fn H (ds ++ gs)).results = [.lit (.bool true)]) (h2 : (s.fn H (ds ++ gs)).args = ds) (h3 : (s.fn H (ds ++ gs)).vars = [])
 (hx : gA W W' nQ) : s.post enc P f apart fresh handsOn false W args (.bool true) W' := by
 have hb := hx.below
 have hlt : ∀ x ∈ before, x.block < W.heap.size := fun x hx => hW.lt x hx
 have hW' := hW
 obtain ⟨p, q, hA, hV, rfl, _, _⟩ := hW
 rw [hvars] at hV
 obtain ⟨_, rfl⟩ := trodVars_none hV
 rw [Mz] at hW' hlt
 refine ⟨ds, gs, p, [], p, [], hW', ?_, ?_, ?_, hb.frame _, fun h => by cases h⟩
 .rw [h1, hres]
  exact trodAll_cons_mk (shut_bool hbool _) trodAll_mk0
 .rw [h2]; exact Ea hl hb _ _ _ _ hr hA hlt
 .rw [h3, hvars] <;> rfl
theorem IU {H : Type} {enc : TypeId × MB -> H} {P : Program} {W : MA} {base b0 : Nat} {r : Reach} {sp : Nat -> Bool} {hd : Bool} {t e : TypeId} {k : IntKind} {v : MB} {d : DataW H} {ps : List MemPlace} (ht : P.underlying t = some (.slice e)) (he : P.underlying e = some (.int k)) (hc : P.cellsOf e = 1)
 (hval : Value.okWide P W r b0 t v) (h : DataW.Trod enc P W base sp hd t v d ps) :
 ∃ zs : List Int, Sl W v (zs.map (Value.int k)) /\ zs.length <= 9223372036854775807 /\ ∀ z ∈ zs, (Lit.int k z).wf = true := by
 obtain ⟨a0, len, cap, rfl⟩ := okWide_slice ht hval
 obtain ⟨fuel, hf⟩ := h
 rcases open_ints ht he hc hf with ⟨hcs, -⟩ | ⟨a, len', cap', zs, hcs, _, hl, hm, hz, -, hcell, hwz⟩
 .have : Value.slice a0 len cap = .slice none 0 0 := by simpa [Value.cells] using hcs
  cases this
  exact ⟨[], ⟨none, 0, 0, rfl, rfl, LB _, fun h => absurd h (by simp)⟩, by simp, by simp⟩
 .have : Value.slice a0 len cap = .slice (some a) len' cap' := by simpa [Value.cells] using hcs
  cases this
  unfold maxLen at hm
  have hle : len <= zs.length := by rw [hz]; split <;> omega
  refine ⟨zs.take len, ⟨some a, len, cap, rfl, by rw [Lq, Lt]; omega, hl, fun h0 => ?_⟩, by rw [Lt]; omega, fun z hz => hwz z (List.mem_of_mem_take hz)⟩
  obtain ⟨b, off, spot⟩ := a
  have hs : spot = none := by
   have h0 := hcell 0 (by omega)
   unfold World.cell? at h0
   split at h0
   .cases spot
    .rfl
    .simp [Addr.add] at h0
   .cases h0
  subst hs
  refine ⟨b, off, rfl, fun i hi => ?_⟩
  rw [<- tJ, hcell i (by omega), L4, Mc hi, LN, Lr (by omega)]
  rfl
theorem Is (zs : List Int) (h : ∀ z ∈ zs, (Lit.int .u8 z).wf = true) : ∃ l : List UInt8, zs.map (Value.int .u8) = l.map rE /\ l.length = zs.length := by
 refine ⟨zs.map fun z => UInt8.ofNat z.toNat, ?_, by simp⟩
 rw [List.map_map]
 refine LR fun z hz => ?_
 have := h z hz
 have hx : 0 <= z /\ z <= 255 := by simpa [Lit.wf, IntKind.min, IntKind.max, IntKind.signed, IntKind.bits] using this
 show _ = rE (UInt8.ofNat z.toNat)
 unfold rE
 rw [Ma]
 congr 1
 omega
end Go.En
namespace Go.En
open Go Go.ChangeShapes Go.WideShapes Go.ChangeAt Go.RowKit Go.Deep
theorem EY {W : MA} {a : Addr} {n : Nat} {g : Nat -> MB} (h0 : 0 < n) (h : ∀ i, i < n -> W.cell? (a.add i) = some (g i)) : ∃ b off, a = ⟨b, off, none⟩ /\ ∀ i, i < n -> W.cell? ⟨b, off + i, none⟩ = some (g i) := by
 obtain ⟨b, off, spot⟩ := a
 have hs : spot = none := by
  have h0 := h 0 h0
  unfold World.cell? at h0
  split at h0
  .cases spot
   .rfl
   .simp [Addr.add] at h0
  .cases h0
 subst hs
 exact ⟨b, off, rfl, fun i hi => by rw [<- tJ, h i hi]⟩
theorem HK {H : Type} {enc : TypeId × MB -> H} {P : Program} {W : MA} {base b0 : Nat} {r : Reach} {hd : Bool} {t e q : TypeId} {v : MB} {d : DataW H} {ps : List MemPlace} (ht : P.underlying t = some (.slice e)) (he : P.underlying e = some (.slice q)) (hq : P.underlying q = some (.int .u8)) (ce : P.cellsOf e = 1) (cq : P.cellsOf q = 1)
 (hval : Value.okWide P W r b0 t v) (h : DataW.Trod enc P W base (fun _ => true) hd t v d ps) :
 ∃ (vs : List MB) (ls : List (List UInt8)), Sl W v vs /\ vs.length = ls.length /\ (∀ i (h : i < ls.length) (h' : i < vs.length), Bs W vs[i] ls[i]) /\ ls.length <= 9223372036854775807 /\ ∀ l ∈ ls, l.length <= 9223372036854775807 := by
 obtain ⟨a0, len, cap, rfl⟩ := okWide_slice ht hval
 obtain ⟨fuel, hf⟩ := h
 rcases open_int_rows ht he hq ce cq hf with ⟨hcs, -⟩ | ⟨a, len', cap', A, L, C, Z, hcs, _, hl, hm, -, hr⟩
 .have : Value.slice a0 len cap = .slice none 0 0 := by simpa [Value.cells] using hcs
  cases this
  exact ⟨[], [], ⟨none, 0, 0, rfl, rfl, LB _, fun h => absurd h (by simp)⟩, rfl, fun i h => absurd h (by simp), by simp, by simp⟩
 .have : Value.slice a0 len cap = .slice (some a) len' cap' := by simpa [Value.cells] using hcs
  cases this
  unfold maxLen at hm hr
  refine ⟨(List.range len).map fun r => .slice (A r) (L r) (C r), (List.range len).map fun r => ((Z r).take (L r)).map fun z => UInt8.ofNat z.toNat, ?_, by simp, ?_, by simp; omega, ?_⟩
  .refine ⟨some a, len, cap, rfl, by simp, hl, fun h0 => ?_⟩
   obtain ⟨b, off, e, hc⟩ := EY (g := fun r => .slice (A r) (L r) (C r)) h0 (fun i hi => (hr i (by omega)).1)
   exact ⟨b, off, by rw [e], fun i hi => by rw [hc i hi]; simp [hi]⟩
  .intro i h h'
   have hi : i < len := by simpa using h
   obtain ⟨-, h2, h3, h4, h5, h6, h7⟩ := hr i (by omega)
   simp only [List.getElem_map, List.getElem_range]
   refine ⟨A i, L i, C i, rfl, by simp; omega, h2, fun h0 => ?_⟩
   obtain ⟨a', ha⟩ : ∃ a', A i = some a' := by
    cases hA : A i with
    | none => have := h6 hA; omega
    | some a' => exact ⟨a', rfl⟩
   obtain ⟨b, off, e, hc⟩ := EY (g := fun c => .int .u8 ((Z i).getD c 0)) h0 (fun c hc => (h7 a' ha).2 c (by omega))
   refine ⟨b, off, by rw [ha, e], fun c hcl => ?_⟩
   rw [hc c hcl]
   have hz : c < (Z i).length := by omega
   have hw := h5 _ (List.getElem_mem hz)
   have hx : 0 <= (Z i)[c] /\ (Z i)[c] <= 255 := by simpa [Lit.wf, IntKind.min, IntKind.max, IntKind.signed, IntKind.bits] using hw
   rw [LN, Lr hz]
   simp only [List.map_map, L4, Mc hcl, Lr hz, LH, Ml, Function.comp]
   unfold rE
   rw [Ma]
   congr 2
   omega
  .intro l hl
   obtain ⟨r, hr', rfl⟩ := List.mem_map.1 hl
   have hi : r < len := by simpa using hr'
   obtain ⟨-, h2, h3, h4, -⟩ := hr r (by omega)
   simp; omega
end Go.En
