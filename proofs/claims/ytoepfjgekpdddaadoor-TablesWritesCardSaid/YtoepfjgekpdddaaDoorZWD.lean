/- Parts of the proof of TablesWrites: merged and given short names by a program of ours. -/
import Derived.Laws.StructEq
import Derived.KernelRfl
import Derived.Test.YtoepfjgekpdddaaDoorZWC
namespace Go.Proofs.YtoepfjgekpdddaaDoor
open Go Go.En Go.Pu
set_option maxRecDepth 4000
set_option linter.unusedSimpArgs false
set_option linter.unusedVariables false
def GW (w : World) (base : Nat) (T : Nat × List T3) (v : Value) : Prop := (T = (0, []) ∧ v = .agg #[.int .i64 0, .slice none 0 0]) ∨ ∃ b, Ym w base b T.1 T.2 v
theorem GW.nil (w : World) (base : Nat) : GW w base (0, []) (.agg #[.int .i64 0, .slice none 0 0]) := .inl ⟨rfl, rfl⟩
theorem GW.form {w : World} {base : Nat} {T : Nat × List T3} {v : Value} (h : GW w base T v) : ∃ a, v = .agg #[.int .i64 T.1, .slice a T.2.length T.2.length] := by
  rcases h with ⟨rfl, rfl⟩ | ⟨b, rfl, _⟩
  · exact ⟨_, rfl⟩
  · exact ⟨_, rfl⟩
theorem GW.ext {w w' : World} {base : Nat} {T : Nat × List T3} {v : Value} {M : Nat → Prop} (h : GW w base T v) (x : gS w w' M) (hM : ∀ b, base ≤ b → b < w.heap.size → ¬ M b) : GW w' base T v := by
  rcases h with h | ⟨b, h⟩
  · exact .inl h
  · have hb := h.2.1
    have hl := h.2.2.lt
    exact .inr ⟨b, h.ext x (hM b hb hl)⟩
def Z2 (w : World) (base : Nat) (o : Except Int ((Nat × List T3) × Nat)) (r : Value) : Prop := match o with
  | .error e => r = .tuple #[.agg #[.int .i64 0, .slice none 0 0], .int .i64 0, .int .i64 e]
  | .ok (T, n) => ∃ t, r = .tuple #[t, .int .i64 n, .int .i64 0] ∧ GW w base T t
def kU (a mode : Int) (l : List UInt8) (old : Nat × List T3) : Except Int ((Nat × List T3) × Nat) :=
  if a < 0 ∨ 2 < a ∨ mode < 0 ∨ 3 < mode then .error 1
  else if mode = 0 then .ok ((LX a, mD (LX a) (RE a)), 0)
  else if mode = 1 then match l with
    | [] => .error 10
    | x :: _ => if nB a < (x.toNat : Int) then .error 11 else .ok ((0, [((x.toNat : Nat), 0, 0)]), 1)
  else if mode = 3 then if old.2 = [] then .error 11 else .ok (old, 0)
  else match sV (iC l) (xE a) (nB a + 1).toNat with
    | .error e => .error e
    | .ok (lg, ps, u) => .ok ((lg, mD lg ps), u)
theorem DU {p : Nat} {w0 w : World} {x : Int} {a : Option Addr} {k c : Nat} {n e : Value} (o : jL w p [.int .i64 0, .slice none 0 0]) (hx : gS w0 w jR) (hp : w0.heap.size ≤ p) {RR : Value → World → Prop}
    (hR : ∀ w', gS w0 w' jR → gS w w' (fun y => y = p) → RR (.tuple #[.agg #[.int .i64 x, .slice a k c], n, e]) w') :
    cO pg (fG 26 (.pointer (some ⟨p, 0, none⟩)) (.agg #[.int .i64 x, .slice a k c])) w fun _u w => qB pg 26 (.pointer (some ⟨p, 0, none⟩)) w fun r0 => RR (.tuple #[r0, n, e]) w := by
  refine jM o rfl (by simp [one]) (by simp) fun w6 o6 x6 s6 => ?_
  refine nY o6 (by simp [fV]) ?_
  simp only [fV, List.set_cons_zero, List.set_cons_succ, List.drop_zero, List.take_succ_cons, List.take_zero]
  exact hR _ (hx.new x6 hp) x6
theorem xQ {a : Int} (h : 0 ≤ a ∧ a ≤ 2) : 28 ≤ nB a ∧ nB a ≤ 60 := by
  unfold nB
  split
  · omega
  · split
    · omega
    · rw [if_pos (by omega)]; omega
theorem Ir {a : Int} (h : ¬ (0 ≤ a ∧ a ≤ 2)) : nB a = -1 := by
  unfold nB
  rw [if_neg (by omega), if_neg (by omega), if_neg (by omega)]
theorem Yw {a mode : Int} {bv ov : Value} {l : List UInt8} {T : Nat × List T3} {base : Nat} {w : World} (hg : Gh w) (hb : Bs w bv l) (hl : mode = 2 → l.length ≤ 1000000) (ho : GW w base T ov) (hbase : base ≤ w.heap.size) (hlb : l.length ≤ 9223372036854775807) (hT : T.2.length ≤ 1000000) :
    hJ pg A5 #[.int .i64 a, .int .i64 mode, bv, ov] w (fun r w' => Z2 w' base (kU a mode l T) r ∧ gS w w' jR) := by
  refine OM ?_
  obtain ⟨RR, hRR⟩ : ∃ RR : Value → World → Prop, RR = fun r w' => Z2 w' base (kU a mode l T) r ∧ gS w w' jR := ⟨_, rfl⟩
  rw [← hRR]
  obtain ⟨oa, rfl⟩ := ho.form
  obtain ⟨ba, bc, rfl, _⟩ := hb.len
  rw [List.length_map] at hb
  rw [List.length_map]
  unfold Qq DV
  refine nR fun w1 o1 x1 s1 => ?_
  simp only [Value.cells] at o1
  refine kR fun w2 o2 x2 s2 => ?_
  have x12 := x1.seq x2
  have z2 := x12.size
  refine (X1 (hg.ext x12)).mono ?_
  rintro r w3 ⟨rfl, x3⟩
  have o1 := (o1.ext x2 (fun h => h)).ext x3 (fun h => h)
  have o2 := o2.ext x3 (fun h => h)
  have x13 := x12.seq x3
  have z3 := x3.size
  have hg3 := hg.ext x13
  have err : ∀ {e : Int} {w' : World}, kU a mode l T = .error e → gS w w' jR → RR (.tuple #[.agg #[.int .i64 0, .slice none 0 0], .int .i64 0, .int .i64 e]) w' := fun h x => by
    rw [hRR]; refine ⟨?_, x⟩; rw [h] <;> rfl
  have good : ∀ {T' : Nat × List T3} {n : Nat} {w' : World} {t : Value}, kU a mode l T = .ok (T', n) → GW w' base T' t → gS w w' jR → RR (.tuple #[t, .int .i64 n, .int .i64 0]) w' := fun h ht x => by
    rw [hRR]; refine ⟨?_, x⟩; rw [h]; exact ⟨_, rfl, ht⟩
  by_cases ha : 0 ≤ a ∧ a ≤ 2
  rotate_left
  · have d1 : decide (nB a < 0) = true := by rw [Ir ha] <;> rfl
    have hE : kU a mode l T = .error 1 := by unfold kU; rw [if_pos (by omega)]
    simp (disch := omega) only [cO, gY, aF, dO, fB, fL, fX, fW, fY, gF, iP, gK, eD, fT, gC, fR, fQ, eY, gH, fJ, fZ, gI, gO, gD, eP, gP, gG, gB, lE, lC, lL, lJ, lK, lV, lU, lW, lT, cX, Result.ok.injEq, Next.value.injEq, true_and, and_true, eL, fU, gL, gN, gM, iK, Int.toNat_natCast, fK, fD, fM, eZ, dZ, dV, eU, eC, dA, cQ, if_true, if_false, Bool.false_eq_true, Nat.zero_add, Option.isNone_some, Option.isNone_none, Bool.not_true, Bool.not_false, List.getElem?_cons_succ, List.getElem?_cons_zero, cS, aZ, bU, bV, bT, bC, eA, dG, dH, dC, aW, eI, bR, aJ, dF, dI, dJ, dD, bL, bN, cB, bA, cF, cG, bF, cJ, cL, cZ, cK, cD, cH, cC, dR, bW, cU, dT, bS, cV, aY, cI, dQ, bH, aO, aI, aP, aK, aM, aT, aE, cM, bG, cY, bP, bY, cP, aQ, aV, aU, aX, aR, aD, aB, aC, dB, aH, aG, bM, bB, bK, dE, bE, bZ, bD, bQ, bO, aL, dS, aS, dM, dL, aN, bX, cA, dN, eS, d1]
    exact DU o2 x13 (by omega) fun w' x _ => err hE x
  obtain ⟨hl1, hl2⟩ := xQ ha
  have d1 : decide (nB a < 0) = false := by simp; omega
  by_cases hm0 : mode < 0
  · have d2 : decide (mode < 0) = true := by simp; omega
    have hE : kU a mode l T = .error 1 := by unfold kU; rw [if_pos (by omega)]
    simp (disch := omega) only [cO, gY, aF, dO, fB, fL, fX, fW, fY, gF, iP, gK, eD, fT, gC, fR, fQ, eY, gH, fJ, fZ, gI, gO, gD, eP, gP, gG, gB, lE, lC, lL, lJ, lK, lV, lU, lW, lT, cX, Result.ok.injEq, Next.value.injEq, true_and, and_true, eL, fU, gL, gN, gM, iK, Int.toNat_natCast, fK, fD, fM, eZ, dZ, dV, eU, eC, dA, cQ, if_true, if_false, Bool.false_eq_true, Nat.zero_add, Option.isNone_some, Option.isNone_none, Bool.not_true, Bool.not_false, List.getElem?_cons_succ, List.getElem?_cons_zero, cS, aZ, bU, bV, bT, bC, eA, dG, dH, dC, aW, eI, bR, aJ, dF, dI, dJ, dD, bL, bN, cB, bA, cF, cG, bF, cJ, cL, cZ, cK, cD, cH, cC, dR, bW, cU, dT, bS, cV, aY, cI, dQ, bH, aO, aI, aP, aK, aM, aT, aE, cM, bG, cY, bP, bY, cP, aQ, aV, aU, aX, aR, aD, aB, aC, dB, aH, aG, bM, bB, bK, dE, bE, bZ, bD, bQ, bO, aL, dS, aS, dM, dL, aN, bX, cA, dN, eS, d1, d2]
    exact DU o2 x13 (by omega) fun w' x _ => err hE x
  have d2 : decide (mode < 0) = false := by simp; omega
  by_cases hm3 : 3 < mode
  · have d3 : decide (3 < mode) = true := by simp; omega
    have hE : kU a mode l T = .error 1 := by unfold kU; rw [if_pos (by omega)]
    simp (disch := omega) only [cO, gY, aF, dO, fB, fL, fX, fW, fY, gF, iP, gK, eD, fT, gC, fR, fQ, eY, gH, fJ, fZ, gI, gO, gD, eP, gP, gG, gB, lE, lC, lL, lJ, lK, lV, lU, lW, lT, cX, Result.ok.injEq, Next.value.injEq, true_and, and_true, eL, fU, gL, gN, gM, iK, Int.toNat_natCast, fK, fD, fM, eZ, dZ, dV, eU, eC, dA, cQ, if_true, if_false, Bool.false_eq_true, Nat.zero_add, Option.isNone_some, Option.isNone_none, Bool.not_true, Bool.not_false, List.getElem?_cons_succ, List.getElem?_cons_zero, cS, aZ, bU, bV, bT, bC, eA, dG, dH, dC, aW, eI, bR, aJ, dF, dI, dJ, dD, bL, bN, cB, bA, cF, cG, bF, cJ, cL, cZ, cK, cD, cH, cC, dR, bW, cU, dT, bS, cV, aY, cI, dQ, bH, aO, aI, aP, aK, aM, aT, aE, cM, bG, cY, bP, bY, cP, aQ, aV, aU, aX, aR, aD, aB, aC, dB, aH, aG, bM, bB, bK, dE, bE, bZ, bD, bQ, bO, aL, dS, aS, dM, dL, aN, bX, cA, dN, eS, d1, d2, d3]
    exact DU o2 x13 (by omega) fun w' x _ => err hE x
  have d3 : decide (3 < mode) = false := by simp; omega
  have hno : ¬ (a < 0 ∨ 2 < a ∨ mode < 0 ∨ 3 < mode) := by omega
  by_cases m0 : mode = 0
  · subst m0
    have n1 : ((0 : Int) == 0) = true := rfl
    have hE : kU a 0 l T = .ok ((LX a, mD (LX a) (RE a)), 0) := by unfold kU; rw [if_neg hno, if_pos rfl]
    simp (disch := omega) only [cO, gY, aF, dO, fB, fL, fX, fW, fY, gF, iP, gK, eD, fT, gC, fR, fQ, eY, gH, fJ, fZ, gI, gO, gD, eP, gP, gG, gB, lE, lC, lL, lJ, lK, lV, lU, lW, lT, cX, Result.ok.injEq, Next.value.injEq, true_and, and_true, eL, fU, gL, gN, gM, iK, Int.toNat_natCast, fK, fD, fM, eZ, dZ, dV, eU, eC, dA, cQ, if_true, if_false, Bool.false_eq_true, Nat.zero_add, Option.isNone_some, Option.isNone_none, Bool.not_true, Bool.not_false, List.getElem?_cons_succ, List.getElem?_cons_zero, cS, aZ, bU, bV, bT, bC, eA, dG, dH, dC, aW, eI, bR, aJ, dF, dI, dJ, dD, bL, bN, cB, bA, cF, cG, bF, cJ, cL, cZ, cK, cD, cH, cC, dR, bW, cU, dT, bS, cV, aY, cI, dQ, bH, aO, aI, aP, aK, aM, aT, aE, cM, bG, cY, bP, bY, cP, aQ, aV, aU, aX, aR, aD, aB, aC, dB, aH, aG, bM, bB, bK, dE, bE, bZ, bD, bQ, bO, aL, dS, aS, dM, dL, aN, bX, cA, dN, eS, d1, d2, d3, n1]
    refine (PM hg3).mono ?_
    rintro r w4 ⟨t, e, rfl, ht, x4⟩
    unfold MJ qY at ht
    rw [if_pos (by omega)] at ht
    obtain ⟨⟨b, ht, hb1, ob⟩, rfl⟩ := ht
    subst ht
    have z4 := x4.size
    simp (disch := omega) only [cO, gY, aF, dO, fB, fL, fX, fW, fY, gF, iP, gK, eD, fT, gC, fR, fQ, eY, gH, fJ, fZ, gI, gO, gD, eP, gP, gG, gB, lE, lC, lL, lJ, lK, lV, lU, lW, lT, cX, Result.ok.injEq, Next.value.injEq, true_and, and_true, eL, fU, gL, gN, gM, iK, Int.toNat_natCast, fK, fD, fM, eZ, dZ, dV, eU, eC, dA, cQ, if_true, if_false, Bool.false_eq_true, Nat.zero_add, Option.isNone_some, Option.isNone_none, Bool.not_true, Bool.not_false, List.getElem?_cons_succ, List.getElem?_cons_zero, cS, aZ, bU, bV, bT, bC, eA, dG, dH, dC, aW, eI, bR, aJ, dF, dI, dJ, dD, bL, bN, cB, bA, cF, cG, bF, cJ, cL, cZ, cK, cD, cH, cC, dR, bW, cU, dT, bS, cV, aY, cI, dQ, bH, aO, aI, aP, aK, aM, aT, aE, cM, bG, cY, bP, bY, cP, aQ, aV, aU, aX, aR, aD, aB, aC, dB, aH, aG, bM, bB, bK, dE, bE, bZ, bD, bQ, bO, aL, dS, aS, dM, dL, aN, bX, cA, dN, eS]
    refine kR fun w5 o5 x5 s5 => ?_
    refine jM o5 rfl (by simp [one]) (by simp) fun w6 o6 x6 s6 => ?_
    have l1 := nZ (off := 0) o6 (by simp [fV])
    simp only [fV, List.set_cons_zero, List.set_cons_succ, List.drop_zero, List.take_succ_cons, List.take_zero] at l1
    have hbl := ob.lt
    simp (disch := omega) only [cO, gY, aF, dO, fB, fL, fX, fW, fY, gF, iP, gK, eD, fT, gC, fR, fQ, eY, gH, fJ, fZ, gI, gO, gD, eP, gP, gG, gB, lE, lC, lL, lJ, lK, lV, lU, lW, lT, cX, Result.ok.injEq, Next.value.injEq, true_and, and_true, eL, fU, gL, gN, gM, iK, Int.toNat_natCast, fK, fD, fM, eZ, dZ, dV, eU, eC, dA, cQ, if_true, if_false, Bool.false_eq_true, Nat.zero_add, Option.isNone_some, Option.isNone_none, Bool.not_true, Bool.not_false, List.getElem?_cons_succ, List.getElem?_cons_zero, cS, aZ, bU, bV, bT, bC, eA, dG, dH, dC, aW, eI, bR, aJ, dF, dI, dJ, dD, bL, bN, cB, bA, cF, cG, bF, cJ, cL, cZ, cK, cD, cH, cC, dR, bW, cU, dT, bS, cV, aY, cI, dQ, bH, aO, aI, aP, aK, aM, aT, aE, cM, bG, cY, bP, bY, cP, aQ, aV, aU, aX, aR, aD, aB, aC, dB, aH, aG, bM, bB, bK, dE, bE, bZ, bD, bQ, bO, aL, dS, aS, dM, dL, aN, bX, cA, dN, eS, l1]
    have x46 : gS w3 w6 jR := x4.seq (x5.new x6 (Nat.le_refl _))
    refine DU (o2.ext x46 (fun h => h)) (x13.seq x46) (by omega) fun w' x x7 => good hE (.inr ⟨b, rfl, by omega, ?_⟩) x
    exact ((ob.ext x5 (fun h => h)).ext x6 (by omega)).ext x7 (by omega)
  have n1 : (mode == 0) = false := beq_eq_false_iff_ne.2 m0
  by_cases m1 : mode = 1
  · subst m1
    have n2 : ((1 : Int) == 1) = true := rfl
    cases l with
    | nil =>
      have hE : kU a 1 [] T = .error 10 := by unfold kU; rw [if_neg hno, if_neg (by omega), if_pos rfl]
      have n3 : ((0 : Int) == 0) = true := rfl
      have e0 : ((([] : List UInt8).length : Nat) : Int) = 0 := rfl
      simp (disch := omega) only [cO, gY, aF, dO, fB, fL, fX, fW, fY, gF, iP, gK, eD, fT, gC, fR, fQ, eY, gH, fJ, fZ, gI, gO, gD, eP, gP, gG, gB, lE, lC, lL, lJ, lK, lV, lU, lW, lT, cX, Result.ok.injEq, Next.value.injEq, true_and, and_true, eL, fU, gL, gN, gM, iK, Int.toNat_natCast, fK, fD, fM, eZ, dZ, dV, eU, eC, dA, cQ, if_true, if_false, Bool.false_eq_true, Nat.zero_add, Option.isNone_some, Option.isNone_none, Bool.not_true, Bool.not_false, List.getElem?_cons_succ, List.getElem?_cons_zero, cS, aZ, bU, bV, bT, bC, eA, dG, dH, dC, aW, eI, bR, aJ, dF, dI, dJ, dD, bL, bN, cB, bA, cF, cG, bF, cJ, cL, cZ, cK, cD, cH, cC, dR, bW, cU, dT, bS, cV, aY, cI, dQ, bH, aO, aI, aP, aK, aM, aT, aE, cM, bG, cY, bP, bY, cP, aQ, aV, aU, aX, aR, aD, aB, aC, dB, aH, aG, bM, bB, bK, dE, bE, bZ, bD, bQ, bO, aL, dS, aS, dM, dL, aN, bX, cA, dN, eS, d1, d2, d3, n1, n2, e0, n3]
      exact DU o2 x13 (by omega) fun w' x _ => err hE x
    | cons y l =>
      have n3 : ((((y :: l).length : Nat) : Int) == 0) = false := by simp; omega
      obtain ⟨b, off, c, hv, _, hcell⟩ := (hb.ext x13 (iQ _)).openV (by simp)
      have g1 := hcell 0 (by simp)
      simp only [List.map_cons, List.getElem_cons_zero, Nat.add_zero] at g1
      simp only [List.length_map, Value.slice.injEq] at hv
      obtain ⟨rfl, _, rfl⟩ := hv
      have t0 : (0 : Int).toNat = 0 := rfl
      have g0 : (w3.cell? ⟨b, off, none⟩) = some (.int .u8 (y.toNat : Nat)) := g1
      have hy := y.toNat_lt
      have hpos : (0 : Int) < ((y :: l).length : Nat) := by rw [List.length_cons]; omega
      by_cases hyl : nB a < (y.toNat : Int)
      · have d4 : decide (nB a < (y.toNat : Int)) = true := by simpa using hyl
        have hE : kU a 1 (y :: l) T = .error 11 := by unfold kU; rw [if_neg hno, if_neg (by omega), if_pos rfl]; exact if_pos hyl
        simp (disch := omega) only [cO, gY, aF, dO, fB, fL, fX, fW, fY, gF, iP, gK, eD, fT, gC, fR, fQ, eY, gH, fJ, fZ, gI, gO, gD, eP, gP, gG, gB, lE, lC, lL, lJ, lK, lV, lU, lW, lT, cX, Result.ok.injEq, Next.value.injEq, true_and, and_true, eL, fU, gL, gN, gM, iK, Int.toNat_natCast, fK, fD, fM, eZ, dZ, dV, eU, eC, dA, cQ, if_true, if_false, Bool.false_eq_true, Nat.zero_add, Option.isNone_some, Option.isNone_none, Bool.not_true, Bool.not_false, List.getElem?_cons_succ, List.getElem?_cons_zero, cS, aZ, bU, bV, bT, bC, eA, dG, dH, dC, aW, eI, bR, aJ, dF, dI, dJ, dD, bL, bN, cB, bA, cF, cG, bF, cJ, cL, cZ, cK, cD, cH, cC, dR, bW, cU, dT, bS, cV, aY, cI, dQ, bH, aO, aI, aP, aK, aM, aT, aE, cM, bG, cY, bP, bY, cP, aQ, aV, aU, aX, aR, aD, aB, aC, dB, aH, aG, bM, bB, bK, dE, bE, bZ, bD, bQ, bO, aL, dS, aS, dM, dL, aN, bX, cA, dN, eS, d1, d2, d3, n1, n2, n3, t0, Nat.add_zero, g0, d4, hpos]
        exact DU o2 x13 (by omega) fun w' x _ => err hE x
      · have d4 : decide (nB a < (y.toNat : Int)) = false := by simpa using hyl
        have hE : kU a 1 (y :: l) T = .ok ((0, [((y.toNat : Nat), 0, 0)]), 1) := by unfold kU; rw [if_neg hno, if_neg (by omega), if_pos rfl]; exact if_neg hyl
        simp (disch := omega) only [cO, gY, aF, dO, fB, fL, fX, fW, fY, gF, iP, gK, eD, fT, gC, fR, fQ, eY, gH, fJ, fZ, gI, gO, gD, eP, gP, gG, gB, lE, lC, lL, lJ, lK, lV, lU, lW, lT, cX, Result.ok.injEq, Next.value.injEq, true_and, and_true, eL, fU, gL, gN, gM, iK, Int.toNat_natCast, fK, fD, fM, eZ, dZ, dV, eU, eC, dA, cQ, if_true, if_false, Bool.false_eq_true, Nat.zero_add, Option.isNone_some, Option.isNone_none, Bool.not_true, Bool.not_false, List.getElem?_cons_succ, List.getElem?_cons_zero, cS, aZ, bU, bV, bT, bC, eA, dG, dH, dC, aW, eI, bR, aJ, dF, dI, dJ, dD, bL, bN, cB, bA, cF, cG, bF, cJ, cL, cZ, cK, cD, cH, cC, dR, bW, cU, dT, bS, cV, aY, cI, dQ, bH, aO, aI, aP, aK, aM, aT, aE, cM, bG, cY, bP, bY, cP, aQ, aV, aU, aX, aR, aD, aB, aC, dB, aH, aG, bM, bB, bK, dE, bE, bZ, bD, bQ, bO, aL, dS, aS, dM, dL, aN, bX, cA, dN, eS, d1, d2, d3, n1, n2, n3, t0, Nat.add_zero, g0, d4, hpos]
        refine (Wb (y.toNat : Nat) _).mono ?_
        rintro r w4 ⟨b, ⟨rfl, hb1, ob⟩, x4⟩
        have z4 := x4.size
        have hbl := ob.lt
        refine DU (o2.ext x4 (fun h => h)) (x13.seq x4) (by omega) fun w' x x7 => good hE (.inr ⟨b, rfl, by omega, ?_⟩) x
        exact ob.ext x7 (by omega)
  have n2 : (mode == 1) = false := beq_eq_false_iff_ne.2 m1
  by_cases m3 : mode = 3
  · subst m3
    have n3 : ((3 : Int) == 3) = true := rfl
    have c1 := o1.cell (off := 1)
    simp only [List.getElem?_cons_zero, List.getElem?_cons_succ] at c1
    have l1 := nZ (off := 0) o1 (by simp)
    simp only [List.drop_zero, List.take_succ_cons, List.take_zero] at l1
    by_cases h0 : T.2 = []
    · have n4 : (((T.2.length : Nat) : Int) == 0) = true := by rw [h0] <;> rfl
      have hE : kU a 3 l T = .error 11 := by unfold kU; rw [if_neg hno, if_neg (by omega), if_neg (by omega), if_pos rfl, if_pos h0]
      simp (disch := omega) only [cO, gY, aF, dO, fB, fL, fX, fW, fY, gF, iP, gK, eD, fT, gC, fR, fQ, eY, gH, fJ, fZ, gI, gO, gD, eP, gP, gG, gB, lE, lC, lL, lJ, lK, lV, lU, lW, lT, cX, Result.ok.injEq, Next.value.injEq, true_and, and_true, eL, fU, gL, gN, gM, iK, Int.toNat_natCast, fK, fD, fM, eZ, dZ, dV, eU, eC, dA, cQ, if_true, if_false, Bool.false_eq_true, Nat.zero_add, Option.isNone_some, Option.isNone_none, Bool.not_true, Bool.not_false, List.getElem?_cons_succ, List.getElem?_cons_zero, cS, aZ, bU, bV, bT, bC, eA, dG, dH, dC, aW, eI, bR, aJ, dF, dI, dJ, dD, bL, bN, cB, bA, cF, cG, bF, cJ, cL, cZ, cK, cD, cH, cC, dR, bW, cU, dT, bS, cV, aY, cI, dQ, bH, aO, aI, aP, aK, aM, aT, aE, cM, bG, cY, bP, bY, cP, aQ, aV, aU, aX, aR, aD, aB, aC, dB, aH, aG, bM, bB, bK, dE, bE, bZ, bD, bQ, bO, aL, dS, aS, dM, dL, aN, bX, cA, dN, eS, d1, d2, d3, n1, n2, n3, c1, n4]
      exact DU o2 x13 (by omega) fun w' x _ => err hE x
    · have n4 : (((T.2.length : Nat) : Int) == 0) = false := by
        have := List.length_pos_iff.2 h0
        simp; exact h0
      have hE : kU a 3 l T = .ok (T, 0) := by unfold kU; rw [if_neg hno, if_neg (by omega), if_neg (by omega), if_pos rfl, if_neg h0]
      simp (disch := omega) only [cO, gY, aF, dO, fB, fL, fX, fW, fY, gF, iP, gK, eD, fT, gC, fR, fQ, eY, gH, fJ, fZ, gI, gO, gD, eP, gP, gG, gB, lE, lC, lL, lJ, lK, lV, lU, lW, lT, cX, Result.ok.injEq, Next.value.injEq, true_and, and_true, eL, fU, gL, gN, gM, iK, Int.toNat_natCast, fK, fD, fM, eZ, dZ, dV, eU, eC, dA, cQ, if_true, if_false, Bool.false_eq_true, Nat.zero_add, Option.isNone_some, Option.isNone_none, Bool.not_true, Bool.not_false, List.getElem?_cons_succ, List.getElem?_cons_zero, cS, aZ, bU, bV, bT, bC, eA, dG, dH, dC, aW, eI, bR, aJ, dF, dI, dJ, dD, bL, bN, cB, bA, cF, cG, bF, cJ, cL, cZ, cK, cD, cH, cC, dR, bW, cU, dT, bS, cV, aY, cI, dQ, bH, aO, aI, aP, aK, aM, aT, aE, cM, bG, cY, bP, bY, cP, aQ, aV, aU, aX, aR, aD, aB, aC, dB, aH, aG, bM, bB, bK, dE, bE, bZ, bD, bQ, bO, aL, dS, aS, dM, dL, aN, bX, cA, dN, eS, d1, d2, d3, n1, n2, n3, c1, n4, l1]
      refine DU o2 x13 (by omega) fun w' x x7 => good hE ?_ x
      rcases ho with ⟨e, _⟩ | ⟨b, e, hb1, ob⟩
      · rw [e] at h0; exact absurd rfl h0
      · have hbl := ob.lt
        exact .inr ⟨b, e, hb1, (ob.ext x13 (fun h => h)).ext x7 (by omega)⟩
  have n3 : (mode == 3) = false := beq_eq_false_iff_ne.2 m3
  have m2 : mode = 2 := by omega
  have hl2 := hl m2
  simp (disch := omega) only [cO, gY, aF, dO, fB, fL, fX, fW, fY, gF, iP, gK, eD, fT, gC, fR, fQ, eY, gH, fJ, fZ, gI, gO, gD, eP, gP, gG, gB, lE, lC, lL, lJ, lK, lV, lU, lW, lT, cX, Result.ok.injEq, Next.value.injEq, true_and, and_true, eL, fU, gL, gN, gM, iK, Int.toNat_natCast, fK, fD, fM, eZ, dZ, dV, eU, eC, dA, cQ, if_true, if_false, Bool.false_eq_true, Nat.zero_add, Option.isNone_some, Option.isNone_none, Bool.not_true, Bool.not_false, List.getElem?_cons_succ, List.getElem?_cons_zero, cS, aZ, bU, bV, bT, bC, eA, dG, dH, dC, aW, eI, bR, aJ, dF, dI, dJ, dD, bL, bN, cB, bA, cF, cG, bF, cJ, cL, cZ, cK, cD, cH, cC, dR, bW, cU, dT, bS, cV, aY, cI, dQ, bH, aO, aI, aP, aK, aM, aT, aE, cM, bG, cY, bP, bY, cP, aQ, aV, aU, aX, aR, aD, aB, aC, dB, aH, aG, bM, bB, bK, dE, bE, bZ, bD, bQ, bO, aL, dS, aS, dM, dL, aN, bX, cA, dN, eS, d1, d2, d3, n1, n2, n3]
  refine (Pp a _).mono ?_
  rintro r w4 ⟨rfl, hw⟩
  rw [hw]
  clear hw w4
  have e1 : nB a + 1 = ((nB a + 1).toNat : Int) := by omega
  rw [e1]
  refine (Vh (hb.ext x13 (iQ _)) hl2 (by omega)).mono ?_
  rintro r w4 ⟨hr, x4⟩
  have z4 := x4.size
  have hsym : (nB a + 1).toNat ≤ 61 := by omega
  have hE0 : kU a mode l T = match sV (iC l) (xE a) (nB a + 1).toNat with
    | .error e => .error e
    | .ok (lg, ps, u) => .ok ((lg, mD lg ps), u) := by unfold kU; rw [if_neg hno, if_neg m0, if_neg m1, if_neg m3]
  cases hrl : sV (iC l) (xE a) (nB a + 1).toNat with
  | error e =>
    rw [hrl] at hr hE0
    have hr : r = _ := hr
    subst hr
    have he := S0 hrl
    have n4 : (e != 0) = true := by simpa using he
    have hE : kU a mode l T = .error e := hE0
    simp (disch := omega) only [cO, gY, aF, dO, fB, fL, fX, fW, fY, gF, iP, gK, eD, fT, gC, fR, fQ, eY, gH, fJ, fZ, gI, gO, gD, eP, gP, gG, gB, lE, lC, lL, lJ, lK, lV, lU, lW, lT, cX, Result.ok.injEq, Next.value.injEq, true_and, and_true, eL, fU, gL, gN, gM, iK, Int.toNat_natCast, fK, fD, fM, eZ, dZ, dV, eU, eC, dA, cQ, if_true, if_false, Bool.false_eq_true, Nat.zero_add, Option.isNone_some, Option.isNone_none, Bool.not_true, Bool.not_false, List.getElem?_cons_succ, List.getElem?_cons_zero, cS, aZ, bU, bV, bT, bC, eA, dG, dH, dC, aW, eI, bR, aJ, dF, dI, dJ, dD, bL, bN, cB, bA, cF, cG, bF, cJ, cL, cZ, cK, cD, cH, cC, dR, bW, cU, dT, bS, cV, aY, cI, dQ, bH, aO, aI, aP, aK, aM, aT, aE, cM, bG, cY, bP, bY, cP, aQ, aV, aU, aX, aR, aD, aB, aC, dB, aH, aG, bM, bB, bK, dE, bE, bZ, bD, bQ, bO, aL, dS, aS, dM, dL, aN, bX, cA, dN, eS]
    refine kZ fun w5 o5 x5 s5 => ?_
    refine jF o5 rfl (by simp [one]) (by simp) fun w6 o6 x6 s6 => ?_
    simp (disch := omega) only [cO, gY, aF, dO, fB, fL, fX, fW, fY, gF, iP, gK, eD, fT, gC, fR, fQ, eY, gH, fJ, fZ, gI, gO, gD, eP, gP, gG, gB, lE, lC, lL, lJ, lK, lV, lU, lW, lT, cX, Result.ok.injEq, Next.value.injEq, true_and, and_true, eL, fU, gL, gN, gM, iK, Int.toNat_natCast, fK, fD, fM, eZ, dZ, dV, eU, eC, dA, cQ, if_true, if_false, Bool.false_eq_true, Nat.zero_add, Option.isNone_some, Option.isNone_none, Bool.not_true, Bool.not_false, List.getElem?_cons_succ, List.getElem?_cons_zero, cS, aZ, bU, bV, bT, bC, eA, dG, dH, dC, aW, eI, bR, aJ, dF, dI, dJ, dD, bL, bN, cB, bA, cF, cG, bF, cJ, cL, cZ, cK, cD, cH, cC, dR, bW, cU, dT, bS, cV, aY, cI, dQ, bH, aO, aI, aP, aK, aM, aT, aE, cM, bG, cY, bP, bY, cP, aQ, aV, aU, aX, aR, aD, aB, aC, dB, aH, aG, bM, bB, bK, dE, bE, bZ, bD, bQ, bO, aL, dS, aS, dM, dL, aN, bX, cA, dN, eS, n4]
    have x46 : gS w3 w6 jR := x4.seq (x5.new x6 (Nat.le_refl _))
    exact DU (o2.ext x46 (fun h => h)) (x13.seq x46) (by omega) fun w' x _ => err hE x
  | ok y =>
    obtain ⟨lg, ps, u⟩ := y
    rw [hrl] at hr hE0
    obtain ⟨v, rfl, hv⟩ := hr
    obtain ⟨hmay, hlg, hpl⟩ := Uc hrl
    have hm := hmay (by omega)
    have hE : kU a mode l T = .ok ((lg, mD lg ps), u) := hE0
    obtain ⟨va, vc, rfl⟩ := hv.len
    have hs := hv.sl
    have n4 : ((0 : Int) != 0) = false := rfl
    simp (disch := omega) only [cO, gY, aF, dO, fB, fL, fX, fW, fY, gF, iP, gK, eD, fT, gC, fR, fQ, eY, gH, fJ, fZ, gI, gO, gD, eP, gP, gG, gB, lE, lC, lL, lJ, lK, lV, lU, lW, lT, cX, Result.ok.injEq, Next.value.injEq, true_and, and_true, eL, fU, gL, gN, gM, iK, Int.toNat_natCast, fK, fD, fM, eZ, dZ, dV, eU, eC, dA, cQ, if_true, if_false, Bool.false_eq_true, Nat.zero_add, Option.isNone_some, Option.isNone_none, Bool.not_true, Bool.not_false, List.getElem?_cons_succ, List.getElem?_cons_zero, cS, aZ, bU, bV, bT, bC, eA, dG, dH, dC, aW, eI, bR, aJ, dF, dI, dJ, dD, bL, bN, cB, bA, cF, cG, bF, cJ, cL, cZ, cK, cD, cH, cC, dR, bW, cU, dT, bS, cV, aY, cI, dQ, bH, aO, aI, aP, aK, aM, aT, aE, cM, bG, cY, bP, bY, cP, aQ, aV, aU, aX, aR, aD, aB, aC, dB, aH, aG, bM, bB, bK, dE, bE, bZ, bD, bQ, bO, aL, dS, aS, dM, dL, aN, bX, cA, dN, eS]
    refine kZ fun w5 o5 x5 s5 => ?_
    refine jF o5 rfl (by simp [one]) (by simp) fun w6 o6 x6 s6 => ?_
    have l1 := kC (off := 0) o6 (by simp [fV])
    simp only [fV, List.set_cons_zero, List.set_cons_succ, List.drop_zero, List.take_succ_cons, List.take_zero] at l1
    have x46 : gS w4 w6 jR := x5.new x6 (Nat.le_refl _)
    have z6 := x46.size
    simp (disch := omega) only [cO, gY, aF, dO, fB, fL, fX, fW, fY, gF, iP, gK, eD, fT, gC, fR, fQ, eY, gH, fJ, fZ, gI, gO, gD, eP, gP, gG, gB, lE, lC, lL, lJ, lK, lV, lU, lW, lT, cX, Result.ok.injEq, Next.value.injEq, true_and, and_true, eL, fU, gL, gN, gM, iK, Int.toNat_natCast, fK, fD, fM, eZ, dZ, dV, eU, eC, dA, cQ, if_true, if_false, Bool.false_eq_true, Nat.zero_add, Option.isNone_some, Option.isNone_none, Bool.not_true, Bool.not_false, List.getElem?_cons_succ, List.getElem?_cons_zero, cS, aZ, bU, bV, bT, bC, eA, dG, dH, dC, aW, eI, bR, aJ, dF, dI, dJ, dD, bL, bN, cB, bA, cF, cG, bF, cJ, cL, cZ, cK, cD, cH, cC, dR, bW, cU, dT, bS, cV, aY, cI, dQ, bH, aO, aI, aP, aK, aM, aT, aE, cM, bG, cY, bP, bY, cP, aQ, aV, aU, aX, aR, aD, aB, aC, dB, aH, aG, bM, bB, bK, dE, bE, bZ, bD, bQ, bO, aL, dS, aS, dM, dL, aN, bX, cA, dN, eS, n4, l1]
    refine (RJ hm (hs.ext x46 (iQ _))).mono ?_
    rintro r w7 ⟨b, t, rfl, ⟨rfl, hb1, ob⟩, x7⟩
    have z7 := x7.size
    have hbl := ob.lt
    simp (disch := omega) only [cO, gY, aF, dO, fB, fL, fX, fW, fY, gF, iP, gK, eD, fT, gC, fR, fQ, eY, gH, fJ, fZ, gI, gO, gD, eP, gP, gG, gB, lE, lC, lL, lJ, lK, lV, lU, lW, lT, cX, Result.ok.injEq, Next.value.injEq, true_and, and_true, eL, fU, gL, gN, gM, iK, Int.toNat_natCast, fK, fD, fM, eZ, dZ, dV, eU, eC, dA, cQ, if_true, if_false, Bool.false_eq_true, Nat.zero_add, Option.isNone_some, Option.isNone_none, Bool.not_true, Bool.not_false, List.getElem?_cons_succ, List.getElem?_cons_zero, cS, aZ, bU, bV, bT, bC, eA, dG, dH, dC, aW, eI, bR, aJ, dF, dI, dJ, dD, bL, bN, cB, bA, cF, cG, bF, cJ, cL, cZ, cK, cD, cH, cC, dR, bW, cU, dT, bS, cV, aY, cI, dQ, bH, aO, aI, aP, aK, aM, aT, aE, cM, bG, cY, bP, bY, cP, aQ, aV, aU, aX, aR, aD, aB, aC, dB, aH, aG, bM, bB, bK, dE, bE, bZ, bD, bQ, bO, aL, dS, aS, dM, dL, aN, bX, cA, dN, eS]
    refine kR fun w8 o8 x8 s8 => ?_
    refine jM o8 rfl (by simp [one]) (by simp) fun w9 o9 x9 s9 => ?_
    have l2 := nZ (off := 0) o9 (by simp [fV])
    simp only [fV, List.set_cons_zero, List.set_cons_succ, List.drop_zero, List.take_succ_cons, List.take_zero] at l2
    simp (disch := omega) only [cO, gY, aF, dO, fB, fL, fX, fW, fY, gF, iP, gK, eD, fT, gC, fR, fQ, eY, gH, fJ, fZ, gI, gO, gD, eP, gP, gG, gB, lE, lC, lL, lJ, lK, lV, lU, lW, lT, cX, Result.ok.injEq, Next.value.injEq, true_and, and_true, eL, fU, gL, gN, gM, iK, Int.toNat_natCast, fK, fD, fM, eZ, dZ, dV, eU, eC, dA, cQ, if_true, if_false, Bool.false_eq_true, Nat.zero_add, Option.isNone_some, Option.isNone_none, Bool.not_true, Bool.not_false, List.getElem?_cons_succ, List.getElem?_cons_zero, cS, aZ, bU, bV, bT, bC, eA, dG, dH, dC, aW, eI, bR, aJ, dF, dI, dJ, dD, bL, bN, cB, bA, cF, cG, bF, cJ, cL, cZ, cK, cD, cH, cC, dR, bW, cU, dT, bS, cV, aY, cI, dQ, bH, aO, aI, aP, aK, aM, aT, aE, cM, bG, cY, bP, bY, cP, aQ, aV, aU, aX, aR, aD, aB, aC, dB, aH, aG, bM, bB, bK, dE, bE, bZ, bD, bQ, bO, aL, dS, aS, dM, dL, aN, bX, cA, dN, eS, n4, l2]
    have x49 : gS w3 w9 jR := ((x4.seq x46).seq x7).seq (x8.new x9 (Nat.le_refl _))
    refine DU (o2.ext x49 (fun h => h)) (x13.seq x49) (by omega) fun w' x x10 => good hE (.inr ⟨b, rfl, by omega, ?_⟩) x
    exact ((ob.ext x8 (fun h => h)).ext x9 (by omega)).ext x10 (by omega)
end Go.Proofs.YtoepfjgekpdddaaDoor
namespace Go.Pu
set_option linter.unusedVariables false
theorem Vd {B : Nat} : ∀ {l : List Nat}, (∀ n ∈ l, n ≤ B) → l.sum ≤ l.length * B
  | [], _ => by simp
  | n :: l, h => by
    have h1 := h n (List.mem_cons_self ..)
    have h2 := Vd (l := l) fun m hm => h m (List.mem_cons_of_mem _ hm)
    rw [List.sum_cons, List.length_cons, Nat.succ_mul]; omega
theorem TH {n : Nat} : ∀ {l : List Nat}, n ∈ l → n ≤ l.sum
  | [], h => by cases h
  | m :: l, h => by
    rw [List.sum_cons]
    rcases List.mem_cons.1 h with rfl | h
    · omega
    · have := TH h; omega
def oL (R S n : Nat) : Nat := if n = 0 then 0 else 1 + n * R / S
def pJ (R S n : Nat) : Nat := n * R / S
def kY (n : Nat) : Bool := decide (0 < n)
def Hp (ns : List Nat) (i last : Nat) : Prop := (last = 0 ∧ ∀ j, j < i → ns.getD j 0 = 0) ∨ (last < i ∧ 0 < ns.getD last 0 ∧ ∀ j, last < j → j < i → ns.getD j 0 = 0)
theorem Hp.step {ns : List Nat} {i last : Nat} (h : Hp ns i last) : Hp ns (i + 1) (if 0 < ns.getD i 0 then i else last) := by
  split
  · rename_i h0
    exact .inr ⟨by omega, h0, fun j h1 h2 => by omega⟩
  · rename_i h0
    rcases h with ⟨rfl, h⟩ | ⟨h1, h2, h3⟩
    · refine .inl ⟨rfl, fun j hj => ?_⟩
      rcases Nat.lt_or_ge j i with h' | h'
      · exact h j h'
      · have : j = i := by omega
        subst this; omega
    · refine .inr ⟨by omega, h2, fun j hj hj2 => ?_⟩
      rcases Nat.lt_or_ge j i with h' | h'
      · exact h3 j hj h'
      · have : j = i := by omega
        subst this; omega
theorem Hp.one {ns : List Nat} {i a b : Nat} (ha : Hp ns i a) (hb : Hp ns i b) : a = b := by
  rcases ha with ⟨rfl, h⟩ | ⟨h1, h2, h3⟩
  · rcases hb with ⟨rfl, _⟩ | ⟨k1, k2, _⟩
    · rfl
    · have := h b k1; omega
  · rcases hb with ⟨rfl, k⟩ | ⟨k1, k2, k3⟩
    · have := k a h1; omega
    · rcases Nat.lt_trichotomy a b with h | h | h
      · have := h3 b h k1; omega
      · exact h
      · have := k3 a h h1; omega
theorem nD {ns : List Nat} {i : Nat} (h : i < ns.length) : ns.getD i 0 = ns[i] := by rw [List.getD_eq_getElem?_getD, List.getElem?_eq_getElem h] <;> rfl
theorem Wi {α : Type} {ns : List α} {i : Nat} (h : i < ns.length) : ns.take (i + 1) = ns.take i ++ [ns[i]] := by
  rw [List.take_add_one, List.getElem?_eq_getElem h] <;> rfl
theorem GV {ns : List Nat} {i : Nat} (h : i < ns.length) : ns.take (i + 1) = ns.take i ++ [ns.getD i 0] := by rw [Wi h, nD h]
theorem To : ∀ {l : List Nat}, (∀ n ∈ l, n = 0) → l.sum = 0
  | [], _ => rfl
  | n :: l, h => by rw [List.sum_cons, h n (List.mem_cons_self ..), To fun m hm => h m (List.mem_cons_of_mem _ hm)]
theorem wT : ∀ {l : List Nat}, (∀ n ∈ l, n = 0) → l.countP kY = 0
  | [], _ => rfl
  | n :: l, h => by
    rw [List.countP_cons, h n (List.mem_cons_self ..), wT fun m hm => h m (List.mem_cons_of_mem _ hm)] <;> rfl
theorem U5 (a b S : Nat) : a / S + b / S ≤ (a + b) / S := by
  rcases Nat.eq_zero_or_pos S with h | h
  · subst h; simp
  · rw [Nat.le_div_iff_mul_le h, Nat.add_mul]
    have := Nat.div_mul_le_self a S
    have := Nat.div_mul_le_self b S
    omega
theorem Uh (R S : Nat) : ∀ l : List Nat, (l.map (pJ R S)).sum ≤ l.sum * R / S
  | [] => by simp
  | n :: l => by
    rw [List.map_cons, List.sum_cons, List.sum_cons, Nat.add_mul]
    have := Uh R S l
    have h2 := U5 (n * R) (l.sum * R) S
    unfold pJ at *
    omega
theorem QH {R S : Nat} {l : List Nat} (h : l.sum ≤ S) (hS : 0 < S) : (l.map (pJ R S)).sum ≤ R := by
  have h1 := Uh R S l
  have h2 : l.sum * R / S ≤ S * R / S := Nat.div_le_div_right (Nat.mul_le_mul_right _ h)
  rw [Nat.mul_div_cancel_left _ hS] at h2
  omega
theorem UM (R S : Nat) : ∀ l : List Nat, (l.map (oL R S)).sum = l.countP kY + (l.map (pJ R S)).sum
  | [] => by simp
  | n :: l => by
    rw [List.map_cons, List.sum_cons, List.map_cons, List.sum_cons, List.countP_cons, UM R S l]
    by_cases h : n = 0
    · subst h
      simp [oL, pJ, kY]
    · have : kY n = true := by unfold kY; simpa using (by omega : 0 < n)
      rw [this]
      simp only [oL, pJ, if_neg h, if_true]
      omega
theorem V8 : ∀ {l : List Nat} {i : Nat} (y : Nat) (h : i < l.length), (l.set i (l[i] + y)).sum = l.sum + y
  | [], i, y, h => by simp at h
  | n :: l, 0, y, h => by simp only [List.set_cons_zero, List.getElem_cons_zero, List.sum_cons]; omega
  | n :: l, i + 1, y, h => by
    simp only [List.set_cons_succ, List.getElem_cons_succ, List.sum_cons]
    rw [V8 y (by simpa using h)]; omega
theorem Up : ∀ l : List Nat, pB (l.map fun (n : Nat) => (n : Int)) = (l.sum : Nat)
  | [] => rfl
  | n :: l => by
    rw [List.map_cons, rK, Up l, List.sum_cons]
    have : iA (n : Int) = n := by unfold iA; rw [if_neg (by omega)]
    rw [this]; simp
theorem Xe {P : List Nat} {gr i : Nat} (x : Nat) (hg : gr < P.length) (hi : i < P.length) : (P.set gr x).getD i 0 = if i = gr then x else P.getD i 0 := by
  rw [List.getD_eq_getElem?_getD, List.getD_eq_getElem?_getD, List.getElem?_set]
  by_cases h : i = gr
  · subst h; simp [hi]
  · rw [if_neg (fun e => h e.symm), if_neg h]
def wE (log there S last gr left : Nat) (ns : List Nat) : List Nat :=
  ((ns.take (last + 1)).map (oL (2 ^ log - there) S)).set gr (((ns.take (last + 1)).map (oL (2 ^ log - there) S)).getD gr 0 + left)
theorem Zu {log there last gr left : Nat} {ns : List Nat} (h5 : 5 ≤ log) (h15 : log ≤ 15) (hlen : ns.length ≤ 256) (hth : there = ns.countP kY) (h2 : 2 ≤ there) (h3 : there ≤ 2 ^ log) (hl : Hp ns ns.length last) (hgr : gr ≤ last) (hgr2 : 0 < ns.getD gr 0)
    (hleft : left + ((ns.take (last + 1)).map (pJ (2 ^ log - there) ns.sum)).sum = 2 ^ log - there) :
    Jo log ((wE log there ns.sum last gr left ns).map fun (n : Nat) => (n : Int)) ∧ (wE log there ns.sum last gr left ns).length = last + 1 ∧ last < ns.length ∧ ∀ i, i < last + 1 → (0 < (wE log there ns.sum last gr left ns).getD i 0 ↔ 0 < ns.getD i 0) := by
  have hlast : last < ns.length ∧ 0 < ns.getD last 0 ∧ ∀ j, last < j → j < ns.length → ns.getD j 0 = 0 := by
    rcases hl with ⟨rfl, h⟩ | h
    · exfalso
      have : ns.countP kY = 0 := wT fun n hn => by
        obtain ⟨i, hi, rfl⟩ := List.getElem_of_mem hn
        rw [← nD hi]; exact h i hi
      omega
    · exact h
  obtain ⟨l1, l2, l3⟩ := hlast
  have hz : ∀ n ∈ ns.drop (last + 1), n = 0 := fun n hn => by
    obtain ⟨i, hi, rfl⟩ := List.getElem_of_mem hn
    rw [List.length_drop] at hi
    rw [List.getElem_drop, ← nD (by omega)]
    exact l3 _ (by omega) (by omega)
  have hcnt : (ns.take (last + 1)).countP kY = there := by
    have : ns.countP kY = (ns.take (last + 1) ++ ns.drop (last + 1)).countP kY := by rw [List.take_append_drop]
    rw [List.countP_append, wT hz] at this
    omega
  have hpl : ((ns.take (last + 1)).map (oL (2 ^ log - there) ns.sum)).length = last + 1 := by rw [List.length_map, List.length_take]; omega
  have hpart : ∀ i, i < last + 1 → ((ns.take (last + 1)).map (oL (2 ^ log - there) ns.sum)).getD i 0 = oL (2 ^ log - there) ns.sum (ns.getD i 0) := fun i hi => by
    rw [nD (by omega), List.getElem_map, List.getElem_take, nD (by omega)]
  have hsum := UM (2 ^ log - there) ns.sum (ns.take (last + 1))
  rw [hcnt] at hsum
  have hl' : (wE log there ns.sum last gr left ns).length = last + 1 := by unfold wE; rw [List.length_set, hpl]
  have hon : ∀ n, 0 < oL (2 ^ log - there) ns.sum n ↔ 0 < n := fun n => by
    unfold oL
    split
    · omega
    · generalize n * (2 ^ log - there) / ns.sum = q
      constructor <;> intro <;> omega
  have hget : ∀ i, i < last + 1 → (wE log there ns.sum last gr left ns).getD i 0 = if i = gr then oL (2 ^ log - there) ns.sum (ns.getD gr 0) + left else oL (2 ^ log - there) ns.sum (ns.getD i 0) := fun i hi => by
    unfold wE
    rw [Xe _ (by omega) (by omega), hpart gr (by omega), hpart i hi]
  have hiff : ∀ i, i < last + 1 → (0 < (wE log there ns.sum last gr left ns).getD i 0 ↔ 0 < ns.getD i 0) := fun i hi => by
    rw [hget i hi]
    split
    · rename_i h
      subst h
      have := (hon (ns.getD i 0)).2 hgr2
      constructor <;> intro <;> omega
    · exact hon _
  refine ⟨⟨h5, h15, by rw [List.length_map, hl']; omega, by rw [List.length_map, hl']; omega, ?_, ?_, ?_⟩, hl', l1, hiff⟩
  · intro h
    rw [List.getLast?_eq_getElem?, List.length_map, hl', List.getElem?_map, Nat.add_sub_cancel] at h
    have h1 := (hiff last (by omega)).2 l2
    rw [nD (by omega)] at h1
    rw [List.getElem?_eq_getElem (by omega)] at h
    have h2 := Option.some.inj h
    simp only at h2
    omega
  · intro p hp
    obtain ⟨n, _, rfl⟩ := List.mem_map.1 hp
    omega
  · rw [Up]
    have : (wE log there ns.sum last gr left ns).sum = 2 ^ log := by
      unfold wE
      rw [nD (show gr < ((ns.take (last + 1)).map (oL (2 ^ log - there) ns.sum)).length by omega), V8 _ (by omega), hsum]
      omega
    rw [this]; simp
end Go.Pu
namespace Go.Pu
set_option linter.unusedVariables false
def Ej (S : List Int) : List Nat := (List.range 256).map fun (s : Nat) => S.count (s : Int)
theorem oI (S : List Int) : (Ej S).length = 256 := by simp [Ej]
theorem IJ {S : List Int} {s : Nat} (h : s < 256) : (Ej S).getD s 0 = S.count (s : Int) := by
  rw [nD (by rw [oI]; exact h)]; simp [Ej]
theorem TW : Ej [] = List.replicate 256 0 := by
  unfold Ej
  apply List.ext_getElem
  · rw [List.length_map, List.length_range, List.length_replicate]
  · intro i h1 h2
    simp only [List.getElem_map, List.getElem_range, List.count_nil, List.getElem_replicate]
theorem UD {S : List Int} {c : Nat} (h : c < 256) : Ej (S ++ [(c : Int)]) = (Ej S).set c (S.count (c : Int) + 1) := by
  apply List.ext_getElem
  · simp [Ej]
  · intro j h1 h2
    have hj : j < 256 := by simpa [Ej] using h1
    rw [List.getElem_set]
    simp only [Ej, List.getElem_map, List.getElem_range, List.count_append, List.count_singleton]
    by_cases hij : c = j
    · subst hij; simp
    · have : ((c : Int) == (j : Int)) = false := by simp; omega
      rw [if_neg hij, this]; simp
theorem Lo : ∀ {l : List Nat} {i x : Nat} (h : i < l.length) (hx : 0 < x), (l.set i x).countP kY = l.countP kY + if l.getD i 0 = 0 then 1 else 0
  | n :: l, 0, x, h, hx => by
    have e1 : kY x = true := by unfold kY; simp; omega
    rw [List.set_cons_zero, List.countP_cons, List.countP_cons, e1]
    simp only [List.getD_cons_zero]
    by_cases hn : n = 0
    · subst hn; simp [kY]
    · have e2 : kY n = true := by unfold kY; simp; omega
      rw [e2, if_neg hn]; simp
  | n :: l, i + 1, x, h, hx => by
    have := Lo (l := l) (i := i) (Nat.lt_of_succ_lt_succ h) hx
    rw [List.set_cons_succ, List.countP_cons, List.countP_cons, this, List.getD_cons_succ]
    omega
def Tu (S : List Int) : Int := S.foldl max 0
theorem XY (S : List Int) (c : Int) : Tu (S ++ [c]) = max (Tu S) c := by unfold Tu; rw [List.foldl_append] <;> rfl
theorem Zz {S : List Int} {n : Int} : ∀ {a : Int}, a ≤ n → (∀ x ∈ S, x ≤ n) → a ≤ S.foldl max a ∧ S.foldl max a ≤ n ∧ ∀ x ∈ S, x ≤ S.foldl max a := by
  induction S with
  | nil => intro a h _; exact ⟨by simp, by simpa using h, by simp⟩
  | cons y S ih =>
    intro a h hx
    have hy := hx y (List.mem_cons_self ..)
    obtain ⟨h1, h2, h3⟩ := ih (a := max a y) (by omega) (fun x h => hx x (List.mem_cons_of_mem _ h))
    rw [List.foldl_cons]
    refine ⟨by omega, h2, fun x hx' => ?_⟩
    rcases List.mem_cons.1 hx' with rfl | hx'
    · omega
    · exact h3 x hx'
theorem Qa {S : List Int} {x : Int} (h : x ∈ S) : 0 < S.count x := List.count_pos_iff.2 h
theorem V5 {S : List Int} {n : Nat} (hn : n < 256) (h : ∀ x ∈ S, 0 ≤ x ∧ x ≤ n) :
    ∃ g : Nat, Tu S = g ∧ g ≤ n ∧ ((Ej S).take (g + 1)).length = g + 1 ∧ (∀ s, s ≤ g → ((Ej S).take (g + 1)).getD s 0 = S.count (s : Int)) ∧ (∀ x ∈ S, x ≤ g) ∧
      ((Ej S).take (g + 1)).countP kY = (Ej S).countP kY := by
  obtain ⟨h1, h2, h3⟩ := Zz (S := S) (n := n) (a := 0) (by omega) (fun x hx => (h x hx).2)
  have h1 : 0 ≤ Tu S := h1
  have h2 : Tu S ≤ n := h2
  have h3 : ∀ x ∈ S, x ≤ Tu S := h3
  obtain ⟨g, hg⟩ : ∃ g : Nat, Tu S = g := ⟨(Tu S).toNat, by omega⟩
  rw [hg] at h2 h3
  refine ⟨g, hg, by omega, by rw [List.length_take, oI]; omega, fun s hs => ?_, h3, ?_⟩
  · rw [List.getD_eq_getElem?_getD, List.getElem?_take_of_lt (by omega), ← List.getD_eq_getElem?_getD, IJ (by omega)]
  · have : (Ej S).countP kY = ((Ej S).take (g + 1) ++ (Ej S).drop (g + 1)).countP kY := by rw [List.take_append_drop]
    rw [this, List.countP_append]
    have hz : ((Ej S).drop (g + 1)).countP kY = 0 := wT fun x hx => ?_
    · omega
    obtain ⟨i, hi, rfl⟩ := List.getElem_of_mem hx
    rw [List.length_drop, oI] at hi
    rw [List.getElem_drop]
    simp only [Ej, List.getElem_map, List.getElem_range]
    exact List.count_eq_zero.2 fun hm => by have := h3 _ hm; omega
theorem YB {S : List Int} (h : ∀ x ∈ S, 0 ≤ x ∧ x ≤ 255) (hne : S ≠ []) : 0 < (Ej S).countP kY := by
  obtain ⟨x, hx⟩ := List.exists_mem_of_ne_nil _ hne
  obtain ⟨h0, h1⟩ := h x hx
  rw [List.countP_pos_iff]
  obtain ⟨c, rfl⟩ : ∃ c : Nat, x = c := ⟨x.toNat, by omega⟩
  refine ⟨(Ej S).getD c 0, ?_, ?_⟩
  · rw [nD (by rw [oI]; omega)]; exact List.getElem_mem _
  · rw [IJ (by omega)]; unfold kY; simpa using hx
theorem Tr : ∀ {l : List Nat} {i j : Nat}, i < j → 0 < l.getD i 0 → 0 < l.getD j 0 → 2 ≤ l.countP kY
  | [], i, j, _, h, _ => by simp at h
  | n :: l, 0, j + 1, _, h1, h2 => by
    rw [List.getD_cons_zero] at h1
    rw [List.getD_cons_succ] at h2
    have e1 : kY n = true := by unfold kY; simp; omega
    have hj : j < l.length := by
      rcases Nat.lt_or_ge j l.length with h | h
      · exact h
      · rw [List.getD_eq_getElem?_getD, List.getElem?_eq_none h] at h2; simp at h2
    have : 0 < l.countP kY := by
      rw [List.countP_pos_iff]
      refine ⟨l[j], List.getElem_mem _, ?_⟩
      rw [nD hj] at h2
      unfold kY; simpa using h2
    rw [List.countP_cons, if_pos e1]; omega
  | n :: l, i + 1, j + 1, h, h1, h2 => by
    rw [List.getD_cons_succ] at h1 h2
    have := Tr (l := l) (by omega) h1 h2
    rw [List.countP_cons]; omega
theorem Yy {S : List Int} (h : ∀ x ∈ S, 0 ≤ x ∧ x ≤ 255) (h1 : (Ej S).countP kY = 1) : ∀ x ∈ S, ∀ y ∈ S, x = y := by
  intro x hx y hy
  obtain ⟨a, rfl⟩ : ∃ c : Nat, x = c := ⟨x.toNat, by have := h x hx; omega⟩
  obtain ⟨b, rfl⟩ : ∃ c : Nat, y = c := ⟨y.toNat, by have := h y hy; omega⟩
  have ha := h _ hx
  have hb := h _ hy
  have c1 : 0 < (Ej S).getD a 0 := by rw [IJ (by omega)]; exact Qa hx
  have c2 : 0 < (Ej S).getD b 0 := by rw [IJ (by omega)]; exact Qa hy
  rcases Nat.lt_trichotomy a b with h | h | h
  · have := Tr h c1 c2; omega
  · rw [h]
  · have := Tr h c2 c1; omega
theorem We {S : List Int} {c : Nat} (hc : c < 256) (h : ∀ x ∈ S, x = (c : Int)) (hne : S ≠ []) : (Ej S).countP kY = 1 := by
  have e : Ej S = (List.replicate 256 0).set c S.length := by
    apply List.ext_getElem
    · rw [oI, List.length_set, List.length_replicate]
    · intro j h1 h2
      have hj : j < 256 := by rw [oI] at h1; exact h1
      rw [List.getElem_set, List.getElem_replicate]
      simp only [Ej, List.getElem_map, List.getElem_range]
      by_cases hij : c = j
      · subst hij
        rw [if_pos rfl, List.count_eq_length]
        intro b hb; exact (h b hb).symm
      · rw [if_neg hij]
        exact List.count_eq_zero.2 fun hm => by have := h _ hm; omega
  have hl : 0 < S.length := List.length_pos_iff.2 hne
  rw [e, Lo (by rw [List.length_replicate]; exact hc) hl]
  rw [wT (l := List.replicate 256 0) (fun n hn => List.eq_of_mem_replicate hn)]
  rw [List.getD_eq_getElem?_getD, List.getElem?_replicate]
  simp [hc]
theorem Vz (S : List Int) : ∀ n, ((List.range n).map fun (s : Nat) => S.count (s : Int)).sum ≤ S.length := by
  induction S with
  | nil => intro n; rw [To]; · simp
           intro x hx; obtain ⟨i, _, rfl⟩ := List.mem_map.1 hx; simp
  | cons y S ih =>
    intro n
    have key : ∀ m, ((List.range m).map fun (s : Nat) => (y :: S).count (s : Int)).sum = ((List.range m).map fun (s : Nat) => S.count (s : Int)).sum + (if 0 ≤ y ∧ y < m then 1 else 0) := by
      intro m
      induction m with
      | zero => rw [if_neg (by omega)] <;> rfl
      | succ m im =>
        rw [List.range_succ, List.map_append, List.map_append, List.sum_append, List.sum_append, im]
        simp only [List.map_cons, List.map_nil, List.sum_cons, List.sum_nil, List.count_cons]
        by_cases hy : y = (m : Int)
        · subst hy
          have a1 : ¬ (0 ≤ (m : Int) ∧ (m : Int) < (m : Nat)) := by omega
          have a2 : 0 ≤ (m : Int) ∧ (m : Int) < ((m + 1 : Nat) : Int) := by omega
          have a3 : ((m : Int) == (m : Int)) = true := beq_self_eq_true _
          rw [if_neg a1, if_pos a2, if_pos a3]; omega
        · have e1 : ¬ (y == (m : Int)) = true := by rw [beq_eq_false_iff_ne.2 hy]; decide
          rw [if_neg e1]
          by_cases h2 : 0 ≤ y ∧ y < (m : Int)
          · have a2 : 0 ≤ y ∧ y < ((m + 1 : Nat) : Int) := by omega
            rw [if_pos h2, if_pos a2]; omega
          · have a2 : ¬ (0 ≤ y ∧ y < ((m + 1 : Nat) : Int)) := by omega
            rw [if_neg h2, if_neg a2]; omega
    rw [key n, List.length_cons]
    have := ih n
    split <;> omega
theorem TX (S : List Int) (k : Nat) (hk : k ≤ 256) : ((Ej S).take k).sum ≤ S.length := by
  have e : (Ej S).take k = (List.range k).map fun (s : Nat) => S.count (s : Int) := by
    unfold Ej
    rw [← List.map_take, List.take_range]
    congr 2; omega
  rw [e]; exact Vz S k
theorem ZF (S : List Int) : ∀ n ∈ Ej S, n ≤ S.length := by
  intro n hn
  obtain ⟨s, _, rfl⟩ := List.mem_map.1 hn
  exact List.count_le_length
end Go.Pu
namespace Go.Proofs.YtoepfjgekpdddaaDoor
open Go Go.En Go.Pu
set_option maxRecDepth 4000
set_option linter.unusedSimpArgs false
set_option linter.unusedVariables false
def FS (L : List Bool) (v st1 : Nat) : Option (Nat × Nat) := if v = 1 then Ss L (L.length + 1) st1 else some (0, st1)
theorem YP {L : List Bool} {sym f st left : Nat} {ps : List Int} (h0 : left ≠ 0) : LY L sym (f + 1) st left ps = match KW L st left with
    | none => .error 10
    | some (v, st1) => match FS L v st1 with
      | none => .error 10
      | some (k, st2) => if sym < ps.length + 1 + k then .error 11 else LY L sym f st2 (left - (iA ((v : Int) - 1)).toNat) (ps ++ ((v : Int) - 1) :: List.replicate k 0) := by
  rw [Sz, if_neg h0]
  cases KW L st left with
  | none => rfl
  | some x =>
    obtain ⟨v, st1⟩ := x
    simp only
    unfold FS
    by_cases h : v = 1
    · subst h
      rw [if_pos rfl, if_pos rfl]
      have : iA (((1 : Nat) : Int) - 1) = 0 := rfl
      rw [this] <;> rfl
    · rw [if_neg h, if_neg h]
      rfl
theorem O4 {p6 : Nat} {w0 w : World} {e : Int} (o6 : jL w p6 [.int .i64 0, .slice none 0 0]) (hx : gS w0 w jR) (hp : w0.heap.size ≤ p6) {RR : Value → World → Prop}
    (hR : ∀ w', gS w0 w' jR → RR (.tuple #[.agg #[.int .i64 0, .slice none 0 0], .int .i64 0, .int .i64 e]) w') :
    cO pg (fG 65 (.pointer (some ⟨p6, 0, none⟩)) (.agg #[.int .i64 0, .slice none 0 0])) w fun _u w => qB pg 65 (.pointer (some ⟨p6, 0, none⟩)) w fun r0 => RR (.tuple #[r0, .int .i64 0, .int .i64 e]) w := by
  refine kV o6 rfl (by simp [one]) (by simp) fun w6 o6 x6 s6 => ?_
  refine mX o6 (by simp [fV]) ?_
  simp only [fV, List.set_cons_zero, List.set_cons_succ, List.drop_zero, List.take_succ_cons, List.take_zero]
  exact hR _ (hx.new x6 hp)
structure TZ (w : World) (p6 pf pc log st : Nat) (bv : Value) (L : List Bool) (ps : List Int) (v : Value) : Prop where
  o6 : jL w p6 [.int .i64 0, .slice none 0 0]
  of : jL w pf [bv, .int .i64 st]
  oc : jL w pc [.int .i64 log, v]
  os : uE w (pc + 1) 1 v ps.length (ps.map (Value.int .i64))
  bl : Bl w bv L
  at' : ZT bv 0 pf
  h6 : p6 < pf
  hf : pf < pc
theorem TZ.ext {w w' : World} {p6 pf pc log st : Nat} {bv : Value} {L : List Bool} {ps : List Int} {v : Value} (h : TZ w p6 pf pc log st bv L ps v) (hx : gS w w' jR) : TZ w' p6 pf pc log st bv L ps v :=
  ⟨h.o6.ext hx (fun h => h), h.of.ext hx (fun h => h), h.oc.ext hx (fun h => h), h.os.ext hx (fun _ _ h => h), h.bl.ext hx (iQ _), h.at', h.h6, h.hf⟩
theorem TZ.setF {w w' : World} {p6 pf pc log st st' : Nat} {bv : Value} {L : List Bool} {ps : List Int} {v : Value} (h : TZ w p6 pf pc log st bv L ps v) (hx : gS w w' (fun y => y = pf)) (o : jL w' pf [bv, .int .i64 st']) : TZ w' p6 pf pc log st' bv L ps v := by
  have h6 := h.h6
  have hf := h.hf
  exact ⟨h.o6.ext hx (by omega), o, h.oc.ext hx (by omega), h.os.ext hx (fun _ _ h => by omega), h.bl.ext hx (h.at' _ fun b _ hb => by omega), h.at', h.h6, h.hf⟩
theorem Yg {w : World} {p6 pf pc log st : Nat} {bv : Value} {L : List Bool} {ps : List Int} {v : Value} (h : TZ w p6 pf pc log st bv L ps v) (p : Int) (hl : ps.length ≤ 100000000) {K : World → Prop}
    (hK : ∀ w' v', TZ w' p6 pf pc log st bv L (ps ++ [p]) v' → gS w w' (fun y => pc ≤ y) → K w') :
    cO pg (iE 30 1 [(0, .int .i64 p)]) w fun t64 w => cO pg (nA .append #[30, 30] 30 [v, t64]) w fun t65 w => cO pg (fF 65 (.pointer (some ⟨pc, 0, none⟩)) 1) w fun t66 w => cO pg (fG 30 t66 t65) w fun _ w => K w := by
  have lpc := h.oc.lt
  have h6 := h.h6
  have hf := h.hf
  refine Gx (cells := #[.int .i64 p]) (by decide) (by decide) (by kernel_rfl) fun w4 o4 x4 s4 => ?_
  have z4 := x4.size
  refine Gb (m := 1) (news := [.int .i64 p]) (h.os.ext x4 (fun _ _ h => h)) (o4.cl (off := 0) (l := [.int .i64 p]) (n := 1) rfl (fun i hi => by rw [Nat.zero_add])) (by simp [one]) (by omega) (by omega) fun v5 w5 o5 x5 => ?_
  have z5 := x5.size
  obtain ⟨av5, cv5, rfl⟩ := o5.len
  have oc5 := (h.oc.ext x4 (fun h => h)).ext x5 (by omega)
  simp (disch := omega) only [cO, aB, Nat.zero_add, aF]
  refine Pa oc5 rfl (by simp) fun w6 oc6 x6 s6 => ?_
  simp only [List.set_cons_zero, List.set_cons_succ] at oc6
  have ov6 := o5.ext x6 (fun b hb h => by omega)
  have x26 : gS w w6 (fun y => pc ≤ y) := ((x4.mono fun _ _ h => h.elim).seq (x5.mono fun y _ h => by omega)).seq (x6.mono fun y _ h => by omega)
  rw [show (ps.map (Value.int .i64) ++ [Value.int .i64 p]) = (ps ++ [p]).map (Value.int .i64) from by simp, show ps.length + 1 = (ps ++ [p]).length from by simp] at ov6
  rw [show ps.length + 1 = (ps ++ [p]).length from by simp] at oc6
  exact hK w6 _ ⟨h.o6.ext x26 (by omega), h.of.ext x26 (by omega), oc6, ov6, h.bl.ext x26 (h.at' _ fun b _ hb => by omega), h.at', h6, hf⟩ x26
theorem WN {w : World} {p6 pf pc log st sym left : Nat} {bv : Value} {L : List Bool} {ps : List Int} {v : Value} (h : TZ w p6 pf pc log st bv L ps v) {x : Nat} (hx3 : x ≤ 3) (hl : ps.length ≤ 90000000) {kn : Value → Value → Value → Value → Value → Value → World → Prop}
    (hK : ∀ w' v', TZ w' p6 pf pc log st bv L (ps ++ List.replicate x 0) v' → gS w w' (fun y => pc ≤ y) → kn (.int .i64 sym) (.pointer (some ⟨p6, 0, none⟩)) (.pointer (some ⟨pf, 0, none⟩)) (.pointer (some ⟨pc, 0, none⟩)) (.int .i64 left) (.bool (((x : Nat) : Int) == 3)) w') :
    uL kn (.int .i64 sym) (.pointer (some ⟨p6, 0, none⟩)) (.pointer (some ⟨pf, 0, none⟩)) (.int .u64 x) (.pointer (some ⟨pc, 0, none⟩)) (.int .i64 left) w := by
  unfold uL Fb Fx A7 F9
  refine iY.rule (fun m (t : Value) w' => ∃ (i : Nat) (v' : Value), m = x - i ∧ t = .int .i64 i ∧ i ≤ x ∧ TZ w' p6 pf pc log st bv L (ps ++ List.replicate i 0) v' ∧ gS w w' (fun y => pc ≤ y)) x
    ⟨0, v, rfl, rfl, by omega, by simpa using h, gS.refl _ _⟩ ?_
  rintro m t w1 ⟨i, v', rfl, rfl, hi, h1, x1⟩
  unfold AS
  by_cases hlt : i < x
  · have d1 : decide ((i : Int) < (x : Int)) = true := by simp; omega
    have c1 := h1.oc.cell (off := 1)
    simp only [List.getElem?_cons_zero, List.getElem?_cons_succ] at c1
    simp (disch := omega) only [cO, cM, eL, aB, Nat.zero_add, fB, aF, dF, eY, d1, c1, cX, dA]
    refine Yg h1 0 (by simp; omega) fun w2 v2 h2 x2 => ?_
    refine ⟨x - (i + 1), by omega, i + 1, v2, rfl, rfl, by omega, ?_, x1.seq x2⟩
    rw [List.append_assoc, ← List.replicate_succ'] at h2
    exact h2
  · have d1 : decide ((i : Int) < (x : Int)) = false := by simp; omega
    obtain rfl : i = x := by omega
    unfold AP
    simp (disch := omega) only [cO, cM, eL, aB, Nat.zero_add, fB, aF, dF, fR, eY, d1, cQ]
    exact hK _ _ h1 x1
end Go.Proofs.YtoepfjgekpdddaaDoor
namespace Go.Proofs.YtoepfjgekpdddaaDoor
open Go Go.En Go.Pu
set_option maxRecDepth 4000
set_option linter.unusedSimpArgs false
set_option linter.unusedVariables false
theorem Uz {w0 w : World} {p6 pf pc log st sym left x : Nat} {bv : Value} {L : List Bool} {ps : List Int} {v : Value} (h : TZ w p6 pf pc log st bv L ps v) (hl : ps.length ≤ 1000001) (hL : L.length ≤ 8000000) (hst : st ≤ L.length) (hx : gS w0 w jR) (hp : w0.heap.size ≤ p6) (hsym : sym ≤ 1000000)
    {kn : Value → Value → Value → Value → Value → World → Prop} {RR : Value → World → Prop}
    (hE : ∀ w', FS L x st = none → gS w0 w' jR → RR (.tuple #[.agg #[.int .i64 0, .slice none 0 0], .int .i64 0, .int .i64 10]) w')
    (hB : ∀ k st2 w', FS L x st = some (k, st2) → sym < ps.length + k → gS w0 w' jR → RR (.tuple #[.agg #[.int .i64 0, .slice none 0 0], .int .i64 0, .int .i64 11]) w')
    (hK : ∀ k st2 w' v', FS L x st = some (k, st2) → ¬ sym < ps.length + k → TZ w' p6 pf pc log st2 bv L (ps ++ List.replicate k 0) v' → gS w0 w' jR → kn (.int .i64 sym) (.pointer (some ⟨p6, 0, none⟩)) (.pointer (some ⟨pf, 0, none⟩)) (.pointer (some ⟨pc, 0, none⟩)) (.int .i64 left) w') :
    pZ kn RR (.int .i64 sym) (.pointer (some ⟨p6, 0, none⟩)) (.pointer (some ⟨pf, 0, none⟩)) (.pointer (some ⟨pc, 0, none⟩)) (.int .i64 left) (.int .i64 x) w := by
  have h6 := h.h6
  have hf := h.hf
  unfold pZ C9
  simp (disch := omega) only [cO, fR, aF]
  unfold xC Ea DG
  refine iY.rule (fun m (t : Value) w' => ∃ (k0 st' : Nat) (bt : Bool) (v' : Value), t = .bool bt ∧ TZ w' p6 pf pc log st' bv L (ps ++ List.replicate k0 0) v' ∧ gS w0 w' jR ∧ st' ≤ L.length ∧ k0 ≤ 3 * st' ∧
      (bt = true → FS L x st = (match Ss L m st' with | none => none | some (k, s) => some (k0 + k, s)) ∧ L.length < 2 * m + st') ∧ (bt = false → FS L x st = some (k0, st'))) (L.length + 1)
    ⟨0, st, _, v, rfl, by simpa using h, hx, hst, by omega, ?_, ?_⟩ ?_
  · intro hb
    have hx1 : x = 1 := by simp at hb; omega
    subst hx1
    refine ⟨?_, by omega⟩
    unfold FS
    rw [if_pos rfl]
    cases Ss L (L.length + 1) st with
    | none => rfl
    | some y => simp
  · intro hb
    have hx1 : x ≠ 1 := by
      intro h; subst h; simp at hb
    unfold FS
    rw [if_neg hx1]
  rintro m t w1 ⟨k0, st', bt, v', rfl, h1, x1, hst', hk0, ht, hfa⟩
  unfold xR Df
  cases bt with
  | false =>
    have hb := hfa rfl
    obtain ⟨av, cv, hv⟩ := h1.os.len
    have c1 := h1.oc.cell (off := 1)
    subst hv
    simp only [List.getElem?_cons_zero, List.getElem?_cons_succ, List.length_append, List.length_replicate] at c1
    have hlen : ((ps ++ List.replicate k0 0).length : Int) = ((ps.length + k0 : Nat) : Int) := by simp
    unfold Bg
    by_cases hgt : sym < ps.length + k0
    · have d1 : decide ((sym : Int) < ((ps.length + k0 : Nat) : Int)) = true := by simp only [decide_eq_true_eq]; omega
      simp (disch := omega) only [cO, aB, Nat.zero_add, aX, aF, dF, c1, cX, dI, fJ, d1, fD, eP, if_true, dA, dV, cQ]
      exact O4 (RR := RR) (e := 11) h1.o6 x1 hp fun w' h => hB _ _ _ hb hgt h
    · have d1 : decide ((sym : Int) < ((ps.length + k0 : Nat) : Int)) = false := by simp only [decide_eq_false_iff_not]; omega
      have d2 : decide ((left : Int) < 0) = false := by simp
      simp (disch := omega) only [cO, aB, Nat.zero_add, aX, aF, dF, c1, cX, dI, fJ, d1, eZ, eP, Bool.false_eq_true, if_false, dZ, eY, d2, cQ]
      exact hK _ _ _ _ hb hgt h1 x1
  | true =>
    obtain ⟨hb, hm⟩ := ht rfl
    obtain ⟨m, rfl⟩ : ∃ m', m = m' + 1 := ⟨m - 1, by omega⟩
    rw [UG] at hb
    have lf := jJ (off := 0) h1.of (by simp)
    simp only [List.drop_zero, List.take_succ_cons, List.take_zero] at lf
    unfold xM Db D3
    simp (disch := omega) only [cO, lf, aX, aF, dA]
    refine (II (n := 2) h1.bl (by omega) hst' (by omega)).mono ?_
    rintro r w2 ⟨⟨hsh, rfl⟩ | ⟨hsh, rfl⟩, x2⟩
    · have n1 : ((10 : Int) != 0) = true := rfl
      rw [if_pos (by omega)] at hb
      obtain ⟨bn, bc, hbv, _⟩ := RU h1.bl
      simp (disch := omega) only [lL, lJ, lK, aF, fQ]
      refine iB (h1.ext x2).of rfl (by subst hbv; simp [one]) (by simp) fun w3 o3 x3 s3 => ?_
      simp (disch := omega) only [n1, dA]
      exact O4 (RR := RR) (e := 10) ((h1.ext x2).o6.ext x3 (by omega)) ((x1.seq x2).new x3 (by omega)) hp fun w' h => hE _ hb h
    · have n1 : ((0 : Int) != 0) = false := rfl
      rw [if_neg (by omega)] at hb
      obtain ⟨bn, bc, hbv, _⟩ := RU h1.bl
      have hlt := yQ L st' 2
      simp (disch := omega) only [lL, lJ, lK, aF, fQ]
      refine iB (h1.ext x2).of rfl (by subst hbv; simp [one]) (by simp) fun w3 o3 x3 s3 => ?_
      simp only [fV, List.set_cons_zero, List.set_cons_succ] at o3
      have h3 := (h1.ext x2).setF x3 o3
      have x03 : gS w0 w3 jR := (x1.seq x2).new x3 (by omega)
      have z03 := x03.size
      simp (disch := omega) only [n1, cQ]
      refine WN h3 (by omega) (by simp; omega) fun w4 v4 h4 x4 => ?_
      have hpc := h3.hf
      have x04 : gS w0 w4 jR := x03.trans x4 fun b hb h => by omega
      rw [List.append_assoc, List.replicate_append_replicate] at h4
      refine ⟨m, by omega, k0 + lF L st' 2, st' + 2, _, v4, rfl, h4, x04, hsh, by omega, ?_, ?_⟩
      · intro hq
        have h3' : lF L st' 2 = 3 := by simp at hq; omega
        rw [if_neg (by omega)] at hb
        refine ⟨?_, by omega⟩
        rw [hb, h3']
        cases Ss L m (st' + 2) with
        | none => rfl
        | some y =>
          obtain ⟨k, s⟩ := y
          simp; omega
      · intro hq
        have h3' : lF L st' 2 ≠ 3 := by
          intro h; rw [h] at hq; simp at hq
        rw [if_pos (by omega)] at hb
        exact hb
theorem TB {log p6 pf pc sym : Nat} {w0 w : World} {bv v : Value} {L : List Bool} {res : Except Int (List Int × Nat)} (hlp : w0.heap.size ≤ p6) (hl : L.length ≤ 8000000) (hsym : sym ≤ 1000000) (hlog : log ≤ 15)
    (h : TZ w p6 pf pc log 4 bv L [] v) (h4 : 4 ≤ L.length) (hx : gS w0 w jR)
    (hres : LY L sym (L.length + 1) 4 (2 ^ log) [] = res)
    {RR : Value → World → Prop} (hE : ∀ e w', res = .error e → gS w0 w' jR → RR (.tuple #[.agg #[.int .i64 0, .slice none 0 0], .int .i64 0, .int .i64 e]) w')
    (hO : ∀ ps st v w', res = .ok (ps, st) → uE w' w0.heap.size 1 v ps.length (ps.map (Value.int .i64)) → gS w0 w' jR → RR (.tuple #[.agg #[.int .i64 log, v], .int .i64 (((st + 7) / 8 : Nat)), .int .i64 0]) w') :
    sB RR (.int .i64 sym) (.pointer (some ⟨p6, 0, none⟩)) (.pointer (some ⟨pf, 0, none⟩)) (.pointer (some ⟨pc, 0, none⟩)) (.int .i64 (2 ^ log : Nat)) w := by
  have hp15 : 2 ^ log ≤ 2 ^ 15 := Nat.pow_le_pow_right (by omega) hlog
  have h6 := h.h6
  have hf := h.hf
  unfold sB DJ C5
  refine iY.rule (fun m (t : Value) w' => ∃ (st left : Nat) (ps : List Int) (v : Value), t = .int .i64 left ∧ LY L sym m st left ps = res ∧ L.length < m + st ∧ st ≤ L.length ∧ left ≤ 32768 ∧ ps.length ≤ 1000000 ∧
      TZ w' p6 pf pc log st bv L ps v ∧ gS w0 w' jR) (L.length + 1)
    ⟨4, 2 ^ log, [], v, rfl, hres, by omega, h4, by omega, by simp, h, hx⟩ ?_
  rintro m t w1 ⟨st, left, ps, v, rfl, hr, hm, hst, hleft, hpl, h1, x1⟩
  have hx0 := x1.size
  obtain ⟨m, rfl⟩ : ∃ m', m = m' + 1 := ⟨m - 1, by omega⟩
  obtain ⟨bn, bc, hbv, _⟩ := RU h1.bl
  unfold yH Dl
  by_cases h0 : left = 0
  · have d1 : decide ((0 : Int) < (left : Int)) = false := by simp; omega
    rw [Sz, if_pos h0] at hr
    obtain ⟨av, cv, hv⟩ := h1.os.len
    subst hv hbv
    have lc := mG (off := 0) (lA h1.oc) (by simp)
    have lc' := mG (off := 0) h1.oc (by simp)
    have lf := jJ (off := 0) (lA h1.of) (by simp)
    have lf' := jJ (off := 0) h1.of (by simp)
    simp only [List.drop_zero, List.take_succ_cons, List.take_zero] at lc lc' lf lf'
    unfold A4
    simp (disch := omega) only [cO, fJ, d1, gY, and_true, true_and, aF, lc, lf, cQ]
    refine (WD (by omega)).mono ?_
    rintro r w2 ⟨rfl, x2⟩
    have x12 : gS w1 w2 jR := (gS.dr w1 jR).seq x2
    have h2 := h1.ext x12
    have lc2 := mG (off := 0) h2.oc (by simp)
    simp only [List.drop_zero, List.take_succ_cons, List.take_zero] at lc2
    simp (disch := omega) only [lc2, true_and]
    refine kV h2.o6 rfl (by simp [one]) (by simp) fun w6 o6 x6 s6 => ?_
    refine mX o6 (by simp [fV]) ?_
    simp only [fV, List.set_cons_zero, List.set_cons_succ, List.drop_zero, List.take_succ_cons, List.take_zero]
    have ov6 := h2.os.ext x6 (fun b hb h => by omega)
    refine hO ps st _ w6 hr.symm ⟨ov6.1, ?_⟩ ((x1.seq x12).new x6 (by omega))
    rcases ov6.2 with h | ⟨b, c, rest, q1, q2, q3⟩
    · exact .inl h
    · exact .inr ⟨b, c, rest, q1, by omega, q3⟩
  · have d1 : decide ((0 : Int) < (left : Int)) = true := by simp; omega
    rw [YP h0] at hr
    have lf := jJ (off := 0) h1.of (by simp)
    simp only [List.drop_zero, List.take_succ_cons, List.take_zero] at lf
    unfold yT DM Eg
    simp (disch := omega) only [cO, fJ, d1, aX, aF, aB, Nat.zero_add, fL, eL, dF, lf, dA]
    refine (Wl h1.bl hst (by omega) (by omega) hleft).mono ?_
    rintro r w2 ⟨hv2, x2⟩
    have h2 := h1.ext x2
    cases hval : KW L st left with
    | none =>
      rw [hval] at hr hv2
      obtain ⟨st', rfl⟩ := hv2
      have n1 : ((10 : Int) != 0) = true := rfl
      simp (disch := omega) only [lL, lJ, lK, aF, fQ, fL, eL, fR]
      refine iB h2.of rfl (by subst hbv; simp [one]) (by simp) fun w3 o3 x3 s3 => ?_
      simp (disch := omega) only [n1, dA]
      exact O4 (RR := RR) (e := 10) (h2.o6.ext x3 (by omega)) ((x1.seq x2).new x3 (by omega)) hlp fun w' h => hE _ _ hr.symm h
    | some y =>
      obtain ⟨x, st1⟩ := y
      rw [hval] at hr hv2
      simp only at hr
      obtain rfl := hv2
      obtain ⟨b1, b2, b3⟩ := MW hval (by omega)
      have n1 : ((0 : Int) != 0) = false := rfl
      simp (disch := omega) only [lL, lJ, lK, aF, fQ, fL, eL, fR]
      refine iB h2.of rfl (by subst hbv; simp [one]) (by simp) fun w3 o3 x3 s3 => ?_
      simp only [fV, List.set_cons_zero, List.set_cons_succ] at o3
      have h3 := h2.setF x3 o3
      have x03 : gS w0 w3 jR := (x1.seq x2).new x3 (by omega)
      have c3 := h3.oc.cell (off := 1)
      simp only [List.getElem?_cons_zero, List.getElem?_cons_succ] at c3
      simp (disch := omega) only [n1, c3, cX, aF, cQ]
      refine Yg h3 ((x : Int) - 1) (by omega) fun w4 v4 h4 x4 => ?_
      have z03 := x03.size
      have hpc := h3.hf
      have x04 : gS w0 w4 jR := x03.trans x4 fun b hb h => by omega
      have hpn := mJ (p := (x : Int) - 1) (by omega)
      have hfin : ∀ (left' : Nat), left' = left - (iA ((x : Int) - 1)).toNat → pZ (fun _ _ _ _ fA w'' => ∃ m', m' < m + 1 ∧ ∃ (st left : Nat) (ps : List Int) (v : Value), fA = .int .i64 left ∧ LY L sym m' st left ps = res ∧ L.length < m' + st ∧ st ≤ L.length ∧ left ≤ 32768 ∧ ps.length ≤ 1000000 ∧
          TZ w'' p6 pf pc log st bv L ps v ∧ gS w0 w'' jR) RR (.int .i64 sym) (.pointer (some ⟨p6, 0, none⟩)) (.pointer (some ⟨pf, 0, none⟩)) (.pointer (some ⟨pc, 0, none⟩)) (.int .i64 left') (.int .i64 x) w4 := by
        intro left' hl'
        have hlen1 : (ps ++ [(x : Int) - 1]).length = ps.length + 1 := by simp
        refine Uz (left := left') h4 (by omega) hl b2 x04 hlp hsym ?_ ?_ ?_
        · intro w' hbe hx
          rw [hbe] at hr
          exact hE _ _ hr.symm hx
        · intro k st2 w' hbe hgt hx
          rw [hbe] at hr
          simp only at hr
          rw [if_pos (by omega)] at hr
          exact hE _ _ hr.symm hx
        · intro k st2 w' v' hbe hgt h5 hx
          rw [hbe] at hr
          simp only at hr
          rw [if_neg (by omega), ← hl'] at hr
          have hb2 : st1 ≤ st2 ∧ st2 ≤ L.length := by
            unfold FS at hbe
            split at hbe
            · obtain ⟨q1, q2, _⟩ := TG hbe; omega
            · obtain ⟨rfl, rfl⟩ := Prod.mk.inj (Option.some.inj hbe); omega
          rw [List.append_assoc, List.singleton_append] at h5
          exact ⟨m, by omega, st2, left', _, v', rfl, hr, by omega, hb2.2, by omega, by simp; omega, h5, hx⟩
      by_cases hx0 : x = 0
      · subst hx0
        have n2 : (((0 : Nat) : Int) == 0) = true := rfl
        have e1 : (left : Int) - 1 = ((left - 1 : Nat) : Int) := by omega
        simp (disch := omega) only [n2, e1, dA]
        exact hfin _ rfl
      · have n2 : ((x : Int) == 0) = false := beq_eq_false_iff_ne.2 (by omega)
        have e0 : (x : Int) - 1 = ((x - 1 : Nat) : Int) := by omega
        have e1 : (left : Int) - ((x : Int) - 1) = ((left - (x - 1) : Nat) : Int) := by omega
        simp (disch := omega) only [n2, e1, cQ]
        refine hfin _ ?_
        unfold iA
        rw [if_neg (by omega), e0, Int.toNat_natCast]
theorem Vm {s : ByteArray} {most : Int} {sym : Nat} {w : World} (hl : s.size ≤ 1000000) (hsym : sym ≤ 1000000) :
    hJ pg CB #[.string s, .int .i64 most, .int .i64 sym] w (fun r w' => Nt w' w.heap.size (sV (iC (Cb s)) most sym) r ∧ gS w w' jR) := by
  refine Rj ?_
  obtain ⟨RR, hRR⟩ : ∃ RR : Value → World → Prop, RR = fun r w' => Nt w' w.heap.size (sV (iC (Cb s)) most sym) r ∧ gS w w' jR := ⟨_, rfl⟩
  rw [← hRR]
  have hll := Dp s
  have hbl := qK (Cb s)
  unfold Sk Dz D7
  refine nF fun w1 o1 x1 s1 => ?_
  refine (Vf hl).mono ?_
  rintro r w2 ⟨ob2, x2⟩
  have hbl2 : Bl w2 r (iC (Cb s)) := ob2.sl
  have hat := uE.atI ob2
  obtain ⟨bn, bc, rfl, _⟩ := RU hbl2
  have z1 := x1.size
  have z2 := x2.size
  simp (disch := omega) only [cO, aU, aX, aF]
  refine sN fun w3 o3 x3 s3 => ?_
  refine iB o3 rfl (by simp [one]) (by simp) fun w4 o4 x4 s4 => ?_
  simp only [fV, List.set_cons_zero, List.set_cons_succ] at o4
  have z3 := x3.size
  have z4 := x4.size
  have x24 : gS w2 w4 jR := x3.new x4 (by omega)
  have lf := jJ (off := 0) o4 (by simp)
  simp only [List.drop_zero, List.take_succ_cons, List.take_zero] at lf
  have hbl4 := hbl2.ext x24 (iQ _)
  have e0 : (0 : Int) = ((0 : Nat) : Int) := rfl
  rw [e0] at lf
  simp (disch := omega) only [lf, aF]
  refine (II (st := 0) (n := 4) hbl4 (by omega) (by omega) (by omega)).mono ?_
  rintro r w5 ⟨⟨hsh, rfl⟩ | ⟨hsh, rfl⟩, x5⟩
  · have n1 : ((10 : Int) != 0) = true := rfl
    have hrl : sV (iC (Cb s)) most sym = .error 10 := by unfold sV; rw [if_pos (by omega)]
    rw [hrl] at hRR
    simp (disch := omega) only [lL, lJ, lK, aF, fQ, cM, eL, fB, aR]
    refine iB (o4.ext x5 (fun h => h)) rfl (by simp [one]) (by simp) fun w6 o6 x6 s6 => ?_
    simp (disch := omega) only [n1, dA]
    exact O4 (RR := RR) (e := 10) ((((o1.ext x2 (fun h => h)).ext x24 (fun h => h)).ext x5 (fun h => h)).ext x6 (by omega)) ((((x1.seq x2).seq x24).seq x5).new x6 (by omega)) (Nat.le_refl _) fun w' h => by rw [hRR]; exact ⟨rfl, h⟩
  · have n1 : ((0 : Int) != 0) = false := rfl
    have hlt := yQ (iC (Cb s)) 0 4
    have hrl : sV (iC (Cb s)) most sym = (if most < ((lF (iC (Cb s)) 0 4 + 5 : Nat) : Int) ∨ 15 < lF (iC (Cb s)) 0 4 + 5 then .error 12 else match LY (iC (Cb s)) sym ((iC (Cb s)).length + 1) 4 (2 ^ (lF (iC (Cb s)) 0 4 + 5)) [] with
      | .error e => .error e
      | .ok (ps, st) => .ok (lF (iC (Cb s)) 0 4 + 5, ps, (st + 7) / 8)) := by unfold sV; rw [if_neg (by omega)] <;> rfl
    rw [hrl] at hRR
    generalize lF (iC (Cb s)) 0 4 = x at *
    have e1 : (x : Int) + 5 = ((x + 5 : Nat) : Int) := by omega
    have z5 := x5.size
    simp (disch := omega) only [Nat.zero_add, lL, lJ, lK, aF, fQ, cM, eL, fB, aR]
    refine iB (o4.ext x5 (fun h => h)) rfl (by simp [one]) (by simp) fun w6 o6 x6 s6 => ?_
    simp only [fV, List.set_cons_zero, List.set_cons_succ] at o6
    have z6 := x6.size
    have x06 : gS w w6 jR := (((x1.seq x2).seq x24).seq x5).new x6 (by omega)
    have o16 := ((((o1.ext x2 (fun h => h)).ext x24 (fun h => h)).ext x5 (fun h => h)).ext x6 (by omega))
    have hbl6 : Bl w6 _ _ := (hbl4.ext x5 (iQ _)).ext x6 (hat _ fun b hb hh => by omega)
    simp (disch := omega) only [n1, e1, cQ]
    refine nF fun w7 o7 x7 s7 => ?_
    refine kV o7 rfl (by simp [one]) (by simp) fun w8 o8 x8 s8 => ?_
    simp only [fV, List.set_cons_zero, List.set_cons_succ] at o8
    have x68 : gS w6 w8 jR := x7.new x8 (by omega)
    have x08 : gS w w8 jR := x06.seq x68
    have o18 := o16.ext x68 (fun h => h)
    have c8 := o8.cell (off := 0)
    simp only [List.getElem?_cons_zero, List.getElem?_cons_succ] at c8
    by_cases hmo : most < ((x + 5 : Nat) : Int)
    · have d1 : decide (most < ((x + 5 : Nat) : Int)) = true := by simpa using hmo
      rw [if_pos (.inl hmo)] at hRR
      simp (disch := omega) only [aD, aF, eI, c8, cX, fJ, d1, fD, eP, if_true, dA, dV]
      exact O4 (RR := RR) (e := 12) o18 x08 (Nat.le_refl _) fun w' h => by rw [hRR]; exact ⟨rfl, h⟩
    have d1 : decide (most < ((x + 5 : Nat) : Int)) = false := by simpa using hmo
    by_cases h15 : 15 < x + 5
    · have d2 : decide ((15 : Int) < ((x + 5 : Nat) : Int)) = true := by simp; omega
      rw [if_pos (.inr h15)] at hRR
      simp (disch := omega) only [aD, aF, eI, c8, cX, fJ, d1, eZ, eP, Bool.false_eq_true, if_false, dZ, d2, dA]
      exact O4 (RR := RR) (e := 12) o18 x08 (Nat.le_refl _) fun w' h => by rw [hRR]; exact ⟨rfl, h⟩
    have d2 : decide ((15 : Int) < ((x + 5 : Nat) : Int)) = false := by simp; omega
    rw [if_neg (by omega)] at hRR
    simp (disch := omega) only [aD, aF, eI, c8, cX, fJ, d1, eZ, eP, Bool.false_eq_true, if_false, dZ, d2, cQ]
    refine (IG (x + 5) (by omega) _).mono ?_
    rintro r w9 ⟨rfl, rfl⟩
    have hpow : ((2 ^ (x + 5) : Nat) : Int) = (2 : Int) ^ (x + 5) := by simp
    rw [← hpow]
    have hS : TZ w9 w.heap.size w2.heap.size w6.heap.size (x + 5) 4 (.slice bn (iC (Cb s)).length bc) (iC (Cb s)) [] (.slice none 0 0) :=
      ⟨o18, o6.ext x68 (fun h => h), o8, uE.nil _ _ _, hbl6.ext x68 (iQ _), fun M hM => hat M fun b _ hb => hM b (by omega) (by omega), by omega, by omega⟩
    refine TB (w0 := w) (res := LY (iC (Cb s)) sym ((iC (Cb s)).length + 1) 4 (2 ^ (x + 5)) []) (Nat.le_refl _) (by omega) hsym (by omega) hS (by omega) x08 rfl ?_ ?_
    · intro e w' he hx
      rw [hRR, he]
      exact ⟨rfl, hx⟩
    · intro ps st v w' he ho hx
      rw [hRR, he]
      exact ⟨⟨v, rfl, ho⟩, hx⟩
end Go.Proofs.YtoepfjgekpdddaaDoor
namespace Go.Proofs.YtoepfjgekpdddaaDoor
open Go Go.En Go.Pu
set_option maxRecDepth 4000
set_option linter.unusedSimpArgs false
set_option linter.unusedVariables false
theorem VF {w w' : World} {S M : Nat → Prop} {sz n : Nat} {v : Value} {l : List Value} (h : US w S sz v n l) (hx : gS w w' M) (hM : ∀ b, S b → ¬ M b) : US w' S sz v n l := by
  refine ⟨h.1, ?_⟩
  rcases h.2 with h2 | ⟨b, c, rest, h1, h2, h3, h4, h5⟩
  · exact .inl h2
  · exact .inr ⟨b, c, rest, h1, h2, h3.ext hx (hM b h2), h4, h5⟩
def Wr (w : World) (lo p : Nat) (B : List Bool) : Prop := lo ≤ p ∧ ∃ v bytes, jL w p [v, .int .i64 B.length] ∧ US w (fun b => lo ≤ b ∧ b ≠ p) 1 v bytes.length (bytes.map RD) ∧ Vg B bytes
def Rm (w : World) (lo p : Nat) (B : List Bool) : Prop := lo ≤ p ∧ ∃ v bytes, jL w p [v, .int .i64 B.length] ∧ US w (fun b => lo ≤ b ∧ b ≠ p) 1 v bytes.length (bytes.map RD) ∧
  iC bytes = B ++ List.replicate (8 * bytes.length - B.length) false ∧ bytes.length = (B.length + 1 + 7) / 8
theorem Wr.ext {w w' : World} {lo p : Nat} {B : List Bool} {M : Nat → Prop} (h : Wr w lo p B) (hx : gS w w' M) (hM : ∀ b, lo ≤ b → ¬ M b) : Wr w' lo p B := by
  obtain ⟨h0, v, bytes, h1, h2, h3⟩ := h
  exact ⟨h0, v, bytes, h1.ext hx (hM _ h0), VF h2 hx fun b hb => hM b hb.1, h3⟩
theorem Uo (w : World) : hJ pg tP #[] w (fun r w' => r = .pointer (some ⟨w.heap.size, 0, none⟩) ∧ w.heap.size < w'.heap.size ∧ Wr w' w.heap.size w.heap.size [] ∧ gS w w' jR) := by
  refine I2 ?_
  unfold H1 xV
  simp (disch := omega) only [cO, bZ, aF]
  refine nR fun w1 o1 x1 s1 => ?_
  simp only [Value.cells] at o1
  exact ⟨rfl, by omega, ⟨Nat.le_refl _, _, [], o1, ⟨rfl, .inl ⟨rfl, rfl⟩⟩, XH⟩, x1⟩
theorem Zd {lo p x i : Nat} {B : List Bool} {t17 : Value} {w : World} (h : Rm w lo p B) (hx : x < 2 ^ 64) (hi : i ≤ 60) (hB : B.length ≤ 1000000000)
    {kn : Value → Value → Value → Value → World → Prop} (hR : ∀ w', Wr w' lo p (B ++ [x.testBit i]) → gS w w' (fun y => lo ≤ y) → kn (.pointer (some ⟨p, 0, none⟩)) (.int .u64 x) t17 (.int .i64 i) w') :
    nG kn (.pointer (some ⟨p, 0, none⟩)) (.int .u64 x) (.int .i64 i) t17 (.int .i64 i) w := by
  obtain ⟨h0, v, bytes, o, os, hbits, hlen⟩ := h
  obtain ⟨hlt, hheld, hval, hor⟩ := Yc (y := x.testBit i) hbits hlen
  rcases os.2 with ⟨rfl, hz⟩ | ⟨b, c, rest, rfl, hS, ob, hc, hn⟩
  · rw [hlen] at hz; omega
  generalize hq : B.length = q at *
  have hcell : (bytes.map RD ++ rest)[q / 8]? = some (.int .u8 ((bytes[q / 8]'hlt).toNat : Nat)) := by
    rw [List.getElem?_append_left (by rw [List.length_map]; exact hlt), List.getElem?_map, List.getElem?_eq_getElem hlt] <;> rfl
  have hcl : (bytes[q / 8]'hlt).toNat < 2 ^ 8 := UInt8.toNat_lt _
  have hset : (bytes.map RD ++ rest).set (q / 8) (.int .u8 (((bytes[q / 8]'hlt).toNat + 2 ^ (q % 8) * (x.testBit i).toNat : Nat))) = (bytes.set (q / 8) (UInt8.ofNat ((bytes[q / 8]'hlt).toNat + 2 ^ (q % 8) * (x.testBit i).toNat))).map RD ++ rest := by
    rw [List.set_append_left _ _ (by rw [List.length_map]; exact hlt), List.map_set, RD, UInt8.toNat_ofNat_of_lt' (by simpa using hval)]
  have hbl : (bytes.set (q / 8) (UInt8.ofNat ((bytes[q / 8]'hlt).toNat + 2 ^ (q % 8) * (x.testBit i).toNat))).length = bytes.length := List.length_set
  generalize bytes.set (q / 8) (UInt8.ofNat ((bytes[q / 8]'hlt).toNat + 2 ^ (q % 8) * (x.testBit i).toNat)) = bytes' at *
  generalize (bytes[q / 8]'hlt).toNat = y at *
  have e1 : (q : Int).tdiv 8 = ((q / 8 : Nat) : Int) := by rw [Int.tdiv_eq_ediv_of_nonneg (by omega)]; omega
  have e2 : (q : Int).tmod 8 = ((q % 8 : Nat) : Int) := by rw [Int.tmod_eq_emod_of_nonneg (by omega)]; omega
  have e3 := RI x i (by omega)
  have hxl : x / 2 ^ i < 2 ^ 64 := by have := Nat.div_le_self x (2 ^ i); omega
  have e4 := Ya hxl
  rw [← S7] at e4
  have hbt : (x.testBit i).toNat ≤ 1 := Bool.toNat_le _
  have hp8 : 2 ^ (q % 8) ≤ 2 ^ 7 := Nat.pow_le_pow_right (by omega) (by omega)
  have hm : (x.testBit i).toNat * 2 ^ (q % 8) ≤ 2 ^ (q % 8) := by
    have := Nat.mul_le_mul_right (2 ^ (q % 8)) hbt
    omega
  have e5 : IntKind.u8.wrap (((x.testBit i).toNat : Int) * 2 ^ (min (q % 8) IntKind.u8.bits)) = (((x.testBit i).toNat * 2 ^ (q % 8) : Nat) : Int) := by
    rw [show min (q % 8) IntKind.u8.bits = q % 8 from Nat.min_eq_left (by have h8 : IntKind.u8.bits = 8 := rfl; omega)]
    have e : ((x.testBit i).toNat : Int) * 2 ^ (q % 8) = (((x.testBit i).toNat * 2 ^ (q % 8) : Nat) : Int) := by simp
    rw [e]
    exact iK (by omega) (by omega)
  have e6 := XO (a := y) (b := (x.testBit i).toNat * 2 ^ (q % 8)) hcl (by omega)
  rw [hor] at e6
  have e7 : (q : Int) + 1 = ((q + 1 : Nat) : Int) := by omega
  have od := lA o
  have obd := lA ob
  have c0 := od.cell (off := 0)
  have c1 := od.cell (off := 1)
  have g := obd.cell (off := q / 8)
  rw [hcell] at g
  simp only [List.getElem?_cons_zero, List.getElem?_cons_succ] at c0 c1
  unfold nG
  simp (disch := omega) only [cO, gB, dD, fU, aF, bQ, Nat.zero_add, eI, c1, cX, fY, e2, true_and, gC, Int.toNat_natCast, e3, gF, e4, bW, iK, fT, e5, fW, e1, eL, bO, dE, c0, dH, eA, g, iP, e6]
  refine RX obd rfl (by rw [List.length_append, List.length_map]; omega) fun w2 o2 x2 s2 => ?_
  rw [hset] at o2
  have op2 := od.ext x2 (fun h => hS.2 h.symm)
  have c12 := op2.cell (off := 1)
  simp only [List.getElem?_cons_zero, List.getElem?_cons_succ] at c12
  simp (disch := omega) only [c12, cX, aF, fB, e7, eL]
  refine yW op2 rfl (by simp) fun w3 o3 x3 s3 => ?_
  simp only [List.set_cons_zero, List.set_cons_succ] at o3
  have hBl : (B ++ [x.testBit i]).length = q + 1 := by rw [List.length_append, hq] <;> rfl
  refine hR _ ⟨h0, _, bytes', by rw [hBl]; exact o3, ⟨by simp, .inr ⟨b, c, rest, by rw [hbl], hS, o2.ext x3 hS.2, ?_, by rw [hbl]; exact hn⟩⟩, hheld⟩ ?_
  · rw [List.length_append, List.length_map] at hc ⊢; rw [hbl]; exact hc
  · exact ((gS.dr _ _).seq (x2.mono fun z _ h => by omega)).seq (x3.mono fun z _ h => by omega)
theorem Z4 {lo p x i n : Nat} {B : List Bool} {w : World} (hw : Wr w lo p B) (hx : x < 2 ^ 64) (hi : i ≤ 60) (hB : B.length ≤ 1000000000)
    {kn : Value → Value → Value → Value → World → Prop} (hR : ∀ w', Wr w' lo p (B ++ [x.testBit i]) → gS w w' (fun y => lo ≤ y) → kn (.pointer (some ⟨p, 0, none⟩)) (.int .u64 x) (.int .i64 n) (.int .i64 i) w') :
    pQ kn (.pointer (some ⟨p, 0, none⟩)) (.int .u64 x) (.int .i64 n) (.int .i64 i) w := by
  unfold pQ sT
  obtain ⟨h0, v, bytes, o, os, hh⟩ := hw
  have c1 := o.cell (off := 1)
  have c0 := o.cell (off := 0)
  simp only [List.getElem?_cons_zero, List.getElem?_cons_succ] at c0 c1
  have e2 : (B.length : Int).tmod 8 = ((B.length % 8 : Nat) : Int) := by rw [Int.tmod_eq_emod_of_nonneg (by omega)]; omega
  by_cases h8 : B.length % 8 = 0
  · have d4 : (((B.length % 8 : Nat) : Int) == 0) = true := by rw [h8] <;> rfl
    obtain ⟨hr1, hr2⟩ := WM hh h8
    have hl2 := hh.len
    have lp := o.lt
    simp (disch := omega) only [cO, gB, aF, bO, dE, bQ, Nat.zero_add, eI, c1, cX, fY, e2, fR, d4, c0, dA]
    refine Bv (cells := #[.int .u8 0]) (by decide) (by decide) (by kernel_rfl) fun w2 o2 x2 s2 => ?_
    refine Qp (m := 1) (news := [RD 0]) (i := Tryd.t5) Tryd.underlying22 Tryd.underlying22 Vo rfl rfl rfl (VF os x2 (fun _ _ h => h)) (o2.cl (off := 0) (l := [RD 0]) (n := 1) rfl (fun i hi => by rw [Nat.zero_add] <;> rfl)) (by simp [one, RD]) (fun b hb => ⟨by omega, by omega⟩) (by omega) (by rw [show Tryd.t5.bytes = 1 from rfl]; omega) (by decide) fun v3 w3 o3 x3 => ?_
    have x13 : gS w w3 (fun y => lo ≤ y ∧ y ≠ p) := (x2.mono fun _ _ h => h.elim).seq x3
    have op3 := o.ext x13 (fun h => h.2 rfl)
    have hv3 : ∃ a n c, v3 = .slice a n c := by
      rcases o3.2 with ⟨rfl, _⟩ | ⟨b, c, rest, rfl, _⟩
      · exact ⟨_, _, _, rfl⟩
      · exact ⟨_, _, _, rfl⟩
    obtain ⟨a3, n3, c3, rfl⟩ := hv3
    refine Ut op3 rfl (by simp) fun w4 o4 x4 s4 => ?_
    simp only [List.set_cons_zero, List.set_cons_succ] at o4
    have x14 : gS w w4 (fun y => lo ≤ y) := (x13.mono fun y _ h => h.1).seq (x4.mono fun y _ h => by omega)
    refine Zd (w := w4) ⟨h0, _, bytes ++ [0], o4, ?_, ?_, hr2⟩ hx hi hB fun w5 h5 x5 => hR w5 h5 (x14.seq x5)
    · have := VF o3 x4 (fun b hb h => hb.2 h)
      rw [List.length_append, List.map_append]
      exact this
    · rw [List.length_append]; exact hr1
  · have d4 : (((B.length % 8 : Nat) : Int) == 0) = false := by simp; omega
    simp (disch := omega) only [cO, gB, aF, bO, dE, bQ, Nat.zero_add, eI, c1, cX, fY, e2, fR, d4, cQ]
    refine Zd (w := w) ⟨h0, v, bytes, o, os, hh.bits, ?_⟩ hx hi hB fun w5 h5 x5 => hR w5 h5 x5
    rw [hh.len]; omega
theorem IH {lo p x n : Nat} {B : List Bool} {w : World} (h : Wr w lo p B) (hx : x < 2 ^ 64) (hn : n ≤ 56) (hB : B.length ≤ 100000000) :
    hJ pg kW #[.pointer (some ⟨p, 0, none⟩), .int .u64 x, .int .i64 n] w (fun r w' => r = .tuple #[] ∧ Wr w' lo p (B ++ mW x n) ∧ gS w w' (fun y => lo ≤ y)) := by
  refine G7 ?_
  unfold EO rM rL
  by_cases hn0 : n = 0
  · subst hn0
    have d1 : decide (((0 : Nat) : Int) < 1) = true := rfl
    simp (disch := omega) only [cO, bD, Option.isNone_some, true_and, aF, eZ, eP, Bool.false_eq_true, if_false, dZ, eY, d1, fD, if_true, dA, dV]
    exact ⟨by rw [GN, List.append_nil]; exact h, gS.refl _ _⟩
  have d1 : decide ((n : Int) < 1) = false := by simp; omega
  have d2 : decide ((56 : Int) < (n : Int)) = false := by simp; omega
  simp (disch := omega) only [cO, bD, Option.isNone_some, true_and, aF, eZ, eP, Bool.false_eq_true, if_false, dZ, eY, d1, fJ, d2, cQ]
  unfold oX sZ
  refine iY.rule (fun m (t : Value) w' => ∃ i : Nat, m = n - i ∧ t = .int .i64 i ∧ i ≤ n ∧ Wr w' lo p (B ++ mW x i) ∧ gS w w' (fun y => lo ≤ y)) n
    ⟨0, rfl, rfl, by omega, by rw [GN, List.append_nil]; exact h, gS.refl _ _⟩ ?_
  rintro m t w1 ⟨i, rfl, rfl, hi, hw, x1⟩
  unfold pP sR
  by_cases hlt : i < n
  · have d3 : decide ((i : Int) < (n : Int)) = true := by simp; omega
    simp (disch := omega) only [cO, eY, d3, aF, dA]
    unfold pI sJ
    refine Z4 hw hx (by omega) (by rw [List.length_append, jS]; omega) fun w3 hw3 x3 => ?_
    unfold pK
    simp (disch := omega) only [cO, fB, eL, aF]
    refine ⟨n - (i + 1), by omega, i + 1, rfl, rfl, by omega, ?_, x1.seq x3⟩
    rw [Hf, ← List.append_assoc]
    exact hw3
  · have d3 : decide ((i : Int) < (n : Int)) = false := by simp; omega
    obtain rfl : i = n := by omega
    simp (disch := omega) only [cO, eY, d3, aF, cQ]
    exact ⟨hw, x1⟩
end Go.Proofs.YtoepfjgekpdddaaDoor
namespace Go.Pu
open Go Go.En
set_option linter.unusedVariables false
theorem Yt {ps : List Int} (hlo : ∀ p ∈ ps, -1 ≤ p) (hne : ps ≠ []) (hlast : ps.getLast? ≠ some 0) : 0 < pB ps := by
  have h0 := Bp hlo
  rcases Int.lt_or_eq_of_le h0 with h | h
  · exact h
  · exfalso
    have hz : ∀ q ∈ ps, q = 0 := fun q hq => by
      have h1 := RF hlo hq
      have h2 := hlo q hq
      unfold iA at h1
      split at h1 <;> omega
    refine hlast ?_
    cases hg : ps.getLast? with
    | none => simp at hg; exact absurd hg hne
    | some y => rw [hz y (List.mem_of_getLast? hg)]
theorem T6 {left v : Nat} (h : left ≤ 32768) : (Ep left v).length ≤ 17 := by
  have hb := Bw (k := left + 1) (n := 17) (by omega)
  unfold Ep
  simp only
  split
  · rw [jS]; omega
  · split <;> rw [jS] <;> omega
theorem Yv : ∀ k : Nat, (TY k).length ≤ 2 * k + 2 := by
  intro k
  induction k using Nat.strongRecOn with
  | ind k ih =>
    rw [TY]
    split
    · rw [jS]; omega
    · have := ih (k - 3) (by omega)
      rw [List.length_append, jS]; omega
theorem TA : ∀ (g left : Nat) (ps : List Int), left ≤ 32768 → (LW g left ps).length ≤ 20 * ps.length
  | 0, left, ps, h => by simp [LW]
  | g + 1, left, [], h => by simp [LW]
  | g + 1, left, p :: ps, h => by
    rw [LW]
    have hk : (ps.takeWhile (· == 0)).length ≤ ps.length := (List.takeWhile_sublist _).length_le
    split
    · have h1 := T6 (v := 1) h
      have h2 := Yv (ps.takeWhile (· == 0)).length
      have h3 := TA g left (ps.drop (ps.takeWhile (· == 0)).length) h
      rw [List.length_drop] at h3
      simp only [List.length_append, List.length_cons]
      omega
    · have h1 := T6 (v := (p + 1).toNat) h
      have h3 := TA g (left - (iA p).toNat) ps (by omega)
      simp only [List.length_append, List.length_cons]
      omega
theorem OR {log : Nat} {ps : List Int} (hm : Jo log ps) : (Cy log ps).length ≤ 6000 := by
  have h15 := hm.log15
  have hp : 2 ^ log ≤ 2 ^ 15 := Nat.pow_le_pow_right (by omega) h15
  have := TA ps.length (2 ^ log) ps (by omega)
  have := hm.len256
  unfold Cy
  rw [List.length_append, jS]
  omega
theorem SE : ∀ {ps : List Int} {j : Nat}, j < (ps.takeWhile (· == 0)).length → ps[j]? = some 0
  | [], j, h => by simp at h
  | p :: ps, j, h => by
    rw [List.takeWhile_cons] at h
    by_cases hp : (p == 0) = true
    · rw [if_pos hp] at h
      cases j with
      | zero => simpa using hp
      | succ j => simpa using SE (ps := ps) (j := j) (by simpa using h)
    · rw [if_neg hp] at h; simp at h
theorem Th : ∀ {ps : List Int} {y : Int}, ps[(ps.takeWhile (· == 0)).length]? = some y → y ≠ 0
  | [], y, h => by simp at h
  | p :: ps, y, h => by
    rw [List.takeWhile_cons] at h
    by_cases hp : (p == 0) = true
    · rw [if_pos hp] at h
      exact Th (ps := ps) (by simpa using h)
    · rw [if_neg hp] at h
      simp at h hp
      rw [← h]; exact hp
theorem XS {ps : List Int} (hlast : ps.getLast? ≠ some 0) (hne : ps ≠ []) : (ps.takeWhile (· == 0)).length < ps.length := by
  have hk : (ps.takeWhile (· == 0)).length ≤ ps.length := (List.takeWhile_sublist _).length_le
  rcases Nat.lt_or_ge (ps.takeWhile (· == 0)).length ps.length with h | h
  · exact h
  · exfalso
    have hl : 0 < ps.length := List.length_pos_iff.2 hne
    have := SE (ps := ps) (j := ps.length - 1) (by omega)
    apply hlast
    rw [List.getLast?_eq_getElem?, this]
end Go.Pu
namespace Go.Proofs.YtoepfjgekpdddaaDoor
open Go Go.En Go.Pu
set_option maxRecDepth 4000
set_option linter.unusedSimpArgs false
set_option linter.unusedVariables false
theorem Z8 {lo p : Nat} {B : List Bool} {w : World} (h : Wr w lo p B) (hB : B.length ≤ 10000000) :
    hJ pg rT #[.pointer (some ⟨p, 0, none⟩)] w (fun r w' => ∃ bytes, Vg B bytes ∧ uE w' w.heap.size 1 r bytes.length (bytes.map RD) ∧ gS w w' jR) := by
  refine H2 ?_
  obtain ⟨h0, v, bytes, o, os, hh⟩ := h
  have c0 := (lA o).cell (off := 0)
  have c0' := o.cell (off := 0)
  simp only [List.getElem?_cons_zero, List.getElem?_cons_succ] at c0 c0'
  have hs : Bs w v bytes := by
    have h1 := os.1
    rcases os.2 with ⟨rfl, h2⟩ | ⟨b, c, rest, rfl, h2, h3, h4, h5⟩
    · exact ⟨_, _, _, rfl, by omega, by omega, fun h => by omega⟩
    · refine ⟨_, _, _, rfl, by omega, h5, fun _ => ⟨b, 0, rfl, fun i hi => ?_⟩⟩
      rw [h3.cell, Nat.zero_add, List.getElem?_append_left (by omega)]
  have hl := hh.len
  unfold Hq wO
  simp (disch := omega) only [cO, bD, Option.isNone_some, gB, aF, bO, dE, c0', cX, cQ]
  refine (V2 hs (by omega)).mono ?_
  rintro r w1 ⟨o1, x1⟩
  exact ⟨bytes, hh, o1, x1⟩
structure Ws (w : World) (w0 : World) (pc lo pw log : Nat) (sv : Value) (ps : List Int) (B : List Bool) : Prop where
  oc : jL w pc [.int .i64 log, sv]
  sl : Sl w0 sv (ps.map (Value.int .i64))
  hw : Wr w lo pw B
  hc : pc < lo
  hx : gS w0 w jR
  hlo : w0.heap.size ≤ lo
theorem Ws.put {w w' w0 : World} {pc lo pw log : Nat} {sv : Value} {ps : List Int} {B B' : List Bool} (h : Ws w w0 pc lo pw log sv ps B) (hw : Wr w' lo pw B') (hx : gS w w' (fun y => lo ≤ y)) : Ws w' w0 pc lo pw log sv ps B' :=
  ⟨h.oc.ext hx (by have := h.hc; omega), h.sl, hw, h.hc, h.hx.trans hx fun b hb hh => by have := h.hlo; omega, h.hlo⟩
theorem WL {w w0 : World} {pc lo pw log left i : Nat} {sv : Value} {ps : List Int} {B : List Bool} {p : Int} (h : Ws w w0 pc lo pw log sv ps B) (hB : B.length ≤ 1000000) (h0 : 0 < left) (h1 : left ≤ 32768) (hg : ps[i]? = some p) (hp0 : -1 ≤ p) (hpl : p ≤ left)
    {kn : Value → Value → Value → Value → Value → World → Prop}
    (hK : ∀ w', Ws w' w0 pc lo pw log sv ps (B ++ Ep left (p + 1).toNat) → kn (.pointer (some ⟨pc, 0, none⟩)) (.pointer (some ⟨pw, 0, none⟩)) (.int .i64 left) (.int .i64 i) (.int .i64 p) w') :
    tF kn (.pointer (some ⟨pc, 0, none⟩)) (.pointer (some ⟨pw, 0, none⟩)) (.int .i64 left) (.int .i64 i) w := by
  unfold tF
  have hi : i < ps.length := by
    rcases Nat.lt_or_ge i ps.length with h' | h'
    · exact h'
    · rw [List.getElem?_eq_none h'] at hg; cases hg
  have hsl := h.sl.ext h.hx (iQ _)
  obtain ⟨b', off', c', hv, _, hcell⟩ := hsl.openI (by omega)
  have g1 := hcell i hi
  rw [List.getElem?_eq_getElem hi] at hg
  rw [Option.some.inj hg] at g1
  have hoc := h.oc
  subst hv
  have c1 := hoc.cell (off := 1)
  simp only [List.getElem?_cons_zero, List.getElem?_cons_succ] at c1
  obtain ⟨m, hm, hm1, hm2, hf1, hf2, hf3⟩ := OC h0 h1
  have e1 : (left : Int) + 1 = ((left + 1 : Nat) : Int) := by omega
  simp (disch := omega) only [cO, aJ, Nat.zero_add, fB, e1, eL, aF, dD, fU, dF, c1, cX, dJ, Int.toNat_natCast, eI, g1, cP]
  refine (Xj (x := left + 1) (by omega) w).mono ?_
  rintro r w1 ⟨rfl, rfl⟩
  rw [hm]
  obtain ⟨v, hv⟩ : ∃ v : Nat, p + 1 = (v : Int) := ⟨(p + 1).toNat, by omega⟩
  have hvt : (p + 1).toNat = v := by omega
  rw [hvt] at hK
  have hvl : v ≤ left + 1 := by omega
  have hsh1 := Ub (n := m + 1) (by omega)
  have hsh0 := Ub (n := m) (by omega)
  have e2 : ((m + 1 : Nat) : Int) - 1 = (m : Int) := by omega
  have hp : 2 ^ m ≤ 2 ^ 16 := Nat.pow_le_pow_right (by omega) hm2
  unfold Ep at hK
  simp only [hm, Nat.add_sub_cancel] at hK
  rw [hf3] at *
  generalize hq : 2 ^ m = q at *
  have e3 : ((2 * q : Nat) : Int) - 2 - (left : Int) = ((2 * q - 2 - left : Nat) : Int) := by omega
  by_cases hfr : v < 2 * q - 2 - left
  · have d1 : decide ((v : Int) < ((2 * q - 2 - left : Nat) : Int)) = true := by simp only [decide_eq_true_eq]; omega
    rw [if_pos hfr] at hK
    simp (disch := omega) only [fT, Int.toNat_natCast, hsh1, hv, fL, e2, eL, aF, eY, e3, d1, fB, cP, fU, dA]
    refine (IH (n := m) (x := v) h.hw (by omega) (by omega) (by omega)).mono ?_
    rintro r w2 ⟨rfl, hw2, x2⟩
    exact hK w2 (h.put hw2 x2)
  · have d1 : decide ((v : Int) < ((2 * q - 2 - left : Nat) : Int)) = false := by simp only [decide_eq_false_iff_not]; omega
    rw [if_neg hfr] at hK
    by_cases h2 : v < q
    · have d2 : decide ((v : Int) < (q : Int)) = true := by simp only [decide_eq_true_eq]; omega
      rw [if_pos h2] at hK
      simp (disch := omega) only [fT, Int.toNat_natCast, hsh1, hv, fL, e2, eL, aF, hsh0, eY, d2, dA, e3, d1, cQ]
      refine (IH (n := m + 1) (x := v) h.hw (by omega) (by omega) (by omega)).mono ?_
      rintro r w2 ⟨rfl, hw2, x2⟩
      exact hK w2 (h.put hw2 x2)
    · have d2 : decide ((v : Int) < (q : Int)) = false := by simp only [decide_eq_false_iff_not]; omega
      have e4 : (v : Int) + ((2 * q - 2 - left : Nat) : Int) = ((v + (2 * q - 2 - left) : Nat) : Int) := by omega
      rw [if_neg h2] at hK
      simp (disch := omega) only [fT, Int.toNat_natCast, hsh1, hv, fL, e2, eL, aF, hsh0, eY, d2, cQ, e3, d1, fB, e4, cP, fU]
      refine (IH (n := m + 1) (x := v + (2 * q - 2 - left)) h.hw (by omega) (by omega) (by omega)).mono ?_
      rintro r w2 ⟨rfl, hw2, x2⟩
      exact hK w2 (h.put hw2 x2)
theorem W3 {w w0 : World} {pc lo pw log left i k : Nat} {sv : Value} {ps : List Int} {B : List Bool} (h : Ws w w0 pc lo pw log sv ps B) (hl : ps.length ≤ 1000000) (hz : ∀ j, j < k → ps[i + 1 + j]? = some 0) (hy : ∃ y, ps[i + 1 + k]? = some y ∧ y ≠ 0)
    {k3 : Value → Value → Value → Value → Value → World → Prop}
    (hK : k3 (.pointer (some ⟨pc, 0, none⟩)) (.pointer (some ⟨pw, 0, none⟩)) (.int .i64 left) (.int .i64 i) (.int .i64 k) w) :
    tI k3 (.pointer (some ⟨pc, 0, none⟩)) (.pointer (some ⟨pw, 0, none⟩)) (.int .i64 left) (.int .i64 i) (.int .i64 0) w := by
  unfold tI
  have lt : ∀ {j : Nat} {y : Int}, ps[j]? = some y → j < ps.length := fun {j y} h => by
    rcases Nat.lt_or_ge j ps.length with h' | h'
    · exact h'
    · rw [List.getElem?_eq_none h'] at h; cases h
  obtain ⟨y, hy, hyn⟩ := hy
  have hyl := lt hy
  have hsl := h.sl.ext h.hx (iQ _)
  obtain ⟨b', off', c', hv, _, hcell⟩ := hsl.openI (by omega)
  have hoc := h.oc
  subst hv
  have c1 := hoc.cell (off := 1)
  simp only [List.getElem?_cons_zero, List.getElem?_cons_succ] at c1
  refine iY.rule (fun m (t : Value) w' => ∃ j : Nat, m = k - j ∧ t = .int .i64 j ∧ j ≤ k ∧ w' = w) k ⟨0, rfl, rfl, by omega, rfl⟩ ?_
  rintro m t w1 ⟨j, rfl, rfl, hj, rfl⟩
  unfold tU
  have e1 : (i : Int) + 1 + (j : Int) = ((i + 1 + j : Nat) : Int) := by omega
  by_cases hlt : j < k
  · have g0 := hz j hlt
    have hl0 := lt g0
    have g1 := hcell (i + 1 + j) hl0
    rw [List.getElem?_eq_getElem hl0] at g0
    rw [Option.some.inj g0] at g1
    have n1 : ((0 : Int) == 0) = true := rfl
    simp (disch := omega) only [cO, aJ, Nat.zero_add, fB, eL, aF, e1, dF, c1, cX, dJ, Int.toNat_natCast, eI, g1, fR, n1, and_true, dA]
    exact ⟨k - (j + 1), by omega, j + 1, rfl, rfl, by omega⟩
  · obtain rfl : j = k := by omega
    have g1 := hcell (i + 1 + j) hyl
    rw [List.getElem?_eq_getElem hyl] at hy
    rw [Option.some.inj hy] at g1
    have n1 : (y == 0) = false := by simpa using hyn
    simp (disch := omega) only [cO, aJ, Nat.zero_add, fB, eL, aF, e1, dF, c1, cX, dJ, Int.toNat_natCast, eI, g1, fR, n1, and_true, cQ]
    exact hK
theorem XB {w w0 : World} {pc lo pw log left i k : Nat} {sv : Value} {ps : List Int} {B : List Bool} (h : Ws w w0 pc lo pw log sv ps B) (hB : B.length ≤ 1000000) (hk : k ≤ 1000000)
    {kn : Value → Value → Value → Value → World → Prop}
    (hK : ∀ w', Ws w' w0 pc lo pw log sv ps (B ++ TY k) → kn (.pointer (some ⟨pc, 0, none⟩)) (.pointer (some ⟨pw, 0, none⟩)) (.int .i64 left) (.int .i64 i) w') :
    rE kn (.pointer (some ⟨pc, 0, none⟩)) (.pointer (some ⟨pw, 0, none⟩)) (.int .i64 left) (.int .i64 i) (.int .i64 k) w := by
  unfold rE B0 Ce
  refine iY.rule (fun m (t : Value) w' => ∃ C : List Bool, t = .int .i64 m ∧ m ≤ k ∧ C ++ TY m = B ++ TY k ∧ C.length ≤ 1000000 + 2 * (k - m) ∧ Ws w' w0 pc lo pw log sv ps C) k ⟨B, rfl, Nat.le_refl _, rfl, by omega, h⟩ ?_
  rintro m t w1 ⟨C, rfl, hm, hC, hCl, h1⟩
  unfold vY
  rw [TY] at hC
  by_cases h3 : m < 3
  · have d1 : decide ((3 : Int) ≤ (m : Int)) = false := by simp; omega
    rw [dif_pos h3] at hC
    unfold vB
    simp (disch := omega) only [cO, fZ, d1, fL, eL, aF, cP, fU, cQ]
    refine (IH (n := 2) (x := m) h1.hw (by omega) (by omega) (by omega)).mono ?_
    rintro r w2 ⟨rfl, hw2, x2⟩
    rw [hC] at hw2
    exact hK w2 (h1.put hw2 x2)
  · have d1 : decide ((3 : Int) ≤ (m : Int)) = true := by simp; omega
    rw [dif_neg h3] at hC
    simp (disch := omega) only [cO, fZ, d1, fL, eL, aF, dA]
    refine (IH (n := 2) (x := 3) h1.hw (by omega) (by omega) (by omega)).mono ?_
    rintro r w2 ⟨rfl, hw2, x2⟩
    have e1 : (m : Int) - 3 = ((m - 3 : Nat) : Int) := by omega
    simp (disch := omega) only [e1]
    refine ⟨m - 3, by omega, C ++ mW 3 2, rfl, by omega, by rw [List.append_assoc]; exact hC, ?_, h1.put hw2 x2⟩
    rw [List.length_append, jS]; omega
end Go.Proofs.YtoepfjgekpdddaaDoor
namespace Go.Proofs.YtoepfjgekpdddaaDoor
open Go Go.En Go.Pu
set_option maxRecDepth 4000
set_option linter.unusedSimpArgs false
set_option linter.unusedVariables false
theorem UX {w w0 : World} {pc lo pw log : Nat} {sv : Value} {ps : List Int} (hm : Jo log ps) (h : Ws w w0 pc lo pw log sv ps (mW (log - 5) 4)) {RR : Value → World → Prop}
    (hR : ∀ w' pw, Ws w' w0 pc lo pw log sv ps (Cy log ps) → rA RR (.pointer (some ⟨pw, 0, none⟩)) w') :
    pY RR (.pointer (some ⟨pc, 0, none⟩)) (.pointer (some ⟨pw, 0, none⟩)) (.int .i64 (2 ^ log : Nat)) w := by
  have hlen := hm.len256
  have h15 := hm.log15
  have hp15 : 2 ^ log ≤ 2 ^ 15 := Nat.pow_le_pow_right (by omega) h15
  have hD := OR hm
  have hpow : ((2 ^ log : Nat) : Int) = (2 : Int) ^ log := by simp
  generalize hDe : Cy log ps = D at *
  unfold pY AJ Ao tQ AE
  refine iY.rule (fun m (t : Value × Value) w' => ∃ (i left g : Nat) (B : List Bool), m = ps.length - i ∧ t = (.int .i64 left, .int .i64 i) ∧ i ≤ ps.length ∧ ps.length - i ≤ g ∧ pB (ps.drop i) = left ∧ left ≤ 32768 ∧ B ++ LW g left (ps.drop i) = D ∧ Ws w' w0 pc lo pw log sv ps B) ps.length
    ⟨0, 2 ^ log, ps.length, _, rfl, rfl, by omega, by omega, by rw [List.drop_zero, hm.sum, hpow], by omega, by rw [List.drop_zero]; exact hDe, h⟩ ?_
  rintro m t w1 ⟨i, left, g, B, rfl, rfl, hi, hg, hs, hleft, hB, h1⟩
  have hBl : B.length ≤ 6000 := by rw [← hB, List.length_append] at hD; omega
  have hoc := h1.oc
  obtain ⟨sa, sc, hsv, _⟩ := h1.sl.lenI
  have hsv' := hsv
  subst hsv'
  have c1 := hoc.cell (off := 1)
  simp only [List.getElem?_cons_zero, List.getElem?_cons_succ] at c1
  unfold tS Ak
  by_cases hlt : i < ps.length
  · have d1 : decide ((i : Int) < (ps.length : Int)) = true := by simp; omega
    have hdrop : ps.drop i = ps[i] :: ps.drop (i + 1) := List.drop_eq_getElem_cons hlt
    have hlo' : ∀ p ∈ ps.drop i, -1 ≤ p := fun p hp => hm.low p (List.mem_of_mem_drop hp)
    have hlast : ∀ j, j < ps.length → (ps.drop j).getLast? ≠ some 0 := fun j hj => by
      rw [List.getLast?_drop, if_neg (by omega)]; exact hm.last
    have hpos : 0 < pB (ps.drop i) := Yt hlo' (fun h => by have := List.drop_eq_nil_iff.1 h; omega) (hlast i hlt)
    have hp0 := hm.low _ (List.getElem_mem hlt)
    have hpi := List.getElem?_eq_getElem hlt
    generalize ps[i] = p at *
    rw [hdrop, rK] at hs hpos
    have hlo2 : ∀ p ∈ ps.drop (i + 1), -1 ≤ p := fun p hp => hm.low p (List.mem_of_mem_drop hp)
    have hn := Bp hlo2
    have hpn := mJ hp0
    have hple : p ≤ iA p := by unfold iA; split <;> omega
    obtain ⟨g, rfl⟩ : ∃ g', g = g' + 1 := ⟨g - 1, by omega⟩
    unfold tG Ap AK
    simp (disch := omega) only [cO, aJ, Nat.zero_add, aF, dF, c1, cX, dI, eY, d1, dA]
    refine WL (left := left) (i := i) h1 (by omega) (by omega) hleft hpi hp0 (by omega) fun w2 h2 => ?_
    unfold tY zY
    refine (RC _ _).mono ?_
    rintro r w3 ⟨rfl, rfl⟩
    obtain ⟨pq, hpq⟩ : ∃ pq : Nat, iA p = pq := ⟨(iA p).toNat, by omega⟩
    rw [hpq] at hs hpn hple ⊢
    have e1 : (left : Int) - (pq : Int) = ((left - pq : Nat) : Int) := by omega
    have e2 : (i : Int) + 1 = ((i + 1 : Nat) : Int) := by omega
    by_cases h0 : p = 0
    · subst h0
      have n1 : ((0 : Int) != 0) = false := rfl
      obtain rfl : pq = 0 := by
        have : iA 0 = 0 := rfl
        omega
      have hne : ps.drop (i + 1) ≠ [] := by
        intro he
        rw [he] at hpos
        exact absurd hpos (by decide)
      have hlt2 : i + 1 < ps.length := by
        rcases Nat.lt_or_ge (i + 1) ps.length with h | h
        · exact h
        · exact absurd (List.drop_eq_nil_of_le h) hne
      have hz1 := fun j => SE (ps := ps.drop (i + 1)) (j := j)
      have hz2 := fun y => Th (ps := ps.drop (i + 1)) (y := y)
      have hz3 := XS (hlast (i + 1) hlt2) hne
      have hrep := JK (ps.drop (i + 1))
      have hW : LW (g + 1) left (0 :: ps.drop (i + 1)) = Ep left 1 ++ (TY ((ps.drop (i + 1)).takeWhile (· == 0)).length ++ LW g left ((ps.drop (i + 1)).drop ((ps.drop (i + 1)).takeWhile (· == 0)).length)) := by rw [LW, if_pos rfl]
      rw [hdrop, hW] at hB
      generalize ((ps.drop (i + 1)).takeWhile (· == 0)).length = k at *
      rw [List.length_drop] at hz3
      simp only [List.getElem?_drop] at hz1 hz2
      have hsum : pB (ps.drop (i + 1 + k)) = left := by
        have : pB (ps.drop (i + 1)) = pB (List.replicate k 0) + pB ((ps.drop (i + 1)).drop k) := by
          conv => lhs; rw [hrep]
          rw [Bt]
        rw [GZ, List.drop_drop] at this
        have e0 : iA 0 = 0 := rfl
        omega
      have h2' : Ws w3 w0 pc lo pw log (.slice sa ps.length sc) ps (B ++ Ep left 1) := h2
      rw [List.drop_drop] at hB
      have hl1 : (B ++ Ep left 1).length ≤ 6000 := by
        have := congrArg List.length hB
        simp only [List.length_append] at this ⊢
        omega
      have e3 : (left : Int) - ((0 : Nat) : Int) = (left : Int) := by omega
      unfold tR AC
      simp (disch := omega) only [cO, fL, e3, eL, fQ, n1, aF, cQ]
      refine W3 (left := left) (k := k) h2' (by omega) hz1 ⟨_, List.getElem?_eq_getElem (show i + 1 + k < ps.length by omega), hz2 _ (List.getElem?_eq_getElem (by omega))⟩ ?_
      unfold vS BV
      have e4 : (i : Int) + (k : Int) = ((i + k : Nat) : Int) := by omega
      simp (disch := omega) only [cO, fB, e4, eL, aF]
      refine XB (left := left) (i := i + k) h2' (by omega) (by omega) fun w4 h4 => ?_
      unfold qU
      have e5 : ((i + k : Nat) : Int) + 1 = ((i + 1 + k : Nat) : Int) := by omega
      simp (disch := omega) only [cO, fB, e5, eL, aF]
      exact ⟨ps.length - (i + 1 + k), by omega, i + 1 + k, left, g, _, rfl, rfl, by omega, by omega, hsum, hleft, by rw [← hB]; simp [List.append_assoc], h4⟩
    · have n1 : (p != 0) = true := by simpa using h0
      have hW : LW (g + 1) left (p :: ps.drop (i + 1)) = Ep left (p + 1).toNat ++ LW g (left - pq) (ps.drop (i + 1)) := by rw [LW, if_neg h0, hpq, Int.toNat_natCast]
      rw [hdrop, hW, ← List.append_assoc] at hB
      unfold qU
      simp (disch := omega) only [cO, fL, e1, eL, fQ, n1, fB, e2, aF, dA]
      exact ⟨ps.length - (i + 1), by omega, i + 1, left - pq, g, _, rfl, rfl, by omega, by omega, by omega, by omega, hB, h2⟩
  · have d1 : decide ((i : Int) < (ps.length : Int)) = false := by simp; omega
    have hnil : ps.drop i = [] := List.drop_eq_nil_of_le (by omega)
    have hB : B = D := by
      rw [hnil] at hB
      cases g with
      | zero => simpa [LW] using hB
      | succ g => simpa [LW] using hB
    rw [hB] at h1
    simp (disch := omega) only [cO, aJ, Nat.zero_add, aF, dF, c1, cX, dI, eY, d1, cQ]
    exact hR w1 pw h1
theorem Ua {log : Nat} {sv : Value} {ps : List Int} {w : World} (hm : Jo log ps) (hs : Sl w sv (ps.map (Value.int .i64))) :
    hJ pg xD #[.agg #[.int .i64 log, sv]] w (fun r w' => ∃ bytes v, r = .tuple #[v, .int .i64 0] ∧ Vg (Cy log ps) bytes ∧ uE w' w.heap.size 1 v bytes.length (bytes.map RD) ∧ gS w w' jR) := by
  refine L5 ?_
  have hlen := hm.len256
  have h15 := hm.log15
  have h5 := hm.log5
  unfold NI Ad Az
  refine nR fun w1 o1 x1 s1 => ?_
  simp only [Value.cells] at o1
  have l1 := kC o1 (off := 0) (by simp)
  simp only [List.drop_zero, List.take_succ_cons, List.take_zero] at l1
  simp (disch := omega) only [cO, l1, aW, aF, eI]
  refine (Y5 (hs.ext x1 (iQ _)) (by omega)).mono ?_
  rintro r w2 ⟨rfl, x2⟩
  rw [hm.b]
  have z1 := x1.size
  have z2 := x2.size
  simp (disch := omega) only [gD, Bool.not_true, aF, cQ]
  refine (Uo w2).mono ?_
  rintro r w3 ⟨rfl, hlt, hw3, x3⟩
  have z3 := x3.size
  have o13 := (o1.ext x2 (fun h => h)).ext x3 (fun h => h)
  have c0 := o13.cell (off := 0)
  simp only [List.getElem?_cons_zero, List.getElem?_cons_succ] at c0
  have e1 : (log : Int) - 5 = ((log - 5 : Nat) : Int) := by omega
  simp (disch := omega) only [c0, cX, aF, fL, e1, eL, cP, fU]
  refine (IH (n := 4) (x := log - 5) hw3 (by omega) (by omega) (by simp)).mono ?_
  rintro r w4 ⟨rfl, hw4, x4⟩
  have o14 := o13.ext x4 (by omega)
  have c04 := o14.cell (off := 0)
  simp only [List.getElem?_cons_zero, List.getElem?_cons_succ] at c04
  have hsh := Ub (n := log) (by omega)
  simp (disch := omega) only [c04, cX, aF, fT, Int.toNat_natCast, hsh]
  have x04 : gS w w4 jR := ((x1.seq x2).seq x3).trans x4 fun b hb h => by omega
  refine UX (lo := w2.heap.size) (pw := w2.heap.size) hm ⟨o14, hs, hw4, by omega, x04, by omega⟩ ?_
  intro w5 pw h5
  have hD := OR hm
  unfold rA
  refine (Z8 h5.hw (by omega)).mono ?_
  rintro r w6 ⟨bytes, hh, ho, x6⟩
  refine ⟨bytes, r, rfl, hh, ⟨ho.1, ?_⟩, h5.hx.seq x6⟩
  have := h5.hx.size
  rcases ho.2 with h | ⟨b, c, rest, q1, q2, q3⟩
  · exact .inl h
  · exact .inr ⟨b, c, rest, q1, by omega, q3⟩
end Go.Proofs.YtoepfjgekpdddaaDoor
namespace Go.Proofs.YtoepfjgekpdddaaDoor
open Go Go.En Go.Pu
set_option maxRecDepth 4000
set_option linter.unusedSimpArgs false
set_option linter.unusedVariables false
def TV (log : Int) (ns : List Nat) : Bool := decide (5 ≤ log ∧ log ≤ 15 ∧ ns.length ≤ 256 ∧ 2 ≤ ns.countP kY ∧ ns.countP kY ≤ 2 ^ log.toNat ∧ ns.sum ≤ 2147483647)
theorem X3 {ov t4 : Value} {log : Int} {ns : List Nat} {w : World} (hs : Sl w ov (ns.map fun (n : Nat) => Value.int .u32 n)) (hn : ∀ n ∈ ns, n ≤ 4294967295) (hl : ns.length ≤ 300) {RR : Value → World → Prop}
    (hK : ∀ last, Hp ns ns.length last → uN RR ov (.int .i64 log) t4 (.int .u64 ns.sum) (.int .i64 (ns.countP kY : Nat)) (.int .i64 last) w) :
    uF RR ov (.int .i64 log) t4 (.int .u64 0) (.int .i64 0) (.int .i64 0) w := by
  unfold uF Fl F2
  obtain ⟨a, c, hv, hc⟩ := hs.len
  rw [List.length_map] at hv
  subst hv
  simp (disch := omega) only [cO, cV, aF]
  unfold A0 Ft
  refine iY.rule (fun m (t : Value × Value × Value × Value) w' => ∃ i last : Nat, m = ns.length - i ∧ t = (.int .u64 (ns.take i).sum, .int .i64 ((ns.take i).countP kY : Nat), .int .i64 last, .int .i64 i) ∧ i ≤ ns.length ∧ Hp ns i last ∧ last ≤ i ∧ w' = w) ns.length
    ⟨0, 0, rfl, by simp, by omega, .inl ⟨rfl, fun j h => by omega⟩, by omega, rfl⟩ ?_
  rintro m t w1 ⟨i, last, rfl, rfl, hi, hla, hli, rfl⟩
  unfold Bf Fd
  by_cases hlt : i < ns.length
  · have d1 : decide ((i : Int) < (ns.length : Int)) = true := by simp; omega
    obtain ⟨b, off, rfl, hcell⟩ := YH hs (by omega)
    have g1 := hcell i hlt
    rw [List.getElem?_map, List.getElem?_eq_getElem hlt, ← nD hlt] at g1
    simp only [Option.map_some] at g1
    have hni : ns.getD i 0 ≤ 4294967295 := by rw [nD hlt]; exact hn _ (List.getElem_mem hlt)
    have hsl := Vd (B := 4294967295) (l := ns.take i) fun n hn' => hn n (List.mem_of_mem_take hn')
    rw [List.length_take, Nat.min_eq_left (by omega)] at hsl
    have hsl2 : i * 4294967295 ≤ 300 * 4294967295 := Nat.mul_le_mul_right _ (by omega)
    have hct : (ns.take i).countP kY ≤ i := by
      have := List.countP_le_length (l := ns.take i) (p := kY)
      rw [List.length_take] at this; omega
    have hsum : (ns.take (i + 1)).sum = (ns.take i).sum + ns.getD i 0 := by rw [GV hlt, List.sum_append]; simp
    have hcnt : (ns.take (i + 1)).countP kY = (ns.take i).countP kY + (if 0 < ns.getD i 0 then 1 else 0) := by
      rw [GV hlt, List.countP_append, List.countP_singleton]
      unfold kY; simp only [decide_eq_true_eq]
    have hstep := hla.step
    generalize ns.getD i 0 = n at *
    have e1 : (((ns.take i).sum : Nat) : Int) + (n : Int) = (((ns.take i).sum + n : Nat) : Int) := by omega
    by_cases h0 : 0 < n
    · have d2 : decide ((0 : Int) < (n : Int)) = true := by simp; omega
      rw [if_pos h0] at hcnt hstep
      unfold uJ
      simp (disch := omega) only [cO, eY, d1, cY, Int.toNat_natCast, fB, eL, aF, dQ, g1, cX, bP, fU, fJ, d2, dA, e1, and_true]
      exact ⟨ns.length - (i + 1), by omega, i + 1, i, rfl, by rw [hsum, hcnt] <;> rfl, by omega, hstep, by omega⟩
    · have d2 : decide ((0 : Int) < (n : Int)) = false := by simp; omega
      rw [if_neg h0] at hcnt hstep
      unfold uJ
      simp (disch := omega) only [cO, eY, d1, cY, Int.toNat_natCast, fB, eL, aF, dQ, g1, cX, bP, fU, fJ, d2, cQ, e1, and_true, dA]
      exact ⟨ns.length - (i + 1), by omega, i + 1, last, rfl, by rw [hsum, hcnt] <;> rfl, by omega, hstep, by omega⟩
  · have d1 : decide ((i : Int) < (ns.length : Int)) = false := by simp; omega
    obtain rfl : i = ns.length := by omega
    rw [List.take_of_length_le (Nat.le_refl _)]
    simp (disch := omega) only [cO, eY, d1, fB, aF, cQ]
    exact hK last hla
def Px (R S last i : Nat) (ns : List Nat) : List Nat := (ns.take i).map (oL R S) ++ List.replicate (last + 1 - i) 0
theorem Im {R S last i : Nat} {ns : List Nat} (h : i ≤ last + 1) (hl : last < ns.length) : (Px R S last i ns).length = last + 1 := by
  unfold Px; rw [List.length_append, List.length_map, List.length_take, List.length_replicate]; omega
theorem MP {R S last i j : Nat} {ns : List Nat} (h : i ≤ last + 1) (hl : last < ns.length) (hj : j ≤ last) : (Px R S last i ns)[j]? = some (if j < i then oL R S (ns.getD j 0) else 0) := by
  unfold Px
  by_cases hji : j < i
  · rw [List.getElem?_append_left (by rw [List.length_map, List.length_take]; omega), List.getElem?_map, List.getElem?_take_of_lt hji, List.getElem?_eq_getElem (by omega), if_pos hji, nD (by omega)] <;> rfl
  · rw [List.getElem?_append_right (by rw [List.length_map, List.length_take]; omega), List.getElem?_replicate, if_pos (by rw [List.length_map, List.length_take]; omega), if_neg hji]
theorem UC {R S last i : Nat} {ns : List Nat} (h : i ≤ last) (hl : last < ns.length) : (Px R S last i ns).set i (oL R S (ns.getD i 0)) = Px R S last (i + 1) ns := by
  unfold Px
  have hm : ((ns.take i).map (oL R S)).length = i := by rw [List.length_map, List.length_take]; omega
  rw [List.set_append_right _ _ (by omega), hm, Nat.sub_self, show last + 1 - i = (last + 1 - (i + 1)) + 1 from by omega, List.replicate_succ, List.set_cons_zero, GV (by omega), List.map_append, List.append_assoc] <;> rfl
theorem Wn {R S last i : Nat} {ns : List Nat} (h : i ≤ last) (hl : last < ns.length) (h0 : ns.getD i 0 = 0) : Px R S last (i + 1) ns = Px R S last i ns := by
  rw [← UC h hl, h0]
  have hp : oL R S 0 = 0 := by simp [oL]
  rw [hp]
  apply List.ext_getElem?
  intro j
  rw [List.getElem?_set]
  split
  · rename_i hj
    subst hj
    rw [if_pos (by rw [Im (by omega) hl]; omega), MP (by omega) hl h, if_neg (by omega)]
  · rfl
abbrev Wd (R S last i : Nat) (ns : List Nat) : List Value := (Px R S last i ns).map fun (n : Nat) => Value.int .i64 n
theorem XJ {pc pb log there last : Nat} {ov t4 : Value} {ns : List Nat} {w : World} (hs : Sl w ov (ns.map fun (n : Nat) => Value.int .u32 n)) (hn : ∀ n ∈ ns, n ≤ 4294967295) (hl : last < ns.length) (hl2 : ns.length ≤ 256) (hlog : log ≤ 15) (hth : there ≤ 2 ^ log) (hS0 : 0 < ns.sum) (hS : ns.sum ≤ 2147483647)
    (hlast : 0 < ns.getD last 0) (oc : jL w pc [.int .i64 log, .slice (some ⟨pb, 0, none⟩) (last + 1) (last + 1)]) (ob : jL w pb (Wd (2 ^ log - there) ns.sum last 0 ns)) (hne : pc ≠ pb) (hat : ¬ Vy ov (fun y => y = pb)) {RR : Value → World → Prop}
    (hK : ∀ (left gr : Nat) w', left + ((ns.take (last + 1)).map (pJ (2 ^ log - there) ns.sum)).sum = 2 ^ log - there → gr ≤ last → 0 < ns.getD gr 0 → jL w' pb (Wd (2 ^ log - there) ns.sum last (last + 1) ns) → gS w w' (fun y => y = pb) → zK RR t4 (.pointer (some ⟨pc, 0, none⟩)) (.int .i64 left) (.int .i64 gr) w') :
    yM RR ov (.int .i64 log) t4 (.int .u64 ns.sum) (.int .i64 there) (.int .i64 last) (.pointer (some ⟨pc, 0, none⟩)) (.int .i64 (2 ^ log - there : Nat)) (.int .i64 last) w := by
  have hp15 : 2 ^ log ≤ 2 ^ 15 := Nat.pow_le_pow_right (by omega) hlog
  obtain ⟨a, c, hv, hc⟩ := hs.len
  rw [List.length_map] at hv hc
  subst hv
  obtain ⟨b0, off0, rfl, hcell⟩ := YH hs (by omega)
  have hsub : Sl w (.slice (some ⟨b0, off0, none⟩) (last + 1) c) ((ns.map fun (n : Nat) => Value.int .u32 n).take (last + 1)) := XV hs (by omega)
  have hshl := Ub (n := log) (by omega)
  generalize hR : 2 ^ log - there = R at *
  have hRl : R ≤ 32768 := by omega
  generalize hSe : ns.sum = S at *
  unfold yM Hk G0
  have e1 : (last : Int) + 1 = ((last + 1 : Nat) : Int) := by omega
  have e2 : sL (some ⟨b0, off0, none⟩) c 0 1 = some ⟨b0, off0, none⟩ := by have := Vq (b := b0) (o := off0) (m := c) (l := 0) (by omega); simpa using this
  simp (disch := omega) only [cO, fB, e1, eL, aF, bY, e2, Int.toNat_natCast, Nat.sub_zero, cV]
  unfold CH GT
  have hmsum : ∀ i, i ≤ ns.length → ((ns.take i).map (pJ R S)).sum ≤ R := fun i hi => by
    refine QH ?_ hS0
    have : ns.sum = (ns.take i).sum + (ns.drop i).sum := by rw [← List.sum_append, List.take_append_drop]
    omega
  refine iY.rule (fun m (t : Value × Value × Value) w' => ∃ left gr i : Nat, m = last + 1 - i ∧ t = (.int .i64 left, .int .i64 gr, .int .i64 i) ∧ i ≤ last + 1 ∧ left + ((ns.take i).map (pJ R S)).sum = R ∧ gr ≤ last ∧ 0 < ns.getD gr 0 ∧ jL w' pb (Wd R S last i ns) ∧ gS w w' (fun y => y = pb)) (last + 1)
    ⟨R, last, 0, rfl, rfl, by omega, by simp, by omega, hlast, ob, gS.refl _ _⟩ ?_
  rintro m t w1 ⟨left, gr, i, rfl, rfl, hi, hleft, hgr, hgr0, ob1, x1⟩
  unfold CC Hg
  by_cases hlt : i < last + 1
  · have d1 : decide ((i : Int) < ((last + 1 : Nat) : Int)) = true := by simp only [decide_eq_true_eq]; omega
    have hs1 := hs.ext x1 hat
    obtain ⟨b1, off1, he, hcell1⟩ := YH hs1 (by omega)
    cases he
    have g1 := hcell1 i (by omega)
    rw [List.getElem?_map, List.getElem?_eq_getElem (by omega), ← nD (by omega)] at g1
    simp only [Option.map_some] at g1
    have hni : ns.getD i 0 ≤ 4294967295 := by rw [nD (by omega)]; exact hn _ (List.getElem_mem (by omega))
    have hmore : ((ns.take (i + 1)).map (pJ R S)).sum = ((ns.take i).map (pJ R S)).sum + pJ R S (ns.getD i 0) := by rw [GV (by omega), List.map_append, List.sum_append]; simp
    have hml := hmsum (i + 1) (by omega)
    have hset := UC (R := R) (S := S) (i := i) (by omega) hl
    have hzero := Wn (R := R) (S := S) (i := i) (by omega) hl
    have hgi := MP (R := R) (S := S) (i := i + 1) (j := i) (by omega) hl (by omega)
    have hgg := MP (R := R) (S := S) (i := i + 1) (j := gr) (by omega) hl hgr
    have hpl := Im (R := R) (S := S) (i := i) (by omega) hl
    rw [if_pos (by omega)] at hgi
    unfold CU
    generalize hgrv : (if gr < i + 1 then oL R S (ns.getD gr 0) else 0) = pv at *
    generalize hnv : ns.getD i 0 = n at *
    by_cases h0 : n = 0
    · subst h0
      have n1 : (((0 : Nat) : Int) == 0) = true := rfl
      have hm0 : pJ R S 0 = 0 := by simp [pJ]
      rw [hm0] at hmore
      simp (disch := omega) only [cO, eY, d1, cY, Int.toNat_natCast, fB, eL, aF, fT, aJ, Nat.zero_add, true_and, dF, fL, cP, fU, dQ, g1, cX, fR, n1, bP, fX, fW, cM, dA]
      exact ⟨last + 1 - (i + 1), by omega, left, gr, i + 1, rfl, rfl, by omega, by omega, hgr, hgr0, by unfold Wd; rw [hzero rfl]; exact ob1, x1⟩
    · have n1 : ((n : Int) == 0) = false := beq_eq_false_iff_ne.2 (by omega)
      have e3 : ((2 ^ log : Nat) : Int) - (there : Int) = (R : Int) := by omega
      have hnR : n * R ≤ 4294967295 * 32768 := Nat.mul_le_mul hni hRl
      have e4 : (n : Int) * (R : Int) = ((n * R : Nat) : Int) := by simp
      have e5 : ((n * R : Nat) : Int).tdiv (S : Int) = ((pJ R S n : Nat) : Int) := by
        rw [Int.tdiv_eq_ediv_of_nonneg (by omega)]; unfold pJ; simp
      have n2 : ((S : Int) == 0) = false := beq_eq_false_iff_ne.2 (by omega)
      have hp : oL R S n = 1 + pJ R S n := by unfold oL pJ; rw [if_neg h0]
      have hml2 : pJ R S n ≤ R := by omega
      rw [hp] at hset hgi
      have c1 := (oc.ext x1 hne).cell (off := 1)
      simp only [List.getElem?_cons_zero, List.getElem?_cons_succ] at c1
      generalize pJ R S n = q at *
      have e6 : (1 : Int) + (q : Int) = ((1 + q : Nat) : Int) := by omega
      have e7 : (left : Int) - (q : Int) = ((left - q : Nat) : Int) := by omega
      simp (disch := omega) only [cO, eY, d1, cY, Int.toNat_natCast, fB, eL, aF, fT, hshl, aJ, Nat.zero_add, true_and, dF, fL, e3, cP, fU, dQ, g1, cX, fR, n1, bP, fX, e4, fW, e5, cM, e6, c1, dJ, cQ, dA]
      refine yW ob1 rfl (by rw [List.length_map, hpl]; omega) fun w2 ob2 x2 s2 => ?_
      have hset2 : (Wd R S last i ns).set i (.int .i64 (1 + q : Nat)) = Wd R S last (i + 1) ns := by unfold Wd; rw [← hset, List.map_set]
      rw [hset2] at ob2
      have x12 := x1.seq x2
      have c2 := (oc.ext x12 hne).cell (off := 1)
      have c2d := (lA (oc.ext x12 hne)).cell (off := 1)
      simp only [List.getElem?_cons_zero, List.getElem?_cons_succ] at c2 c2d
      have f1 := (lA ob2).cell (off := i)
      have f2 := (lA ob2).cell (off := gr)
      unfold Wd at f1 f2
      rw [List.getElem?_map, hgi] at f1
      rw [List.getElem?_map, hgg] at f2
      simp only [Option.map_some] at f1 f2
      have hpv : pv ≤ 1 + R := by
        rw [← hgrv]
        split
        · unfold oL
          split
          · omega
          · have h1 : pJ R S (ns.getD gr 0) ≤ R := by
              refine Nat.le_trans ?_ (hmsum ns.length (Nat.le_refl _))
              rw [List.take_of_length_le (Nat.le_refl _)]
              have : pJ R S (ns.getD gr 0) ∈ ns.map (pJ R S) := List.mem_map.2 ⟨_, by rw [nD (by omega)]; exact List.getElem_mem _, rfl⟩
              exact TH this
            unfold pJ at h1
            omega
        · omega
      have x13 : gS w (dr w2) (fun y => y = pb) := x12.seq (gS.dr _ _)
      by_cases hbig : pv < 1 + q
      · have d2 : decide ((pv : Int) < ((1 + q : Nat) : Int)) = true := by simp only [decide_eq_true_eq]; omega
        simp (disch := omega) only [c2d, cX, e7, aF, dJ, Int.toNat_natCast, Nat.zero_add, eI, f2, true_and, f1, fJ, d2, dA]
        exact ⟨last + 1 - (i + 1), by omega, left - q, i, i + 1, rfl, rfl, by omega, by omega, by omega, by omega, lA ob2, x13⟩
      · have d2 : decide ((pv : Int) < ((1 + q : Nat) : Int)) = false := by simp only [decide_eq_false_iff_not]; omega
        simp (disch := omega) only [c2d, cX, e7, aF, dJ, Int.toNat_natCast, Nat.zero_add, eI, f2, true_and, f1, fJ, d2, cQ]
        exact ⟨last + 1 - (i + 1), by omega, left - q, gr, i + 1, rfl, rfl, by omega, by omega, hgr, hgr0, lA ob2, x13⟩
  · have d1 : decide ((i : Int) < ((last + 1 : Nat) : Int)) = false := by simp only [decide_eq_false_iff_not]; omega
    obtain rfl : i = last + 1 := by omega
    simp (disch := omega) only [cO, eY, d1, fT, Int.toNat_natCast, aJ, Nat.zero_add, true_and, aF, dF, fL, eL, cP, fU, cQ]
    exact hK left gr w1 hleft hgr hgr0 ob1 x1
end Go.Proofs.YtoepfjgekpdddaaDoor
namespace Go.Proofs.YtoepfjgekpdddaaDoor
open Go Go.En Go.Pu
set_option maxRecDepth 4000
set_option linter.unusedSimpArgs false
set_option linter.unusedVariables false
theorem Sw {p4 : Nat} {w0 w : World} (o4 : jL w p4 [.int .i64 0, .slice none 0 0]) (hx : gS w0 w jR) (hp : w0.heap.size ≤ p4) {RR : Value → World → Prop}
    (hR : ∀ w', gS w0 w' jR → RR (.tuple #[.agg #[.int .i64 0, .slice none 0 0], .int .i64 1]) w') :
    cO pg (fG 51 (.pointer (some ⟨p4, 0, none⟩)) (.agg #[.int .i64 0, .slice none 0 0])) w fun _u w => qB pg 51 (.pointer (some ⟨p4, 0, none⟩)) w fun r0 => RR (.tuple #[r0, .int .i64 1]) w := by
  refine jF o4 rfl (by simp [one]) (by simp) fun w6 o6 x6 s6 => ?_
  refine mE o6 (by simp [fV]) ?_
  simp only [fV, List.set_cons_zero, List.set_cons_succ, List.drop_zero, List.take_succ_cons, List.take_zero]
  exact hR _ (hx.new x6 hp)
def X0 (w : World) (base : Nat) (log : Int) (ns : List Nat) (r : Value) : Prop :=
  (TV log ns = false ∧ r = .tuple #[.agg #[.int .i64 0, .slice none 0 0], .int .i64 1]) ∨
  (TV log ns = true ∧ ∃ (l last pb : Nat) (ps : List Nat), log = l ∧ Hp ns ns.length last ∧ Jo l (ps.map fun (n : Nat) => (n : Int)) ∧ ps.length = last + 1 ∧ last < ns.length ∧ (∀ i, i < last + 1 → (0 < ps.getD i 0 ↔ 0 < ns.getD i 0)) ∧
    r = .tuple #[.agg #[.int .i64 l, .slice (some ⟨pb, 0, none⟩) (last + 1) (last + 1)], .int .i64 0] ∧ base ≤ pb ∧ jL w pb (ps.map fun (n : Nat) => Value.int .i64 n))
theorem Sn {ov : Value} {log : Int} {ns : List Nat} {w : World} (hs : Sl w ov (ns.map fun (n : Nat) => Value.int .u32 n)) (hn : ∀ n ∈ ns, n ≤ 4294967295) (hl : ns.length ≤ 300) :
    hJ pg wR #[ov, .int .i64 log] w (fun r w' => X0 w' w.heap.size log ns r ∧ gS w w' jR) := by
  refine Sx ?_
  obtain ⟨RR, hRR⟩ : ∃ RR : Value → World → Prop, RR = fun r w' => X0 w' w.heap.size log ns r ∧ gS w w' jR := ⟨_, rfl⟩
  rw [← hRR]
  have bad : TV log ns = false → ∀ w', gS w w' jR → RR (.tuple #[.agg #[.int .i64 0, .slice none 0 0], .int .i64 1]) w' := fun h w' hx => by
    rw [hRR]; exact ⟨.inl ⟨h, rfl⟩, hx⟩
  unfold Tc F5 Fu
  refine kZ fun w1 o1 x1 s1 => ?_
  have z1 := x1.size
  have hs1 := hs.ext x1 (iQ _)
  refine X3 hs1 hn hl fun last hlast => ?_
  unfold uN Fe
  obtain ⟨a, c, hv, hc⟩ := hs.len
  rw [List.length_map] at hv hc
  subst hv
  have no : ¬ (5 ≤ log ∧ log ≤ 15 ∧ ns.length ≤ 256 ∧ 2 ≤ ns.countP kY ∧ ns.countP kY ≤ 2 ^ log.toNat ∧ ns.sum ≤ 2147483647) → TV log ns = false := fun h => by unfold TV; exact decide_eq_false h
  have hcl : ns.countP kY ≤ ns.length := List.countP_le_length
  have hsl := Vd (B := 4294967295) hn
  have hsl2 : ns.length * 4294967295 ≤ 300 * 4294967295 := Nat.mul_le_mul_right _ (by omega)
  by_cases h1 : log < 5
  · have d1 : decide (log < 5) = true := by simpa using h1
    simp (disch := omega) only [cO, eY, d1, bF, aF, fB, fD, eP, if_true, dA, dV]
    exact Sw (RR := RR) o1 x1 (Nat.le_refl _) (bad (no (by omega)))
  have d1 : decide (log < 5) = false := by simpa using h1
  by_cases h2 : 15 < log
  · have d2 : decide (15 < log) = true := by simpa using h2
    simp (disch := omega) only [cO, eY, d1, bF, aF, fB, fT, fL, eZ, eP, Bool.false_eq_true, if_false, dZ, fJ, d2, fD, if_true, dA, dV]
    exact Sw (RR := RR) o1 x1 (Nat.le_refl _) (bad (no (by omega)))
  have d2 : decide (15 < log) = false := by simpa using h2
  by_cases h3 : ns.length < 1
  · have d3 : decide ((ns.length : Int) < 1) = true := by simp; omega
    simp (disch := omega) only [cO, eY, d1, bF, aF, fB, fT, fL, eZ, eP, Bool.false_eq_true, if_false, dZ, fJ, d2, cV, d3, fD, if_true, dA, dV]
    exact Sw (RR := RR) o1 x1 (Nat.le_refl _) (bad (no (by omega)))
  have d3 : decide ((ns.length : Int) < 1) = false := by simp; omega
  by_cases h4 : 256 < ns.length
  · have d4 : decide ((256 : Int) < (ns.length : Int)) = true := by simp; omega
    simp (disch := omega) only [cO, eY, d1, bF, aF, fB, fT, fL, eZ, eP, Bool.false_eq_true, if_false, dZ, fJ, d2, cV, d3, d4, fD, if_true, dA, dV]
    exact Sw (RR := RR) o1 x1 (Nat.le_refl _) (bad (no (by omega)))
  have d4 : decide ((256 : Int) < (ns.length : Int)) = false := by simp; omega
  by_cases h5 : ns.countP kY < 2
  · have d5 : decide (((ns.countP kY : Nat) : Int) < 2) = true := by simp only [decide_eq_true_eq]; omega
    simp (disch := omega) only [cO, eY, d1, bF, aF, fB, fT, fL, eZ, eP, Bool.false_eq_true, if_false, dZ, fJ, d2, cV, d3, d4, d5, fD, if_true, dA, dV]
    exact Sw (RR := RR) o1 x1 (Nat.le_refl _) (bad (no (by omega)))
  have d5 : decide (((ns.countP kY : Nat) : Int) < 2) = false := by simp only [decide_eq_false_iff_not]; omega
  obtain ⟨l, rfl⟩ : ∃ l : Nat, log = l := ⟨log.toNat, by omega⟩
  have hshl := Ub (n := l) (by omega)
  have hp15 : 2 ^ l ≤ 2 ^ 15 := Nat.pow_le_pow_right (by omega) (by omega)
  rw [Int.toNat_natCast] at no
  by_cases h6 : 2 ^ l < ns.countP kY
  · have d6 : decide (((2 ^ l : Nat) : Int) < ((ns.countP kY : Nat) : Int)) = true := by simp only [decide_eq_true_eq]; omega
    simp (disch := omega) only [cO, eY, d1, bF, aF, fB, fT, Int.toNat_natCast, hshl, fL, eZ, eP, Bool.false_eq_true, if_false, dZ, fJ, d2, cV, d3, d4, d5, d6, fD, if_true, dA, dV]
    exact Sw (RR := RR) o1 x1 (Nat.le_refl _) (bad (no (by omega)))
  have d6 : decide (((2 ^ l : Nat) : Int) < ((ns.countP kY : Nat) : Int)) = false := by simp only [decide_eq_false_iff_not]; omega
  by_cases h7 : 2147483647 < ns.sum
  · have d7 : decide ((2147483647 : Int) < ((ns.sum : Nat) : Int)) = true := by simp only [decide_eq_true_eq]; omega
    simp (disch := omega) only [cO, eY, d1, bF, aF, fB, fT, Int.toNat_natCast, hshl, fL, eL, eZ, eP, Bool.false_eq_true, if_false, dZ, fJ, d2, cV, d3, d4, d5, d6, d7, dA]
    exact Sw (RR := RR) o1 x1 (Nat.le_refl _) (bad (no (by omega)))
  have d7 : decide ((2147483647 : Int) < ((ns.sum : Nat) : Int)) = false := by simp only [decide_eq_false_iff_not]; omega
  have hok : TV (l : Int) ns = true := by unfold TV; rw [Int.toNat_natCast]; exact decide_eq_true (by omega)
  have hl2 : last < ns.length ∧ 0 < ns.getD last 0 := by
    rcases hlast with ⟨rfl, h⟩ | ⟨q1, q2, _⟩
    · exfalso
      have : ns.countP kY = 0 := wT fun n hn => by
        obtain ⟨i, hi, rfl⟩ := List.getElem_of_mem hn
        rw [← nD hi]; exact h i hi
      omega
    · exact ⟨q1, q2⟩
  have hS0 : 0 < ns.sum := by
    have := TH (l := ns) (n := ns.getD last 0) (by rw [nD hl2.1]; exact List.getElem_mem _)
    omega
  have e1 : (last : Int) + 1 = ((last + 1 : Nat) : Int) := by omega
  simp (disch := omega) only [cO, eY, d1, bF, aF, fB, e1, eL, fT, Int.toNat_natCast, hshl, fL, eZ, eP, Bool.false_eq_true, if_false, dZ, fJ, d2, cV, d3, d4, d5, d6, d7, cQ]
  refine Tf (by omega) (by omega) fun w2 o2 x2 s2 => ?_
  rw [Int.toNat_natCast] at o2 ⊢
  simp (disch := omega) only [bA, aF]
  refine kZ fun w3 o3 x3 s3 => ?_
  refine jF o3 rfl (by simp [one]) (by simp) fun w4 o4 x4 s4 => ?_
  simp only [fV, List.set_cons_zero, List.set_cons_succ] at o4
  have z2 := x2.size
  have z3 := x3.size
  have x14 : gS w1 w4 jR := (x2.seq x3).new x4 (by omega)
  have e2 : ((2 ^ l : Nat) : Int) - ((ns.countP kY : Nat) : Int) = ((2 ^ l - ns.countP kY : Nat) : Int) := by omega
  have l2 := o2.lt
  have hpb : Wd (2 ^ l - ns.countP kY) ns.sum last 0 ns = List.replicate (last + 1) (Value.int .i64 0) := by
    unfold Wd Px
    simp [List.map_replicate]
  have ob4 : jL w4 w1.heap.size (Wd (2 ^ l - ns.countP kY) ns.sum last 0 ns) := by
    rw [hpb]; exact (o2.ext x3 (fun h => h)).ext x4 (by omega)
  simp (disch := omega) only [e2]
  refine XJ (pc := w2.heap.size) (pb := w1.heap.size) (hs1.ext x14 (iQ _)) hn hl2.1 (by omega) (by omega) (by omega) hS0 (by omega) hl2.2 o4 ob4 (by omega) (fun h => hs.old (Uu h fun b hb => by omega)) fun left gr w5 hleft hgr hgr0 ob5 x5 => ?_
  unfold zK
  have o45 := o4.ext x5 (by omega)
  have c5 := o45.cell (off := 1)
  simp only [List.getElem?_cons_zero, List.getElem?_cons_succ] at c5
  have hgg := MP (R := 2 ^ l - ns.countP kY) (S := ns.sum) (i := last + 1) (j := gr) (by omega) hl2.1 hgr
  rw [if_pos (by omega)] at hgg
  have f1 := ob5.cell (off := gr)
  unfold Wd at f1
  rw [List.getElem?_map, hgg] at f1
  simp only [Option.map_some] at f1
  obtain ⟨hmay, hofl, _, hiff⟩ := Zu (log := l) (there := ns.countP kY) (left := left) (gr := gr) (by omega) (by omega) (by omega) rfl (by omega) (by omega) hlast hgr hgr0 hleft
  have hpq : Px (2 ^ l - ns.countP kY) ns.sum last (last + 1) ns = (ns.take (last + 1)).map (oL (2 ^ l - ns.countP kY) ns.sum) := by
    unfold Px; rw [Nat.sub_self]; simp
  have hgd : ((ns.take (last + 1)).map (oL (2 ^ l - ns.countP kY) ns.sum)).getD gr 0 = oL (2 ^ l - ns.countP kY) ns.sum (ns.getD gr 0) := by
    rw [hpq] at hgg
    rw [List.getD_eq_getElem?_getD, hgg] <;> rfl
  have hset : (Wd (2 ^ l - ns.countP kY) ns.sum last (last + 1) ns).set gr (.int .i64 (oL (2 ^ l - ns.countP kY) ns.sum (ns.getD gr 0) + left : Nat)) = (wE l (ns.countP kY) ns.sum last gr left ns).map fun (n : Nat) => Value.int .i64 n := by
    unfold Wd wE
    rw [hpq, hgd, List.map_set]
  have hpl := Im (R := 2 ^ l - ns.countP kY) (S := ns.sum) (i := last + 1) (by omega) hl2.1
  have hpb : oL (2 ^ l - ns.countP kY) ns.sum (ns.getD gr 0) + left ≤ 70000 := by
    have hq := QH (R := 2 ^ l - ns.countP kY) (S := ns.sum) (l := ns) (Nat.le_refl _) hS0
    have hq2 := TH (n := pJ (2 ^ l - ns.countP kY) ns.sum (ns.getD gr 0)) (l := ns.map (pJ (2 ^ l - ns.countP kY) ns.sum)) (List.mem_map.2 ⟨_, by rw [nD (by omega)]; exact List.getElem_mem _, rfl⟩)
    have hq3 : oL (2 ^ l - ns.countP kY) ns.sum (ns.getD gr 0) ≤ 1 + pJ (2 ^ l - ns.countP kY) ns.sum (ns.getD gr 0) := by
      unfold oL pJ
      split
      · exact Nat.zero_le _
      · exact Nat.le_refl _
    omega
  generalize oL (2 ^ l - ns.countP kY) ns.sum (ns.getD gr 0) = pv at *
  have e3 : (pv : Int) + (left : Int) = ((pv + left : Nat) : Int) := by omega
  simp (disch := omega) only [cO, aJ, Nat.zero_add, aF, dF, c5, cX, dJ, Int.toNat_natCast, eI, f1, fB, e3, eL]
  refine yW ob5 rfl (by rw [List.length_map, hpl]; omega) fun w6 ob6 x6 s6 => ?_
  rw [hset] at ob6
  have o46 := o45.ext x6 (by omega)
  have lc := kC (off := 0) o46 (by simp)
  simp only [List.drop_zero, List.take_succ_cons, List.take_zero] at lc
  have o16 := ((o1.ext x14 (fun h => h)).ext x5 (by omega)).ext x6 (by omega)
  simp (disch := omega) only [lc, aF]
  refine jF o16 rfl (by simp [one]) (by simp) fun w7 o7 x7 s7 => ?_
  refine mE o7 (by simp [fV]) ?_
  simp only [fV, List.set_cons_zero, List.set_cons_succ, List.drop_zero, List.take_succ_cons, List.take_zero]
  rw [hRR]
  refine ⟨.inr ⟨hok, l, last, w1.heap.size, _, rfl, hlast, hmay, hofl, hl2.1, hiff, rfl, z1, ob6.ext x7 (by omega)⟩, ?_⟩
  have x06 : gS w w6 jR := ((x1.seq x14).trans x5 fun b hb h => by omega).trans x6 fun b hb h => by omega
  exact x06.new x7 (Nat.le_refl _)
end Go.Proofs.YtoepfjgekpdddaaDoor
namespace Go.Proofs.YtoepfjgekpdddaaDoor
open Go Go.En Go.Pu
set_option maxRecDepth 4000
set_option linter.unusedSimpArgs false
set_option linter.unusedVariables false
abbrev cN (S : List Int) : List Value := (Ej S).map fun (n : Nat) => Value.int .u32 n
abbrev Xm : Value := .agg #[.int .i64 0, .slice none 0 0]
theorem Zr {S : List Int} {c : Nat} (h : c < 256) : (cN S)[c]? = some (.int .u32 (S.count (c : Int) : Nat)) := by
  rw [List.getElem?_map, List.getElem?_eq_getElem (by rw [oI]; exact h), ← nD, IJ h] <;> rfl
theorem Zm {S : List Int} {c : Nat} (h : c < 256) : (cN S).set c (.int .u32 ((S.count (c : Int) + 1 : Nat))) = cN (S ++ [(c : Int)]) := by
  show _ = (Ej (S ++ [(c : Int)])).map _
  rw [UD h, List.map_set]
theorem Tk {p : Nat} {w0 w : World} {x : Int} {a : Option Addr} {k c : Nat} {n e f : Value} (o : jL w p [.int .i64 0, .slice none 0 0]) (hx : gS w0 w jR) (hp : w0.heap.size ≤ p) {RR : Value → World → Prop}
    (hR : ∀ w', gS w0 w' jR → gS w w' (fun y => y = p) → RR (.tuple #[.agg #[.int .i64 x, .slice a k c], n, e, f]) w') :
    cO pg (fG 26 (.pointer (some ⟨p, 0, none⟩)) (.agg #[.int .i64 x, .slice a k c])) w fun _u w => qB pg 26 (.pointer (some ⟨p, 0, none⟩)) w fun r0 => RR (.tuple #[r0, n, e, f]) w := by
  refine jM o rfl (by simp [one]) (by simp) fun w6 o6 x6 s6 => ?_
  refine nY o6 (by simp [fV]) ?_
  simp only [fV, List.set_cons_zero, List.set_cons_succ, List.drop_zero, List.take_succ_cons, List.take_zero]
  exact hR _ (hx.new x6 hp) x6
theorem ZE {a : Int} {lv : Value} {l : List Int} {p4 po : Nat} {last : Int} {w0 w : World} (hs : Sl w0 lv (l.map (Value.int .i64))) (hx : gS w0 w jR) (hp4 : w0.heap.size ≤ p4) (hpo : w0.heap.size ≤ po) (hne : p4 ≠ po)
    (o4 : jL w p4 [.int .i64 0, .slice none 0 0]) (oo : jL w po (cN [])) (hl0 : 0 ≤ last) (hl1 : last ≤ 60) (hlen : l.length ≤ 131072) {RR : Value → World → Prop} {kn : Value → Value → Value → Value → Value → Value → World → Prop}
    (hbad : (∃ x ∈ l, ¬ (0 ≤ x ∧ x ≤ last)) → ∀ w', gS w0 w' jR → RR (.tuple #[Xm, .int .i64 0, .slice none 0 0, .int .i64 1]) w')
    (hK : (∀ x ∈ l, 0 ≤ x ∧ x ≤ last) → ∀ w', jL w' p4 [.int .i64 0, .slice none 0 0] → jL w' po (cN l) → gS w0 w' jR →
      kn (.int .i64 a) lv (.pointer (some ⟨p4, 0, none⟩)) (.pointer (some ⟨po, 0, none⟩)) (.int .i64 ((Ej l).countP kY : Nat)) (.int .i64 (Tu l)) w') :
    tN kn RR (.int .i64 a) lv (.pointer (some ⟨p4, 0, none⟩)) (.int .i64 last) (.pointer (some ⟨po, 0, none⟩)) (.int .i64 0) (.int .i64 0) w := by
  unfold tN Au
  obtain ⟨la, lc, rfl, _⟩ := hs.lenI
  simp (disch := omega) only [cO, gY, aF, dO, fB, fL, fX, fW, fY, gF, iP, gK, eD, fT, gC, fR, fQ, eY, gH, fJ, fZ, gI, gO, gD, eP, gP, gG, gB, lE, lC, lL, lJ, lK, lV, lU, lW, lT, cX, Result.ok.injEq, Next.value.injEq, true_and, and_true, eL, fU, gL, gN, gM, iK, Int.toNat_natCast, fK, fD, fM, eZ, dZ, dV, eU, eC, dA, cQ, if_true, if_false, Bool.false_eq_true, Nat.zero_add, Option.isNone_some, Option.isNone_none, Bool.not_true, Bool.not_false, List.getElem?_cons_succ, List.getElem?_cons_zero, cS, aZ, bU, bV, bT, bC, eA, dG, dH, dC, aW, eI, bR, aJ, dF, dI, dJ, dD, bL, bN, cB, bA, cF, cG, bF, cJ, cL, cZ, cK, cD, cH, cC, dR, bW, cU, dT, bS, cV, aY, cI, dQ, bH, aO, aI, aP, aK, aM, aT, aE, cM, bG, cY, bP, bY, cP, aQ, aV, aU, aX, aR, aD, aB, aC, dB, aH, aG, bM, bB, bK, dE, bE, bZ, bD, bQ, bO, aL, dS, aS, dM, dL, aN, bX, cA, dN, eS]
  unfold uD zW
  refine iY.rule (fun m (t : Value × Value × Value) w' => ∃ i : Nat, m = l.length - i ∧ t = (.int .i64 ((Ej (l.take i)).countP kY : Nat), .int .i64 (Tu (l.take i)), .int .i64 i) ∧ i ≤ l.length ∧ (∀ x ∈ l.take i, 0 ≤ x ∧ x ≤ last) ∧
    jL w' po (cN (l.take i)) ∧ gS w w' (fun y => y = po)) l.length ⟨0, rfl, ?_, by omega, by simp, by rw [List.take_zero]; exact oo, gS.refl _ _⟩ ?_
  · rw [List.take_zero, TW, wT (fun n hn => List.eq_of_mem_replicate hn)] <;> rfl
  rintro m t w1 ⟨i, rfl, rfl, hi, hok, o1, x1⟩
  have x01 : gS w0 w1 jR := hx.new x1 hpo
  have z1 := x01.size
  have o41 := o4.ext x1 (by omega)
  unfold tK As
  by_cases hlt : i < l.length
  · have d1 : decide ((i : Int) < (l.length : Int)) = true := by simp; omega
    obtain ⟨lb, off, rfl, hcell⟩ := YH (hs.ext x01 (iQ _)) (by omega)
    have g1 := hcell i hlt
    rw [List.getElem?_map, List.getElem?_eq_getElem hlt] at g1
    simp only [Option.map_some] at g1
    have hmem : l[i] ∈ l := List.getElem_mem hlt
    have htk : l.take (i + 1) = l.take i ++ [l[i]] := by rw [List.take_add_one, List.getElem?_eq_getElem hlt] <;> rfl
    generalize l[i] = x at *
    unfold tH Av Ac Ax
    by_cases h0 : x < 0
    · have d2 : decide (x < 0) = true := by simpa using h0
      simp (disch := omega) only [cO, gY, aF, dO, fB, fL, fX, fW, fY, gF, iP, gK, eD, fT, gC, fR, fQ, eY, gH, fJ, fZ, gI, gO, gD, eP, gP, gG, gB, lE, lC, lL, lJ, lK, lV, lU, lW, lT, cX, Result.ok.injEq, Next.value.injEq, true_and, and_true, eL, fU, gL, gN, gM, iK, Int.toNat_natCast, fK, fD, fM, eZ, dZ, dV, eU, eC, dA, cQ, if_true, if_false, Bool.false_eq_true, Nat.zero_add, Option.isNone_some, Option.isNone_none, Bool.not_true, Bool.not_false, List.getElem?_cons_succ, List.getElem?_cons_zero, cS, aZ, bU, bV, bT, bC, eA, dG, dH, dC, aW, eI, bR, aJ, dF, dI, dJ, dD, bL, bN, cB, bA, cF, cG, bF, cJ, cL, cZ, cK, cD, cH, cC, dR, bW, cU, dT, bS, cV, aY, cI, dQ, bH, aO, aI, aP, aK, aM, aT, aE, cM, bG, cY, bP, bY, cP, aQ, aV, aU, aX, aR, aD, aB, aC, dB, aH, aG, bM, bB, bK, dE, bE, bZ, bD, bQ, bO, aL, dS, aS, dM, dL, aN, bX, cA, dN, eS, d1, g1, d2]
      exact Tk o41 x01 hp4 fun w' x' _ => hbad ⟨x, hmem, by omega⟩ w' x'
    have d2 : decide (x < 0) = false := by simpa using h0
    by_cases h1 : last < x
    · have d3 : decide (last < x) = true := by simpa using h1
      simp (disch := omega) only [cO, gY, aF, dO, fB, fL, fX, fW, fY, gF, iP, gK, eD, fT, gC, fR, fQ, eY, gH, fJ, fZ, gI, gO, gD, eP, gP, gG, gB, lE, lC, lL, lJ, lK, lV, lU, lW, lT, cX, Result.ok.injEq, Next.value.injEq, true_and, and_true, eL, fU, gL, gN, gM, iK, Int.toNat_natCast, fK, fD, fM, eZ, dZ, dV, eU, eC, dA, cQ, if_true, if_false, Bool.false_eq_true, Nat.zero_add, Option.isNone_some, Option.isNone_none, Bool.not_true, Bool.not_false, List.getElem?_cons_succ, List.getElem?_cons_zero, cS, aZ, bU, bV, bT, bC, eA, dG, dH, dC, aW, eI, bR, aJ, dF, dI, dJ, dD, bL, bN, cB, bA, cF, cG, bF, cJ, cL, cZ, cK, cD, cH, cC, dR, bW, cU, dT, bS, cV, aY, cI, dQ, bH, aO, aI, aP, aK, aM, aT, aE, cM, bG, cY, bP, bY, cP, aQ, aV, aU, aX, aR, aD, aB, aC, dB, aH, aG, bM, bB, bK, dE, bE, bZ, bD, bQ, bO, aL, dS, aS, dM, dL, aN, bX, cA, dN, eS, d1, g1, d2, d3]
      exact Tk o41 x01 hp4 fun w' x' _ => hbad ⟨x, hmem, by omega⟩ w' x'
    have d3 : decide (last < x) = false := by simpa using h1
    obtain ⟨c, rfl⟩ : ∃ c : Nat, x = c := ⟨x.toNat, by omega⟩
    have f1 := o1.cell (off := c)
    rw [Zr (by omega)] at f1
    have hcnt : (l.take i).count (c : Int) ≤ i := by
      have := List.count_le_length (a := (c : Int)) (l := l.take i)
      rw [List.length_take] at this; omega
    have hset := Zm (S := l.take i) (c := c) (by omega)
    have hon : (Ej (l.take (i + 1))).countP kY = (Ej (l.take i)).countP kY + if (l.take i).count (c : Int) = 0 then 1 else 0 := by
      rw [htk, UD (by omega), Lo (by rw [oI]; omega) (by omega), IJ (by omega)]
    have hgm : Tu (l.take (i + 1)) = max (Tu (l.take i)) (c : Int) := by rw [htk, XY]
    have hok' : ∀ x ∈ l.take (i + 1), 0 ≤ x ∧ x ≤ last := by
      rw [htk]; intro x hx'
      rcases List.mem_append.1 hx' with h | h
      · exact hok x h
      · rw [List.mem_singleton.1 h]; omega
    have hcb : (Ej (l.take i)).countP kY ≤ 256 := by
      have := List.countP_le_length (l := Ej (l.take i)) (p := kY)
      rw [oI] at this; exact this
    have hgm2 : max (Tu (l.take i)) (c : Int) = if (c : Int) > Tu (l.take i) then (c : Int) else Tu (l.take i) := by omega
    rw [hgm2] at hgm
    rw [← htk] at hset
    generalize (l.take i).count (c : Int) = q at *
    generalize hG : Tu (l.take i) = G at *
    generalize hG2 : Tu (l.take (i + 1)) = G2 at *
    have e1 : (q : Int) + 1 = ((q + 1 : Nat) : Int) := by omega
    simp (disch := omega) only [cO, gY, aF, dO, fB, fL, fX, fW, fY, gF, iP, gK, eD, fT, gC, fR, fQ, eY, gH, fJ, fZ, gI, gO, gD, eP, gP, gG, gB, lE, lC, lL, lJ, lK, lV, lU, lW, lT, cX, Result.ok.injEq, Next.value.injEq, true_and, and_true, eL, fU, gL, gN, gM, iK, Int.toNat_natCast, fK, fD, fM, eZ, dZ, dV, eU, eC, dA, cQ, if_true, if_false, Bool.false_eq_true, Nat.zero_add, Option.isNone_some, Option.isNone_none, Bool.not_true, Bool.not_false, List.getElem?_cons_succ, List.getElem?_cons_zero, cS, aZ, bU, bV, bT, bC, eA, dG, dH, dC, aW, eI, bR, aJ, dF, dI, dJ, dD, bL, bN, cB, bA, cF, cG, bF, cJ, cL, cZ, cK, cD, cH, cC, dR, bW, cU, dT, bS, cV, aY, cI, dQ, bH, aO, aI, aP, aK, aM, aT, aE, cM, bG, cY, bP, bY, cP, aQ, aV, aU, aX, aR, aD, aB, aC, dB, aH, aG, bM, bB, bK, dE, bE, bZ, bD, bQ, bO, aL, dS, aS, dM, dL, aN, bX, cA, dN, eS, d1, g1, d2, d3, f1, e1]
    refine W6 o1 rfl (by rw [List.length_map, oI]; omega) fun w2 o2 x2 s2 => ?_
    rw [hset] at o2
    have f2 := o2.cell (off := c)
    have f2' : (cN (l.take (i + 1)))[c]? = some (.int .u32 ((q + 1 : Nat))) := by
      rw [← hset, List.getElem?_set_self (by rw [List.length_map, oI]; omega)]
    rw [f2'] at f2
    have x12 : gS w w2 (fun y => y = po) := x1.seq x2
    unfold tE tW
    by_cases hq : q = 0
    · have n1 : (((q + 1 : Nat) : Int) == 1) = true := by rw [hq] <;> rfl
      rw [if_pos hq] at hon
      simp (disch := omega) only [cO, gY, aF, dO, fB, fL, fX, fW, fY, gF, iP, gK, eD, fT, gC, fR, fQ, eY, gH, fJ, fZ, gI, gO, gD, eP, gP, gG, gB, lE, lC, lL, lJ, lK, lV, lU, lW, lT, cX, Result.ok.injEq, Next.value.injEq, true_and, and_true, eL, fU, gL, gN, gM, iK, Int.toNat_natCast, fK, fD, fM, eZ, dZ, dV, eU, eC, dA, cQ, if_true, if_false, Bool.false_eq_true, Nat.zero_add, Option.isNone_some, Option.isNone_none, Bool.not_true, Bool.not_false, List.getElem?_cons_succ, List.getElem?_cons_zero, cS, aZ, bU, bV, bT, bC, eA, dG, dH, dC, aW, eI, bR, aJ, dF, dI, dJ, dD, bL, bN, cB, bA, cF, cG, bF, cJ, cL, cZ, cK, cD, cH, cC, dR, bW, cU, dT, bS, cV, aY, cI, dQ, bH, aO, aI, aP, aK, aM, aT, aE, cM, bG, cY, bP, bY, cP, aQ, aV, aU, aX, aR, aD, aB, aC, dB, aH, aG, bM, bB, bK, dE, bE, bZ, bD, bQ, bO, aL, dS, aS, dM, dL, aN, bX, cA, dN, eS, f2, n1]
      refine ⟨l.length - (i + 1), by omega, i + 1, rfl, ?_, by omega, hok', o2, x12⟩
      rw [hon, hG2, hgm] <;> rfl
    · have n1 : (((q + 1 : Nat) : Int) == 1) = false := beq_eq_false_iff_ne.2 (by omega)
      rw [if_neg hq] at hon
      simp (disch := omega) only [cO, gY, aF, dO, fB, fL, fX, fW, fY, gF, iP, gK, eD, fT, gC, fR, fQ, eY, gH, fJ, fZ, gI, gO, gD, eP, gP, gG, gB, lE, lC, lL, lJ, lK, lV, lU, lW, lT, cX, Result.ok.injEq, Next.value.injEq, true_and, and_true, eL, fU, gL, gN, gM, iK, Int.toNat_natCast, fK, fD, fM, eZ, dZ, dV, eU, eC, dA, cQ, if_true, if_false, Bool.false_eq_true, Nat.zero_add, Option.isNone_some, Option.isNone_none, Bool.not_true, Bool.not_false, List.getElem?_cons_succ, List.getElem?_cons_zero, cS, aZ, bU, bV, bT, bC, eA, dG, dH, dC, aW, eI, bR, aJ, dF, dI, dJ, dD, bL, bN, cB, bA, cF, cG, bF, cJ, cL, cZ, cK, cD, cH, cC, dR, bW, cU, dT, bS, cV, aY, cI, dQ, bH, aO, aI, aP, aK, aM, aT, aE, cM, bG, cY, bP, bY, cP, aQ, aV, aU, aX, aR, aD, aB, aC, dB, aH, aG, bM, bB, bK, dE, bE, bZ, bD, bQ, bO, aL, dS, aS, dM, dL, aN, bX, cA, dN, eS, f2, n1]
      refine ⟨l.length - (i + 1), by omega, i + 1, rfl, ?_, by omega, hok', o2, x12⟩
      rw [hon, hG2, hgm] <;> rfl
  · have d1 : decide ((i : Int) < (l.length : Int)) = false := by simp; omega
    obtain rfl : i = l.length := by omega
    rw [List.take_of_length_le (Nat.le_refl _)] at *
    simp (disch := omega) only [cO, gY, aF, dO, fB, fL, fX, fW, fY, gF, iP, gK, eD, fT, gC, fR, fQ, eY, gH, fJ, fZ, gI, gO, gD, eP, gP, gG, gB, lE, lC, lL, lJ, lK, lV, lU, lW, lT, cX, Result.ok.injEq, Next.value.injEq, true_and, and_true, eL, fU, gL, gN, gM, iK, Int.toNat_natCast, fK, fD, fM, eZ, dZ, dV, eU, eC, dA, cQ, if_true, if_false, Bool.false_eq_true, Nat.zero_add, Option.isNone_some, Option.isNone_none, Bool.not_true, Bool.not_false, List.getElem?_cons_succ, List.getElem?_cons_zero, cS, aZ, bU, bV, bT, bC, eA, dG, dH, dC, aW, eI, bR, aJ, dF, dI, dJ, dD, bL, bN, cB, bA, cF, cG, bF, cJ, cL, cZ, cK, cD, cH, cC, dR, bW, cU, dT, bS, cV, aY, cI, dQ, bH, aO, aI, aP, aK, aM, aT, aE, cM, bG, cY, bP, bY, cP, aQ, aV, aU, aX, aR, aD, aB, aC, dB, aH, aG, bM, bB, bK, dE, bE, bZ, bD, bQ, bO, aL, dS, aS, dM, dL, aN, bX, cA, dN, eS, d1]
    exact hK hok w1 o41 o1 x01
end Go.Proofs.YtoepfjgekpdddaaDoor
namespace Go.Proofs.YtoepfjgekpdddaaDoor
open Go Go.En Go.Pu
set_option maxRecDepth 4000
set_option linter.unusedSimpArgs false
set_option linter.unusedVariables false
structure SH (a : Int) (l : List Int) (mode : Int) (lg : Nat) (L : List T3) (bytes : List UInt8) : Prop where
  mode0 : 0 ≤ mode
  mode2 : mode ≤ 2
  read : ∀ T more, kU a mode (bytes ++ more) T = .ok ((lg, L), bytes.length)
  has : ∀ x ∈ l, ∃ e ∈ L, e.1 = x
  one : (∀ x ∈ l, ∀ y ∈ l, x = y) → mode = 1 ∧ L.length = 1
  len1 : mode = 1 → bytes.length = 1
  tab : (∃ ps, Jo lg ps ∧ L = mD lg ps) ∨ ∃ c : Int, 0 ≤ c ∧ c ≤ 60 ∧ lg = 0 ∧ L = [(c, 0, 0)]
  log9 : lg ≤ 9
  blen : bytes.length ≤ 1000
theorem SH.len {a : Int} {l : List Int} {mode : Int} {lg : Nat} {L : List T3} {bytes : List UInt8} (h : SH a l mode lg L bytes) : L.length ≤ 512 := by
  rcases h.tab with ⟨ps, hm, rfl⟩ | ⟨c, _, _, rfl, rfl⟩
  · rw [mO]; exact Nat.pow_le_pow_right (by omega) h.log9
  · simp
theorem ZG {a : Int} (h : 0 ≤ a ∧ a ≤ 2) : (∀ x ∈ RE a, x ≠ 0) ∧ LX a ≤ 6 ∧ (RE a).length ≤ 53 := by
  rcases (show a = 0 ∨ a = 1 ∨ a = 2 by omega) with rfl | rfl | rfl <;> decide
theorem Uf {a : Int} (h : 0 ≤ a ∧ a ≤ 2) : 8 ≤ xE a ∧ xE a ≤ 9 := by
  rcases (show a = 0 ∨ a = 1 ∨ a = 2 by omega) with rfl | rfl | rfl <;> decide
theorem Xd {a : Int} {l : List Int} {c : Nat} (ha : 0 ≤ a ∧ a ≤ 2) (hc : (c : Int) ≤ nB a) (hc2 : c < 256) (h : ∀ x ∈ l, x = (c : Int)) : SH a l 1 0 [((c : Nat), 0, 0)] [UInt8.ofNat c] := by
  have hcc : ((UInt8.ofNat c).toNat : Nat) = c := by simp; omega
  have := xQ ha
  refine ⟨by omega, by omega, fun T more => ?_, fun x hx => ⟨_, List.mem_singleton.2 rfl, (h x hx).symm⟩, fun _ => ⟨rfl, rfl⟩, fun _ => rfl, .inr ⟨_, by omega, by omega, rfl, rfl⟩, by omega, by simp⟩
  unfold kU
  rw [if_neg (by omega), if_neg (by omega), if_pos rfl]
  show (if nB a < ((UInt8.ofNat c).toNat : Int) then _ else _) = _
  rw [hcc, if_neg (by omega)] <;> rfl
theorem VC {a : Int} {l : List Int} (ha : 0 ≤ a ∧ a ≤ 2) (h : ∀ x ∈ l, 0 ≤ x ∧ x < ((RE a).length : Nat)) (h1 : ¬ (∀ x ∈ l, ∀ y ∈ l, x = y)) : SH a l 0 (LX a) (mD (LX a) (RE a)) [] := by
  obtain ⟨hnz, hl6, _⟩ := ZG ha
  have hm := TN (a := a) (by omega)
  refine ⟨by omega, by omega, fun T more => ?_, fun x hx => ?_, fun h => absurd h h1, fun h => by omega, .inl ⟨_, hm, rfl⟩, by omega, by simp⟩
  · unfold kU
    rw [if_neg (by omega), if_pos rfl] <;> rfl
  · obtain ⟨h0, h2⟩ := h x hx
    obtain ⟨c, rfl⟩ : ∃ c : Nat, x = c := ⟨x.toNat, by omega⟩
    obtain ⟨i, hi, e⟩ := SB hm (s := c) (by omega) (hnz _ (List.getElem_mem _))
    exact ⟨_, List.getElem_mem hi, e⟩
theorem Wv {a : Int} {l : List Int} {lg : Nat} {ps : List Int} {bytes : List UInt8} (ha : 0 ≤ a ∧ a ≤ 2) (hm : Jo lg ps) (hh : Vg (Cy lg ps) bytes) (hlg : (lg : Int) = xE a) (hps : (ps.length : Int) ≤ nB a + 1) (h : ∀ x ∈ l, ∃ c : Nat, x = c ∧ ∃ h : c < ps.length, ps[c] ≠ 0) (h1 : ¬ (∀ x ∈ l, ∀ y ∈ l, x = y)) :
    SH a l 2 lg (mD lg ps) bytes := by
  have hmo := Uf ha
  have hla := xQ ha
  have hD := OR hm
  have hb := hh.len
  refine ⟨by omega, by omega, fun T more => ?_, fun x hx => ?_, fun h => absurd h h1, fun h => by omega, .inl ⟨_, hm, rfl⟩, by omega, by omega⟩
  · unfold kU
    rw [if_neg (by omega), if_neg (by omega), if_neg (by omega), if_neg (by omega), CT, hh.bits, List.append_assoc, YC hm (by omega) (by omega)]
    show Except.ok _ = Except.ok _
    rw [hb]
  · obtain ⟨c, rfl, hc, hn⟩ := h x hx
    obtain ⟨i, hi, e⟩ := SB hm (s := c) hc hn
    exact ⟨_, List.getElem_mem hi, e⟩
def Hc (a : Int) (l : List Int) : Prop := (0 ≤ a ∧ a ≤ 2) ∧ l ≠ [] ∧ ∀ x ∈ l, 0 ≤ x ∧ x ≤ nB a
theorem Zv {a : Int} {l : List Int} {p4 po : Nat} {g : Nat} {w0 w : World} (hx : gS w0 w jR) (hg : Gh w0) (hp4 : w0.heap.size ≤ p4) (hpo : w0.heap.size ≤ po) (hne : p4 ≠ po)
    (o4 : jL w p4 [.int .i64 0, .slice none 0 0]) (oo : jL w po (cN l)) (ha : 0 ≤ a ∧ a ≤ 2) (hlen : l.length ≤ 131072) (hok : ∀ x ∈ l, 0 ≤ x ∧ x ≤ nB a) (hgm : Tu l = g) (hcnt : 2 ≤ (Ej l).countP kY) {RR : Value → World → Prop}
    (hK : ∀ w' mode lg L bytes t v, GW w' w0.heap.size (lg, L) t → uE w' w0.heap.size 1 v bytes.length (bytes.map RD) → SH a l mode lg L bytes → gS w0 w' jR → RR (.tuple #[t, .int .i64 mode, v, .int .i64 0]) w') :
    pC RR (.int .i64 a) (.pointer (some ⟨p4, 0, none⟩)) (.pointer (some ⟨po, 0, none⟩)) (.int .i64 g) w := by
  have hmo := Uf ha
  have hla := xQ ha
  obtain ⟨last, hlast⟩ : ∃ n : Nat, nB a = n := ⟨(nB a).toNat, by omega⟩
  obtain ⟨g', hg', hgl, hnl, hget, hle, hct⟩ := V5 (S := l) (n := last) (by omega) (fun x hx => by have := hok x hx; omega)
  obtain rfl : g = g' := by omega
  obtain ⟨ns, hns⟩ : ∃ ns, ns = (Ej l).take (g + 1) := ⟨_, rfl⟩
  rw [← hns] at hnl hget hct
  have hsum : ns.sum ≤ 131072 := by rw [hns]; have := TX l (g + 1) (by omega); omega
  have hmem : ∀ n ∈ ns, n ≤ 4294967295 := fun n hn => by
    rw [hns] at hn
    have := ZF l n (List.mem_of_mem_take hn); omega
  have hc53 : ns.countP kY ≤ 256 := by have := List.countP_le_length (l := ns) (p := kY); omega
  have hp8 : 2 ^ 8 ≤ 2 ^ (xE a).toNat := Nat.pow_le_pow_right (by omega) (by omega)
  have hofOk : TV (xE a) ns = true := by
    unfold TV
    exact decide_eq_true ⟨by omega, by omega, by omega, by omega, by omega, by omega⟩
  have hno1 : ¬ (∀ x ∈ l, ∀ y ∈ l, x = y) := fun h => by
    cases l with
    | nil => rw [TW, wT (fun n hn => List.eq_of_mem_replicate hn)] at hcnt; omega
    | cons y l =>
      have hy := hok y (List.mem_cons_self ..)
      have := We (S := y :: l) (c := y.toNat) (by omega) (fun x hx => by have := h x hx y (List.mem_cons_self ..); omega) (by simp)
      omega
  have hsh : qP ⟨po, 0, none⟩ 256 0 1 = ⟨po, 0, none⟩ := Ag (by decide)
  have e1 : (g : Int) + 1 = ((g + 1 : Nat) : Int) := by omega
  have hsl : ∀ w', jL w' po (cN l) → Sl w' (.slice (some ⟨po, 0, none⟩) (g + 1) 256) (ns.map fun (n : Nat) => Value.int .u32 n) := fun w' o => by
    refine ⟨_, _, _, rfl, by rw [List.length_map]; exact hnl.symm, by omega, fun _ => ⟨_, _, rfl, fun i hi => ?_⟩⟩
    rw [o.cell, Nat.zero_add, hns, List.map_take, List.getElem?_take_of_lt hi]
  unfold pC
  have fin : ∀ (w' : World) (pc pb : Nat) (lg last : Nat) (ps : List Nat), gS w0 w' jR → w0.heap.size ≤ pc → pc ≠ p4 → w0.heap.size ≤ pb → jL w' p4 [.int .i64 0, .slice none 0 0] → (lg : Int) = xE a → Hp ns ns.length last → Jo lg (ps.map fun (n : Nat) => (n : Int)) → ps.length = last + 1 → last < ns.length →
      (∀ i, i < last + 1 → (0 < ps.getD i 0 ↔ 0 < ns.getD i 0)) → jL w' pc [.int .i64 lg, .slice (some ⟨pb, 0, none⟩) (last + 1) (last + 1)] → jL w' pb (ps.map fun (n : Nat) => Value.int .i64 n) →
      qV RR (.pointer (some ⟨p4, 0, none⟩)) (.pointer (some ⟨pc, 0, none⟩)) (.int .i64 0) w' := by
    intro w1 pc pb lg la ps x1 hpc hpc4 hpb o41 hlg hlast' hmay hpl hlan hiff oc ob
    unfold qV
    have n1 : ((0 : Int) != 0) = false := rfl
    have l1 := kC (off := 0) oc (by simp)
    simp only [List.drop_zero, List.take_succ_cons, List.take_zero] at l1
    have hs1 : Sl w1 (.slice (some ⟨pb, 0, none⟩) (la + 1) (la + 1)) ((ps.map fun (n : Nat) => (n : Int)).map (Value.int .i64)) := by
      rw [List.map_map]
      exact ⟨_, _, _, rfl, by rw [List.length_map, hpl], Nat.le_refl _, fun _ => ⟨_, _, rfl, fun i hi => by rw [ob.cell, Nat.zero_add] <;> rfl⟩⟩
    simp (disch := omega) only [cO, gY, aF, dO, fB, fL, fX, fW, fY, gF, iP, gK, eD, fT, gC, fR, fQ, eY, gH, fJ, fZ, gI, gO, gD, eP, gP, gG, gB, lE, lC, lL, lJ, lK, lV, lU, lW, lT, cX, Result.ok.injEq, Next.value.injEq, true_and, and_true, eL, fU, gL, gN, gM, iK, Int.toNat_natCast, fK, fD, fM, eZ, dZ, dV, eU, eC, dA, cQ, if_true, if_false, Bool.false_eq_true, Nat.zero_add, Option.isNone_some, Option.isNone_none, Bool.not_true, Bool.not_false, List.getElem?_cons_succ, List.getElem?_cons_zero, cS, aZ, bU, bV, bT, bC, eA, dG, dH, dC, aW, eI, bR, aJ, dF, dI, dJ, dD, bL, bN, cB, bA, cF, cG, bF, cJ, cL, cZ, cK, cD, cH, cC, dR, bW, cU, dT, bS, cV, aY, cI, dQ, bH, aO, aI, aP, aK, aM, aT, aE, cM, bG, cY, bP, bY, cP, aQ, aV, aU, aX, aR, aD, aB, aC, dB, aH, aG, bM, bB, bK, dE, bE, bZ, bD, bQ, bO, aL, dS, aS, dM, dL, aN, bX, cA, dN, eS, n1, l1]
    refine (Ua hmay hs1).mono ?_
    rintro r w2 ⟨bytes, v, rfl, hh, ho, x2⟩
    have z1 := x1.size
    have z2 := x2.size
    obtain ⟨va, vc, rfl⟩ := ho.len
    have l1 := kC (off := 0) (oc.ext x2 (fun h => h)) (by simp)
    simp only [List.drop_zero, List.take_succ_cons, List.take_zero] at l1
    simp (disch := omega) only [cO, gY, aF, dO, fB, fL, fX, fW, fY, gF, iP, gK, eD, fT, gC, fR, fQ, eY, gH, fJ, fZ, gI, gO, gD, eP, gP, gG, gB, lE, lC, lL, lJ, lK, lV, lU, lW, lT, cX, Result.ok.injEq, Next.value.injEq, true_and, and_true, eL, fU, gL, gN, gM, iK, Int.toNat_natCast, fK, fD, fM, eZ, dZ, dV, eU, eC, dA, cQ, if_true, if_false, Bool.false_eq_true, Nat.zero_add, Option.isNone_some, Option.isNone_none, Bool.not_true, Bool.not_false, List.getElem?_cons_succ, List.getElem?_cons_zero, cS, aZ, bU, bV, bT, bC, eA, dG, dH, dC, aW, eI, bR, aJ, dF, dI, dJ, dD, bL, bN, cB, bA, cF, cG, bF, cJ, cL, cZ, cK, cD, cH, cC, dR, bW, cU, dT, bS, cV, aY, cI, dQ, bH, aO, aI, aP, aK, aM, aT, aE, cM, bG, cY, bP, bY, cP, aQ, aV, aU, aX, aR, aD, aB, aC, dB, aH, aG, bM, bB, bK, dE, bE, bZ, bD, bQ, bO, aL, dS, aS, dM, dL, aN, bX, cA, dN, eS, n1, l1]
    refine (RJ hmay (hs1.ext x2 (iQ _))).mono ?_
    rintro r w3 ⟨b, t, rfl, ⟨rfl, hb1, ob3⟩, x3⟩
    have z3 := x3.size
    have hbl := ob3.lt
    simp (disch := omega) only [cO, gY, aF, dO, fB, fL, fX, fW, fY, gF, iP, gK, eD, fT, gC, fR, fQ, eY, gH, fJ, fZ, gI, gO, gD, eP, gP, gG, gB, lE, lC, lL, lJ, lK, lV, lU, lW, lT, cX, Result.ok.injEq, Next.value.injEq, true_and, and_true, eL, fU, gL, gN, gM, iK, Int.toNat_natCast, fK, fD, fM, eZ, dZ, dV, eU, eC, dA, cQ, if_true, if_false, Bool.false_eq_true, Nat.zero_add, Option.isNone_some, Option.isNone_none, Bool.not_true, Bool.not_false, List.getElem?_cons_succ, List.getElem?_cons_zero, cS, aZ, bU, bV, bT, bC, eA, dG, dH, dC, aW, eI, bR, aJ, dF, dI, dJ, dD, bL, bN, cB, bA, cF, cG, bF, cJ, cL, cZ, cK, cD, cH, cC, dR, bW, cU, dT, bS, cV, aY, cI, dQ, bH, aO, aI, aP, aK, aM, aT, aE, cM, bG, cY, bP, bY, cP, aQ, aV, aU, aX, aR, aD, aB, aC, dB, aH, aG, bM, bB, bK, dE, bE, bZ, bD, bQ, bO, aL, dS, aS, dM, dL, aN, bX, cA, dN, eS]
    refine kR fun w8 o8 x8 s8 => ?_
    refine jM o8 rfl (by simp [one]) (by simp) fun w9 o9 x9 s9 => ?_
    have l2 := nZ (off := 0) o9 (by simp [fV])
    simp only [fV, List.set_cons_zero, List.set_cons_succ, List.drop_zero, List.take_succ_cons, List.take_zero] at l2
    have x39 : gS w3 w9 jR := x8.new x9 (Nat.le_refl _)
    have x29 : gS w2 w9 jR := x3.seq x39
    simp (disch := omega) only [cO, gY, aF, dO, fB, fL, fX, fW, fY, gF, iP, gK, eD, fT, gC, fR, fQ, eY, gH, fJ, fZ, gI, gO, gD, eP, gP, gG, gB, lE, lC, lL, lJ, lK, lV, lU, lW, lT, cX, Result.ok.injEq, Next.value.injEq, true_and, and_true, eL, fU, gL, gN, gM, iK, Int.toNat_natCast, fK, fD, fM, eZ, dZ, dV, eU, eC, dA, cQ, if_true, if_false, Bool.false_eq_true, Nat.zero_add, Option.isNone_some, Option.isNone_none, Bool.not_true, Bool.not_false, List.getElem?_cons_succ, List.getElem?_cons_zero, cS, aZ, bU, bV, bT, bC, eA, dG, dH, dC, aW, eI, bR, aJ, dF, dI, dJ, dD, bL, bN, cB, bA, cF, cG, bF, cJ, cL, cZ, cK, cD, cH, cC, dR, bW, cU, dT, bS, cV, aY, cI, dQ, bH, aO, aI, aP, aK, aM, aT, aE, cM, bG, cY, bP, bY, cP, aQ, aV, aU, aX, aR, aD, aB, aC, dB, aH, aG, bM, bB, bK, dE, bE, bZ, bD, bQ, bO, aL, dS, aS, dM, dL, aN, bX, cA, dN, eS, l2]
    refine Tk ((o41.ext x2 (fun h => h)).ext x29 (fun h => h)) ((x1.seq x2).seq x29) hp4 fun w' x xx => ?_
    have h4 := o41.lt
    refine hK w' 2 lg (mD lg (ps.map fun (n : Nat) => (n : Int))) bytes _ _ (.inr ⟨b, rfl, by omega, ?_⟩) ?_ ?_ x
    · exact ((ob3.ext x8 (fun h => h)).ext x9 (by omega)).ext xx (by omega)
    · have h1 := (ho.ext x29 (fun b hb h => h)).ext xx (fun b hb => by omega)
      refine ⟨h1.1, ?_⟩
      rcases h1.2 with h | ⟨b, c, rest, q1, q2, q3⟩
      · exact .inl h
      · exact .inr ⟨b, c, rest, q1, by omega, q3⟩
    · refine Wv ha hmay hh hlg (by rw [List.length_map]; omega) (fun x hx => ?_) hno1
      have hx1 := hok x hx
      have hx2 := hle x hx
      obtain ⟨c, rfl⟩ : ∃ c : Nat, x = c := ⟨x.toNat, by omega⟩
      have hon : 0 < ns.getD c 0 := by rw [hget c (by omega)]; exact Qa hx
      have hcl : c < la + 1 := by
        rcases Nat.lt_or_ge c (la + 1) with h | h
        · exact h
        · exfalso
          rcases hlast' with ⟨rfl, h0⟩ | ⟨_, _, h0⟩
          · have := h0 c (by omega); omega
          · have := h0 c (by omega) (by omega); omega
      have hp := (hiff c hcl).2 hon
      refine ⟨c, rfl, by rw [List.length_map]; omega, ?_⟩
      rw [nD (by omega)] at hp
      rw [List.getElem_map]; omega
  have res : ∀ {w1 : World} {b1 : Nat} {r : Value}, X0 w1 b1 (xE a) ns r → ∃ (lg last pb : Nat) (ps : List Nat), (lg : Int) = xE a ∧ Hp ns ns.length last ∧ Jo lg (ps.map fun (n : Nat) => (n : Int)) ∧ ps.length = last + 1 ∧ last < ns.length ∧ (∀ i, i < last + 1 → (0 < ps.getD i 0 ↔ 0 < ns.getD i 0)) ∧
      r = .tuple #[.agg #[.int .i64 lg, .slice (some ⟨pb, 0, none⟩) (last + 1) (last + 1)], .int .i64 0] ∧ b1 ≤ pb ∧ jL w1 pb (ps.map fun (n : Nat) => Value.int .i64 n) := fun h => by
    rcases h with ⟨h, _⟩ | ⟨_, l, la, pb, ps, h1, h2⟩
    · rw [hofOk] at h; cases h
    · exact ⟨l, la, pb, ps, h1.symm, h2⟩
  have z0 := hx.size
  have l4 := o4.lt
  have lo := oo.lt
  unfold Cu
  refine H4 (H4 ?_ ?_) ?_
  have hds : (dr w).heap.size = w.heap.size := rfl
  · simp (disch := omega) only [cO, gY, aF, dO, fB, fL, fX, fW, fY, gF, iP, gK, eD, fT, gC, fR, fQ, eY, gH, fJ, fZ, gI, gO, gD, eP, gP, gG, gB, lE, lC, lL, lJ, lK, lV, lU, lW, lT, cX, Result.ok.injEq, Next.value.injEq, true_and, and_true, eL, fU, gL, gN, gM, iK, Int.toNat_natCast, fK, fD, fM, eZ, dZ, dV, eU, eC, dA, cQ, if_true, if_false, Bool.false_eq_true, Nat.zero_add, Option.isNone_some, Option.isNone_none, Bool.not_true, Bool.not_false, List.getElem?_cons_succ, List.getElem?_cons_zero, cS, aZ, bU, bV, bT, bC, eA, dG, dH, dC, aW, eI, bR, aJ, dF, dI, dJ, dD, bL, bN, cB, bA, cF, cG, bF, cJ, cL, cZ, cK, cD, cH, cC, dR, bW, cU, dT, bS, cV, aY, cI, dQ, bH, aO, aI, aP, aK, aM, aT, aE, cM, bG, cY, bP, bY, cP, aQ, aV, aU, aX, aR, aD, aB, aC, dB, aH, aG, bM, bB, bK, dE, bE, bZ, bD, bQ, bO, aL, dS, aS, dM, dL, aN, bX, cA, dN, eS, e1, hsh, Nat.sub_zero]
    refine (Pp a _).mono ?_
    rintro r w1 ⟨rfl, hw⟩
    rw [hw]; clear hw w1
    refine (Sn (hsl _ (lA oo)) hmem (by omega)).mono ?_
    rintro r w1 ⟨hr, x1⟩
    have x1 : gS w w1 jR := (gS.dr _ _).seq x1
    obtain ⟨lg, la, pb, ps, q1, q2, q3, q4, q5, q6, rfl, q7, q8⟩ := res hr
    have z1 := x1.size
    have lp := q8.lt
    simp (disch := omega) only [cO, gY, aF, dO, fB, fL, fX, fW, fY, gF, iP, gK, eD, fT, gC, fR, fQ, eY, gH, fJ, fZ, gI, gO, gD, eP, gP, gG, gB, lE, lC, lL, lJ, lK, lV, lU, lW, lT, cX, Result.ok.injEq, Next.value.injEq, true_and, and_true, eL, fU, gL, gN, gM, iK, Int.toNat_natCast, fK, fD, fM, eZ, dZ, dV, eU, eC, dA, cQ, if_true, if_false, Bool.false_eq_true, Nat.zero_add, Option.isNone_some, Option.isNone_none, Bool.not_true, Bool.not_false, List.getElem?_cons_succ, List.getElem?_cons_zero, cS, aZ, bU, bV, bT, bC, eA, dG, dH, dC, aW, eI, bR, aJ, dF, dI, dJ, dD, bL, bN, cB, bA, cF, cG, bF, cJ, cL, cZ, cK, cD, cH, cC, dR, bW, cU, dT, bS, cV, aY, cI, dQ, bH, aO, aI, aP, aK, aM, aT, aE, cM, bG, cY, bP, bY, cP, aQ, aV, aU, aX, aR, aD, aB, aC, dB, aH, aG, bM, bB, bK, dE, bE, bZ, bD, bQ, bO, aL, dS, aS, dM, dL, aN, bX, cA, dN, eS]
    refine kZ fun w2 o2 x2 s2 => ?_
    refine jF o2 rfl (by simp [one]) (by simp) fun w3 o3 x3 s3 => ?_
    simp only [fV, List.set_cons_zero, List.set_cons_succ] at o3
    have x13 : gS w1 w3 jR := x2.new x3 (Nat.le_refl _)
    exact fin w3 _ pb lg la ps ((hx.seq x1).seq x13) (by omega) (by omega) (by omega) ((o4.ext x1 (fun h => h)).ext x13 (fun h => h)) q1 q2 q3 q4 q5 q6 o3 ((q8.ext x2 (fun h => h)).ext x3 (by omega))
  · simp (disch := omega) only [cO, gY, aF, dO, fB, fL, fX, fW, fY, gF, iP, gK, eD, fT, gC, fR, fQ, eY, gH, fJ, fZ, gI, gO, gD, eP, gP, gG, gB, lE, lC, lL, lJ, lK, lV, lU, lW, lT, cX, Result.ok.injEq, Next.value.injEq, true_and, and_true, eL, fU, gL, gN, gM, iK, Int.toNat_natCast, fK, fD, fM, eZ, dZ, dV, eU, eC, dA, cQ, if_true, if_false, Bool.false_eq_true, Nat.zero_add, Option.isNone_some, Option.isNone_none, Bool.not_true, Bool.not_false, List.getElem?_cons_succ, List.getElem?_cons_zero, cS, aZ, bU, bV, bT, bC, eA, dG, dH, dC, aW, eI, bR, aJ, dF, dI, dJ, dD, bL, bN, cB, bA, cF, cG, bF, cJ, cL, cZ, cK, cD, cH, cC, dR, bW, cU, dT, bS, cV, aY, cI, dQ, bH, aO, aI, aP, aK, aM, aT, aE, cM, bG, cY, bP, bY, cP, aQ, aV, aU, aX, aR, aD, aB, aC, dB, aH, aG, bM, bB, bK, dE, bE, bZ, bD, bQ, bO, aL, dS, aS, dM, dL, aN, bX, cA, dN, eS, e1, hsh, Nat.sub_zero]
    refine (Pp a _).mono ?_
    rintro r w1 ⟨rfl, hw⟩
    rw [hw]; clear hw w1
    refine kZ fun w2 o2 x2 s2 => ?_
    have x2 : gS w w2 jR := (gS.dr _ _).seq x2
    refine (Sn (hsl _ (oo.ext x2 (fun h => h))) hmem (by omega)).mono ?_
    rintro r w1 ⟨hr, x1⟩
    obtain ⟨lg, la, pb, ps, q1, q2, q3, q4, q5, q6, rfl, q7, q8⟩ := res hr
    have z2 := x2.size
    have lp := q8.lt
    simp (disch := omega) only [cO, gY, aF, dO, fB, fL, fX, fW, fY, gF, iP, gK, eD, fT, gC, fR, fQ, eY, gH, fJ, fZ, gI, gO, gD, eP, gP, gG, gB, lE, lC, lL, lJ, lK, lV, lU, lW, lT, cX, Result.ok.injEq, Next.value.injEq, true_and, and_true, eL, fU, gL, gN, gM, iK, Int.toNat_natCast, fK, fD, fM, eZ, dZ, dV, eU, eC, dA, cQ, if_true, if_false, Bool.false_eq_true, Nat.zero_add, Option.isNone_some, Option.isNone_none, Bool.not_true, Bool.not_false, List.getElem?_cons_succ, List.getElem?_cons_zero, cS, aZ, bU, bV, bT, bC, eA, dG, dH, dC, aW, eI, bR, aJ, dF, dI, dJ, dD, bL, bN, cB, bA, cF, cG, bF, cJ, cL, cZ, cK, cD, cH, cC, dR, bW, cU, dT, bS, cV, aY, cI, dQ, bH, aO, aI, aP, aK, aM, aT, aE, cM, bG, cY, bP, bY, cP, aQ, aV, aU, aX, aR, aD, aB, aC, dB, aH, aG, bM, bB, bK, dE, bE, bZ, bD, bQ, bO, aL, dS, aS, dM, dL, aN, bX, cA, dN, eS]
    refine jF (o2.ext x1 (fun h => h)) rfl (by simp [one]) (by simp) fun w3 o3 x3 s3 => ?_
    simp only [fV, List.set_cons_zero, List.set_cons_succ] at o3
    have x13 : gS w w3 jR := (x2.seq x1).new x3 (Nat.le_refl _)
    exact fin w3 w.heap.size pb lg la ps (hx.seq x13) (by omega) (by omega) (by omega) (o4.ext x13 (fun h => h)) q1 q2 q3 q4 q5 q6 o3 (q8.ext x3 (by omega))
  · simp (disch := omega) only [cO, gY, aF, dO, fB, fL, fX, fW, fY, gF, iP, gK, eD, fT, gC, fR, fQ, eY, gH, fJ, fZ, gI, gO, gD, eP, gP, gG, gB, lE, lC, lL, lJ, lK, lV, lU, lW, lT, cX, Result.ok.injEq, Next.value.injEq, true_and, and_true, eL, fU, gL, gN, gM, iK, Int.toNat_natCast, fK, fD, fM, eZ, dZ, dV, eU, eC, dA, cQ, if_true, if_false, Bool.false_eq_true, Nat.zero_add, Option.isNone_some, Option.isNone_none, Bool.not_true, Bool.not_false, List.getElem?_cons_succ, List.getElem?_cons_zero, cS, aZ, bU, bV, bT, bC, eA, dG, dH, dC, aW, eI, bR, aJ, dF, dI, dJ, dD, bL, bN, cB, bA, cF, cG, bF, cJ, cL, cZ, cK, cD, cH, cC, dR, bW, cU, dT, bS, cV, aY, cI, dQ, bH, aO, aI, aP, aK, aM, aT, aE, cM, bG, cY, bP, bY, cP, aQ, aV, aU, aX, aR, aD, aB, aC, dB, aH, aG, bM, bB, bK, dE, bE, bZ, bD, bQ, bO, aL, dS, aS, dM, dL, aN, bX, cA, dN, eS, e1, hsh, Nat.sub_zero]
    refine kZ fun w2 o2 x2 s2 => ?_
    have x2 : gS w w2 jR := (gS.dr _ _).seq x2
    refine (Pp a _).mono ?_
    rintro r w1 ⟨rfl, hw⟩
    rw [hw]; clear hw w1
    refine (Sn (hsl _ (oo.ext x2 (fun h => h))) hmem (by omega)).mono ?_
    rintro r w1 ⟨hr, x1⟩
    obtain ⟨lg, la, pb, ps, q1, q2, q3, q4, q5, q6, rfl, q7, q8⟩ := res hr
    have z2 := x2.size
    have lp := q8.lt
    simp (disch := omega) only [cO, gY, aF, dO, fB, fL, fX, fW, fY, gF, iP, gK, eD, fT, gC, fR, fQ, eY, gH, fJ, fZ, gI, gO, gD, eP, gP, gG, gB, lE, lC, lL, lJ, lK, lV, lU, lW, lT, cX, Result.ok.injEq, Next.value.injEq, true_and, and_true, eL, fU, gL, gN, gM, iK, Int.toNat_natCast, fK, fD, fM, eZ, dZ, dV, eU, eC, dA, cQ, if_true, if_false, Bool.false_eq_true, Nat.zero_add, Option.isNone_some, Option.isNone_none, Bool.not_true, Bool.not_false, List.getElem?_cons_succ, List.getElem?_cons_zero, cS, aZ, bU, bV, bT, bC, eA, dG, dH, dC, aW, eI, bR, aJ, dF, dI, dJ, dD, bL, bN, cB, bA, cF, cG, bF, cJ, cL, cZ, cK, cD, cH, cC, dR, bW, cU, dT, bS, cV, aY, cI, dQ, bH, aO, aI, aP, aK, aM, aT, aE, cM, bG, cY, bP, bY, cP, aQ, aV, aU, aX, aR, aD, aB, aC, dB, aH, aG, bM, bB, bK, dE, bE, bZ, bD, bQ, bO, aL, dS, aS, dM, dL, aN, bX, cA, dN, eS]
    refine jF (o2.ext x1 (fun h => h)) rfl (by simp [one]) (by simp) fun w3 o3 x3 s3 => ?_
    simp only [fV, List.set_cons_zero, List.set_cons_succ] at o3
    have x13 : gS w w3 jR := (x2.seq x1).new x3 (Nat.le_refl _)
    exact fin w3 w.heap.size pb lg la ps (hx.seq x13) (by omega) (by omega) (by omega) (o4.ext x13 (fun h => h)) q1 q2 q3 q4 q5 q6 o3 (q8.ext x3 (by omega))
end Go.Proofs.YtoepfjgekpdddaaDoor
namespace Go.Proofs.YtoepfjgekpdddaaDoor
open Go Go.En Go.Pu
set_option maxRecDepth 4000
set_option linter.unusedSimpArgs false
set_option linter.unusedVariables false
theorem ZW {a : Int} {lv : Value} {l : List Int} {p4 : Nat} {w0 w : World} (hs : Sl w0 lv (l.map (Value.int .i64))) (hx : gS w0 w jR) (hp4 : w0.heap.size ≤ p4)
    (o4 : jL w p4 [.int .i64 0, .slice none 0 0]) (ha : 0 ≤ a ∧ a ≤ 2) (hne : l ≠ []) (hok : ∀ x ∈ l, 0 ≤ x ∧ x ≤ nB a) (hall : ∀ x ∈ l, ∀ y ∈ l, x = y) {RR : Value → World → Prop}
    (hK : ∀ w' mode lg L bytes t v, GW w' w0.heap.size (lg, L) t → uE w' w0.heap.size 1 v bytes.length (bytes.map RD) → SH a l mode lg L bytes → gS w0 w' jR → RR (.tuple #[t, .int .i64 mode, v, .int .i64 0]) w') :
    vC RR lv (.pointer (some ⟨p4, 0, none⟩)) w := by
  have hla := xQ ha
  have hl0 : 0 < l.length := List.length_pos_iff.2 hne
  obtain ⟨la, lc, rfl, _⟩ := hs.lenI
  have hsx := hs.ext hx (iQ _)
  obtain ⟨lb, off, rfl, hcell⟩ := YH hsx (by omega)
  have g1 := hcell 0 hl0
  rw [List.getElem?_map, List.getElem?_eq_getElem hl0] at g1
  simp only [Option.map_some, Nat.add_zero] at g1
  have hmem : l[0] ∈ l := List.getElem_mem hl0
  have hc := hok _ hmem
  have hall' : ∀ x ∈ l, x = l[0] := fun x hx => hall x hx _ hmem
  generalize l[0] = x at *
  obtain ⟨c, rfl⟩ : ∃ c : Nat, x = c := ⟨x.toNat, by omega⟩
  have t0 : (0 : Int).toNat = 0 := rfl
  have hpos : (0 : Int) < (l.length : Nat) := by omega
  have hW := Xd (l := l) ha hc.2 (by omega) hall'
  have hcc : ((UInt8.ofNat c).toNat : Nat) = c := by simp; omega
  have z0 := hx.size
  have l4 := o4.lt
  have g2 : (dr w).cell? ⟨lb, off, none⟩ = some (.int .i64 (c : Nat)) := g1
  have Ui : ∀ {w' : World} {M : Nat → Prop}, gS w w' M → (¬ Vy (.slice (some ⟨lb, off, none⟩) l.length lc) M) → w'.cell? ⟨lb, off, none⟩ = some (.int .i64 (c : Nat)) := fun x hM => by
    have h := YH (hsx.ext x hM) (by omega)
    obtain ⟨b', o', e, h'⟩ := h
    cases e
    have := h' 0 hl0
    rw [Nat.add_zero, hcell 0 hl0 |>.symm, Nat.add_zero, g1] at this
    exact this
  have fin : ∀ (w2 : World) (b bs : Nat), gS w0 w2 jR → w0.heap.size ≤ b → w0.heap.size ≤ bs → jL w2 b (fe .u8 [((c : Nat), 0, 0)]) → jL w2 bs [.int .u8 (c : Nat)] → jL w2 p4 [.int .i64 0, .slice (some ⟨b, 0, none⟩) 1 1] →
      rD RR (.pointer (some ⟨p4, 0, none⟩)) (.int .i64 1) (.slice (some ⟨bs, 0, none⟩) 1 1) (.int .i64 0) w2 := by
    intro w2 b bs x2 hb hbs ob obs o42
    unfold rD
    refine nY o42 (by simp) ?_
    simp only [List.drop_zero, List.take_succ_cons, List.take_zero]
    refine hK w2 1 0 [((c : Nat), 0, 0)] [UInt8.ofNat c] _ _ (.inr ⟨b, rfl, hb, ob⟩) ?_ hW x2
    refine ⟨rfl, .inr ⟨bs, 1, [], rfl, hbs, ?_, rfl, Nat.le_refl _⟩⟩
    have e : [UInt8.ofNat c].map RD ++ [] = [.int .u8 (c : Nat)] := by
      rw [List.append_nil]
      show [Value.int .u8 ((UInt8.ofNat c).toNat : Nat)] = _
      rw [hcc]
    rw [e]; exact obs
  have hds : (dr w).heap.size = w.heap.size := rfl
  unfold vC Cq
  refine H4 (H4 ?_ ?_) ?_
  · simp (disch := omega) only [cO, gY, aF, dO, fB, fL, fX, fW, fY, gF, iP, gK, eD, fT, gC, fR, fQ, eY, gH, fJ, fZ, gI, gO, gD, eP, gP, gG, gB, lE, lC, lL, lJ, lK, lV, lU, lW, lT, cX, Result.ok.injEq, Next.value.injEq, true_and, and_true, eL, fU, gL, gN, gM, iK, Int.toNat_natCast, fK, fD, fM, eZ, dZ, dV, eU, eC, dA, cQ, if_true, if_false, Bool.false_eq_true, Nat.zero_add, Option.isNone_some, Option.isNone_none, Bool.not_true, Bool.not_false, List.getElem?_cons_succ, List.getElem?_cons_zero, cS, aZ, bU, bV, bT, bC, eA, dG, dH, dC, aW, eI, bR, aJ, dF, dI, dJ, dD, bL, bN, cB, bA, cF, cG, bF, cJ, cL, cZ, cK, cD, cH, cC, dR, bW, cU, dT, bS, cV, aY, cI, dQ, bH, aO, aI, aP, aK, aM, aT, aE, cM, bG, cY, bP, bY, cP, aQ, aV, aU, aX, aR, aD, aB, aC, dB, aH, aG, bM, bB, bK, dE, bE, bZ, bD, bQ, bO, aL, dS, aS, dM, dL, aN, bX, cA, dN, eS, t0, Nat.add_zero, hpos, g1, g2]
    refine (Wb (c : Nat) _).mono ?_
    rintro r w1 ⟨b, ⟨rfl, hb1, ob⟩, x1⟩
    have x1 : gS w w1 jR := (gS.dr _ _).seq x1
    have z1 := x1.size
    have lb1 := ob.lt
    have g3 := Ui x1 (iQ _)
    have g4 : (dr w1).cell? ⟨lb, off, none⟩ = some (.int .i64 (c : Nat)) := g3
    simp (disch := omega) only [cO, gY, aF, dO, fB, fL, fX, fW, fY, gF, iP, gK, eD, fT, gC, fR, fQ, eY, gH, fJ, fZ, gI, gO, gD, eP, gP, gG, gB, lE, lC, lL, lJ, lK, lV, lU, lW, lT, cX, Result.ok.injEq, Next.value.injEq, true_and, and_true, eL, fU, gL, gN, gM, iK, Int.toNat_natCast, fK, fD, fM, eZ, dZ, dV, eU, eC, dA, cQ, if_true, if_false, Bool.false_eq_true, Nat.zero_add, Option.isNone_some, Option.isNone_none, Bool.not_true, Bool.not_false, List.getElem?_cons_succ, List.getElem?_cons_zero, cS, aZ, bU, bV, bT, bC, eA, dG, dH, dC, aW, eI, bR, aJ, dF, dI, dJ, dD, bL, bN, cB, bA, cF, cG, bF, cJ, cL, cZ, cK, cD, cH, cC, dR, bW, cU, dT, bS, cV, aY, cI, dQ, bH, aO, aI, aP, aK, aM, aT, aE, cM, bG, cY, bP, bY, cP, aQ, aV, aU, aX, aR, aD, aB, aC, dB, aH, aG, bM, bB, bK, dE, bE, bZ, bD, bQ, bO, aL, dS, aS, dM, dL, aN, bX, cA, dN, eS, t0, Nat.add_zero, hpos, g1, g2, g3, g4]
    refine Bv (cells := #[.int .u8 (c : Nat)]) (by decide) (by decide) (by kernel_rfl) fun w2 o2 x2 s2 => ?_
    have hds1 : (dr w1).heap.size = w1.heap.size := rfl
    have z2 := x2.size
    refine jM ((o4.ext x1 (fun h => h)).ext x2 (fun h => h)) rfl (by simp [one]) (by simp) fun w3 o3 x3 s3 => ?_
    simp only [fV, List.set_cons_zero, List.set_cons_succ] at o3
    exact fin w3 b w1.heap.size (((hx.seq x1).seq x2).new x3 hp4) (by omega) (by omega) ((ob.ext x2 (fun h => h)).ext x3 (by omega)) (o2.ext x3 (by omega)) o3
  · simp (disch := omega) only [cO, gY, aF, dO, fB, fL, fX, fW, fY, gF, iP, gK, eD, fT, gC, fR, fQ, eY, gH, fJ, fZ, gI, gO, gD, eP, gP, gG, gB, lE, lC, lL, lJ, lK, lV, lU, lW, lT, cX, Result.ok.injEq, Next.value.injEq, true_and, and_true, eL, fU, gL, gN, gM, iK, Int.toNat_natCast, fK, fD, fM, eZ, dZ, dV, eU, eC, dA, cQ, if_true, if_false, Bool.false_eq_true, Nat.zero_add, Option.isNone_some, Option.isNone_none, Bool.not_true, Bool.not_false, List.getElem?_cons_succ, List.getElem?_cons_zero, cS, aZ, bU, bV, bT, bC, eA, dG, dH, dC, aW, eI, bR, aJ, dF, dI, dJ, dD, bL, bN, cB, bA, cF, cG, bF, cJ, cL, cZ, cK, cD, cH, cC, dR, bW, cU, dT, bS, cV, aY, cI, dQ, bH, aO, aI, aP, aK, aM, aT, aE, cM, bG, cY, bP, bY, cP, aQ, aV, aU, aX, aR, aD, aB, aC, dB, aH, aG, bM, bB, bK, dE, bE, bZ, bD, bQ, bO, aL, dS, aS, dM, dL, aN, bX, cA, dN, eS, t0, Nat.add_zero, hpos, g1, g2]
    refine (Wb (c : Nat) _).mono ?_
    rintro r w1 ⟨b, ⟨rfl, hb1, ob⟩, x1⟩
    have x1 : gS w w1 jR := (gS.dr _ _).seq x1
    have z1 := x1.size
    have lb1 := ob.lt
    have g3 := Ui x1 (iQ _)
    have g4 : (dr w1).cell? ⟨lb, off, none⟩ = some (.int .i64 (c : Nat)) := g3
    simp (disch := omega) only [cO, gY, aF, dO, fB, fL, fX, fW, fY, gF, iP, gK, eD, fT, gC, fR, fQ, eY, gH, fJ, fZ, gI, gO, gD, eP, gP, gG, gB, lE, lC, lL, lJ, lK, lV, lU, lW, lT, cX, Result.ok.injEq, Next.value.injEq, true_and, and_true, eL, fU, gL, gN, gM, iK, Int.toNat_natCast, fK, fD, fM, eZ, dZ, dV, eU, eC, dA, cQ, if_true, if_false, Bool.false_eq_true, Nat.zero_add, Option.isNone_some, Option.isNone_none, Bool.not_true, Bool.not_false, List.getElem?_cons_succ, List.getElem?_cons_zero, cS, aZ, bU, bV, bT, bC, eA, dG, dH, dC, aW, eI, bR, aJ, dF, dI, dJ, dD, bL, bN, cB, bA, cF, cG, bF, cJ, cL, cZ, cK, cD, cH, cC, dR, bW, cU, dT, bS, cV, aY, cI, dQ, bH, aO, aI, aP, aK, aM, aT, aE, cM, bG, cY, bP, bY, cP, aQ, aV, aU, aX, aR, aD, aB, aC, dB, aH, aG, bM, bB, bK, dE, bE, bZ, bD, bQ, bO, aL, dS, aS, dM, dL, aN, bX, cA, dN, eS, t0, Nat.add_zero, hpos, g1, g2, g3, g4]
    refine jM (o4.ext x1 (fun h => h)) rfl (by simp [one]) (by simp) fun w2 o2 x2 s2 => ?_
    simp only [fV, List.set_cons_zero, List.set_cons_succ] at o2
    have hds1 : (dr w1).heap.size = w1.heap.size := rfl
    have z2 := x2.size
    have x02 := (hx.seq x1).new x2 hp4
    have g5 : w2.cell? ⟨lb, off, none⟩ = some (.int .i64 (c : Nat)) := Ui ((x1.mono (N := fun y => y = p4) fun _ _ h => h.elim).seq x2) (by
      intro h
      exact hs.old (Uu h fun y hy => by omega))
    simp (disch := omega) only [cO, gY, aF, dO, fB, fL, fX, fW, fY, gF, iP, gK, eD, fT, gC, fR, fQ, eY, gH, fJ, fZ, gI, gO, gD, eP, gP, gG, gB, lE, lC, lL, lJ, lK, lV, lU, lW, lT, cX, Result.ok.injEq, Next.value.injEq, true_and, and_true, eL, fU, gL, gN, gM, iK, Int.toNat_natCast, fK, fD, fM, eZ, dZ, dV, eU, eC, dA, cQ, if_true, if_false, Bool.false_eq_true, Nat.zero_add, Option.isNone_some, Option.isNone_none, Bool.not_true, Bool.not_false, List.getElem?_cons_succ, List.getElem?_cons_zero, cS, aZ, bU, bV, bT, bC, eA, dG, dH, dC, aW, eI, bR, aJ, dF, dI, dJ, dD, bL, bN, cB, bA, cF, cG, bF, cJ, cL, cZ, cK, cD, cH, cC, dR, bW, cU, dT, bS, cV, aY, cI, dQ, bH, aO, aI, aP, aK, aM, aT, aE, cM, bG, cY, bP, bY, cP, aQ, aV, aU, aX, aR, aD, aB, aC, dB, aH, aG, bM, bB, bK, dE, bE, bZ, bD, bQ, bO, aL, dS, aS, dM, dL, aN, bX, cA, dN, eS, t0, Nat.add_zero, hpos, g1, g2, g3, g4, g5]
    refine Bv (cells := #[.int .u8 (c : Nat)]) (by decide) (by decide) (by kernel_rfl) fun w3 o3 x3 s3 => ?_
    exact fin w3 b w2.heap.size (x02.seq x3) (by omega) (by omega) ((ob.ext x2 (by omega)).ext x3 (fun h => h)) o3 (o2.ext x3 (fun h => h))
  · simp (disch := omega) only [cO, gY, aF, dO, fB, fL, fX, fW, fY, gF, iP, gK, eD, fT, gC, fR, fQ, eY, gH, fJ, fZ, gI, gO, gD, eP, gP, gG, gB, lE, lC, lL, lJ, lK, lV, lU, lW, lT, cX, Result.ok.injEq, Next.value.injEq, true_and, and_true, eL, fU, gL, gN, gM, iK, Int.toNat_natCast, fK, fD, fM, eZ, dZ, dV, eU, eC, dA, cQ, if_true, if_false, Bool.false_eq_true, Nat.zero_add, Option.isNone_some, Option.isNone_none, Bool.not_true, Bool.not_false, List.getElem?_cons_succ, List.getElem?_cons_zero, cS, aZ, bU, bV, bT, bC, eA, dG, dH, dC, aW, eI, bR, aJ, dF, dI, dJ, dD, bL, bN, cB, bA, cF, cG, bF, cJ, cL, cZ, cK, cD, cH, cC, dR, bW, cU, dT, bS, cV, aY, cI, dQ, bH, aO, aI, aP, aK, aM, aT, aE, cM, bG, cY, bP, bY, cP, aQ, aV, aU, aX, aR, aD, aB, aC, dB, aH, aG, bM, bB, bK, dE, bE, bZ, bD, bQ, bO, aL, dS, aS, dM, dL, aN, bX, cA, dN, eS, t0, Nat.add_zero, hpos, g1, g2]
    refine Bv (cells := #[.int .u8 (c : Nat)]) (by decide) (by decide) (by kernel_rfl) fun w2 o2 x2 s2 => ?_
    have x2 : gS w w2 jR := (gS.dr _ _).seq x2
    have z2 := x2.size
    have g3 := Ui x2 (iQ _)
    have g4 : (dr w2).cell? ⟨lb, off, none⟩ = some (.int .i64 (c : Nat)) := g3
    simp (disch := omega) only [cO, gY, aF, dO, fB, fL, fX, fW, fY, gF, iP, gK, eD, fT, gC, fR, fQ, eY, gH, fJ, fZ, gI, gO, gD, eP, gP, gG, gB, lE, lC, lL, lJ, lK, lV, lU, lW, lT, cX, Result.ok.injEq, Next.value.injEq, true_and, and_true, eL, fU, gL, gN, gM, iK, Int.toNat_natCast, fK, fD, fM, eZ, dZ, dV, eU, eC, dA, cQ, if_true, if_false, Bool.false_eq_true, Nat.zero_add, Option.isNone_some, Option.isNone_none, Bool.not_true, Bool.not_false, List.getElem?_cons_succ, List.getElem?_cons_zero, cS, aZ, bU, bV, bT, bC, eA, dG, dH, dC, aW, eI, bR, aJ, dF, dI, dJ, dD, bL, bN, cB, bA, cF, cG, bF, cJ, cL, cZ, cK, cD, cH, cC, dR, bW, cU, dT, bS, cV, aY, cI, dQ, bH, aO, aI, aP, aK, aM, aT, aE, cM, bG, cY, bP, bY, cP, aQ, aV, aU, aX, aR, aD, aB, aC, dB, aH, aG, bM, bB, bK, dE, bE, bZ, bD, bQ, bO, aL, dS, aS, dM, dL, aN, bX, cA, dN, eS, t0, Nat.add_zero, hpos, g1, g2, g3, g4]
    refine (Wb (c : Nat) _).mono ?_
    rintro r w1 ⟨b, ⟨rfl, hb1, ob⟩, x1⟩
    have hds1 : (dr w2).heap.size = w2.heap.size := rfl
    have z1 := x1.size
    have lb1 := ob.lt
    refine jM ((o4.ext x2 (fun h => h)).ext x1 (fun h => h)) rfl (by simp [one]) (by simp) fun w3 o3 x3 s3 => ?_
    simp only [fV, List.set_cons_zero, List.set_cons_succ] at o3
    exact fin w3 b w.heap.size (((hx.seq x2).seq x1).new x3 hp4) (by omega) (by omega) (ob.ext x3 (by omega)) ((o2.ext x1 (fun h => h)).ext x3 (by omega)) o3
end Go.Proofs.YtoepfjgekpdddaaDoor
namespace Go.Proofs.YtoepfjgekpdddaaDoor
open Go Go.En Go.Pu
set_option maxRecDepth 4000
set_option linter.unusedSimpArgs false
set_option linter.unusedVariables false
def WrR (w : World) (base : Nat) (a : Int) (l : List Int) (r : Value) : Prop :=
  (¬ Hc a l ∧ r = .tuple #[Xm, .int .i64 0, .slice none 0 0, .int .i64 1]) ∨
  (Hc a l ∧ ∃ (mode : Int) (lg : Nat) (L : List T3) (bytes : List UInt8) (t v : Value), r = .tuple #[t, .int .i64 mode, v, .int .i64 0] ∧ GW w base (lg, L) t ∧ uE w base 1 v bytes.length (bytes.map RD) ∧ SH a l mode lg L bytes)
theorem Yd {a : Int} {lv : Value} {l : List Int} {w : World} (hg : Gh w) (hs : Sl w lv (l.map (Value.int .i64))) (hlen : l.length ≤ 131072) :
    hJ pg nH #[.int .i64 a, lv] w (fun r w' => WrR w' w.heap.size a l r ∧ gS w w' jR) := by
  refine Ob ?_
  obtain ⟨RR, hRR⟩ : ∃ RR : Value → World → Prop, RR = fun r w' => WrR w' w.heap.size a l r ∧ gS w w' jR := ⟨_, rfl⟩
  rw [← hRR]
  have bad : ¬ Hc a l → ∀ w', gS w w' jR → RR (.tuple #[Xm, .int .i64 0, .slice none 0 0, .int .i64 1]) w' := fun h w' x => by
    rw [hRR]; exact ⟨.inl ⟨h, rfl⟩, x⟩
  have good : Hc a l → ∀ w' mode lg L bytes t v, GW w' w.heap.size (lg, L) t → uE w' w.heap.size 1 v bytes.length (bytes.map RD) → SH a l mode lg L bytes → gS w w' jR → RR (.tuple #[t, .int .i64 mode, v, .int .i64 0]) w' := fun h w' mode lg L bytes t v h1 h2 h3 x => by
    rw [hRR]; exact ⟨.inr ⟨h, mode, lg, L, bytes, t, v, rfl, h1, h2, h3⟩, x⟩
  unfold NX AA An
  refine kR fun w1 o1 x1 s1 => ?_
  refine (X1 (hg.ext x1)).mono ?_
  rintro r w2 ⟨rfl, x2⟩
  have x02 := x1.seq x2
  have o12 := o1.ext x2 (fun h => h)
  have z1 := x1.size
  have z2 := x2.size
  by_cases ha : 0 ≤ a ∧ a ≤ 2
  rotate_left
  · have d1 : decide (nB a < 0) = true := by rw [Ir ha] <;> rfl
    simp (disch := omega) only [cO, gY, aF, dO, fB, fL, fX, fW, fY, gF, iP, gK, eD, fT, gC, fR, fQ, eY, gH, fJ, fZ, gI, gO, gD, eP, gP, gG, gB, lE, lC, lL, lJ, lK, lV, lU, lW, lT, cX, Result.ok.injEq, Next.value.injEq, true_and, and_true, eL, fU, gL, gN, gM, iK, Int.toNat_natCast, fK, fD, fM, eZ, dZ, dV, eU, eC, dA, cQ, if_true, if_false, Bool.false_eq_true, Nat.zero_add, Option.isNone_some, Option.isNone_none, Bool.not_true, Bool.not_false, List.getElem?_cons_succ, List.getElem?_cons_zero, cS, aZ, bU, bV, bT, bC, eA, dG, dH, dC, aW, eI, bR, aJ, dF, dI, dJ, dD, bL, bN, cB, bA, cF, cG, bF, cJ, cL, cZ, cK, cD, cH, cC, dR, bW, cU, dT, bS, cV, aY, cI, dQ, bH, aO, aI, aP, aK, aM, aT, aE, cM, bG, cY, bP, bY, cP, aQ, aV, aU, aX, aR, aD, aB, aC, dB, aH, aG, bM, bB, bK, dE, bE, bZ, bD, bQ, bO, aL, dS, aS, dM, dL, aN, bX, cA, dN, eS, d1]
    exact Tk o12 x02 (Nat.le_refl _) fun w' x _ => bad (fun h => ha h.1) w' x
  have hla := xQ ha
  have d1 : decide (nB a < 0) = false := by simp; omega
  have hs0 := hs
  obtain ⟨la, lc, rfl, _⟩ := hs.lenI
  by_cases hl0 : l = []
  · have n1 : (((l.length : Nat) : Int) == 0) = true := by rw [hl0] <;> rfl
    simp (disch := omega) only [cO, gY, aF, dO, fB, fL, fX, fW, fY, gF, iP, gK, eD, fT, gC, fR, fQ, eY, gH, fJ, fZ, gI, gO, gD, eP, gP, gG, gB, lE, lC, lL, lJ, lK, lV, lU, lW, lT, cX, Result.ok.injEq, Next.value.injEq, true_and, and_true, eL, fU, gL, gN, gM, iK, Int.toNat_natCast, fK, fD, fM, eZ, dZ, dV, eU, eC, dA, cQ, if_true, if_false, Bool.false_eq_true, Nat.zero_add, Option.isNone_some, Option.isNone_none, Bool.not_true, Bool.not_false, List.getElem?_cons_succ, List.getElem?_cons_zero, cS, aZ, bU, bV, bT, bC, eA, dG, dH, dC, aW, eI, bR, aJ, dF, dI, dJ, dD, bL, bN, cB, bA, cF, cG, bF, cJ, cL, cZ, cK, cD, cH, cC, dR, bW, cU, dT, bS, cV, aY, cI, dQ, bH, aO, aI, aP, aK, aM, aT, aE, cM, bG, cY, bP, bY, cP, aQ, aV, aU, aX, aR, aD, aB, aC, dB, aH, aG, bM, bB, bK, dE, bE, bZ, bD, bQ, bO, aL, dS, aS, dM, dL, aN, bX, cA, dN, eS, d1, n1]
    exact Tk o12 x02 (Nat.le_refl _) fun w' x _ => bad (fun h => h.2.1 hl0) w' x
  have hlp : 0 < l.length := List.length_pos_iff.2 hl0
  have n1 : (((l.length : Nat) : Int) == 0) = false := beq_eq_false_iff_ne.2 (by omega)
  have d2 : decide ((131072 : Int) < ((l.length : Nat) : Int)) = false := by simp; omega
  have hcs : cN [] = List.replicate 256 (Value.int .u32 0) := by
    show (Ej []).map _ = _
    rw [TW, List.map_replicate] <;> rfl
  simp (disch := omega) only [cO, gY, aF, dO, fB, fL, fX, fW, fY, gF, iP, gK, eD, fT, gC, fR, fQ, eY, gH, fJ, fZ, gI, gO, gD, eP, gP, gG, gB, lE, lC, lL, lJ, lK, lV, lU, lW, lT, cX, Result.ok.injEq, Next.value.injEq, true_and, and_true, eL, fU, gL, gN, gM, iK, Int.toNat_natCast, fK, fD, fM, eZ, dZ, dV, eU, eC, dA, cQ, if_true, if_false, Bool.false_eq_true, Nat.zero_add, Option.isNone_some, Option.isNone_none, Bool.not_true, Bool.not_false, List.getElem?_cons_succ, List.getElem?_cons_zero, cS, aZ, bU, bV, bT, bC, eA, dG, dH, dC, aW, eI, bR, aJ, dF, dI, dJ, dD, bL, bN, cB, bA, cF, cG, bF, cJ, cL, cZ, cK, cD, cH, cC, dR, bW, cU, dT, bS, cV, aY, cI, dQ, bH, aO, aI, aP, aK, aM, aT, aE, cM, bG, cY, bP, bY, cP, aQ, aV, aU, aX, aR, aD, aB, aC, dB, aH, aG, bM, bB, bK, dE, bE, bZ, bD, bQ, bO, aL, dS, aS, dM, dL, aN, bX, cA, dN, eS, d1, n1, d2]
  refine Rf fun w3 o3 x3 s3 => ?_
  have o3 : jL w3 w2.heap.size (cN []) := by rw [hcs]; exact o3
  have z3 := x3.size
  unfold tV
  refine ZE (w0 := w) hs0 (x02.seq x3) (Nat.le_refl _) (by omega) (by omega) (o12.ext x3 (fun h => h)) o3 (by omega) (by omega) hlen (fun ⟨x, hx, hn⟩ => bad fun h => hn (h.2.2 x hx)) fun hok w4 o4 oo x4 => ?_
  have hcok : Hc a l := ⟨ha, hl0, hok⟩
  unfold tO AH
  have z4 := x4.size
  refine (V0 (hg.ext x4)).mono ?_
  rintro r w5 ⟨gv, rfl, hsg, x5⟩
  have z5 := x5.size
  obtain ⟨ga, gc, rfl, _⟩ := hsg.lenI
  refine kZ fun w6 o6 x6 s6 => ?_
  refine jF o6 rfl (by simp [one]) (by simp) fun w7 o7 x7 s7 => ?_
  simp only [fV, List.set_cons_zero, List.set_cons_succ] at o7
  have x57 : gS w5 w7 jR := x6.new x7 (Nat.le_refl _)
  have x47 := x5.seq x57
  have x07 := x4.seq x47
  have z7 := x57.size
  have l4 := o4.lt
  have o47 := o4.ext x47 (fun h => h)
  have oo7 := oo.ext x47 (fun h => h)
  unfold uC AB Al BS uX
  have hb255 : ∀ x ∈ l, 0 ≤ x ∧ x ≤ 255 := fun x hx => by have := hok x hx; omega
  have hcp := YB hb255 hl0
  by_cases h1 : (Ej l).countP kY = 1
  · have n2 : ((((Ej l).countP kY : Nat) : Int) == 1) = true := by rw [h1] <;> rfl
    simp (disch := omega) only [cO, gY, aF, dO, fB, fL, fX, fW, fY, gF, iP, gK, eD, fT, gC, fR, fQ, eY, gH, fJ, fZ, gI, gO, gD, eP, gP, gG, gB, lE, lC, lL, lJ, lK, lV, lU, lW, lT, cX, Result.ok.injEq, Next.value.injEq, true_and, and_true, eL, fU, gL, gN, gM, iK, Int.toNat_natCast, fK, fD, fM, eZ, dZ, dV, eU, eC, dA, cQ, if_true, if_false, Bool.false_eq_true, Nat.zero_add, Option.isNone_some, Option.isNone_none, Bool.not_true, Bool.not_false, List.getElem?_cons_succ, List.getElem?_cons_zero, cS, aZ, bU, bV, bT, bC, eA, dG, dH, dC, aW, eI, bR, aJ, dF, dI, dJ, dD, bL, bN, cB, bA, cF, cG, bF, cJ, cL, cZ, cK, cD, cH, cC, dR, bW, cU, dT, bS, cV, aY, cI, dQ, bH, aO, aI, aP, aK, aM, aT, aE, cM, bG, cY, bP, bY, cP, aQ, aV, aU, aX, aR, aD, aB, aC, dB, aH, aG, bM, bB, bK, dE, bE, bZ, bD, bQ, bO, aL, dS, aS, dM, dL, aN, bX, cA, dN, eS, n2]
    exact ZW hs0 x07 (Nat.le_refl _) o47 ha hl0 hok (Yy hb255 h1) (good hcok)
  have n2 : ((((Ej l).countP kY : Nat) : Int) == 1) = false := beq_eq_false_iff_ne.2 (by omega)
  obtain ⟨last, hlast⟩ : ∃ n : Nat, nB a = n := ⟨(nB a).toNat, by omega⟩
  obtain ⟨g, hg', hgl, hnl, hget, hle, hct⟩ := V5 (S := l) (n := last) (by omega) (fun x hx => by have := hok x hx; omega)
  have told : pC RR (.int .i64 a) (.pointer (some ⟨w.heap.size, 0, none⟩)) (.pointer (some ⟨w2.heap.size, 0, none⟩)) (.int .i64 g) w7 :=
    Zv x07 hg (Nat.le_refl _) (by omega) (by omega) o47 oo7 ha hlen hok hg' (by omega) (good hcok)
  rw [hg']
  unfold B4
  by_cases h64 : l.length < 64
  · have d3 : decide (((l.length : Nat) : Int) < 64) = true := by simp; omega
    have c1 := o7.cell (off := 1)
    simp only [List.getElem?_cons_zero, List.getElem?_cons_succ] at c1
    by_cases hgv : g < (RE a).length
    · have d4 : decide (((g : Nat) : Int) < (((RE a).length : Nat) : Int)) = true := by simp; omega
      have l1 := kC (off := 0) o7 (by simp)
      simp only [List.drop_zero, List.take_succ_cons, List.take_zero] at l1
      have hm := TN (a := a) (by omega)
      simp (disch := omega) only [cO, gY, aF, dO, fB, fL, fX, fW, fY, gF, iP, gK, eD, fT, gC, fR, fQ, eY, gH, fJ, fZ, gI, gO, gD, eP, gP, gG, gB, lE, lC, lL, lJ, lK, lV, lU, lW, lT, cX, Result.ok.injEq, Next.value.injEq, true_and, and_true, eL, fU, gL, gN, gM, iK, Int.toNat_natCast, fK, fD, fM, eZ, dZ, dV, eU, eC, dA, cQ, if_true, if_false, Bool.false_eq_true, Nat.zero_add, Option.isNone_some, Option.isNone_none, Bool.not_true, Bool.not_false, List.getElem?_cons_succ, List.getElem?_cons_zero, cS, aZ, bU, bV, bT, bC, eA, dG, dH, dC, aW, eI, bR, aJ, dF, dI, dJ, dD, bL, bN, cB, bA, cF, cG, bF, cJ, cL, cZ, cK, cD, cH, cC, dR, bW, cU, dT, bS, cV, aY, cI, dQ, bH, aO, aI, aP, aK, aM, aT, aE, cM, bG, cY, bP, bY, cP, aQ, aV, aU, aX, aR, aD, aB, aC, dB, aH, aG, bM, bB, bK, dE, bE, bZ, bD, bQ, bO, aL, dS, aS, dM, dL, aN, bX, cA, dN, eS, n2, d3, c1, d4, l1]
      refine (RJ hm (hsg.ext x57 (iQ _))).mono ?_
      rintro r w8 ⟨b, t, rfl, ⟨rfl, hb1, ob⟩, x8⟩
      have z8 := x8.size
      have hbl := ob.lt
      simp (disch := omega) only [cO, gY, aF, dO, fB, fL, fX, fW, fY, gF, iP, gK, eD, fT, gC, fR, fQ, eY, gH, fJ, fZ, gI, gO, gD, eP, gP, gG, gB, lE, lC, lL, lJ, lK, lV, lU, lW, lT, cX, Result.ok.injEq, Next.value.injEq, true_and, and_true, eL, fU, gL, gN, gM, iK, Int.toNat_natCast, fK, fD, fM, eZ, dZ, dV, eU, eC, dA, cQ, if_true, if_false, Bool.false_eq_true, Nat.zero_add, Option.isNone_some, Option.isNone_none, Bool.not_true, Bool.not_false, List.getElem?_cons_succ, List.getElem?_cons_zero, cS, aZ, bU, bV, bT, bC, eA, dG, dH, dC, aW, eI, bR, aJ, dF, dI, dJ, dD, bL, bN, cB, bA, cF, cG, bF, cJ, cL, cZ, cK, cD, cH, cC, dR, bW, cU, dT, bS, cV, aY, cI, dQ, bH, aO, aI, aP, aK, aM, aT, aE, cM, bG, cY, bP, bY, cP, aQ, aV, aU, aX, aR, aD, aB, aC, dB, aH, aG, bM, bB, bK, dE, bE, bZ, bD, bQ, bO, aL, dS, aS, dM, dL, aN, bX, cA, dN, eS]
      refine kR fun w9 o9 x9 s9 => ?_
      refine jM o9 rfl (by simp [one]) (by simp) fun wa oa xa sa => ?_
      have l2 := nZ (off := 0) oa (by simp [fV])
      simp only [fV, List.set_cons_zero, List.set_cons_succ, List.drop_zero, List.take_succ_cons, List.take_zero] at l2
      have x8a : gS w8 wa jR := x9.new xa (Nat.le_refl _)
      have x7a := x8.seq x8a
      simp (disch := omega) only [cO, gY, aF, dO, fB, fL, fX, fW, fY, gF, iP, gK, eD, fT, gC, fR, fQ, eY, gH, fJ, fZ, gI, gO, gD, eP, gP, gG, gB, lE, lC, lL, lJ, lK, lV, lU, lW, lT, cX, Result.ok.injEq, Next.value.injEq, true_and, and_true, eL, fU, gL, gN, gM, iK, Int.toNat_natCast, fK, fD, fM, eZ, dZ, dV, eU, eC, dA, cQ, if_true, if_false, Bool.false_eq_true, Nat.zero_add, Option.isNone_some, Option.isNone_none, Bool.not_true, Bool.not_false, List.getElem?_cons_succ, List.getElem?_cons_zero, cS, aZ, bU, bV, bT, bC, eA, dG, dH, dC, aW, eI, bR, aJ, dF, dI, dJ, dD, bL, bN, cB, bA, cF, cG, bF, cJ, cL, cZ, cK, cD, cH, cC, dR, bW, cU, dT, bS, cV, aY, cI, dQ, bH, aO, aI, aP, aK, aM, aT, aE, cM, bG, cY, bP, bY, cP, aQ, aV, aU, aX, aR, aD, aB, aC, dB, aH, aG, bM, bB, bK, dE, bE, bZ, bD, bQ, bO, aL, dS, aS, dM, dL, aN, bX, cA, dN, eS, l2]
      refine Tk (o47.ext x7a (fun h => h)) (x07.seq x7a) (Nat.le_refl _) fun w' x xx => ?_
      refine good hcok w' 0 (LX a) (mD (LX a) (RE a)) [] _ _ (.inr ⟨b, rfl, by omega, ?_⟩) (uE.nil _ _ _) ?_ x
      · exact ((ob.ext x9 (fun h => h)).ext xa (by omega)).ext xx (by omega)
      · refine VC ha (fun x hx => ?_) fun h => ?_
        · have h1 := hok x hx
          have h2 := hle x hx
          omega
        · obtain ⟨y, hy⟩ := List.exists_mem_of_ne_nil _ hl0
          have hyb := hb255 y hy
          exact h1 (We (S := l) (c := y.toNat) (by omega) (fun x hx => by have := h x hx y hy; omega) hl0)
    · have d4 : decide (((g : Nat) : Int) < (((RE a).length : Nat) : Int)) = false := by simp; omega
      simp (disch := omega) only [cO, gY, aF, dO, fB, fL, fX, fW, fY, gF, iP, gK, eD, fT, gC, fR, fQ, eY, gH, fJ, fZ, gI, gO, gD, eP, gP, gG, gB, lE, lC, lL, lJ, lK, lV, lU, lW, lT, cX, Result.ok.injEq, Next.value.injEq, true_and, and_true, eL, fU, gL, gN, gM, iK, Int.toNat_natCast, fK, fD, fM, eZ, dZ, dV, eU, eC, dA, cQ, if_true, if_false, Bool.false_eq_true, Nat.zero_add, Option.isNone_some, Option.isNone_none, Bool.not_true, Bool.not_false, List.getElem?_cons_succ, List.getElem?_cons_zero, cS, aZ, bU, bV, bT, bC, eA, dG, dH, dC, aW, eI, bR, aJ, dF, dI, dJ, dD, bL, bN, cB, bA, cF, cG, bF, cJ, cL, cZ, cK, cD, cH, cC, dR, bW, cU, dT, bS, cV, aY, cI, dQ, bH, aO, aI, aP, aK, aM, aT, aE, cM, bG, cY, bP, bY, cP, aQ, aV, aU, aX, aR, aD, aB, aC, dB, aH, aG, bM, bB, bK, dE, bE, bZ, bD, bQ, bO, aL, dS, aS, dM, dL, aN, bX, cA, dN, eS, n2, d3, c1, d4]
      exact told
  · have d3 : decide (((l.length : Nat) : Int) < 64) = false := by simp; omega
    simp (disch := omega) only [cO, gY, aF, dO, fB, fL, fX, fW, fY, gF, iP, gK, eD, fT, gC, fR, fQ, eY, gH, fJ, fZ, gI, gO, gD, eP, gP, gG, gB, lE, lC, lL, lJ, lK, lV, lU, lW, lT, cX, Result.ok.injEq, Next.value.injEq, true_and, and_true, eL, fU, gL, gN, gM, iK, Int.toNat_natCast, fK, fD, fM, eZ, dZ, dV, eU, eC, dA, cQ, if_true, if_false, Bool.false_eq_true, Nat.zero_add, Option.isNone_some, Option.isNone_none, Bool.not_true, Bool.not_false, List.getElem?_cons_succ, List.getElem?_cons_zero, cS, aZ, bU, bV, bT, bC, eA, dG, dH, dC, aW, eI, bR, aJ, dF, dI, dJ, dD, bL, bN, cB, bA, cF, cG, bF, cJ, cL, cZ, cK, cD, cH, cC, dR, bW, cU, dT, bS, cV, aY, cI, dQ, bH, aO, aI, aP, aK, aM, aT, aE, cM, bG, cY, bP, bY, cP, aQ, aV, aU, aX, aR, aD, aB, aC, dB, aH, aG, bM, bB, bK, dE, bE, bZ, bD, bQ, bO, aL, dS, aS, dM, dL, aN, bX, cA, dN, eS, n2, d3]
    exact told
end Go.Proofs.YtoepfjgekpdddaaDoor
namespace Go.Proofs.YtoepfjgekpdddaaDoor
open Go Go.En Go.Pu
set_option maxRecDepth 4000
set_option linter.unusedSimpArgs false
set_option linter.unusedVariables false
def zB0 : List Int := [0, 1, 2, 3, 4, 5, 6, 7, 8, 9, 10, 11, 12, 13, 14, 15, 16, 18, 20, 22, 24, 28, 32, 40, 48, 64, 128, 256, 512, 1024, 2048, 4096, 8192, 16384, 32768, 65536]
def zB2 : List Int := [3, 4, 5, 6, 7, 8, 9, 10, 11, 12, 13, 14, 15, 16, 17, 18, 19, 20, 21, 22, 23, 24, 25, 26, 27, 28, 29, 30, 31, 32, 33, 34, 35, 37, 39, 41, 43, 47, 51, 59, 67, 83, 99, 131, 259, 515, 1027, 2051, 4099, 8195, 16387, 32771, 65539]
def Yn (i : Nat) : Int := if i < 32 then 2 ^ i else 0
def ZY : List Int := (List.range 32).map Yn
def WJ (a : Int) : List Int := if a = 0 then zB0 else if a = 2 then zB2 else if a = 1 then ZY else []
theorem UJ (a : Int) : (((WJ a).length : Nat) : Int) = nB a + 1 := by
  unfold WJ nB
  by_cases h0 : a = 0
  · subst h0; rfl
  by_cases h2 : a = 2
  · subst h2; rfl
  by_cases h1 : a = 1
  · subst h1; rfl
  rw [if_neg h0, if_neg h2, if_neg h1, if_neg h0, if_neg h1, if_neg h2] <;> rfl
theorem SA (a : Int) (w : World) : hJ pg sS #[.int .i64 a] w (fun r w' => Sl w' r ((WJ a).map (Value.int .u32)) ∧ gS w w' jR) := by
  refine MF ?_
  unfold M4 B8 Cf
  unfold WJ
  by_cases h0 : a = 0
  · subst h0
    have n1 : ((0 : Int) == 0) = true := rfl
    simp (disch := omega) only [cO, gY, aF, dO, fB, fL, fX, fW, fY, gF, iP, gK, eD, fT, gC, fR, fQ, eY, gH, fJ, fZ, gI, gO, gD, eP, gP, gG, gB, lE, lC, lL, lJ, lK, lV, lU, lW, lT, cX, Result.ok.injEq, Next.value.injEq, true_and, and_true, eL, fU, gL, gN, gM, iK, Int.toNat_natCast, fK, fD, fM, eZ, dZ, dV, eU, eC, dA, cQ, if_true, if_false, Bool.false_eq_true, Nat.zero_add, Option.isNone_some, Option.isNone_none, Bool.not_true, Bool.not_false, List.getElem?_cons_succ, List.getElem?_cons_zero, cS, aZ, bU, bV, bT, bC, eA, dG, dH, dC, aW, eI, bR, aJ, dF, dI, dJ, dD, bL, bN, cB, bA, cF, cG, bF, cJ, cL, cZ, cK, cD, cH, cC, dR, bW, cU, dT, bS, cV, aY, cI, dQ, bH, aO, aI, aP, aK, aM, aT, aE, cM, bG, cY, bP, bY, cP, aQ, aV, aU, aX, aR, aD, aB, aC, dB, aH, aG, bM, bB, bK, dE, bE, bZ, bD, bQ, bO, aL, dS, aS, dM, dL, aN, bX, cA, dN, eS, n1]
    refine Hi (cells := (zB0.map (Value.int .u32)).toArray) (by decide) (by decide) (by kernel_rfl) fun w1 o1 x1 s1 => ?_
    exact ⟨⟨_, _, _, rfl, rfl, Nat.le_refl _, fun _ => ⟨_, _, rfl, fun i hi => by rw [o1.cell, Nat.zero_add]⟩⟩, x1⟩
  have n1 : (a == 0) = false := beq_eq_false_iff_ne.2 h0
  by_cases h2 : a = 2
  · subst h2
    rw [if_neg h0, if_pos rfl]
    have n2 : ((2 : Int) == 2) = true := rfl
    simp (disch := omega) only [cO, gY, aF, dO, fB, fL, fX, fW, fY, gF, iP, gK, eD, fT, gC, fR, fQ, eY, gH, fJ, fZ, gI, gO, gD, eP, gP, gG, gB, lE, lC, lL, lJ, lK, lV, lU, lW, lT, cX, Result.ok.injEq, Next.value.injEq, true_and, and_true, eL, fU, gL, gN, gM, iK, Int.toNat_natCast, fK, fD, fM, eZ, dZ, dV, eU, eC, dA, cQ, if_true, if_false, Bool.false_eq_true, Nat.zero_add, Option.isNone_some, Option.isNone_none, Bool.not_true, Bool.not_false, List.getElem?_cons_succ, List.getElem?_cons_zero, cS, aZ, bU, bV, bT, bC, eA, dG, dH, dC, aW, eI, bR, aJ, dF, dI, dJ, dD, bL, bN, cB, bA, cF, cG, bF, cJ, cL, cZ, cK, cD, cH, cC, dR, bW, cU, dT, bS, cV, aY, cI, dQ, bH, aO, aI, aP, aK, aM, aT, aE, cM, bG, cY, bP, bY, cP, aQ, aV, aU, aX, aR, aD, aB, aC, dB, aH, aG, bM, bB, bK, dE, bE, bZ, bD, bQ, bO, aL, dS, aS, dM, dL, aN, bX, cA, dN, eS, n1, n2]
    refine Hi (cells := (zB2.map (Value.int .u32)).toArray) (by decide) (by decide) (by kernel_rfl) fun w1 o1 x1 s1 => ?_
    exact ⟨⟨_, _, _, rfl, rfl, Nat.le_refl _, fun _ => ⟨_, _, rfl, fun i hi => by rw [o1.cell, Nat.zero_add]⟩⟩, x1⟩
  have n2 : (a == 2) = false := beq_eq_false_iff_ne.2 h2
  rw [if_neg h0, if_neg h2]
  simp (disch := omega) only [cO, gY, aF, dO, fB, fL, fX, fW, fY, gF, iP, gK, eD, fT, gC, fR, fQ, eY, gH, fJ, fZ, gI, gO, gD, eP, gP, gG, gB, lE, lC, lL, lJ, lK, lV, lU, lW, lT, cX, Result.ok.injEq, Next.value.injEq, true_and, and_true, eL, fU, gL, gN, gM, iK, Int.toNat_natCast, fK, fD, fM, eZ, dZ, dV, eU, eC, dA, cQ, if_true, if_false, Bool.false_eq_true, Nat.zero_add, Option.isNone_some, Option.isNone_none, Bool.not_true, Bool.not_false, List.getElem?_cons_succ, List.getElem?_cons_zero, cS, aZ, bU, bV, bT, bC, eA, dG, dH, dC, aW, eI, bR, aJ, dF, dI, dJ, dD, bL, bN, cB, bA, cF, cG, bF, cJ, cL, cZ, cK, cD, cH, cC, dR, bW, cU, dT, bS, cV, aY, cI, dQ, bH, aO, aI, aP, aK, aM, aT, aE, cM, bG, cY, bP, bY, cP, aQ, aV, aU, aX, aR, aD, aB, aC, dB, aH, aG, bM, bB, bK, dE, bE, bZ, bD, bQ, bO, aL, dS, aS, dM, dL, aN, bX, cA, dN, eS, n1, n2]
  unfold uQ BN BZ vR Cj
  by_cases h1 : a = 1
  · subst h1
    have n3 : ((1 : Int) == 1) = true := rfl
    refine iY.rule (fun m (t : Value × Value × Value) w' => ∃ (i : Nat) (v : Value), m = 32 - i ∧ t = (v, .int .u32 (Yn i), .int .i64 i) ∧ i ≤ 32 ∧ uE w' w.heap.size 1 v i ((ZY.take i).map (Value.int .u32)) ∧ gS w w' jR) 32
      ⟨0, _, rfl, rfl, by omega, uE.nil _ _ _, gS.refl _ _⟩ ?_
    rintro m t w1 ⟨i, v, rfl, rfl, hi, ho, x1⟩
    unfold rF
    by_cases hlt : i < 32
    · have d1 : decide ((i : Int) < 32) = true := by simp; omega
      have e1 : IntKind.u32.wrap (Yn i * 2) = Yn (i + 1) := by
        have : ∀ k : Fin 32, IntKind.u32.wrap (Yn k.val * 2) = Yn (k.val + 1) := by decide
        exact this ⟨i, hlt⟩
      have hz : (ZY.take (i + 1)).map (Value.int .u32) = (ZY.take i).map (Value.int .u32) ++ [.int .u32 (Yn i)] := by
        rw [List.take_add_one, List.map_append]
        unfold ZY
        rw [List.getElem?_map, List.getElem?_range hlt] <;> rfl
      have z1 := x1.size
      simp (disch := omega) only [cO, gY, aF, dO, fB, fL, fX, fW, fY, gF, iP, gK, eD, fT, gC, fR, fQ, eY, gH, fJ, fZ, gI, gO, gD, eP, gP, gG, gB, lE, lC, lL, lJ, lK, lV, lU, lW, lT, cX, Result.ok.injEq, Next.value.injEq, true_and, and_true, eL, fU, gL, gN, gM, iK, Int.toNat_natCast, fK, fD, fM, eZ, dZ, dV, eU, eC, dA, cQ, if_true, if_false, Bool.false_eq_true, Nat.zero_add, Option.isNone_some, Option.isNone_none, Bool.not_true, Bool.not_false, List.getElem?_cons_succ, List.getElem?_cons_zero, cS, aZ, bU, bV, bT, bC, eA, dG, dH, dC, aW, eI, bR, aJ, dF, dI, dJ, dD, bL, bN, cB, bA, cF, cG, bF, cJ, cL, cZ, cK, cD, cH, cC, dR, bW, cU, dT, bS, cV, aY, cI, dQ, bH, aO, aI, aP, aK, aM, aT, aE, cM, bG, cY, bP, bY, cP, aQ, aV, aU, aX, aR, aD, aB, aC, dB, aH, aG, bM, bB, bK, dE, bE, bZ, bD, bQ, bO, aL, dS, aS, dM, dL, aN, bX, cA, dN, eS, d1, n3, e1]
      refine Hi (cells := #[.int .u32 (Yn i)]) (by decide) (by decide) (by kernel_rfl) fun w2 o2 x2 s2 => ?_
      have z2 := x2.size
      refine GS (m := 1) (news := [.int .u32 (Yn i)]) (ho.ext x2 (fun _ _ h => h)) (o2.cl (off := 0) (l := [.int .u32 (Yn i)]) (n := 1) rfl (fun i hi => by rw [Nat.zero_add])) (by simp [one]) (by omega) (by omega) fun v3 w3 o3 x3 => ?_
      rw [← hz] at o3
      exact ⟨32 - (i + 1), by omega, i + 1, v3, rfl, rfl, by omega, o3, (x1.seq x2).trans x3 fun b hb h => by omega⟩
    · have d1 : decide ((i : Int) < 32) = false := by simp; omega
      obtain rfl : i = 32 := by omega
      unfold rB
      simp (disch := omega) only [cO, gY, aF, dO, fB, fL, fX, fW, fY, gF, iP, gK, eD, fT, gC, fR, fQ, eY, gH, fJ, fZ, gI, gO, gD, eP, gP, gG, gB, lE, lC, lL, lJ, lK, lV, lU, lW, lT, cX, Result.ok.injEq, Next.value.injEq, true_and, and_true, eL, fU, gL, gN, gM, iK, Int.toNat_natCast, fK, fD, fM, eZ, dZ, dV, eU, eC, dA, cQ, if_true, if_false, Bool.false_eq_true, Nat.zero_add, Option.isNone_some, Option.isNone_none, Bool.not_true, Bool.not_false, List.getElem?_cons_succ, List.getElem?_cons_zero, cS, aZ, bU, bV, bT, bC, eA, dG, dH, dC, aW, eI, bR, aJ, dF, dI, dJ, dD, bL, bN, cB, bA, cF, cG, bF, cJ, cL, cZ, cK, cD, cH, cC, dR, bW, cU, dT, bS, cV, aY, cI, dQ, bH, aO, aI, aP, aK, aM, aT, aE, cM, bG, cY, bP, bY, cP, aQ, aV, aU, aX, aR, aD, aB, aC, dB, aH, aG, bM, bB, bK, dE, bE, bZ, bD, bQ, bO, aL, dS, aS, dM, dL, aN, bX, cA, dN, eS, d1]
      exact ⟨ho.sl, x1⟩
  · have n3 : (a == 1) = false := beq_eq_false_iff_ne.2 h1
    refine iY.rule (fun m (t : Value × Value × Value) w' => m = 0 ∧ t = (.slice none 0 0, .int .u32 1, .int .i64 0) ∧ w' = w) 0 ⟨rfl, rfl, rfl⟩ ?_
    rintro m t w1 ⟨rfl, rfl, rfl⟩
    unfold rF rB
    have d1 : decide ((0 : Int) < 32) = true := rfl
    rw [if_neg h1]
    simp (disch := omega) only [cO, gY, aF, dO, fB, fL, fX, fW, fY, gF, iP, gK, eD, fT, gC, fR, fQ, eY, gH, fJ, fZ, gI, gO, gD, eP, gP, gG, gB, lE, lC, lL, lJ, lK, lV, lU, lW, lT, cX, Result.ok.injEq, Next.value.injEq, true_and, and_true, eL, fU, gL, gN, gM, iK, Int.toNat_natCast, fK, fD, fM, eZ, dZ, dV, eU, eC, dA, cQ, if_true, if_false, Bool.false_eq_true, Nat.zero_add, Option.isNone_some, Option.isNone_none, Bool.not_true, Bool.not_false, List.getElem?_cons_succ, List.getElem?_cons_zero, cS, aZ, bU, bV, bT, bC, eA, dG, dH, dC, aW, eI, bR, aJ, dF, dI, dJ, dD, bL, bN, cB, bA, cF, cG, bF, cJ, cL, cZ, cK, cD, cH, cC, dR, bW, cU, dT, bS, cV, aY, cI, dQ, bH, aO, aI, aP, aK, aM, aT, aE, cM, bG, cY, bP, bY, cP, aQ, aV, aU, aX, aR, aD, aB, aC, dB, aH, aG, bM, bB, bK, dE, bE, bZ, bD, bQ, bO, aL, dS, aS, dM, dL, aN, bX, cA, dN, eS, d1, n3]
    exact ⟨Sl.nil _, gS.refl _ _⟩
end Go.Proofs.YtoepfjgekpdddaaDoor
namespace Go.Proofs.YtoepfjgekpdddaaDoor
open Go Go.En Go.Pu
set_option maxRecDepth 4000
set_option linter.unusedSimpArgs false
set_option linter.unusedVariables false
theorem Wu {log k : Nat} (h15 : log ≤ 15) (hk1 : 1 ≤ k) (hk2 : k < 2 ^ (log + 1)) {w0 w : World} {p1 : Nat} {sv t2 n5 t6 seen i15 : Value} (o1 : jL w p1 [.int .i64 log, sv])
    {k12 : Value → Value → Value → Value → Value → Value → Value → Value → World → Prop}
    (hR : k12 (.pointer (some ⟨p1, 0, none⟩)) t2 n5 t6 seen i15 (.int .i64 k) (.int .i64 ((log + 1 - bl k : Nat) : Int)) w) :
    zR k12 (.pointer (some ⟨p1, 0, none⟩)) t2 n5 t6 seen i15 (.int .i64 k) (.int .i64 log) w := by
  have hb1 := KH (k := k) (by omega)
  have hb2 := Bw hk2
  have hlt := QC k
  have hle := QE (k := k) (by omega)
  have c0 := o1.cell (off := 0)
  simp only [List.getElem?_cons_zero] at c0
  unfold zR
  refine iY.rule (fun m t w' => ∃ q : Nat, m = log - q ∧ t = .int .i64 ((log - q : Nat) : Int) ∧ q + 1 ≤ bl k ∧ w' = w) log ⟨0, rfl, rfl, by omega, rfl⟩ ?_
  rintro m t w' ⟨q, rfl, rfl, hq, rfl⟩
  have e1 : (log : Int) - ((log - q : Nat) : Int) + 1 = ((q + 1 : Nat) : Int) := by omega
  have hw : IntKind.i64.wrap ((log : Int) - ((log - q : Nat) : Int)) = (log : Int) - ((log - q : Nat) : Int) := eL (by omega) (by omega)
  unfold yO
  simp (disch := omega) only [cO, aD, fL, eL, aF, eI, c0, cX, hw, fB, e1]
  refine (IG (q + 1) (by omega) _).mono ?_
  rintro r w1 ⟨rfl, rfl⟩
  have hpw : ((2 ^ (q + 1) : Nat) : Int) = (2 : Int) ^ (q + 1) := by simp
  rw [← hpw]
  by_cases hc : 2 ^ (q + 1) ≤ k
  · have d1 : decide (((2 ^ (q + 1) : Nat) : Int) ≤ (k : Int)) = true := by simp only [decide_eq_true_eq]; omega
    have hq2 : q + 2 ≤ bl k := by
      rcases Nat.lt_or_ge (q + 1) (bl k) with h | h
      · exact h
      · have : bl k = q + 1 := by omega
        rw [this] at hlt; omega
    simp (disch := omega) only [gH, d1, aF, and_true, dA]
    exact ⟨log - (q + 1), by omega, q + 1, rfl, by congr 1; omega, hq2⟩
  · have d1 : decide (((2 ^ (q + 1) : Nat) : Int) ≤ (k : Int)) = false := by simp only [decide_eq_false_iff_not]; omega
    have : bl k = q + 1 := by
      have := Bw (k := k) (n := q + 1) (by omega)
      omega
    rw [this, show log + 1 - (q + 1) = log - q from by omega] at hR
    simp (disch := omega) only [gH, d1, aF, and_true, cQ]
    exact hR
theorem Wy {N high j : Nat} (hN : 0 < N) (hN2 : N ≤ 32768) (hh : 0 < high) (hhN : high ≤ N) {w : World} {c1 t2 t6 s k : Value}
    {k8 : Value → Value → Value → Value → Value → Value → Value → Value → World → Prop}
    (hR : k8 c1 t2 (.int .i64 N) t6 (.int .i64 ((high : Int) - 1)) (.int .i64 (Nw N high N (pos N j) : Nat)) s k w) :
    uR k8 c1 t2 (.int .i64 N) t6 (.int .i64 ((high : Int) - 1)) (.int .i64 (pos N j : Nat)) s k (.int .i64 0) w := by
  obtain ⟨d, h1, h2, h3⟩ := IB hN hh j
  have hd : d < N := by
    obtain ⟨D, hD, h0⟩ := VT N j hN
    rcases Nat.lt_or_ge d N with h | h
    · exact h
    · have := h1 D (by omega)
      omega
  rw [h3] at hR
  unfold uR
  refine iY.rule (fun m t w' => ∃ q : Nat, m = d - q ∧ t = (.int .i64 (pos N (j + q) : Nat), .int .i64 q) ∧ q ≤ d ∧ w' = w) d ⟨0, rfl, rfl, by omega, rfl⟩ ?_
  rintro m t w' ⟨q, rfl, rfl, hq, rfl⟩
  have hp := Sd hN (j + q)
  have d1 : decide ((q : Int) < (N : Int)) = true := by simp only [decide_eq_true_eq]; omega
  have e1 : (N : Int).tdiv 2 = ((N / 2 : Nat) : Int) := by rw [Int.tdiv_eq_ediv_of_nonneg (by omega)]; omega
  have e3 : (N : Int).tdiv 8 = ((N / 8 : Nat) : Int) := by rw [Int.tdiv_eq_ediv_of_nonneg (by omega)]; omega
  have e4 : (((pos N (j + q) : Nat) : Int) + ((N / 2 : Nat) : Int) + ((N / 8 : Nat) : Int) + 3).tmod (N : Int) = ((pos N (j + q + 1) : Nat) : Int) := by
    rw [Int.tmod_eq_emod_of_nonneg (by omega), ← CK]
    unfold Yj
    simp
  unfold wG
  by_cases hqd : q < d
  · have := h1 q hqd
    have d2 : decide ((high : Int) - 1 < ((pos N (j + q) : Nat) : Int)) = true := by simp only [decide_eq_true_eq]; omega
    simp (disch := omega) only [cO, eY, d1, fW, e1, eL, e3, fB, aF, fY, e4, fK, eP, if_true, dZ, fJ, d2, and_true, dA]
    exact ⟨d - (q + 1), by omega, q + 1, rfl, rfl, by omega⟩
  · have : q = d := by omega
    subst this
    have d2 : decide ((high : Int) - 1 < ((pos N (j + q) : Nat) : Int)) = false := by simp only [decide_eq_false_iff_not]; omega
    simp (disch := omega) only [cO, eY, d1, fW, eL, fB, aF, fY, fK, eP, if_true, dZ, fJ, d2, and_true, cQ]
    exact hR
end Go.Proofs.YtoepfjgekpdddaaDoor
namespace Go.Proofs.YtoepfjgekpdddaaDoor
open Go Go.En Go.Pu
set_option maxRecDepth 4000
set_option linter.unusedSimpArgs false
set_option linter.unusedVariables false
def RT (w : World) (b log : Nat) (L : List T3) (v : Value) : Prop := ∃ cc rest, v = .agg #[.int .i64 log, .slice (some ⟨b, 0, none⟩) L.length cc] ∧ jL w b (fe .i64 L ++ rest)
theorem RT.ext {w w' : World} {b log : Nat} {L : List T3} {v : Value} {M : Nat → Prop} (h : RT w b log L v) (hx : gS w w' M) (hM : ¬ M b) : RT w' b log L v := by
  obtain ⟨cc, rest, h1, h2⟩ := h
  exact ⟨cc, rest, h1, h2.ext hx hM⟩
theorem XL (s : Int) (w : World) : hJ pg EP #[.int .i64 s] w (fun r w' => ∃ b, w.heap.size ≤ b ∧ RT w' b 0 [(s, 0, 0)] r ∧ gS w w' jR) := by
  refine Sa ?_
  unfold SZ GX
  refine kK fun w1 o1 x1 s1 => ?_
  simp (disch := omega) only [cO, gY, aF, dO, fB, fL, fX, fW, fY, gF, iP, gK, eD, fT, gC, fR, fQ, eY, gH, fJ, fZ, gI, gO, gD, eP, gP, gG, gB, lE, lC, lL, lJ, lK, lV, lU, lW, lT, cX, Result.ok.injEq, Next.value.injEq, true_and, and_true, eL, fU, gL, gN, gM, iK, Int.toNat_natCast, fK, fD, fM, eZ, dZ, dV, eU, eC, dA, cQ, if_true, if_false, Bool.false_eq_true, Nat.zero_add, Option.isNone_some, Option.isNone_none, Bool.not_true, Bool.not_false, List.getElem?_cons_succ, List.getElem?_cons_zero, cS, aZ, bU, bV, bT, bC, eA, dG, dH, dC, aW, eI, bR, aJ, dF, dI, dJ, dD, bL, bN, cB, bA, cF, cG, bF, cJ, cL, cZ, cK, cD, cH, cC, dR, bW, cU, dT, bS, cV, aY, cI, dQ, bH, aO, aI, aP, aK, aM, aT, aE, cM, bG, cY, bP, bY, cP, aQ, aV, aU, aX, aR, aD, aB, aC, dB, aH, aG, bM, bB, bK, dE, bE, bZ, bD, bQ, bO, aL, dS, aS, dM, dL, aN, bX, cA, dN, eS]
  refine pX (cells := #[.int .i64 s, .int .i64 0, .int .i64 0]) (by decide) (by decide) (by kernel_rfl) fun w2 o2 x2 s2 => ?_
  simp (disch := omega) only [cO, gY, aF, dO, fB, fL, fX, fW, fY, gF, iP, gK, eD, fT, gC, fR, fQ, eY, gH, fJ, fZ, gI, gO, gD, eP, gP, gG, gB, lE, lC, lL, lJ, lK, lV, lU, lW, lT, cX, Result.ok.injEq, Next.value.injEq, true_and, and_true, eL, fU, gL, gN, gM, iK, Int.toNat_natCast, fK, fD, fM, eZ, dZ, dV, eU, eC, dA, cQ, if_true, if_false, Bool.false_eq_true, Nat.zero_add, Option.isNone_some, Option.isNone_none, Bool.not_true, Bool.not_false, List.getElem?_cons_succ, List.getElem?_cons_zero, cS, aZ, bU, bV, bT, bC, eA, dG, dH, dC, aW, eI, bR, aJ, dF, dI, dJ, dD, bL, bN, cB, bA, cF, cG, bF, cJ, cL, cZ, cK, cD, cH, cC, dR, bW, cU, dT, bS, cV, aY, cI, dQ, bH, aO, aI, aP, aK, aM, aT, aE, cM, bG, cY, bP, bY, cP, aQ, aV, aU, aX, aR, aD, aB, aC, dB, aH, aG, bM, bB, bK, dE, bE, bZ, bD, bQ, bO, aL, dS, aS, dM, dL, aN, bX, cA, dN, eS]
  have l1 := o1.lt
  refine kE (o1.ext x2 (fun h => h)) rfl (by simp [one]) (by simp) fun w3 o3 x3 s3 => ?_
  refine mY o3 (by simp [fV]) ?_
  simp only [fV, List.set_cons_zero, List.set_cons_succ, List.drop_zero, List.take_succ_cons, List.take_zero]
  exact ⟨w1.heap.size, by omega, ⟨1, [], rfl, o2.ext x3 (by omega)⟩, (x1.seq x2).new x3 (Nat.le_refl _)⟩
end Go.Proofs.YtoepfjgekpdddaaDoor
namespace Go.Proofs.YtoepfjgekpdddaaDoor
open Go Go.En Go.Pu
set_option maxRecDepth 4000
set_option linter.unusedSimpArgs false
set_option linter.unusedVariables false
theorem S5 {k : IntKind} {L : List Int} {rest : List Value} {i : Nat} (h : i < L.length) (x : Int) : (fe k (m3 L) ++ rest).set (i * 3) (.int k x) = fe k (m3 (L.set i x)) ++ rest := by
  rw [List.set_append_left _ _ (by rw [lY]; simp [m3]; omega), RW h]
theorem WQ {log N high cc p1 p6 b : Nat} {ps : List Int} {sv t2 : Value} {arr arr' : List Int} {rest : List Value} {w0 w : World} (hm : Jo log ps) (hs : Sl w0 sv (ps.map (Value.int .i64))) (hx : gS w0 w jR)
    (hN2 : N ≤ 32768) (hcc : N ≤ cc) (harr : arr.length = N) (hng : (pL ps 0).length ≤ N) (ht : Ky ps 0 N arr = (high, arr')) (hlo : w0.heap.size ≤ b) (hne : p1 ≠ b ∧ p6 ≠ b)
    (o1 : jL w p1 [.int .i64 log, sv]) (o6 : jL w p6 [.int .i64 log, .slice (some ⟨b, 0, none⟩) N cc]) (ob : jL w b (fe .i64 (m3 arr) ++ rest))
    {k2 : Value → Value → Value → Value → Value → World → Prop}
    (hR : ∀ w', jL w' b (fe .i64 (m3 arr') ++ rest) → gS w w' (fun y => y = b) → k2 (.pointer (some ⟨p1, 0, none⟩)) t2 (.int .i64 N) (.pointer (some ⟨p6, 0, none⟩)) (.int .i64 ((high : Int) - 1)) w') :
    uS k2 (.pointer (some ⟨p1, 0, none⟩)) t2 (.int .i64 N) (.pointer (some ⟨p6, 0, none⟩)) (.int .i64 ((N : Int) - 1)) (.int .i64 0) w := by
  have hlen := hm.len256
  obtain ⟨a, c, rfl, hc⟩ := hs.lenI
  unfold uS
  refine iY.rule (fun m t w' => ∃ (i hg : Nat) (ar : List Int), m = ps.length - i ∧ t = (.int .i64 ((hg : Int) - 1), .int .i64 i) ∧ i ≤ ps.length ∧ (pL (ps.drop i) i).length ≤ hg ∧ hg ≤ N ∧ ar.length = N ∧ Ky (ps.drop i) i hg ar = (high, arr') ∧ jL w' b (fe .i64 (m3 ar) ++ rest) ∧ gS w w' (fun y => y = b)) ps.length
    ⟨0, N, arr, rfl, rfl, by omega, by rw [List.drop_zero]; exact hng, by omega, harr, by rw [List.drop_zero]; exact ht, ob, gS.refl _ _⟩ ?_
  rintro m t w3 ⟨i, hg, ar, rfl, rfl, hi, hng, hgN, harr, htop, o3, x3⟩
  have c1 := (o1.ext x3 hne.1).cell (off := 1)
  have c6 := (o6.ext x3 hne.2).cell (off := 1)
  simp only [List.getElem?_cons_zero, List.getElem?_cons_succ] at c1 c6
  unfold wA By
  by_cases hlt : i < ps.length
  · have d1 : decide ((i : Int) < (ps.length : Int)) = true := by simp; omega
    obtain ⟨b', off', c', e, _, hcell⟩ := (hs.ext (hx.new x3 hlo) (iQ _)).openI (by omega)
    cases e
    have g1 := hcell i hlt
    have hd : ps.drop i = ps[i] :: ps.drop (i + 1) := List.drop_eq_getElem_cons hlt
    have hlow := hm.low _ (List.getElem_mem hlt)
    rw [hd, pL] at hng
    rw [hd, Ky] at htop
    by_cases hp : ps[i] = -1
    · have d2 : decide (ps[i] < 0) = true := by simp; omega
      rw [if_pos hp] at hng htop
      simp only [List.length_cons] at hng
      have e1 : (hg : Int) - 1 = ((hg - 1 : Nat) : Int) := by omega
      have e2 : IntKind.i64.wrap (((hg - 1 : Nat) : Int) - 1) = ((hg - 1 : Nat) : Int) - 1 := eL (by omega) (by omega)
      rw [e1]
      simp (disch := omega) only [cO, aB, Nat.zero_add, aO, fL, eL, aF, aI, dF, c1, cX, dI, eY, d1, dJ, Int.toNat_natCast, eI, g1, d2, c6, aM, aC, dA]
      refine yW o3 rfl (by rw [List.length_append, lY]; simp [m3]; omega) fun w4 o4 x4 s4 => ?_
      rw [S5 (by omega)] at o4
      unfold rG
      simp (disch := omega) only [cO, fB, eL, aF]
      exact ⟨ps.length - (i + 1), by omega, i + 1, hg - 1, _, rfl, rfl, by omega, by omega, by omega, by simp [harr], htop, o4, x3.trans x4 (fun _ _ h => h)⟩
    · have d2 : decide (ps[i] < 0) = false := by simp; omega
      rw [if_neg hp] at hng htop
      unfold rG
      simp (disch := omega) only [cO, aB, Nat.zero_add, aO, fL, eL, fB, aF, aI, dF, c1, cX, dI, eY, d1, dJ, Int.toNat_natCast, eI, g1, d2, c6, cQ, dA]
      exact ⟨ps.length - (i + 1), by omega, i + 1, hg, ar, rfl, rfl, by omega, by omega, by omega, harr, htop, o3, x3⟩
  · have d1 : decide ((i : Int) < (ps.length : Int)) = false := by simp; omega
    rw [List.drop_of_length_le (by omega), Ky] at htop
    obtain ⟨rfl, rfl⟩ : hg = high ∧ ar = arr' := by simpa using htop
    simp (disch := omega) only [cO, aB, Nat.zero_add, aO, fL, eL, aF, aI, dF, c1, cX, dI, eY, d1, cQ]
    exact hR _ o3 x3
end Go.Proofs.YtoepfjgekpdddaaDoor
namespace Go.Proofs.YtoepfjgekpdddaaDoor
open Go Go.En Go.Pu
set_option maxRecDepth 4000
set_option linter.unusedSimpArgs false
set_option linter.unusedVariables false
theorem U3 {log N high cc p1 p6 b : Nat} {ps : List Int} {sv t2 : Value} {arr : List Int} {rest : List Value} {w0 w : World} (hm : Jo log ps) (hs : Sl w0 sv (ps.map (Value.int .i64))) (hx : gS w0 w jR)
    (hN1 : 32 ≤ N) (hN2 : N ≤ 32768) (hcc : N ≤ cc) (harr : arr.length = N) (hhigh : (nI ps 0).length = high) (hhN : high ≤ N) (hlo : w0.heap.size ≤ b) (hne : p1 ≠ b ∧ p6 ≠ b)
    (o1 : jL w p1 [.int .i64 log, sv]) (o6 : jL w p6 [.int .i64 log, .slice (some ⟨b, 0, none⟩) N cc]) (ob : jL w b (fe .i64 (m3 arr) ++ rest))
    {k4 : Value → Value → Value → Value → World → Prop}
    (hR : ∀ w', jL w' b (fe .i64 (m3 (wS N high (nI ps 0) 0 arr)) ++ rest) → gS w w' (fun y => y = b) → k4 (.pointer (some ⟨p1, 0, none⟩)) t2 (.int .i64 N) (.pointer (some ⟨p6, 0, none⟩)) w') :
    vZ k4 (.pointer (some ⟨p1, 0, none⟩)) t2 (.int .i64 N) (.pointer (some ⟨p6, 0, none⟩)) (.int .i64 ((high : Int) - 1)) (.int .i64 0) (.int .i64 0) w := by
  have hlen := hm.len256
  obtain ⟨a, c, rfl, hc⟩ := hs.lenI
  unfold vZ
  refine iY.rule (fun m t w' => ∃ (s j : Nat) (ar : List Int), m = ps.length - s ∧ t = (.int .i64 (pos N j : Nat), .int .i64 s) ∧ s ≤ ps.length ∧ ar.length = N ∧ wS N high (nI (ps.drop s) s) (pos N j) ar = wS N high (nI ps 0) 0 arr ∧ (nI (ps.drop s) s).length ≤ high ∧ jL w' b (fe .i64 (m3 ar) ++ rest) ∧ gS w w' (fun y => y = b)) ps.length
    ⟨0, 0, arr, rfl, by rw [Iz] <;> rfl, by omega, harr, by rw [Iz, List.drop_zero], by rw [List.drop_zero, hhigh]; exact Nat.le_refl _, ob, gS.refl _ _⟩ ?_
  rintro m t w4 ⟨s, j, ar, rfl, rfl, hs4, har, hpl, hrl, o4, x4⟩
  have c1 := (o1.ext x4 hne.1).cell (off := 1)
  simp only [List.getElem?_cons_zero, List.getElem?_cons_succ] at c1
  unfold uW B6
  by_cases hlt : s < ps.length
  · have d1 : decide ((s : Int) < (ps.length : Int)) = true := by simp; omega
    obtain ⟨q, hq⟩ : ∃ q, q = ps[s].toNat := ⟨_, rfl⟩
    rw [S3 hlt, ← hq] at hpl hrl
    have hqN : q ≤ N := by simp at hrl; omega
    simp (disch := omega) only [cO, aB, Nat.zero_add, aF, dF, c1, cX, dI, eY, d1, dA]
    unfold uV Bz BD B3 wF BG
    refine iY.rule (fun m t w' => ∃ (k j : Nat) (ar : List Int), m = q - k ∧ t = (.int .i64 (pos N j : Nat), .int .i64 k) ∧ k ≤ q ∧ ar.length = N ∧ wS N high (List.replicate (q - k) s ++ nI (ps.drop (s + 1)) (s + 1)) (pos N j) ar = wS N high (nI ps 0) 0 arr ∧ jL w' b (fe .i64 (m3 ar) ++ rest) ∧ gS w w' (fun y => y = b)) q
      ⟨0, j, ar, rfl, rfl, by omega, har, hpl, o4, x4⟩ ?_
    rintro m t w5 ⟨k, j5, ar5, rfl, rfl, hk, har5, hpl5, o5, x5⟩
    have c15 := (o1.ext x5 hne.1).cell (off := 1)
    have c65 := (o6.ext x5 hne.2).cell (off := 1)
    simp only [List.getElem?_cons_zero, List.getElem?_cons_succ] at c15 c65
    obtain ⟨b', off', c', e, _, hcell⟩ := (hs.ext (hx.new x5 hlo) (iQ _)).openI (by omega)
    cases e
    have g1 := hcell s hlt
    unfold vF Cn
    by_cases hkq : k < q
    · have d2 : decide ((k : Int) < ps[s]) = true := by simp; omega
      have hp := Sd (n := N) (by omega) j5
      have hhg : 0 < high := by simp at hrl; omega
      simp (disch := omega) only [cO, aB, Nat.zero_add, aF, dF, c15, cX, dJ, Int.toNat_natCast, eI, g1, eY, d2, dA]
      unfold vD BL BP BE
      simp (disch := omega) only [cO, aO, Nat.zero_add, fW, aF, fB, fY, aI, c65, cX, aM, Int.toNat_natCast, aC]
      refine yW o5 rfl (by rw [List.length_append, lY]; simp [m3]; omega) fun w6 o6' x6 s6 => ?_
      rw [S5 (by omega)] at o6'
      have e1 : (N : Int).tdiv 2 = ((N / 2 : Nat) : Int) := by rw [Int.tdiv_eq_ediv_of_nonneg (by omega)]; omega
      have e3 : (N : Int).tdiv 8 = ((N / 8 : Nat) : Int) := by rw [Int.tdiv_eq_ediv_of_nonneg (by omega)]; omega
      have e4 : (((pos N j5 : Nat) : Int) + ((N / 2 : Nat) : Int) + ((N / 8 : Nat) : Int) + 3).tmod (N : Int) = ((pos N (j5 + 1) : Nat) : Int) := by
        rw [Int.tmod_eq_emod_of_nonneg (by omega), ← CK]
        unfold Yj
        simp
      simp (disch := omega) only [e1, eL, e3, e4]
      unfold uO
      rw [show q - k = (q - (k + 1)) + 1 from by omega, List.replicate_succ, List.cons_append, SC, CK] at hpl5
      obtain ⟨d, _, hd2, hd3⟩ := IB (n := N) (high := high) (by omega) hhg (j5 + 1)
      refine Wy (by omega) hN2 hhg hhN ?_
      rw [hd3] at hpl5 ⊢
      unfold vH
      simp (disch := omega) only [cO, fB, eL, aF]
      exact ⟨q - (k + 1), by omega, k + 1, j5 + 1 + d, _, rfl, rfl, by omega, by simp [har5], hpl5, o6', x5.trans x6 (fun _ _ h => h)⟩
    · have d2 : decide ((k : Int) < ps[s]) = false := by simp; omega
      rw [show q - k = 0 from by omega, List.replicate_zero, List.nil_append] at hpl5
      unfold vM
      simp (disch := omega) only [cO, aB, Nat.zero_add, fB, eL, aF, dF, c15, cX, dJ, Int.toNat_natCast, eI, g1, eY, d2, cQ]
      exact ⟨ps.length - (s + 1), by omega, s + 1, j5, ar5, rfl, rfl, by omega, har5, hpl5, by simp at hrl; omega, o5, x5⟩
  · have d1 : decide ((s : Int) < (ps.length : Int)) = false := by simp; omega
    rw [List.drop_of_length_le (by omega), nI, wS] at hpl
    simp (disch := omega) only [cO, aB, Nat.zero_add, aF, dF, c1, cX, dI, eY, d1, cQ]
    exact hR _ (by rw [← hpl]; exact o4) x4
end Go.Proofs.YtoepfjgekpdddaaDoor
namespace Go.Proofs.YtoepfjgekpdddaaDoor
open Go Go.En Go.Pu
set_option maxRecDepth 4000
set_option linter.unusedSimpArgs false
set_option linter.unusedVariables false
theorem Wt {log N p6 : Nat} {c1 t2 : Value} {w : World} (hN1 : 32 ≤ N) (hN2 : N ≤ 32768) (o6 : jL w p6 [.int .i64 log, .slice none 0 0])
    {k0 : Value → Value → Value → Value → World → Prop}
    (hR : ∀ w' b cc rest, jL w' p6 [.int .i64 log, .slice (some ⟨b, 0, none⟩) N cc] → jL w' b (fe .i64 (m3 (List.replicate N (-1))) ++ rest) → N ≤ cc → w.heap.size ≤ b → gS w w' (fun y => y = p6 ∨ w.heap.size ≤ y) → k0 c1 t2 (.int .i64 N) (.pointer (some ⟨p6, 0, none⟩)) w') :
    uZ k0 c1 t2 (.int .i64 N) (.pointer (some ⟨p6, 0, none⟩)) (.int .i64 0) w := by
  have l6 := o6.lt
  unfold uZ
  refine iY.rule (fun m t w' => ∃ (i : Nat) (v : Value), m = N - i ∧ t = .int .i64 i ∧ i ≤ N ∧ jL w' p6 [.int .i64 log, v] ∧ uE w' w.heap.size 3 v i (fe .i64 (m3 (List.replicate i (-1)))) ∧ gS w w' (fun y => y = p6 ∨ w.heap.size ≤ y)) N
    ⟨0, _, rfl, rfl, by omega, o6, uE.nil _ _ _, gS.refl _ _⟩ ?_
  rintro m t w1 ⟨i, v, rfl, rfl, hi, o1, os, x1⟩
  have c1' := o1.cell (off := 1)
  simp only [List.getElem?_cons_zero, List.getElem?_cons_succ] at c1'
  unfold wD
  by_cases hlt : i < N
  · have d1 : decide ((i : Int) < (N : Int)) = true := by simp only [decide_eq_true_eq]; omega
    simp (disch := omega) only [cO, eY, d1, aO, Nat.zero_add, aQ, fB, eL, aF, aI, c1', cX, dA]
    refine pX (cells := #[.int .i64 (-1), .int .i64 0, .int .i64 0]) (by decide) (by decide) (by kernel_rfl) fun w2 o2 x2 s2 => ?_
    refine mN (os.ext x2 (fun _ _ h => h)) (o2.cl (off := 0) (l := [.int .i64 (-1), .int .i64 0, .int .i64 0]) rfl (fun i hi => by rw [Nat.zero_add])) (by simp [one]) (Nat.le_trans x1.size x2.size) (by omega) fun v3 w3 o3 x3 => ?_
    have o13 := (o1.ext x2 (fun h => h)).ext x3 (by omega)
    refine wQ o13 ?_ (by simp) fun w4 o4 x4 s4 => ?_
    · obtain ⟨a, c, e⟩ := o3.len
      rw [e] <;> rfl
    simp only [List.set_cons_zero, List.set_cons_succ] at o4
    refine ⟨N - (i + 1), by omega, i + 1, v3, rfl, rfl, by omega, o4, ?_, ?_⟩
    · have e : fe .i64 (m3 (List.replicate (i + 1) (-1))) = fe .i64 (m3 (List.replicate i (-1))) ++ [.int .i64 (-1), .int .i64 0, .int .i64 0] := by
        rw [List.replicate_succ']; unfold m3; rw [List.map_append, SY] <;> rfl
      rw [e]
      exact o3.ext x4 (fun b hb h => by omega)
    · exact ((x1.seq (x2.mono fun _ _ h => h.elim)).seq (x3.mono fun _ _ h => .inr h)).seq (x4.mono fun _ _ h => .inl h)
  · have d1 : decide ((i : Int) < (N : Int)) = false := by simp only [decide_eq_false_iff_not]; omega
    have : i = N := by omega
    subst this
    simp (disch := omega) only [cO, eY, d1, aO, Nat.zero_add, aQ, fB, eL, aF, aI, cQ]
    rcases os.2 with ⟨_, h⟩ | ⟨b, c, rest, rfl, h2, h3, h4, h5⟩
    · omega
    · exact hR _ b c rest o1 h3 h5 h2 x1
end Go.Proofs.YtoepfjgekpdddaaDoor
namespace Go.Proofs.YtoepfjgekpdddaaDoor
open Go Go.En Go.Pu
set_option maxRecDepth 4000
set_option linter.unusedSimpArgs false
set_option linter.unusedVariables false
theorem X5 {k : IntKind} {L : List T3} {rest : List Value} {i : Nat} (h : i < L.length) (x : Int) : (fe k L ++ rest).set (i * 3 + 1) (.int .i64 x) = fe k (L.set i (L[i].1, x, L[i].2.2)) ++ rest := by
  rw [List.set_append_left _ _ (by rw [lY]; omega), (OF k L i h x).2.1]
theorem XM {k : IntKind} {L : List T3} {rest : List Value} {i : Nat} (h : i < L.length) (x : Int) : (fe k L ++ rest).set (i * 3 + 2) (.int .i64 x) = fe k (L.set i (L[i].1, L[i].2.1, x)) ++ rest := by
  rw [List.set_append_left _ _ (by rw [lY]; omega), (OF k L i h x).2.2]
theorem Wz {log N cc p1 p6 b ns : Nat} {ps S : List Int} {sv t2 : Value} {rest : List Value} {w0 w : World} (hm : Jo log ps) (L : Zj log ps S) (hN : 2 ^ log = N) (hs : Sl w0 sv (ps.map (Value.int .i64))) (hx : gS w0 w jR) (hcc : N ≤ cc)
    {i : Nat} (hlt : i < N) (hne : p1 ≠ b ∧ p6 ≠ b ∧ ns ≠ b ∧ p1 ≠ ns ∧ p6 ≠ ns)
    (o1 : jL w p1 [.int .i64 log, sv]) (o6 : jL w p6 [.int .i64 log, .slice (some ⟨b, 0, none⟩) N cc]) (ob : jL w b (fe .i64 (Es log ps S i) ++ rest)) (os : jL w ns ((cn S i).map (Value.int .i64)))
    {kn : Value → Value → Value → Value → Value → Value → World → Prop} {R : Value → World → Prop}
    (hR : ∀ w', jL w' b (fe .i64 (Es log ps S (i + 1)) ++ rest) → jL w' ns ((cn S (i + 1)).map (Value.int .i64)) → gS w w' (fun y => y = ns ∨ y = b) →
      kn (.pointer (some ⟨p1, 0, none⟩)) t2 (.int .i64 N) (.pointer (some ⟨p6, 0, none⟩)) (.pointer (some ⟨ns, 0, none⟩)) (.int .i64 ((i + 1 : Nat) : Int)) w') :
    rC kn R (.pointer (some ⟨p1, 0, none⟩)) t2 (.int .i64 N) (.pointer (some ⟨p6, 0, none⟩)) (.pointer (some ⟨ns, 0, none⟩)) (.int .i64 i) w := by
  have h15 := hm.log15
  have hlen := hm.len256
  have hN2 : 2 ^ log ≤ 2 ^ 15 := Nat.pow_le_pow_right (by omega) h15
  have hSl : S.length = 2 ^ log := L.len
  obtain ⟨a, c, rfl, hc⟩ := hs.lenI
  have c1 := o1.cell (off := 1)
  have c6 := o6.cell (off := 1)
  simp only [List.getElem?_cons_zero, List.getElem?_cons_succ] at c1 c6
  have hltN : i < 2 ^ log := by omega
  obtain ⟨s, hsl, hsS, hp1, hp2, hk', hcnt⟩ := VJ hm L hltN
  obtain ⟨k, hkk⟩ : ∃ k, k = ZZ ps S i := ⟨_, rfl⟩
  rw [← hkk] at hk'
  have hk2 : k < 2 ^ (log + 1) := by rw [Nat.pow_succ]; omega
  have hel : i < (Es log ps S i).length := by rw [zZ]; exact hltN
  have hE0 : (Es log ps S i)[i]'hel = ((s : Int), 0, 0) := by rw [Xs hltN, hsS]
  have g0 := ob.cell (off := i * 3)
  rw [List.getElem?_append_left (by rw [lY]; omega), (O1 .i64 (Es log ps S i) i hel).1, hE0] at g0
  simp only at g0
  obtain ⟨b', off', c', e, _, hcell⟩ := (hs.ext hx (iQ _)).openI (by omega)
  cases e
  have g1 := hcell s hsl
  have hlow := hm.low _ (List.getElem_mem hsl)
  have hSi : S[i]'(by omega) = (s : Int) := by rw [← hsS, List.getD_eq_getElem?_getD, List.getElem?_eq_getElem (by omega)] <;> rfl
  have gs := os.cell (off := s)
  rw [List.getElem?_map, List.getElem?_eq_getElem (by rw [PB]; omega), Vv (by omega)] at gs
  simp only [Option.map_some] at gs
  have hcs := Zh (S := S) (i := i) (s := s) (by omega) (by omega) hSi
  have d1 : decide ((s : Int) < 0) = false := by simp
  have d2 : decide ((ps.length : Int) ≤ (s : Int)) = false := by simp; omega
  unfold rC BF B2 BC
  simp (disch := omega) only [cO, aO, Nat.zero_add, aB, aF, aY, aI, c6, cX, aM, Int.toNat_natCast, aC, eI, g0, eY, d1, eZ, eP, Bool.false_eq_true, if_false, dZ, dF, c1, dI, fZ, d2, cQ]
  have hpn := mJ hlow
  have hcl : (S.take i).count (s : Int) ≤ i := by
    have := List.count_le_length (a := (s : Int)) (l := S.take i)
    rw [List.length_take] at this; omega
  have c10 := o1.cell (off := 0)
  simp only [List.getElem?_cons_zero] at c10
  have ek : (((S.take i).count (s : Int) : Nat) : Int) + iA ps[s] = (k : Int) := by rw [hk']; omega
  have h9 : rY (fun fO t2 jK t6 gW lP w => sK kn fO t2 jK t6 gW lP w) (.pointer (some ⟨p1, 0, none⟩)) t2 (.int .i64 N) (.pointer (some ⟨p6, 0, none⟩)) (.pointer (some ⟨ns, 0, none⟩)) (.int .i64 i) (.int .i64 (s : Int)) (.int .i64 (iA ps[s])) w := by
    unfold rY Dv
    simp (disch := omega) only [cO, dB, Int.toNat_natCast, Nat.zero_add, aD, aF, eI, gs, cX, fB, ek, eL]
    refine yW os rfl (by rw [List.length_map, PB]; omega) fun w2 os2 x2 s2 => ?_
    rw [← List.map_set, hcs] at os2
    have o12 := o1.ext x2 (by omega)
    have o62 := o6.ext x2 (by omega)
    have ob2 := ob.ext x2 (by omega)
    have c12 := o12.cell (off := 0)
    have c62 := o62.cell (off := 1)
    simp only [List.getElem?_cons_zero, List.getElem?_cons_succ] at c12 c62
    simp (disch := omega) only [c12, cX, aF]
    unfold xY D5
    refine Wu (w0 := w0) h15 (by omega) hk2 o12 ?_
    unfold yA
    obtain ⟨nbits, hnbits⟩ : ∃ x, x = log + 1 - bl k := ⟨_, rfl⟩
    obtain ⟨eb1, eb2, eb3, eb4⟩ := Xc (log := log) (k := k) (by omega) hk2
    rw [← hnbits] at eb1 eb2 ⊢
    have hent : Qz log ps S i = Cv log (s : Int) k := by unfold Qz; rw [hsS, ← hkk]
    have hes := XQ (log := log) (ps := ps) (S := S) (i := i) hltN
    rw [hent] at hes
    simp (disch := omega) only [cO, aO, Nat.zero_add, gY, Result.ok.injEq, Next.value.injEq, and_true, true_and, aF, aI, c62, cX, aM, Int.toNat_natCast, aH]
    refine yW ob2 rfl (by rw [List.length_append, lY, zZ]; omega) fun w3 ob3 x3 s3 => ?_
    rw [X5 hel, hE0] at ob3
    have o63 := lA (o62.ext x3 (by omega))
    have ob3 := lA ob3
    have c63 := o63.cell (off := 1)
    simp only [List.getElem?_cons_zero, List.getElem?_cons_succ] at c63
    simp (disch := omega) only [c63, cX, aF, aM, Int.toNat_natCast, Nat.zero_add, aG, true_and]
    refine (IG nbits (by omega) _).mono ?_
    rintro r w4 ⟨rfl, rfl⟩
    have hA := Nat.le_trans (Nat.le_trans (Nat.mul_le_mul_right (2 ^ nbits) (show k ≤ k + 1 by omega)) eb2) (Nat.pow_le_pow_right (show 0 < 2 by omega) (show log + 1 ≤ 16 by omega))
    have hpw : ((2 ^ nbits : Nat) : Int) = (2 : Int) ^ nbits := by simp
    rw [← hpw]
    have em : (k : Int) * ((2 ^ nbits : Nat) : Int) = ((k * 2 ^ nbits : Nat) : Int) := by simp
    have e5 : (((k * 2 ^ nbits : Nat) : Int) - (N : Int)) = (Cv log (s : Int) k).2.2 := by
      unfold Cv
      simp only
      rw [← hnbits, ← hN]
      simp
    have e7 : (Cv log (s : Int) k) = ((s : Int), (nbits : Int), (Cv log (s : Int) k).2.2) := by unfold Cv; rw [hnbits]
    generalize hq : k * 2 ^ nbits = q at *
    have e6 : IntKind.i64.wrap ((q : Int) - (N : Int)) = (q : Int) - (N : Int) := eL (by omega) (by omega)
    have ew : IntKind.i64.wrap (q : Int) = (q : Int) := eL (by omega) (by omega)
    generalize hbase : (Cv log (s : Int) k).2.2 = base at *
    rw [e5] at e6
    simp (disch := omega) only [c63, cX, fX, em, ew, aF, fL, e5, e6, true_and]
    have hel5 : i < ((Es log ps S i).set i ((s : Int), (nbits : Int), 0)).length := by simpa using hel
    refine yW ob3 rfl (by rw [List.length_append, lY]; simp [zZ]; omega) fun w5 ob5 x5 s5 => ?_
    rw [XM hel5] at ob5
    simp only [List.getElem_set_self, List.set_set] at ob5
    rw [← e7, hes] at ob5
    unfold sK
    simp (disch := omega) only [cO, fB, eL, aF]
    refine hR _ ob5 ((lA (os2.ext x3 (by omega))).ext x5 (by omega)) ?_
    exact (((x2.mono fun _ _ h => .inl h : gS w w2 (fun y => y = ns ∨ y = b)).seq (x3.mono fun _ _ h => .inr h)).seq (gS.dr _ _)).seq (x5.mono fun _ _ h => .inr h)
  unfold uU BB
  by_cases hneg : ps[s] < 0
  · have d3 : decide (ps[s] < 0) = true := by simpa using hneg
    have ep : iA ps[s] = 1 := by unfold iA; rw [if_pos hneg]
    rw [ep] at h9
    simp (disch := omega) only [cO, aB, Nat.zero_add, aF, dF, c1, cX, dJ, Int.toNat_natCast, eI, g1, eY, d3, dA]
    exact h9
  · have d3 : decide (ps[s] < 0) = false := by simpa using hneg
    have ep : iA ps[s] = ps[s] := by unfold iA; rw [if_neg hneg]
    rw [ep] at h9
    simp (disch := omega) only [cO, aB, Nat.zero_add, aF, dF, c1, cX, dJ, Int.toNat_natCast, eI, g1, eY, d3, cQ]
    exact h9
end Go.Proofs.YtoepfjgekpdddaaDoor
namespace Go.Proofs.YtoepfjgekpdddaaDoor
open Go Go.En Go.Pu
set_option maxRecDepth 4000
set_option linter.unusedSimpArgs false
set_option linter.unusedVariables false
theorem WS {log N cc p1 p2 p6 b : Nat} {ps S : List Int} {sv : Value} {rest : List Value} {w0 w : World} (hm : Jo log ps) (L : Zj log ps S) (hN : 2 ^ log = N) (hs : Sl w0 sv (ps.map (Value.int .i64))) (hx : gS w0 w jR) (hcc : N ≤ cc)
    (hne : p1 ≠ b ∧ p6 ≠ b ∧ p2 ≠ b ∧ p2 ≠ p6 ∧ p1 ≠ p2) (hlo : w0.heap.size ≤ b ∧ w0.heap.size ≤ p2)
    (o1 : jL w p1 [.int .i64 log, sv]) (o2 : jL w p2 [.int .i64 0, .slice none 0 0]) (o6 : jL w p6 [.int .i64 log, .slice (some ⟨b, 0, none⟩) N cc]) (ob : jL w b (fe .i64 (m3 S) ++ rest)) {R : Value → World → Prop}
    (hR : ∀ w', jL w' b (fe .i64 (Es log ps S N) ++ rest) → gS w0 w' jR → R (.tuple #[.agg #[.int .i64 log, .slice (some ⟨b, 0, none⟩) N cc], .int .i64 0]) w') :
    qX R (.pointer (some ⟨p1, 0, none⟩)) (.pointer (some ⟨p2, 0, none⟩)) (.int .i64 N) (.pointer (some ⟨p6, 0, none⟩)) w := by
  have hN2 : 2 ^ log ≤ 2 ^ 15 := Nat.pow_le_pow_right (by omega) hm.log15
  unfold qX BM
  refine TR fun w1 os x1 s1 => ?_
  obtain ⟨cs, hcs, os⟩ : ∃ cs, cs = List.replicate 256 (Value.int .i64 0) ∧ jL w1 w.heap.size cs := ⟨_, by kernel_rfl, os⟩
  rw [hcs] at os
  have os : jL w1 w.heap.size ((cn S 0).map (Value.int .i64)) := by rw [YF, List.map_replicate]; exact os
  have l1 := o1.lt
  have l2 := o2.lt
  have l6 := o6.lt
  have lb := ob.lt
  have hxs := hx.size
  have o1 := o1.ext x1 (fun h => h)
  have o2 := o2.ext x1 (fun h => h)
  have o6 := o6.ext x1 (fun h => h)
  have ob := ob.ext x1 (fun h => h)
  have x01 := hx.seq x1
  generalize w.heap.size = ns at *
  have ob : jL w1 b (fe .i64 (Es log ps S 0) ++ rest) := by rw [V1 L.len]; exact ob
  unfold vT Cd BW vV Cr
  refine iY.rule (fun m t w' => ∃ i : Nat, m = N - i ∧ t = .int .i64 i ∧ i ≤ N ∧ jL w' b (fe .i64 (Es log ps S i) ++ rest) ∧ jL w' ns ((cn S i).map (Value.int .i64)) ∧ gS w1 w' (fun y => y = ns ∨ y = b)) N ⟨0, rfl, rfl, by omega, ob, os, gS.refl _ _⟩ ?_
  rintro m t w2 ⟨i, rfl, rfl, hi, ob2, os2, x2⟩
  have x02 : gS w0 w2 jR := x01.trans x2 (fun y hy hh => by omega)
  have o62 := o6.ext x2 (by omega)
  unfold vJ BY
  by_cases hlt : i < N
  · have d1 : decide ((i : Int) < (N : Int)) = true := by simp only [decide_eq_true_eq]; omega
    simp (disch := omega) only [cO, eY, d1, aF, dA]
    refine Wz hm L hN hs x02 hcc hlt (by omega) (o1.ext x2 (by omega)) o62 ob2 os2 fun w3 ob3 os3 x3 => ?_
    exact ⟨N - (i + 1), by omega, i + 1, rfl, rfl, by omega, ob3, os3, x2.trans x3 (fun _ _ h => h)⟩
  · have d1 : decide ((i : Int) < (N : Int)) = false := by simp only [decide_eq_false_iff_not]; omega
    have : i = N := by omega
    subst this
    have l4 := kM (off := 0) o62 (by simp)
    simp only [List.drop_zero, List.take_succ_cons, List.take_zero] at l4
    simp (disch := omega) only [cO, eY, d1, aF, cQ]
    unfold xS
    simp (disch := omega) only [cO, l4, aF]
    refine kE (o2.ext x2 (by omega)) rfl (by simp [one]) (by simp) fun w5 o25 x5 s5 => ?_
    refine mY o25 (by simp [fV]) ?_
    simp only [fV, List.set_cons_zero, List.set_cons_succ, List.drop_zero, List.take_succ_cons, List.take_zero]
    exact hR _ (ob2.ext x5 (by omega)) (x02.new x5 hlo.2)
end Go.Proofs.YtoepfjgekpdddaaDoor
namespace Go.Proofs.YtoepfjgekpdddaaDoor
open Go Go.En Go.Pu
set_option maxRecDepth 4000
set_option linter.unusedSimpArgs false
set_option linter.unusedVariables false
theorem R5 {log : Nat} {sv : Value} {ps : List Int} {w : World} (hm : Jo log ps) (hs : Sl w sv (ps.map (Value.int .i64))) :
    hJ pg uK #[.agg #[.int .i64 log, sv]] w (fun r w' => ∃ b cc rest, r = .tuple #[.agg #[.int .i64 log, .slice (some ⟨b, 0, none⟩) (2 ^ log) cc], .int .i64 0] ∧ w.heap.size ≤ b ∧ jL w' b (fe .i64 (mD log ps) ++ rest) ∧ gS w w' jR) := by
  refine O0 ?_
  have hlen := hm.len256
  have h15 := hm.log15
  have hN2 : 2 ^ log ≤ 2 ^ 15 := Nat.pow_le_pow_right (by omega) h15
  have hN1 : 2 ^ 5 ≤ 2 ^ log := Nat.pow_le_pow_right (by omega) hm.log5
  unfold Qn BA Ci
  refine nR fun w1 o1 x1 s1 => ?_
  refine kK fun w2 o2 x2 s2 => ?_
  have o1 := o1.ext x2 (fun h => h)
  have l1 := mG (off := 0) o1 (by simp [Value.cells])
  simp only [Value.cells, List.drop_zero, List.take_succ_cons, List.take_zero] at l1
  simp (disch := omega) only [cO, l1, aY, aF, aD, eI]
  refine (Vi (most := 15) ((hs.ext x1 (iQ _)).ext x2 (iQ _)) (by omega)).mono ?_
  rintro r w3 ⟨rfl, x3⟩
  have hce := Wa (most := 15) hm hm.log15
  rw [show (((15 : Nat) : Int)) = 15 from rfl] at hce
  rw [hce]
  have e0 : ((0 : Int) != 0) = false := rfl
  have o1 := o1.ext x3 (fun h => h)
  have o2 := o2.ext x3 (fun h => h)
  have c0 := o1.cell (off := 0)
  simp only [Value.cells, List.getElem?_cons_zero] at c0
  simp (disch := omega) only [fQ, e0, aF, c0, cX, cQ]
  refine (IG log (by omega) _).mono ?_
  rintro r w4 ⟨rfl, rfl⟩
  have hpow : ((2 ^ log : Nat) : Int) = (2 : Int) ^ log := by simp
  rw [← hpow]
  simp (disch := omega) only [c0, cX, aF, aT]
  refine kK fun w5 o5 x5 s5 => ?_
  refine kE o5 rfl (by simp [one]) (by simp) fun w6 o6 x6 s6 => ?_
  simp only [fV, List.set_cons_zero, List.set_cons_succ] at o6
  have l1 := o1.lt
  have l2 := o2.lt
  have l6 := o6.lt
  have z1 := x1.size
  have z2 := x2.size
  have z3 := x3.size
  have z5 := x5.size
  have z6 := x6.size
  have o1 := (o1.ext x5 (fun h => h)).ext x6 (by omega)
  have o2 := (o2.ext x5 (fun h => h)).ext x6 (by omega)
  have x06 : gS w w6 jR := ((((x1.seq x2).seq x3).seq x5)).new x6 (by omega)
  have hne : w.heap.size ≠ w1.heap.size ∧ w.heap.size ≠ w4.heap.size ∧ w1.heap.size ≠ w4.heap.size := by omega
  have hp12 : w.heap.size ≤ w1.heap.size ∧ w1.heap.size ≤ w4.heap.size := by omega
  obtain ⟨p1, hp1⟩ : ∃ p1, p1 = w.heap.size := ⟨_, rfl⟩
  generalize w1.heap.size = p2 at *
  generalize w4.heap.size = p6 at *
  rw [← hp1] at o1 ⊢
  obtain ⟨arr, ht, harr, hneg, hsp⟩ := QF hm (-1)
  have hlay := GJ hm (-1)
  have hEs := XD log ps
  rw [WF hm 0 (-1)] at hEs
  rw [hsp] at hlay hEs
  generalize hN : 2 ^ log = N at *
  unfold vL Ck BX uT
  refine Wt (by omega) (by omega) o6 fun w7 b cc rest o67 ob hcc hb x7 => ?_
  have o17 := o1.ext x7 (by omega)
  have o27 := o2.ext x7 (by omega)
  have x07 : gS w w7 jR := x06.trans x7 (fun y hy hh => by omega)
  unfold vX B9
  simp (disch := omega) only [cO, fL, eL, aF]
  unfold vO Ct BK vU
  refine WQ hm hs x07 (by omega) hcc (by simp) (by omega) ht (by omega) (by omega) o17 o67 ob fun w8 ob8 x8 => ?_
  have x08 := x07.new x8 (by omega)
  have o18 := o17.ext x8 (by omega)
  have o28 := o27.ext x8 (by omega)
  have o68 := o67.ext x8 (by omega)
  unfold vE Cp vA B1 BO uP
  refine U3 hm hs x08 (by omega) (by omega) hcc harr rfl (by omega) (by omega) (by omega) o18 o68 ob8 fun w9 ob9 x9 => ?_
  have x09 := x08.new x9 (by omega)
  refine WS hm hlay hN hs x09 hcc (by omega) (by omega) (o18.ext x9 (by omega)) (o28.ext x9 (by omega)) (o68.ext x9 (by omega)) ob9 fun w10 ob10 x10 => ?_
  rw [hEs] at ob10
  exact ⟨b, cc, rest, rfl, by omega, ob10, x10⟩
end Go.Proofs.YtoepfjgekpdddaaDoor
namespace Go.Proofs.YtoepfjgekpdddaaDoor
open Go Go.En Go.Pu
set_option maxRecDepth 4000
set_option linter.unusedSimpArgs false
set_option linter.unusedVariables false
def Vb (w : World) (base : Nat) (T : Nat × List T3) (v : Value) : Prop := (T = (0, []) ∧ v = .agg #[.int .i64 0, .slice none 0 0]) ∨ ∃ b, base ≤ b ∧ RT w b T.1 T.2 v
theorem Vb.nil (w : World) (base : Nat) : Vb w base (0, []) (.agg #[.int .i64 0, .slice none 0 0]) := .inl ⟨rfl, rfl⟩
theorem RT.lt {w : World} {b log : Nat} {L : List T3} {v : Value} (h : RT w b log L v) : b < w.heap.size := by
  obtain ⟨cc, rest, h1, h2⟩ := h; exact h2.lt
theorem Vb.form {w : World} {base : Nat} {T : Nat × List T3} {v : Value} (h : Vb w base T v) : ∃ a c, v = .agg #[.int .i64 T.1, .slice a T.2.length c] := by
  rcases h with ⟨rfl, rfl⟩ | ⟨b, _, cc, rest, rfl, _⟩
  · exact ⟨_, _, rfl⟩
  · exact ⟨_, _, rfl⟩
theorem Vb.ext {w w' : World} {base : Nat} {T : Nat × List T3} {v : Value} {M : Nat → Prop} (h : Vb w base T v) (x : gS w w' M) (hM : ∀ b, base ≤ b → b < w.heap.size → ¬ M b) : Vb w' base T v := by
  rcases h with h | ⟨b, hb, h⟩
  · exact .inl h
  · exact .inr ⟨b, hb, h.ext x (hM b hb h.lt)⟩
def RtR (w : World) (base : Nat) (o : Except Int ((Nat × List T3) × Nat)) (r : Value) : Prop := match o with
  | .error e => r = .tuple #[.agg #[.int .i64 0, .slice none 0 0], .int .i64 0, .int .i64 e]
  | .ok (T, n) => ∃ t, r = .tuple #[t, .int .i64 n, .int .i64 0] ∧ Vb w base T t
theorem Iv {p : Nat} {w0 w : World} {x : Int} {a : Option Addr} {k c : Nat} {n e : Value} (o : jL w p [.int .i64 0, .slice none 0 0]) (hx : gS w0 w jR) (hp : w0.heap.size ≤ p) {RR : Value → World → Prop}
    (hR : ∀ w', gS w0 w' jR → gS w w' (fun y => y = p) → RR (.tuple #[.agg #[.int .i64 x, .slice a k c], n, e]) w') :
    cO pg (fG 42 (.pointer (some ⟨p, 0, none⟩)) (.agg #[.int .i64 x, .slice a k c])) w fun _u w => qB pg 42 (.pointer (some ⟨p, 0, none⟩)) w fun r0 => RR (.tuple #[r0, n, e]) w := by
  refine kE o rfl (by simp [one]) (by simp) fun w6 o6 x6 s6 => ?_
  refine mY o6 (by simp [fV]) ?_
  simp only [fV, List.set_cons_zero, List.set_cons_succ, List.drop_zero, List.take_succ_cons, List.take_zero]
  exact hR _ (hx.new x6 hp) x6
theorem U6 {p : Nat} {w0 w : World} {x : Int} {a : Option Addr} {k c : Nat} {e : Value} (o : jL w p [.int .i64 0, .slice none 0 0]) (hx : gS w0 w jR) (hp : w0.heap.size ≤ p) {RR : Value → World → Prop}
    (hR : ∀ w', gS w0 w' jR → gS w w' (fun y => y = p) → RR (.tuple #[.agg #[.int .i64 x, .slice a k c], e]) w') :
    cO pg (fG 42 (.pointer (some ⟨p, 0, none⟩)) (.agg #[.int .i64 x, .slice a k c])) w fun _u w => qB pg 42 (.pointer (some ⟨p, 0, none⟩)) w fun r0 => RR (.tuple #[r0, e]) w := by
  refine kE o rfl (by simp [one]) (by simp) fun w6 o6 x6 s6 => ?_
  refine mY o6 (by simp [fV]) ?_
  simp only [fV, List.set_cons_zero, List.set_cons_succ, List.drop_zero, List.take_succ_cons, List.take_zero]
  exact hR _ (hx.new x6 hp) x6
theorem VB {a : Int} (ha : 0 ≤ a ∧ a ≤ 2) (w : World) : hJ pg Bo #[.int .i64 a] w (fun r w' => ∃ v, r = .agg #[.int .i64 (LX a : Nat), v] ∧ Sl w' v ((RE a).map (Value.int .i64)) ∧ gS w w' jR) := by
  refine Ov ?_
  unfold Qr Dd
  refine nF fun w1 o1 x1 s1 => ?_
  rcases (show a = 0 ∨ a = 1 ∨ a = 2 by omega) with rfl | rfl | rfl
  · have n1 : ((0 : Int) == 0) = true := rfl
    simp (disch := omega) only [cO, gY, aF, dO, fB, fL, fX, fW, fY, gF, iP, gK, eD, fT, gC, fR, fQ, eY, gH, fJ, fZ, gI, gO, gD, eP, gP, gG, gB, lE, lC, lL, lJ, lK, lV, lU, lW, lT, cX, Result.ok.injEq, Next.value.injEq, true_and, and_true, eL, fU, gL, gN, gM, iK, Int.toNat_natCast, fK, fD, fM, eZ, dZ, dV, eU, eC, dA, cQ, if_true, if_false, Bool.false_eq_true, Nat.zero_add, Option.isNone_some, Option.isNone_none, Bool.not_true, Bool.not_false, List.getElem?_cons_succ, List.getElem?_cons_zero, cS, aZ, bU, bV, bT, bC, eA, dG, dH, dC, aW, eI, bR, aJ, dF, dI, dJ, dD, bL, bN, cB, bA, cF, cG, bF, cJ, cL, cZ, cK, cD, cH, cC, dR, bW, cU, dT, bS, cV, aY, cI, dQ, bH, aO, aI, aP, aK, aM, aT, aE, cM, bG, cY, bP, bY, cP, aQ, aV, aU, aX, aR, aD, aB, aC, dB, aH, aG, bM, bB, bK, dE, bE, bZ, bD, bQ, bO, aL, dS, aS, dM, dL, aN, bX, cA, dN, eS, n1]
    refine Gx (cells := (Y8.map (Value.int .i64)).toArray) (by decide) (by decide) (by kernel_rfl) fun w2 o2 x2 s2 => ?_
    simp (disch := omega) only [cO, gY, aF, dO, fB, fL, fX, fW, fY, gF, iP, gK, eD, fT, gC, fR, fQ, eY, gH, fJ, fZ, gI, gO, gD, eP, gP, gG, gB, lE, lC, lL, lJ, lK, lV, lU, lW, lT, cX, Result.ok.injEq, Next.value.injEq, true_and, and_true, eL, fU, gL, gN, gM, iK, Int.toNat_natCast, fK, fD, fM, eZ, dZ, dV, eU, eC, dA, cQ, if_true, if_false, Bool.false_eq_true, Nat.zero_add, Option.isNone_some, Option.isNone_none, Bool.not_true, Bool.not_false, List.getElem?_cons_succ, List.getElem?_cons_zero, cS, aZ, bU, bV, bT, bC, eA, dG, dH, dC, aW, eI, bR, aJ, dF, dI, dJ, dD, bL, bN, cB, bA, cF, cG, bF, cJ, cL, cZ, cK, cD, cH, cC, dR, bW, cU, dT, bS, cV, aY, cI, dQ, bH, aO, aI, aP, aK, aM, aT, aE, cM, bG, cY, bP, bY, cP, aQ, aV, aU, aX, aR, aD, aB, aC, dB, aH, aG, bM, bB, bK, dE, bE, bZ, bD, bQ, bO, aL, dS, aS, dM, dL, aN, bX, cA, dN, eS]
    refine kV (o1.ext x2 (fun h => h)) rfl (by simp [one]) (by simp) fun w4 o4 x4 s4 => ?_
    refine mX o4 (by simp [fV]) ?_
    simp only [fV, List.set_cons_zero, List.set_cons_succ, List.drop_zero, List.take_succ_cons, List.take_zero]
    exact ⟨_, rfl, It (o2.ext x4 (by omega)) rfl, (x1.seq x2).new x4 (by omega)⟩
  · have n1 : ((1 : Int) == 0) = false := rfl
    have n2 : ((1 : Int) == 1) = true := rfl
    simp (disch := omega) only [cO, gY, aF, dO, fB, fL, fX, fW, fY, gF, iP, gK, eD, fT, gC, fR, fQ, eY, gH, fJ, fZ, gI, gO, gD, eP, gP, gG, gB, lE, lC, lL, lJ, lK, lV, lU, lW, lT, cX, Result.ok.injEq, Next.value.injEq, true_and, and_true, eL, fU, gL, gN, gM, iK, Int.toNat_natCast, fK, fD, fM, eZ, dZ, dV, eU, eC, dA, cQ, if_true, if_false, Bool.false_eq_true, Nat.zero_add, Option.isNone_some, Option.isNone_none, Bool.not_true, Bool.not_false, List.getElem?_cons_succ, List.getElem?_cons_zero, cS, aZ, bU, bV, bT, bC, eA, dG, dH, dC, aW, eI, bR, aJ, dF, dI, dJ, dD, bL, bN, cB, bA, cF, cG, bF, cJ, cL, cZ, cK, cD, cH, cC, dR, bW, cU, dT, bS, cV, aY, cI, dQ, bH, aO, aI, aP, aK, aM, aT, aE, cM, bG, cY, bP, bY, cP, aQ, aV, aU, aX, aR, aD, aB, aC, dB, aH, aG, bM, bB, bK, dE, bE, bZ, bD, bQ, bO, aL, dS, aS, dM, dL, aN, bX, cA, dN, eS, n1, n2]
    refine Gx (cells := (Zc.map (Value.int .i64)).toArray) (by decide) (by decide) (by kernel_rfl) fun w2 o2 x2 s2 => ?_
    simp (disch := omega) only [cO, gY, aF, dO, fB, fL, fX, fW, fY, gF, iP, gK, eD, fT, gC, fR, fQ, eY, gH, fJ, fZ, gI, gO, gD, eP, gP, gG, gB, lE, lC, lL, lJ, lK, lV, lU, lW, lT, cX, Result.ok.injEq, Next.value.injEq, true_and, and_true, eL, fU, gL, gN, gM, iK, Int.toNat_natCast, fK, fD, fM, eZ, dZ, dV, eU, eC, dA, cQ, if_true, if_false, Bool.false_eq_true, Nat.zero_add, Option.isNone_some, Option.isNone_none, Bool.not_true, Bool.not_false, List.getElem?_cons_succ, List.getElem?_cons_zero, cS, aZ, bU, bV, bT, bC, eA, dG, dH, dC, aW, eI, bR, aJ, dF, dI, dJ, dD, bL, bN, cB, bA, cF, cG, bF, cJ, cL, cZ, cK, cD, cH, cC, dR, bW, cU, dT, bS, cV, aY, cI, dQ, bH, aO, aI, aP, aK, aM, aT, aE, cM, bG, cY, bP, bY, cP, aQ, aV, aU, aX, aR, aD, aB, aC, dB, aH, aG, bM, bB, bK, dE, bE, bZ, bD, bQ, bO, aL, dS, aS, dM, dL, aN, bX, cA, dN, eS]
    refine kV (o1.ext x2 (fun h => h)) rfl (by simp [one]) (by simp) fun w4 o4 x4 s4 => ?_
    refine mX o4 (by simp [fV]) ?_
    simp only [fV, List.set_cons_zero, List.set_cons_succ, List.drop_zero, List.take_succ_cons, List.take_zero]
    exact ⟨_, rfl, It (o2.ext x4 (by omega)) rfl, (x1.seq x2).new x4 (by omega)⟩
  · have n1 : ((2 : Int) == 0) = false := rfl
    have n2 : ((2 : Int) == 1) = false := rfl
    simp (disch := omega) only [cO, gY, aF, dO, fB, fL, fX, fW, fY, gF, iP, gK, eD, fT, gC, fR, fQ, eY, gH, fJ, fZ, gI, gO, gD, eP, gP, gG, gB, lE, lC, lL, lJ, lK, lV, lU, lW, lT, cX, Result.ok.injEq, Next.value.injEq, true_and, and_true, eL, fU, gL, gN, gM, iK, Int.toNat_natCast, fK, fD, fM, eZ, dZ, dV, eU, eC, dA, cQ, if_true, if_false, Bool.false_eq_true, Nat.zero_add, Option.isNone_some, Option.isNone_none, Bool.not_true, Bool.not_false, List.getElem?_cons_succ, List.getElem?_cons_zero, cS, aZ, bU, bV, bT, bC, eA, dG, dH, dC, aW, eI, bR, aJ, dF, dI, dJ, dD, bL, bN, cB, bA, cF, cG, bF, cJ, cL, cZ, cK, cD, cH, cC, dR, bW, cU, dT, bS, cV, aY, cI, dQ, bH, aO, aI, aP, aK, aM, aT, aE, cM, bG, cY, bP, bY, cP, aQ, aV, aU, aX, aR, aD, aB, aC, dB, aH, aG, bM, bB, bK, dE, bE, bZ, bD, bQ, bO, aL, dS, aS, dM, dL, aN, bX, cA, dN, eS, n1, n2]
    refine Gx (cells := (Y4.map (Value.int .i64)).toArray) (by decide) (by decide) (by kernel_rfl) fun w2 o2 x2 s2 => ?_
    simp (disch := omega) only [cO, gY, aF, dO, fB, fL, fX, fW, fY, gF, iP, gK, eD, fT, gC, fR, fQ, eY, gH, fJ, fZ, gI, gO, gD, eP, gP, gG, gB, lE, lC, lL, lJ, lK, lV, lU, lW, lT, cX, Result.ok.injEq, Next.value.injEq, true_and, and_true, eL, fU, gL, gN, gM, iK, Int.toNat_natCast, fK, fD, fM, eZ, dZ, dV, eU, eC, dA, cQ, if_true, if_false, Bool.false_eq_true, Nat.zero_add, Option.isNone_some, Option.isNone_none, Bool.not_true, Bool.not_false, List.getElem?_cons_succ, List.getElem?_cons_zero, cS, aZ, bU, bV, bT, bC, eA, dG, dH, dC, aW, eI, bR, aJ, dF, dI, dJ, dD, bL, bN, cB, bA, cF, cG, bF, cJ, cL, cZ, cK, cD, cH, cC, dR, bW, cU, dT, bS, cV, aY, cI, dQ, bH, aO, aI, aP, aK, aM, aT, aE, cM, bG, cY, bP, bY, cP, aQ, aV, aU, aX, aR, aD, aB, aC, dB, aH, aG, bM, bB, bK, dE, bE, bZ, bD, bQ, bO, aL, dS, aS, dM, dL, aN, bX, cA, dN, eS]
    refine kV (o1.ext x2 (fun h => h)) rfl (by simp [one]) (by simp) fun w4 o4 x4 s4 => ?_
    refine mX o4 (by simp [fV]) ?_
    simp only [fV, List.set_cons_zero, List.set_cons_succ, List.drop_zero, List.take_succ_cons, List.take_zero]
    exact ⟨_, rfl, It (o2.ext x4 (by omega)) rfl, (x1.seq x2).new x4 (by omega)⟩
theorem TJ {a : Int} (w : World) : hJ pg vW #[.int .i64 a] w (fun r w' => ∃ t e, r = .tuple #[t, .int .i64 e] ∧ (match qY a with
    | .error e' => t = .agg #[.int .i64 0, .slice none 0 0] ∧ e = e'
    | .ok T => Vb w' w.heap.size T t ∧ e = 0) ∧ gS w w' jR) := by
  refine J9 ?_
  unfold JJ Ai
  refine kK fun w1 o1 x1 s1 => ?_
  have z1 := x1.size
  by_cases h0 : a < 0
  · have d1 : decide (a < 0) = true := by simpa using h0
    have hE : qY a = .error 1 := by unfold qY; rw [if_neg (by omega)]
    rw [hE]
    simp (disch := omega) only [cO, gY, aF, dO, fB, fL, fX, fW, fY, gF, iP, gK, eD, fT, gC, fR, fQ, eY, gH, fJ, fZ, gI, gO, gD, eP, gP, gG, gB, lE, lC, lL, lJ, lK, lV, lU, lW, lT, cX, Result.ok.injEq, Next.value.injEq, true_and, and_true, eL, fU, gL, gN, gM, iK, Int.toNat_natCast, fK, fD, fM, eZ, dZ, dV, eU, eC, dA, cQ, if_true, if_false, Bool.false_eq_true, Nat.zero_add, Option.isNone_some, Option.isNone_none, Bool.not_true, Bool.not_false, List.getElem?_cons_succ, List.getElem?_cons_zero, cS, aZ, bU, bV, bT, bC, eA, dG, dH, dC, aW, eI, bR, aJ, dF, dI, dJ, dD, bL, bN, cB, bA, cF, cG, bF, cJ, cL, cZ, cK, cD, cH, cC, dR, bW, cU, dT, bS, cV, aY, cI, dQ, bH, aO, aI, aP, aK, aM, aT, aE, cM, bG, cY, bP, bY, cP, aQ, aV, aU, aX, aR, aD, aB, aC, dB, aH, aG, bM, bB, bK, dE, bE, bZ, bD, bQ, bO, aL, dS, aS, dM, dL, aN, bX, cA, dN, eS, d1]
    exact U6 (RR := fun r w' => ∃ t e, r = .tuple #[t, .int .i64 e] ∧ (t = .agg #[.int .i64 0, .slice none 0 0] ∧ e = 1) ∧ gS w w' jR) o1 x1 (Nat.le_refl _) fun w' x _ => ⟨_, _, rfl, ⟨rfl, rfl⟩, x⟩
  have d1 : decide (a < 0) = false := by simpa using h0
  by_cases h2 : 2 < a
  · have d2 : decide (2 < a) = true := by simpa using h2
    have hE : qY a = .error 1 := by unfold qY; rw [if_neg (by omega)]
    rw [hE]
    simp (disch := omega) only [cO, gY, aF, dO, fB, fL, fX, fW, fY, gF, iP, gK, eD, fT, gC, fR, fQ, eY, gH, fJ, fZ, gI, gO, gD, eP, gP, gG, gB, lE, lC, lL, lJ, lK, lV, lU, lW, lT, cX, Result.ok.injEq, Next.value.injEq, true_and, and_true, eL, fU, gL, gN, gM, iK, Int.toNat_natCast, fK, fD, fM, eZ, dZ, dV, eU, eC, dA, cQ, if_true, if_false, Bool.false_eq_true, Nat.zero_add, Option.isNone_some, Option.isNone_none, Bool.not_true, Bool.not_false, List.getElem?_cons_succ, List.getElem?_cons_zero, cS, aZ, bU, bV, bT, bC, eA, dG, dH, dC, aW, eI, bR, aJ, dF, dI, dJ, dD, bL, bN, cB, bA, cF, cG, bF, cJ, cL, cZ, cK, cD, cH, cC, dR, bW, cU, dT, bS, cV, aY, cI, dQ, bH, aO, aI, aP, aK, aM, aT, aE, cM, bG, cY, bP, bY, cP, aQ, aV, aU, aX, aR, aD, aB, aC, dB, aH, aG, bM, bB, bK, dE, bE, bZ, bD, bQ, bO, aL, dS, aS, dM, dL, aN, bX, cA, dN, eS, d1, d2]
    exact U6 (RR := fun r w' => ∃ t e, r = .tuple #[t, .int .i64 e] ∧ (t = .agg #[.int .i64 0, .slice none 0 0] ∧ e = 1) ∧ gS w w' jR) o1 x1 (Nat.le_refl _) fun w' x _ => ⟨_, _, rfl, ⟨rfl, rfl⟩, x⟩
  have d2 : decide (2 < a) = false := by simpa using h2
  have hE : qY a = .ok (LX a, mD (LX a) (RE a)) := by unfold qY; rw [if_pos (by omega)]
  rw [hE]
  have hm := TN (a := a) (by omega)
  simp (disch := omega) only [cO, gY, aF, dO, fB, fL, fX, fW, fY, gF, iP, gK, eD, fT, gC, fR, fQ, eY, gH, fJ, fZ, gI, gO, gD, eP, gP, gG, gB, lE, lC, lL, lJ, lK, lV, lU, lW, lT, cX, Result.ok.injEq, Next.value.injEq, true_and, and_true, eL, fU, gL, gN, gM, iK, Int.toNat_natCast, fK, fD, fM, eZ, dZ, dV, eU, eC, dA, cQ, if_true, if_false, Bool.false_eq_true, Nat.zero_add, Option.isNone_some, Option.isNone_none, Bool.not_true, Bool.not_false, List.getElem?_cons_succ, List.getElem?_cons_zero, cS, aZ, bU, bV, bT, bC, eA, dG, dH, dC, aW, eI, bR, aJ, dF, dI, dJ, dD, bL, bN, cB, bA, cF, cG, bF, cJ, cL, cZ, cK, cD, cH, cC, dR, bW, cU, dT, bS, cV, aY, cI, dQ, bH, aO, aI, aP, aK, aM, aT, aE, cM, bG, cY, bP, bY, cP, aQ, aV, aU, aX, aR, aD, aB, aC, dB, aH, aG, bM, bB, bK, dE, bE, bZ, bD, bQ, bO, aL, dS, aS, dM, dL, aN, bX, cA, dN, eS, d1, d2]
  refine (VB (by omega) _).mono ?_
  rintro r w2 ⟨v, rfl, hs, x2⟩
  have z2 := x2.size
  refine (R5 hm hs).mono ?_
  rintro r w3 ⟨b, cc, rest, rfl, hb, ob, x3⟩
  have z3 := x3.size
  have hbl := ob.lt
  simp (disch := omega) only [cO, gY, aF, dO, fB, fL, fX, fW, fY, gF, iP, gK, eD, fT, gC, fR, fQ, eY, gH, fJ, fZ, gI, gO, gD, eP, gP, gG, gB, lE, lC, lL, lJ, lK, lV, lU, lW, lT, cX, Result.ok.injEq, Next.value.injEq, true_and, and_true, eL, fU, gL, gN, gM, iK, Int.toNat_natCast, fK, fD, fM, eZ, dZ, dV, eU, eC, dA, cQ, if_true, if_false, Bool.false_eq_true, Nat.zero_add, Option.isNone_some, Option.isNone_none, Bool.not_true, Bool.not_false, List.getElem?_cons_succ, List.getElem?_cons_zero, cS, aZ, bU, bV, bT, bC, eA, dG, dH, dC, aW, eI, bR, aJ, dF, dI, dJ, dD, bL, bN, cB, bA, cF, cG, bF, cJ, cL, cZ, cK, cD, cH, cC, dR, bW, cU, dT, bS, cV, aY, cI, dQ, bH, aO, aI, aP, aK, aM, aT, aE, cM, bG, cY, bP, bY, cP, aQ, aV, aU, aX, aR, aD, aB, aC, dB, aH, aG, bM, bB, bK, dE, bE, bZ, bD, bQ, bO, aL, dS, aS, dM, dL, aN, bX, cA, dN, eS]
  refine U6 (RR := fun r w' => ∃ t e, r = .tuple #[t, .int .i64 e] ∧ (Vb w' w.heap.size (LX a, mD (LX a) (RE a)) t ∧ e = 0) ∧ gS w w' jR) ((o1.ext x2 (fun h => h)).ext x3 (fun h => h)) ((x1.seq x2).seq x3) (Nat.le_refl _) fun w' x xx => ⟨_, _, rfl, ⟨.inr ⟨b, by omega, cc, rest, ?_, ob.ext xx (by omega)⟩, rfl⟩, x⟩
  rw [mO]
theorem W1 (a : Int) (w : World) : hJ pg CX #[.int .i64 a] w (fun r w' => r = .int .i64 (xE a) ∧ w' = w) := by
  refine Q6 ?_
  unfold SD FN xE
  by_cases h0 : a = 0
  · subst h0
    have n1 : ((0 : Int) == 0) = true := rfl
    simp (disch := omega) only [cO, gY, aF, dO, fB, fL, fX, fW, fY, gF, iP, gK, eD, fT, gC, fR, fQ, eY, gH, fJ, fZ, gI, gO, gD, eP, gP, gG, gB, lE, lC, lL, lJ, lK, lV, lU, lW, lT, cX, Result.ok.injEq, Next.value.injEq, true_and, and_true, eL, fU, gL, gN, gM, iK, Int.toNat_natCast, fK, fD, fM, eZ, dZ, dV, eU, eC, dA, cQ, if_true, if_false, Bool.false_eq_true, Nat.zero_add, Option.isNone_some, Option.isNone_none, Bool.not_true, Bool.not_false, List.getElem?_cons_succ, List.getElem?_cons_zero, cS, aZ, bU, bV, bT, bC, eA, dG, dH, dC, aW, eI, bR, aJ, dF, dI, dJ, dD, bL, bN, cB, bA, cF, cG, bF, cJ, cL, cZ, cK, cD, cH, cC, dR, bW, cU, dT, bS, cV, aY, cI, dQ, bH, aO, aI, aP, aK, aM, aT, aE, cM, bG, cY, bP, bY, cP, aQ, aV, aU, aX, aR, aD, aB, aC, dB, aH, aG, bM, bB, bK, dE, bE, bZ, bD, bQ, bO, aL, dS, aS, dM, dL, aN, bX, cA, dN, eS, n1]
    rfl
  have n1 : (a == 0) = false := beq_eq_false_iff_ne.2 h0
  by_cases h2 : a = 2
  · subst h2
    have n2 : ((2 : Int) == 2) = true := rfl
    simp (disch := omega) only [cO, gY, aF, dO, fB, fL, fX, fW, fY, gF, iP, gK, eD, fT, gC, fR, fQ, eY, gH, fJ, fZ, gI, gO, gD, eP, gP, gG, gB, lE, lC, lL, lJ, lK, lV, lU, lW, lT, cX, Result.ok.injEq, Next.value.injEq, true_and, and_true, eL, fU, gL, gN, gM, iK, Int.toNat_natCast, fK, fD, fM, eZ, dZ, dV, eU, eC, dA, cQ, if_true, if_false, Bool.false_eq_true, Nat.zero_add, Option.isNone_some, Option.isNone_none, Bool.not_true, Bool.not_false, List.getElem?_cons_succ, List.getElem?_cons_zero, cS, aZ, bU, bV, bT, bC, eA, dG, dH, dC, aW, eI, bR, aJ, dF, dI, dJ, dD, bL, bN, cB, bA, cF, cG, bF, cJ, cL, cZ, cK, cD, cH, cC, dR, bW, cU, dT, bS, cV, aY, cI, dQ, bH, aO, aI, aP, aK, aM, aT, aE, cM, bG, cY, bP, bY, cP, aQ, aV, aU, aX, aR, aD, aB, aC, dB, aH, aG, bM, bB, bK, dE, bE, bZ, bD, bQ, bO, aL, dS, aS, dM, dL, aN, bX, cA, dN, eS, n1, n2]
    rfl
  have n2 : (a == 2) = false := beq_eq_false_iff_ne.2 h2
  rw [if_neg (by omega)]
  by_cases h1 : a = 1
  · subst h1
    have n3 : ((1 : Int) == 1) = true := rfl
    simp (disch := omega) only [cO, gY, aF, dO, fB, fL, fX, fW, fY, gF, iP, gK, eD, fT, gC, fR, fQ, eY, gH, fJ, fZ, gI, gO, gD, eP, gP, gG, gB, lE, lC, lL, lJ, lK, lV, lU, lW, lT, cX, Result.ok.injEq, Next.value.injEq, true_and, and_true, eL, fU, gL, gN, gM, iK, Int.toNat_natCast, fK, fD, fM, eZ, dZ, dV, eU, eC, dA, cQ, if_true, if_false, Bool.false_eq_true, Nat.zero_add, Option.isNone_some, Option.isNone_none, Bool.not_true, Bool.not_false, List.getElem?_cons_succ, List.getElem?_cons_zero, cS, aZ, bU, bV, bT, bC, eA, dG, dH, dC, aW, eI, bR, aJ, dF, dI, dJ, dD, bL, bN, cB, bA, cF, cG, bF, cJ, cL, cZ, cK, cD, cH, cC, dR, bW, cU, dT, bS, cV, aY, cI, dQ, bH, aO, aI, aP, aK, aM, aT, aE, cM, bG, cY, bP, bY, cP, aQ, aV, aU, aX, aR, aD, aB, aC, dB, aH, aG, bM, bB, bK, dE, bE, bZ, bD, bQ, bO, aL, dS, aS, dM, dL, aN, bX, cA, dN, eS, n1, n2, n3]
  have n3 : (a == 1) = false := beq_eq_false_iff_ne.2 h1
  rw [if_neg h1]
  simp (disch := omega) only [cO, gY, aF, dO, fB, fL, fX, fW, fY, gF, iP, gK, eD, fT, gC, fR, fQ, eY, gH, fJ, fZ, gI, gO, gD, eP, gP, gG, gB, lE, lC, lL, lJ, lK, lV, lU, lW, lT, cX, Result.ok.injEq, Next.value.injEq, true_and, and_true, eL, fU, gL, gN, gM, iK, Int.toNat_natCast, fK, fD, fM, eZ, dZ, dV, eU, eC, dA, cQ, if_true, if_false, Bool.false_eq_true, Nat.zero_add, Option.isNone_some, Option.isNone_none, Bool.not_true, Bool.not_false, List.getElem?_cons_succ, List.getElem?_cons_zero, cS, aZ, bU, bV, bT, bC, eA, dG, dH, dC, aW, eI, bR, aJ, dF, dI, dJ, dD, bL, bN, cB, bA, cF, cG, bF, cJ, cL, cZ, cK, cD, cH, cC, dR, bW, cU, dT, bS, cV, aY, cI, dQ, bH, aO, aI, aP, aK, aM, aT, aE, cM, bG, cY, bP, bY, cP, aQ, aV, aU, aX, aR, aD, aB, aC, dB, aH, aG, bM, bB, bK, dE, bE, bZ, bD, bQ, bO, aL, dS, aS, dM, dL, aN, bX, cA, dN, eS, n1, n2, n3]
end Go.Proofs.YtoepfjgekpdddaaDoor
namespace Go.Proofs.YtoepfjgekpdddaaDoor
open Go Go.En Go.Pu
set_option maxRecDepth 4000
set_option linter.unusedSimpArgs false
set_option linter.unusedVariables false
theorem Vl {a mode : Int} {s : ByteArray} {ov : Value} {T : Nat × List T3} {base : Nat} {w : World} (hl : mode = 2 → s.size ≤ 1000000) (ho : Vb w base T ov) (hbase : base ≤ w.heap.size) (hT : T.2.length ≤ 1000000) :
    hJ pg CD #[.int .i64 a, .int .i64 mode, .string s, ov] w (fun r w' => RtR w' base (kU a mode (Cb s) T) r ∧ gS w w' jR) := by
  refine Ri ?_
  obtain ⟨RR, hRR⟩ : ∃ RR : Value → World → Prop, RR = fun r w' => RtR w' base (kU a mode (Cb s) T) r ∧ gS w w' jR := ⟨_, rfl⟩
  rw [← hRR]
  obtain ⟨oa, oc, rfl⟩ := ho.form
  unfold R9 FH
  refine nR fun w1 o1 x1 s1 => ?_
  simp only [Value.cells] at o1
  refine kK fun w2 o2 x2 s2 => ?_
  have x12 := x1.seq x2
  have z2 := x12.size
  refine (SA a _).mono ?_
  rintro r w3 ⟨hbs, x3⟩
  have hbl := UJ a
  obtain ⟨ga, gc, rfl, _⟩ := hbs.lenI
  have o1 := (o1.ext x2 (fun h => h)).ext x3 (fun h => h)
  have o2 := o2.ext x3 (fun h => h)
  have x13 := x12.seq x3
  have z3 := x3.size
  have err : ∀ {e : Int} {w' : World}, kU a mode (Cb s) T = .error e → gS w w' jR → RR (.tuple #[.agg #[.int .i64 0, .slice none 0 0], .int .i64 0, .int .i64 e]) w' := fun h x => by
    rw [hRR]; refine ⟨?_, x⟩; rw [h] <;> rfl
  have good : ∀ {T' : Nat × List T3} {n : Nat} {w' : World} {t : Value}, kU a mode (Cb s) T = .ok (T', n) → Vb w' base T' t → gS w w' jR → RR (.tuple #[t, .int .i64 n, .int .i64 0]) w' := fun h ht x => by
    rw [hRR]; refine ⟨?_, x⟩; rw [h]; exact ⟨_, rfl, ht⟩
  generalize (WJ a).length = nb at *
  by_cases ha : 0 ≤ a ∧ a ≤ 2
  rotate_left
  · have hE : kU a mode (Cb s) T = .error 1 := by unfold kU; rw [if_pos (by omega)]
    have d1 : (((nb : Nat) : Int) == 0) = true := by rw [hbl, Ir ha] <;> rfl
    simp (disch := omega) only [cO, gY, aF, dO, fB, fL, fX, fW, fY, gF, iP, gK, eD, fT, gC, fR, fQ, eY, gH, fJ, fZ, gI, gO, gD, eP, gP, gG, gB, lE, lC, lL, lJ, lK, lV, lU, lW, lT, cX, Result.ok.injEq, Next.value.injEq, true_and, and_true, eL, fU, gL, gN, gM, iK, Int.toNat_natCast, fK, fD, fM, eZ, dZ, dV, eU, eC, dA, cQ, if_true, if_false, Bool.false_eq_true, Nat.zero_add, Option.isNone_some, Option.isNone_none, Bool.not_true, Bool.not_false, List.getElem?_cons_succ, List.getElem?_cons_zero, cS, aZ, bU, bV, bT, bC, eA, dG, dH, dC, aW, eI, bR, aJ, dF, dI, dJ, dD, bL, bN, cB, bA, cF, cG, bF, cJ, cL, cZ, cK, cD, cH, cC, dR, bW, cU, dT, bS, cV, aY, cI, dQ, bH, aO, aI, aP, aK, aM, aT, aE, cM, bG, cY, bP, bY, cP, aQ, aV, aU, aX, aR, aD, aB, aC, dB, aH, aG, bM, bB, bK, dE, bE, bZ, bD, bQ, bO, aL, dS, aS, dM, dL, aN, bX, cA, dN, eS, d1]
    exact Iv o2 x13 (by omega) fun w' x _ => err hE x
  obtain ⟨hl1, hl2⟩ := xQ ha
  have d1 : (((nb : Nat) : Int) == 0) = false := beq_eq_false_iff_ne.2 (by omega)
  by_cases hm0 : mode < 0
  · have d2 : decide (mode < 0) = true := by simp; omega
    have hE : kU a mode (Cb s) T = .error 1 := by unfold kU; rw [if_pos (by omega)]
    simp (disch := omega) only [cO, gY, aF, dO, fB, fL, fX, fW, fY, gF, iP, gK, eD, fT, gC, fR, fQ, eY, gH, fJ, fZ, gI, gO, gD, eP, gP, gG, gB, lE, lC, lL, lJ, lK, lV, lU, lW, lT, cX, Result.ok.injEq, Next.value.injEq, true_and, and_true, eL, fU, gL, gN, gM, iK, Int.toNat_natCast, fK, fD, fM, eZ, dZ, dV, eU, eC, dA, cQ, if_true, if_false, Bool.false_eq_true, Nat.zero_add, Option.isNone_some, Option.isNone_none, Bool.not_true, Bool.not_false, List.getElem?_cons_succ, List.getElem?_cons_zero, cS, aZ, bU, bV, bT, bC, eA, dG, dH, dC, aW, eI, bR, aJ, dF, dI, dJ, dD, bL, bN, cB, bA, cF, cG, bF, cJ, cL, cZ, cK, cD, cH, cC, dR, bW, cU, dT, bS, cV, aY, cI, dQ, bH, aO, aI, aP, aK, aM, aT, aE, cM, bG, cY, bP, bY, cP, aQ, aV, aU, aX, aR, aD, aB, aC, dB, aH, aG, bM, bB, bK, dE, bE, bZ, bD, bQ, bO, aL, dS, aS, dM, dL, aN, bX, cA, dN, eS, d1, d2]
    exact Iv o2 x13 (by omega) fun w' x _ => err hE x
  have d2 : decide (mode < 0) = false := by simp; omega
  by_cases hm3 : 3 < mode
  · have d3 : decide (3 < mode) = true := by simp; omega
    have hE : kU a mode (Cb s) T = .error 1 := by unfold kU; rw [if_pos (by omega)]
    simp (disch := omega) only [cO, gY, aF, dO, fB, fL, fX, fW, fY, gF, iP, gK, eD, fT, gC, fR, fQ, eY, gH, fJ, fZ, gI, gO, gD, eP, gP, gG, gB, lE, lC, lL, lJ, lK, lV, lU, lW, lT, cX, Result.ok.injEq, Next.value.injEq, true_and, and_true, eL, fU, gL, gN, gM, iK, Int.toNat_natCast, fK, fD, fM, eZ, dZ, dV, eU, eC, dA, cQ, if_true, if_false, Bool.false_eq_true, Nat.zero_add, Option.isNone_some, Option.isNone_none, Bool.not_true, Bool.not_false, List.getElem?_cons_succ, List.getElem?_cons_zero, cS, aZ, bU, bV, bT, bC, eA, dG, dH, dC, aW, eI, bR, aJ, dF, dI, dJ, dD, bL, bN, cB, bA, cF, cG, bF, cJ, cL, cZ, cK, cD, cH, cC, dR, bW, cU, dT, bS, cV, aY, cI, dQ, bH, aO, aI, aP, aK, aM, aT, aE, cM, bG, cY, bP, bY, cP, aQ, aV, aU, aX, aR, aD, aB, aC, dB, aH, aG, bM, bB, bK, dE, bE, bZ, bD, bQ, bO, aL, dS, aS, dM, dL, aN, bX, cA, dN, eS, d1, d2, d3]
    exact Iv o2 x13 (by omega) fun w' x _ => err hE x
  have d3 : decide (3 < mode) = false := by simp; omega
  have hno : ¬ (a < 0 ∨ 2 < a ∨ mode < 0 ∨ 3 < mode) := by omega
  by_cases m0 : mode = 0
  · subst m0
    have n1 : ((0 : Int) == 0) = true := rfl
    have hE : kU a 0 (Cb s) T = .ok ((LX a, mD (LX a) (RE a)), 0) := by unfold kU; rw [if_neg hno, if_pos rfl]
    simp (disch := omega) only [cO, gY, aF, dO, fB, fL, fX, fW, fY, gF, iP, gK, eD, fT, gC, fR, fQ, eY, gH, fJ, fZ, gI, gO, gD, eP, gP, gG, gB, lE, lC, lL, lJ, lK, lV, lU, lW, lT, cX, Result.ok.injEq, Next.value.injEq, true_and, and_true, eL, fU, gL, gN, gM, iK, Int.toNat_natCast, fK, fD, fM, eZ, dZ, dV, eU, eC, dA, cQ, if_true, if_false, Bool.false_eq_true, Nat.zero_add, Option.isNone_some, Option.isNone_none, Bool.not_true, Bool.not_false, List.getElem?_cons_succ, List.getElem?_cons_zero, cS, aZ, bU, bV, bT, bC, eA, dG, dH, dC, aW, eI, bR, aJ, dF, dI, dJ, dD, bL, bN, cB, bA, cF, cG, bF, cJ, cL, cZ, cK, cD, cH, cC, dR, bW, cU, dT, bS, cV, aY, cI, dQ, bH, aO, aI, aP, aK, aM, aT, aE, cM, bG, cY, bP, bY, cP, aQ, aV, aU, aX, aR, aD, aB, aC, dB, aH, aG, bM, bB, bK, dE, bE, bZ, bD, bQ, bO, aL, dS, aS, dM, dL, aN, bX, cA, dN, eS, d1, d2, d3, n1]
    refine (TJ _).mono ?_
    rintro r w4 ⟨t, e, rfl, ht, x4⟩
    have hD : qY a = .ok (LX a, mD (LX a) (RE a)) := by unfold qY; rw [if_pos (by omega)]
    rw [hD] at ht
    obtain ⟨ht, rfl⟩ := ht
    obtain ⟨ta, tc, rfl⟩ := ht.form
    have z4 := x4.size
    simp (disch := omega) only [cO, gY, aF, dO, fB, fL, fX, fW, fY, gF, iP, gK, eD, fT, gC, fR, fQ, eY, gH, fJ, fZ, gI, gO, gD, eP, gP, gG, gB, lE, lC, lL, lJ, lK, lV, lU, lW, lT, cX, Result.ok.injEq, Next.value.injEq, true_and, and_true, eL, fU, gL, gN, gM, iK, Int.toNat_natCast, fK, fD, fM, eZ, dZ, dV, eU, eC, dA, cQ, if_true, if_false, Bool.false_eq_true, Nat.zero_add, Option.isNone_some, Option.isNone_none, Bool.not_true, Bool.not_false, List.getElem?_cons_succ, List.getElem?_cons_zero, cS, aZ, bU, bV, bT, bC, eA, dG, dH, dC, aW, eI, bR, aJ, dF, dI, dJ, dD, bL, bN, cB, bA, cF, cG, bF, cJ, cL, cZ, cK, cD, cH, cC, dR, bW, cU, dT, bS, cV, aY, cI, dQ, bH, aO, aI, aP, aK, aM, aT, aE, cM, bG, cY, bP, bY, cP, aQ, aV, aU, aX, aR, aD, aB, aC, dB, aH, aG, bM, bB, bK, dE, bE, bZ, bD, bQ, bO, aL, dS, aS, dM, dL, aN, bX, cA, dN, eS]
    refine kK fun w5 o5 x5 s5 => ?_
    refine kE o5 rfl (by simp [one]) (by simp) fun w6 o6 x6 s6 => ?_
    have l1 := kM (off := 0) o6 (by simp [fV])
    simp only [fV, List.set_cons_zero, List.set_cons_succ, List.drop_zero, List.take_succ_cons, List.take_zero] at l1
    simp (disch := omega) only [cO, gY, aF, dO, fB, fL, fX, fW, fY, gF, iP, gK, eD, fT, gC, fR, fQ, eY, gH, fJ, fZ, gI, gO, gD, eP, gP, gG, gB, lE, lC, lL, lJ, lK, lV, lU, lW, lT, cX, Result.ok.injEq, Next.value.injEq, true_and, and_true, eL, fU, gL, gN, gM, iK, Int.toNat_natCast, fK, fD, fM, eZ, dZ, dV, eU, eC, dA, cQ, if_true, if_false, Bool.false_eq_true, Nat.zero_add, Option.isNone_some, Option.isNone_none, Bool.not_true, Bool.not_false, List.getElem?_cons_succ, List.getElem?_cons_zero, cS, aZ, bU, bV, bT, bC, eA, dG, dH, dC, aW, eI, bR, aJ, dF, dI, dJ, dD, bL, bN, cB, bA, cF, cG, bF, cJ, cL, cZ, cK, cD, cH, cC, dR, bW, cU, dT, bS, cV, aY, cI, dQ, bH, aO, aI, aP, aK, aM, aT, aE, cM, bG, cY, bP, bY, cP, aQ, aV, aU, aX, aR, aD, aB, aC, dB, aH, aG, bM, bB, bK, dE, bE, bZ, bD, bQ, bO, aL, dS, aS, dM, dL, aN, bX, cA, dN, eS, l1]
    have x46 : gS w3 w6 jR := x4.seq (x5.new x6 (Nat.le_refl _))
    refine Iv (o2.ext x46 (fun h => h)) (x13.seq x46) (by omega) fun w' x x7 => good hE ?_ x
    rcases ht with ⟨e, _⟩ | ⟨b', hb', h'⟩
    · exact absurd (congrArg (fun T : Nat × List T3 => T.2.length) e) (by
        show (mD _ _).length ≠ 0
        rw [mO]; have := Nat.two_pow_pos (LX a); omega)
    · obtain ⟨cc, rest, q1, q2⟩ := h'
      cases q1
      have hlt := q2.lt
      exact .inr ⟨b', by omega, _, rest, rfl, ((q2.ext x5 (fun h => h)).ext x6 (by omega)).ext x7 (by omega)⟩
  have n1 : (mode == 0) = false := beq_eq_false_iff_ne.2 m0
  have hls := Dp s
  by_cases m1 : mode = 1
  · subst m1
    have n2 : ((1 : Int) == 1) = true := rfl
    cases hle : Cb s with
    | nil =>
      have hE : kU a 1 (Cb s) T = .error 10 := by rw [hle]; unfold kU; rw [if_neg hno, if_neg (by omega), if_pos rfl]
      have hs0 : s = ⟨#[]⟩ := YI hle
      have n3 : (s.toList == (⟨#[]⟩ : ByteArray).toList) = true := by rw [hs0]; simp
      simp (disch := omega) only [cO, gY, aF, dO, fB, fL, fX, fW, fY, gF, iP, gK, eD, fT, gC, fR, fQ, eY, gH, fJ, fZ, gI, gO, gD, eP, gP, gG, gB, lE, lC, lL, lJ, lK, lV, lU, lW, lT, cX, Result.ok.injEq, Next.value.injEq, true_and, and_true, eL, fU, gL, gN, gM, iK, Int.toNat_natCast, fK, fD, fM, eZ, dZ, dV, eU, eC, dA, cQ, if_true, if_false, Bool.false_eq_true, Nat.zero_add, Option.isNone_some, Option.isNone_none, Bool.not_true, Bool.not_false, List.getElem?_cons_succ, List.getElem?_cons_zero, cS, aZ, bU, bV, bT, bC, eA, dG, dH, dC, aW, eI, bR, aJ, dF, dI, dJ, dD, bL, bN, cB, bA, cF, cG, bF, cJ, cL, cZ, cK, cD, cH, cC, dR, bW, cU, dT, bS, cV, aY, cI, dQ, bH, aO, aI, aP, aK, aM, aT, aE, cM, bG, cY, bP, bY, cP, aQ, aV, aU, aX, aR, aD, aB, aC, dB, aH, aG, bM, bB, bK, dE, bE, bZ, bD, bQ, bO, aL, dS, aS, dM, dL, aN, bX, cA, dN, eS, d1, d2, d3, n1, n2, Vt, n3]
      exact Iv o2 x13 (by omega) fun w' x _ => err hE x
    | cons y l =>
      have hsz : 0 < s.size := by rw [← hls, hle]; simp
      have n3 : (s.toList == (⟨#[]⟩ : ByteArray).toList) = false := ZQ (by omega)
      have g0 : (s[(0 : Int).toNat]'hsz) = y := by
        have := V4 s 0 hsz
        simp only [hle, List.getElem_cons_zero] at this
        exact this
      have hsz' : (0 : Int).toNat < s.size := hsz
      have hy := y.toNat_lt
      by_cases hyl : nB a < (y.toNat : Int)
      · have d4 : decide (((nb : Nat) : Int) ≤ (y.toNat : Int)) = true := by simp only [decide_eq_true_eq]; omega
        have hE : kU a 1 (Cb s) T = .error 11 := by rw [hle]; unfold kU; rw [if_neg hno, if_neg (by omega), if_pos rfl]; exact if_pos hyl
        simp (disch := omega) only [cO, gY, aF, dO, fB, fL, fX, fW, fY, gF, iP, gK, eD, fT, gC, fR, fQ, eY, gH, fJ, fZ, gI, gO, gD, eP, gP, gG, gB, lE, lC, lL, lJ, lK, lV, lU, lW, lT, cX, Result.ok.injEq, Next.value.injEq, true_and, and_true, eL, fU, gL, gN, gM, iK, Int.toNat_natCast, fK, fD, fM, eZ, dZ, dV, eU, eC, dA, cQ, if_true, if_false, Bool.false_eq_true, Nat.zero_add, Option.isNone_some, Option.isNone_none, Bool.not_true, Bool.not_false, List.getElem?_cons_succ, List.getElem?_cons_zero, cS, aZ, bU, bV, bT, bC, eA, dG, dH, dC, aW, eI, bR, aJ, dF, dI, dJ, dD, bL, bN, cB, bA, cF, cG, bF, cJ, cL, cZ, cK, cD, cH, cC, dR, bW, cU, dT, bS, cV, aY, cI, dQ, bH, aO, aI, aP, aK, aM, aT, aE, cM, bG, cY, bP, bY, cP, aQ, aV, aU, aX, aR, aD, aB, aC, dB, aH, aG, bM, bB, bK, dE, bE, bZ, bD, bQ, bO, aL, dS, aS, dM, dL, aN, bX, cA, dN, eS, d1, d2, d3, n1, n2, Vt, n3, g0, d4]
        exact Iv o2 x13 (by omega) fun w' x _ => err hE x
      · have d4 : decide (((nb : Nat) : Int) ≤ (y.toNat : Int)) = false := by simp only [decide_eq_false_iff_not]; omega
        have hE : kU a 1 (Cb s) T = .ok ((0, [((y.toNat : Nat), 0, 0)]), 1) := by rw [hle]; unfold kU; rw [if_neg hno, if_neg (by omega), if_pos rfl]; exact if_neg hyl
        simp (disch := omega) only [cO, gY, aF, dO, fB, fL, fX, fW, fY, gF, iP, gK, eD, fT, gC, fR, fQ, eY, gH, fJ, fZ, gI, gO, gD, eP, gP, gG, gB, lE, lC, lL, lJ, lK, lV, lU, lW, lT, cX, Result.ok.injEq, Next.value.injEq, true_and, and_true, eL, fU, gL, gN, gM, iK, Int.toNat_natCast, fK, fD, fM, eZ, dZ, dV, eU, eC, dA, cQ, if_true, if_false, Bool.false_eq_true, Nat.zero_add, Option.isNone_some, Option.isNone_none, Bool.not_true, Bool.not_false, List.getElem?_cons_succ, List.getElem?_cons_zero, cS, aZ, bU, bV, bT, bC, eA, dG, dH, dC, aW, eI, bR, aJ, dF, dI, dJ, dD, bL, bN, cB, bA, cF, cG, bF, cJ, cL, cZ, cK, cD, cH, cC, dR, bW, cU, dT, bS, cV, aY, cI, dQ, bH, aO, aI, aP, aK, aM, aT, aE, cM, bG, cY, bP, bY, cP, aQ, aV, aU, aX, aR, aD, aB, aC, dB, aH, aG, bM, bB, bK, dE, bE, bZ, bD, bQ, bO, aL, dS, aS, dM, dL, aN, bX, cA, dN, eS, d1, d2, d3, n1, n2, Vt, n3, g0, d4]
        refine (XL (y.toNat : Nat) _).mono ?_
        rintro r w4 ⟨b, hb1, ⟨cc, rest, rfl, ob⟩, x4⟩
        have z4 := x4.size
        have hbl := ob.lt
        refine Iv (o2.ext x4 (fun h => h)) (x13.seq x4) (by omega) fun w' x x7 => good hE (.inr ⟨b, by omega, cc, rest, rfl, ?_⟩) x
        exact ob.ext x7 (by omega)
  have n2 : (mode == 1) = false := beq_eq_false_iff_ne.2 m1
  by_cases m3 : mode = 3
  · subst m3
    have n3 : ((3 : Int) == 3) = true := rfl
    have c1 := o1.cell (off := 1)
    simp only [List.getElem?_cons_zero, List.getElem?_cons_succ] at c1
    have l1 := kM (off := 0) o1 (by simp)
    simp only [List.drop_zero, List.take_succ_cons, List.take_zero] at l1
    by_cases h0 : T.2 = []
    · have n4 : (((T.2.length : Nat) : Int) == 0) = true := by rw [h0] <;> rfl
      have hE : kU a 3 (Cb s) T = .error 11 := by unfold kU; rw [if_neg hno, if_neg (by omega), if_neg (by omega), if_pos rfl, if_pos h0]
      simp (disch := omega) only [cO, gY, aF, dO, fB, fL, fX, fW, fY, gF, iP, gK, eD, fT, gC, fR, fQ, eY, gH, fJ, fZ, gI, gO, gD, eP, gP, gG, gB, lE, lC, lL, lJ, lK, lV, lU, lW, lT, cX, Result.ok.injEq, Next.value.injEq, true_and, and_true, eL, fU, gL, gN, gM, iK, Int.toNat_natCast, fK, fD, fM, eZ, dZ, dV, eU, eC, dA, cQ, if_true, if_false, Bool.false_eq_true, Nat.zero_add, Option.isNone_some, Option.isNone_none, Bool.not_true, Bool.not_false, List.getElem?_cons_succ, List.getElem?_cons_zero, cS, aZ, bU, bV, bT, bC, eA, dG, dH, dC, aW, eI, bR, aJ, dF, dI, dJ, dD, bL, bN, cB, bA, cF, cG, bF, cJ, cL, cZ, cK, cD, cH, cC, dR, bW, cU, dT, bS, cV, aY, cI, dQ, bH, aO, aI, aP, aK, aM, aT, aE, cM, bG, cY, bP, bY, cP, aQ, aV, aU, aX, aR, aD, aB, aC, dB, aH, aG, bM, bB, bK, dE, bE, bZ, bD, bQ, bO, aL, dS, aS, dM, dL, aN, bX, cA, dN, eS, d1, d2, d3, n1, n2, n3, c1, n4]
      exact Iv o2 x13 (by omega) fun w' x _ => err hE x
    · have n4 : (((T.2.length : Nat) : Int) == 0) = false := by
        have := List.length_pos_iff.2 h0
        simp; exact h0
      have hE : kU a 3 (Cb s) T = .ok (T, 0) := by unfold kU; rw [if_neg hno, if_neg (by omega), if_neg (by omega), if_pos rfl, if_neg h0]
      simp (disch := omega) only [cO, gY, aF, dO, fB, fL, fX, fW, fY, gF, iP, gK, eD, fT, gC, fR, fQ, eY, gH, fJ, fZ, gI, gO, gD, eP, gP, gG, gB, lE, lC, lL, lJ, lK, lV, lU, lW, lT, cX, Result.ok.injEq, Next.value.injEq, true_and, and_true, eL, fU, gL, gN, gM, iK, Int.toNat_natCast, fK, fD, fM, eZ, dZ, dV, eU, eC, dA, cQ, if_true, if_false, Bool.false_eq_true, Nat.zero_add, Option.isNone_some, Option.isNone_none, Bool.not_true, Bool.not_false, List.getElem?_cons_succ, List.getElem?_cons_zero, cS, aZ, bU, bV, bT, bC, eA, dG, dH, dC, aW, eI, bR, aJ, dF, dI, dJ, dD, bL, bN, cB, bA, cF, cG, bF, cJ, cL, cZ, cK, cD, cH, cC, dR, bW, cU, dT, bS, cV, aY, cI, dQ, bH, aO, aI, aP, aK, aM, aT, aE, cM, bG, cY, bP, bY, cP, aQ, aV, aU, aX, aR, aD, aB, aC, dB, aH, aG, bM, bB, bK, dE, bE, bZ, bD, bQ, bO, aL, dS, aS, dM, dL, aN, bX, cA, dN, eS, d1, d2, d3, n1, n2, n3, c1, n4, l1]
      refine Iv o2 x13 (by omega) fun w' x x7 => good hE ?_ x
      rcases ho with ⟨e, _⟩ | ⟨b, hb1, h⟩
      · rw [e] at h0; exact absurd rfl h0
      · have hbl := h.lt
        exact .inr ⟨b, hb1, (h.ext x13 (fun h => h)).ext x7 (by omega)⟩
  have n3 : (mode == 3) = false := beq_eq_false_iff_ne.2 m3
  have m2 : mode = 2 := by omega
  have hl2 := hl m2
  simp (disch := omega) only [cO, gY, aF, dO, fB, fL, fX, fW, fY, gF, iP, gK, eD, fT, gC, fR, fQ, eY, gH, fJ, fZ, gI, gO, gD, eP, gP, gG, gB, lE, lC, lL, lJ, lK, lV, lU, lW, lT, cX, Result.ok.injEq, Next.value.injEq, true_and, and_true, eL, fU, gL, gN, gM, iK, Int.toNat_natCast, fK, fD, fM, eZ, dZ, dV, eU, eC, dA, cQ, if_true, if_false, Bool.false_eq_true, Nat.zero_add, Option.isNone_some, Option.isNone_none, Bool.not_true, Bool.not_false, List.getElem?_cons_succ, List.getElem?_cons_zero, cS, aZ, bU, bV, bT, bC, eA, dG, dH, dC, aW, eI, bR, aJ, dF, dI, dJ, dD, bL, bN, cB, bA, cF, cG, bF, cJ, cL, cZ, cK, cD, cH, cC, dR, bW, cU, dT, bS, cV, aY, cI, dQ, bH, aO, aI, aP, aK, aM, aT, aE, cM, bG, cY, bP, bY, cP, aQ, aV, aU, aX, aR, aD, aB, aC, dB, aH, aG, bM, bB, bK, dE, bE, bZ, bD, bQ, bO, aL, dS, aS, dM, dL, aN, bX, cA, dN, eS, d1, d2, d3, n1, n2, n3]
  refine (W1 a _).mono ?_
  rintro r w4 ⟨rfl, hw⟩
  rw [hw]
  clear hw w4
  have e1 : (nB a + 1).toNat = nb := by omega
  refine (Vm hl2 (by omega)).mono ?_
  rintro r w4 ⟨hr, x4⟩
  have z4 := x4.size
  have hE0 : kU a mode (Cb s) T = match sV (iC (Cb s)) (xE a) nb with
    | .error e => .error e
    | .ok (lg, ps, u) => .ok ((lg, mD lg ps), u) := by unfold kU; rw [if_neg hno, if_neg m0, if_neg m1, if_neg m3, e1] <;> rfl
  cases hrl : sV (iC (Cb s)) (xE a) nb with
  | error e =>
    rw [hrl] at hr hE0
    have hr : r = _ := hr
    subst hr
    have he := S0 hrl
    have n4 : (e != 0) = true := by simpa using he
    have hE : kU a mode (Cb s) T = .error e := hE0
    simp (disch := omega) only [cO, gY, aF, dO, fB, fL, fX, fW, fY, gF, iP, gK, eD, fT, gC, fR, fQ, eY, gH, fJ, fZ, gI, gO, gD, eP, gP, gG, gB, lE, lC, lL, lJ, lK, lV, lU, lW, lT, cX, Result.ok.injEq, Next.value.injEq, true_and, and_true, eL, fU, gL, gN, gM, iK, Int.toNat_natCast, fK, fD, fM, eZ, dZ, dV, eU, eC, dA, cQ, if_true, if_false, Bool.false_eq_true, Nat.zero_add, Option.isNone_some, Option.isNone_none, Bool.not_true, Bool.not_false, List.getElem?_cons_succ, List.getElem?_cons_zero, cS, aZ, bU, bV, bT, bC, eA, dG, dH, dC, aW, eI, bR, aJ, dF, dI, dJ, dD, bL, bN, cB, bA, cF, cG, bF, cJ, cL, cZ, cK, cD, cH, cC, dR, bW, cU, dT, bS, cV, aY, cI, dQ, bH, aO, aI, aP, aK, aM, aT, aE, cM, bG, cY, bP, bY, cP, aQ, aV, aU, aX, aR, aD, aB, aC, dB, aH, aG, bM, bB, bK, dE, bE, bZ, bD, bQ, bO, aL, dS, aS, dM, dL, aN, bX, cA, dN, eS]
    refine nF fun w5 o5 x5 s5 => ?_
    refine kV o5 rfl (by simp [one]) (by simp) fun w6 o6 x6 s6 => ?_
    simp (disch := omega) only [cO, gY, aF, dO, fB, fL, fX, fW, fY, gF, iP, gK, eD, fT, gC, fR, fQ, eY, gH, fJ, fZ, gI, gO, gD, eP, gP, gG, gB, lE, lC, lL, lJ, lK, lV, lU, lW, lT, cX, Result.ok.injEq, Next.value.injEq, true_and, and_true, eL, fU, gL, gN, gM, iK, Int.toNat_natCast, fK, fD, fM, eZ, dZ, dV, eU, eC, dA, cQ, if_true, if_false, Bool.false_eq_true, Nat.zero_add, Option.isNone_some, Option.isNone_none, Bool.not_true, Bool.not_false, List.getElem?_cons_succ, List.getElem?_cons_zero, cS, aZ, bU, bV, bT, bC, eA, dG, dH, dC, aW, eI, bR, aJ, dF, dI, dJ, dD, bL, bN, cB, bA, cF, cG, bF, cJ, cL, cZ, cK, cD, cH, cC, dR, bW, cU, dT, bS, cV, aY, cI, dQ, bH, aO, aI, aP, aK, aM, aT, aE, cM, bG, cY, bP, bY, cP, aQ, aV, aU, aX, aR, aD, aB, aC, dB, aH, aG, bM, bB, bK, dE, bE, bZ, bD, bQ, bO, aL, dS, aS, dM, dL, aN, bX, cA, dN, eS, n4]
    have x46 : gS w3 w6 jR := x4.seq (x5.new x6 (Nat.le_refl _))
    exact Iv (o2.ext x46 (fun h => h)) (x13.seq x46) (by omega) fun w' x _ => err hE x
  | ok y =>
    obtain ⟨lg, ps, u⟩ := y
    rw [hrl] at hr hE0
    obtain ⟨v, rfl, hv⟩ := hr
    obtain ⟨hmay, hlg, hpl⟩ := Uc hrl
    have hm := hmay (by omega)
    have hE : kU a mode (Cb s) T = .ok ((lg, mD lg ps), u) := hE0
    obtain ⟨va, vc, rfl⟩ := hv.len
    have hs := hv.sl
    have n4 : ((0 : Int) != 0) = false := rfl
    simp (disch := omega) only [cO, gY, aF, dO, fB, fL, fX, fW, fY, gF, iP, gK, eD, fT, gC, fR, fQ, eY, gH, fJ, fZ, gI, gO, gD, eP, gP, gG, gB, lE, lC, lL, lJ, lK, lV, lU, lW, lT, cX, Result.ok.injEq, Next.value.injEq, true_and, and_true, eL, fU, gL, gN, gM, iK, Int.toNat_natCast, fK, fD, fM, eZ, dZ, dV, eU, eC, dA, cQ, if_true, if_false, Bool.false_eq_true, Nat.zero_add, Option.isNone_some, Option.isNone_none, Bool.not_true, Bool.not_false, List.getElem?_cons_succ, List.getElem?_cons_zero, cS, aZ, bU, bV, bT, bC, eA, dG, dH, dC, aW, eI, bR, aJ, dF, dI, dJ, dD, bL, bN, cB, bA, cF, cG, bF, cJ, cL, cZ, cK, cD, cH, cC, dR, bW, cU, dT, bS, cV, aY, cI, dQ, bH, aO, aI, aP, aK, aM, aT, aE, cM, bG, cY, bP, bY, cP, aQ, aV, aU, aX, aR, aD, aB, aC, dB, aH, aG, bM, bB, bK, dE, bE, bZ, bD, bQ, bO, aL, dS, aS, dM, dL, aN, bX, cA, dN, eS]
    refine nF fun w5 o5 x5 s5 => ?_
    refine kV o5 rfl (by simp [one]) (by simp) fun w6 o6 x6 s6 => ?_
    have l1 := mG (off := 0) o6 (by simp [fV])
    simp only [fV, List.set_cons_zero, List.set_cons_succ, List.drop_zero, List.take_succ_cons, List.take_zero] at l1
    have x46 : gS w4 w6 jR := x5.new x6 (Nat.le_refl _)
    have z6 := x46.size
    simp (disch := omega) only [cO, gY, aF, dO, fB, fL, fX, fW, fY, gF, iP, gK, eD, fT, gC, fR, fQ, eY, gH, fJ, fZ, gI, gO, gD, eP, gP, gG, gB, lE, lC, lL, lJ, lK, lV, lU, lW, lT, cX, Result.ok.injEq, Next.value.injEq, true_and, and_true, eL, fU, gL, gN, gM, iK, Int.toNat_natCast, fK, fD, fM, eZ, dZ, dV, eU, eC, dA, cQ, if_true, if_false, Bool.false_eq_true, Nat.zero_add, Option.isNone_some, Option.isNone_none, Bool.not_true, Bool.not_false, List.getElem?_cons_succ, List.getElem?_cons_zero, cS, aZ, bU, bV, bT, bC, eA, dG, dH, dC, aW, eI, bR, aJ, dF, dI, dJ, dD, bL, bN, cB, bA, cF, cG, bF, cJ, cL, cZ, cK, cD, cH, cC, dR, bW, cU, dT, bS, cV, aY, cI, dQ, bH, aO, aI, aP, aK, aM, aT, aE, cM, bG, cY, bP, bY, cP, aQ, aV, aU, aX, aR, aD, aB, aC, dB, aH, aG, bM, bB, bK, dE, bE, bZ, bD, bQ, bO, aL, dS, aS, dM, dL, aN, bX, cA, dN, eS, n4, l1]
    refine (R5 hm (hs.ext x46 (iQ _))).mono ?_
    rintro r w7 ⟨b, cc, rest, rfl, hb1, ob, x7⟩
    have z7 := x7.size
    have hbl := ob.lt
    simp (disch := omega) only [cO, gY, aF, dO, fB, fL, fX, fW, fY, gF, iP, gK, eD, fT, gC, fR, fQ, eY, gH, fJ, fZ, gI, gO, gD, eP, gP, gG, gB, lE, lC, lL, lJ, lK, lV, lU, lW, lT, cX, Result.ok.injEq, Next.value.injEq, true_and, and_true, eL, fU, gL, gN, gM, iK, Int.toNat_natCast, fK, fD, fM, eZ, dZ, dV, eU, eC, dA, cQ, if_true, if_false, Bool.false_eq_true, Nat.zero_add, Option.isNone_some, Option.isNone_none, Bool.not_true, Bool.not_false, List.getElem?_cons_succ, List.getElem?_cons_zero, cS, aZ, bU, bV, bT, bC, eA, dG, dH, dC, aW, eI, bR, aJ, dF, dI, dJ, dD, bL, bN, cB, bA, cF, cG, bF, cJ, cL, cZ, cK, cD, cH, cC, dR, bW, cU, dT, bS, cV, aY, cI, dQ, bH, aO, aI, aP, aK, aM, aT, aE, cM, bG, cY, bP, bY, cP, aQ, aV, aU, aX, aR, aD, aB, aC, dB, aH, aG, bM, bB, bK, dE, bE, bZ, bD, bQ, bO, aL, dS, aS, dM, dL, aN, bX, cA, dN, eS]
    refine kK fun w8 o8 x8 s8 => ?_
    refine kE o8 rfl (by simp [one]) (by simp) fun w9 o9 x9 s9 => ?_
    have l2 := kM (off := 0) o9 (by simp [fV])
    simp only [fV, List.set_cons_zero, List.set_cons_succ, List.drop_zero, List.take_succ_cons, List.take_zero] at l2
    simp (disch := omega) only [cO, gY, aF, dO, fB, fL, fX, fW, fY, gF, iP, gK, eD, fT, gC, fR, fQ, eY, gH, fJ, fZ, gI, gO, gD, eP, gP, gG, gB, lE, lC, lL, lJ, lK, lV, lU, lW, lT, cX, Result.ok.injEq, Next.value.injEq, true_and, and_true, eL, fU, gL, gN, gM, iK, Int.toNat_natCast, fK, fD, fM, eZ, dZ, dV, eU, eC, dA, cQ, if_true, if_false, Bool.false_eq_true, Nat.zero_add, Option.isNone_some, Option.isNone_none, Bool.not_true, Bool.not_false, List.getElem?_cons_succ, List.getElem?_cons_zero, cS, aZ, bU, bV, bT, bC, eA, dG, dH, dC, aW, eI, bR, aJ, dF, dI, dJ, dD, bL, bN, cB, bA, cF, cG, bF, cJ, cL, cZ, cK, cD, cH, cC, dR, bW, cU, dT, bS, cV, aY, cI, dQ, bH, aO, aI, aP, aK, aM, aT, aE, cM, bG, cY, bP, bY, cP, aQ, aV, aU, aX, aR, aD, aB, aC, dB, aH, aG, bM, bB, bK, dE, bE, bZ, bD, bQ, bO, aL, dS, aS, dM, dL, aN, bX, cA, dN, eS, n4, l2]
    have x49 : gS w3 w9 jR := ((x4.seq x46).seq x7).seq (x8.new x9 (Nat.le_refl _))
    refine Iv (o2.ext x49 (fun h => h)) (x13.seq x49) (by omega) fun w' x x10 => good hE (.inr ⟨b, by omega, cc, rest, by rw [mO], ?_⟩) x
    exact ((ob.ext x8 (fun h => h)).ext x9 (by omega)).ext x10 (by omega)
end Go.Proofs.YtoepfjgekpdddaaDoor
namespace Go.Proofs.YtoepfjgekpdddaaDoor
open Go Go.En
set_option linter.unusedSimpArgs false
set_option linter.unusedVariables false
theorem YJ {ox oy : Operand} (a b c a' b' c' : Int) (w : World) : (eF .neq 70 ox oy (.agg #[.int .i64 a, .int .i64 b, .int .i64 c]) (.agg #[.int .i64 a', .int .i64 b', .int .i64 c'])).run pg w = .ok (.value (.bool (!(a == a' && b == b' && c == c')))) w := by
  have a3 : ∀ w, (isAgg 3).run pg w = .ok false w := fun w => by kernel_rfl
  have u3 := Tryd.underlying3
  have g0 : pg.eqGuardType pg.depth 70 = false := by kernel_rfl
  have g1 : pg.underlying 70 = some (.struct (pg.fieldsOf 70)) := by kernel_rfl
  have g2 : pg.stoodInHeld 70 = false := by kernel_rfl
  unfold eF
  simp only [EA, pU, Sem.run_bind, run_eqGuard_agg w .neq 70 ox oy _ _ g0, Result.andThen_ok, run_neq_struct]
  rw [run_equalIn_agg w 9999 70 _ _ g1 g2]
  simp only [Program.fieldsOf, Tryd.underlying70, Op.eqFields]
  simp [part, a3, run_equalIn_int w 9998 3 _ _ _ _ u3]
  by_cases h1 : a = a' <;> by_cases h2 : b = b' <;> by_cases h3 : c = c' <;> simp [h1, h2, h3]
end Go.Proofs.YtoepfjgekpdddaaDoor
namespace Go.En
open Go
set_option linter.unusedVariables false
theorem US.ext {w w' : World} {S M : Nat → Prop} {sz n : Nat} {v : Value} {l : List Value} (h : US w S sz v n l) (hx : gS w w' M) (hM : ∀ b, S b → ¬ M b) : US w' S sz v n l := by
  refine ⟨h.1, ?_⟩
  rcases h.2 with h2 | ⟨b, c, rest, h1, h2, h3, h4, h5⟩
  · exact .inl h2
  · exact .inr ⟨b, c, rest, h1, h2, h3.ext hx (hM b h2), h4, h5⟩
theorem uE.ne {w : World} {base p sz n : Nat} {v : Value} {l : List Value} (h : uE w base sz v n l) (hp : w.heap.size ≤ p) : US w (fun b => base ≤ b ∧ b ≠ p) sz v n l := by
  refine ⟨h.1, ?_⟩
  rcases h.2 with h2 | ⟨b, c, rest, h1, h2, h3, h4, h5⟩
  · exact .inl h2
  · have := h3.lt
    exact .inr ⟨b, c, rest, h1, ⟨h2, by omega⟩, h3, h4, h5⟩
theorem US.osl {w : World} {base p sz n : Nat} {v : Value} {l : List Value} (h : US w (fun b => base ≤ b ∧ b ≠ p) sz v n l) : uE w base sz v n l := by
  refine ⟨h.1, ?_⟩
  rcases h.2 with h2 | ⟨b, c, rest, h1, h2, h3, h4, h5⟩
  · exact .inl h2
  · exact .inr ⟨b, c, rest, h1, h2.1, h3, h4, h5⟩
theorem US.len {w : World} {S : Nat → Prop} {sz n : Nat} {v : Value} {l : List Value} (h : US w S sz v n l) : ∃ a c, v = .slice a n c := by
  rcases h.2 with ⟨h1, rfl⟩ | ⟨b, c, rest, h1, _⟩
  · exact ⟨_, _, h1⟩
  · exact ⟨_, _, h1⟩
end Go.En
