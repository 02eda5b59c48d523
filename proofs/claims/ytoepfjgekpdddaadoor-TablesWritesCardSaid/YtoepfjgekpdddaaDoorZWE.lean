/- Parts of the proof of TablesWrites: merged and given short names by a program of ours. -/
import Derived.WalkKit
import Derived.ProofKit
import Derived.OpenShut
import Derived.Deep.Matrix
import Derived.Test.YtoepfjgekpdddaaDoorZWD
namespace Go.Proofs.YtoepfjgekpdddaaDoor
open Go Go.En Go.Pu
set_option maxRecDepth 4000
set_option linter.unusedSimpArgs false
set_option linter.unusedVariables false
theorem W5 {k : IntKind} {L : List T3} {rest : List Value} {i : Nat} (h : i < L.length) : ((fe k L ++ rest).drop (i * 3)).take 3 = [.int k L[i].1, .int .i64 L[i].2.1, .int .i64 L[i].2.2] := by
  have hl := lY k L
  rw [List.drop_append_of_le_length (by omega), List.take_append_of_le_length (by rw [List.length_drop]; omega), VS h]
theorem ZA (k : IntKind) (L M : List T3) : fe k (L ++ M) = fe k L ++ fe k M := by
  induction L with
  | nil => rfl
  | cons e L ih => obtain ⟨a, b, c⟩ := e; simp [fe, ih]
theorem Yp {k : IntKind} {L : List T3} {i : Nat} (h : i < L.length) : fe k (L.take (i + 1)) = fe k (L.take i) ++ [.int k L[i].1, .int .i64 L[i].2.1, .int .i64 L[i].2.2] := by
  rw [List.take_add_one, List.getElem?_eq_getElem h, ZA] <;> rfl
def Yu (w : World) (L : List T3) (a : Option Addr) : Prop := L = [] ∨ ∃ b rest, a = some ⟨b, 0, none⟩ ∧ jL w b (fe .i64 L ++ rest)
theorem Vb.rta {w : World} {base : Nat} {T : Nat × List T3} {v : Value} (h : Vb w base T v) : ∃ a c, v = .agg #[.int .i64 T.1, .slice a T.2.length c] ∧ Yu w T.2 a := by
  rcases h with ⟨rfl, rfl⟩ | ⟨b, _, cc, rest, rfl, h⟩
  · exact ⟨_, _, rfl, .inl rfl⟩
  · exact ⟨_, _, rfl, .inr ⟨b, rest, rfl, h⟩⟩
theorem uE.rta {w : World} {base n : Nat} {L : List T3} {v : Value} (h : uE w base 3 v n (fe .i64 L)) : ∃ a c, v = .slice a L.length c ∧ Yu w L a := by
  have hl := h.1
  rw [lY] at hl
  obtain rfl : n = L.length := by omega
  rcases h.2 with ⟨rfl, h0⟩ | ⟨b, c, rest, rfl, _, q2, _⟩
  · have : L = [] := by
      cases L with
      | nil => rfl
      | cons e L => simp [fe] at h0
    subst this
    exact ⟨_, _, rfl, .inl rfl⟩
  · exact ⟨_, _, rfl, .inr ⟨b, rest, rfl, q2⟩⟩
theorem Yu.ext {w w' : World} {L : List T3} {a : Option Addr} (h : Yu w L a) (x : gS w w' jR) : Yu w' L a := by
  rcases h with h | ⟨b, rest, h1, h2⟩
  · exact .inl h
  · exact .inr ⟨b, rest, h1, h2.ext x (fun h => h)⟩
theorem XZ {log : Int} {L : List T3} {a1 a2 : Option Addr} {c1 c2 : Nat} {w : World} (h1 : Yu w L a1) (h2 : Yu w L a2) (hl : L.length ≤ 1000000) :
    hJ pg CP #[.agg #[.int .i64 log, .slice a1 L.length c1], .agg #[.int .i64 log, .slice a2 L.length c2]] w (fun r w' => r = .bool true ∧ gS w w' jR) := by
  refine Rn ?_
  unfold RP E6 Fs
  refine nR fun w1 o1 x1 s1 => ?_
  refine nR fun w2 o2 x2 s2 => ?_
  simp only [Value.cells] at o1 o2
  have o1 := o1.ext x2 (fun h => h)
  have x02 := x1.seq x2
  have r1 := h1.ext x02
  have r2 := h2.ext x02
  clear h1 h2
  have k1 := o1.cell (off := 0)
  have k2 := o1.cell (off := 1)
  have k3 := o2.cell (off := 0)
  have k4 := o2.cell (off := 1)
  simp only [List.getElem?_cons_zero, List.getElem?_cons_succ] at k1 k2 k3 k4
  have n1 : (log != log) = false := by simp
  have n2 : (((L.length : Nat) : Int) != ((L.length : Nat) : Int)) = false := by simp
  simp (disch := omega) only [cO, gY, aF, dO, fB, fL, fX, fW, fY, gF, iP, gK, eD, fT, gC, fR, fQ, eY, gH, fJ, fZ, gI, gO, gD, eP, gP, gG, gB, lE, lC, lL, lJ, lK, lV, lU, lW, lT, cX, Result.ok.injEq, Next.value.injEq, true_and, and_true, eL, fU, gL, gN, gM, iK, Int.toNat_natCast, fK, fD, fM, eZ, dZ, dV, eU, eC, dA, cQ, if_true, if_false, Bool.false_eq_true, Nat.zero_add, Option.isNone_some, Option.isNone_none, Bool.not_true, Bool.not_false, List.getElem?_cons_succ, List.getElem?_cons_zero, cS, aZ, bU, bV, bT, bC, eA, dG, dH, dC, aW, eI, bR, aJ, dF, dI, dJ, dD, bL, bN, cB, bA, cF, cG, bF, cJ, cL, cZ, cK, cD, cH, cC, dR, bW, cU, dT, bS, cV, aY, cI, dQ, bH, aO, aI, aP, aK, aM, aT, aE, cM, bG, cY, bP, bY, cP, aQ, aV, aU, aX, aR, aD, aB, aC, dB, aH, aG, bM, bB, bK, dE, bE, bZ, bD, bQ, bO, aL, dS, aS, dM, dL, aN, bX, cA, dN, eS, k1, k2, k3, k4, n1, n2]
  unfold AZ FG Fp AU FE
  refine iY.rule (fun m (t : Value) w' => ∃ i : Nat, m = L.length - i ∧ t = .int .i64 i ∧ i ≤ L.length ∧ gS w2 w' jR) L.length ⟨0, rfl, rfl, by omega, gS.refl _ _⟩ ?_
  rintro m t w' ⟨i, rfl, rfl, hi, xl⟩
  have k2 := (o1.ext xl (fun h => h)).cell (off := 1)
  have k4 := (o2.ext xl (fun h => h)).cell (off := 1)
  simp only [List.getElem?_cons_zero, List.getElem?_cons_succ] at k2 k4
  unfold Bn
  by_cases hlt : i < L.length
  · have d3 : decide ((i : Int) < (L.length : Int)) = true := by simp; omega
    have k2d := (lA (o1.ext xl (fun h => h))).cell (off := 1)
    have k4d := (lA (o2.ext xl (fun h => h))).cell (off := 1)
    simp only [List.getElem?_cons_zero, List.getElem?_cons_succ] at k2d k4d
    rcases r1 with h1 | ⟨b1, rest1, rfl, h1⟩
    · rw [h1] at hlt; simp at hlt
    rcases r2 with h2 | ⟨b2, rest2, rfl, h2⟩
    · rw [h2] at hlt; simp at hlt
    have q1 := oY (off := i * 3) (h1.ext xl (fun h => h)) (by rw [List.length_append, lY]; omega)
    have q2 := oY (off := i * 3) (h2.ext xl (fun h => h)) (by rw [List.length_append, lY]; omega)
    have q1d := oY (off := i * 3) (lA (h1.ext xl (fun h => h))) (by rw [List.length_append, lY]; omega)
    have q2d := oY (off := i * 3) (lA (h2.ext xl (fun h => h))) (by rw [List.length_append, lY]; omega)
    rw [W5 hlt] at q1 q2 q1d q2d
    have nn : ∀ a c d : Int, (!(a == a && c == c && d == d)) = false := fun a c d => by simp
    simp (disch := omega) only [cO, gY, aF, dO, fB, fL, fX, fW, fY, gF, iP, gK, eD, fT, gC, fR, fQ, eY, gH, fJ, fZ, gI, gO, gD, eP, gP, gG, gB, lE, lC, lL, lJ, lK, lV, lU, lW, lT, cX, Result.ok.injEq, Next.value.injEq, true_and, and_true, eL, fU, gL, gN, gM, iK, Int.toNat_natCast, fK, fD, fM, eZ, dZ, dV, eU, eC, dA, cQ, if_true, if_false, Bool.false_eq_true, Nat.zero_add, Option.isNone_some, Option.isNone_none, Bool.not_true, Bool.not_false, List.getElem?_cons_succ, List.getElem?_cons_zero, cS, aZ, bU, bV, bT, bC, eA, dG, dH, dC, aW, eI, bR, aJ, dF, dI, dJ, dD, bL, bN, cB, bA, cF, cG, bF, cJ, cL, cZ, cK, cD, cH, cC, dR, bW, cU, dT, bS, cV, aY, cI, dQ, bH, aO, aI, aP, aK, aM, aT, aE, cM, bG, cY, bP, bY, cP, aQ, aV, aU, aX, aR, aD, aB, aC, dB, aH, aG, bM, bB, bK, dE, bE, bZ, bD, bQ, bO, aL, dS, aS, dM, dL, aN, bX, cA, dN, eS, d3, k2, k4, k2d, k4d, q1, q2, q1d, q2d, YJ, nn]
    exact ⟨L.length - (i + 1), by omega, i + 1, rfl, rfl, by omega, xl.seq (gS.dr _ _)⟩
  · have d3 : decide ((i : Int) < (L.length : Int)) = false := by simp; omega
    unfold Ba
    simp (disch := omega) only [cO, gY, aF, dO, fB, fL, fX, fW, fY, gF, iP, gK, eD, fT, gC, fR, fQ, eY, gH, fJ, fZ, gI, gO, gD, eP, gP, gG, gB, lE, lC, lL, lJ, lK, lV, lU, lW, lT, cX, Result.ok.injEq, Next.value.injEq, true_and, and_true, eL, fU, gL, gN, gM, iK, Int.toNat_natCast, fK, fD, fM, eZ, dZ, dV, eU, eC, dA, cQ, if_true, if_false, Bool.false_eq_true, Nat.zero_add, Option.isNone_some, Option.isNone_none, Bool.not_true, Bool.not_false, List.getElem?_cons_succ, List.getElem?_cons_zero, cS, aZ, bU, bV, bT, bC, eA, dG, dH, dC, aW, eI, bR, aJ, dF, dI, dJ, dD, bL, bN, cB, bA, cF, cG, bF, cJ, cL, cZ, cK, cD, cH, cC, dR, bW, cU, dT, bS, cV, aY, cI, dQ, bH, aO, aI, aP, aK, aM, aT, aE, cM, bG, cY, bP, bY, cP, aQ, aV, aU, aX, aR, aD, aB, aC, dB, aH, aG, bM, bB, bK, dE, bE, bZ, bD, bQ, bO, aL, dS, aS, dM, dL, aN, bX, cA, dN, eS, d3, k2]
    exact x02.seq xl
theorem WW {T : Nat × List T3} {v : Value} {base : Nat} {w : World} (h : GW w base T v) (hsy : ∀ e ∈ T.2, 0 ≤ e.1 ∧ e.1 < 256) (hl : T.2.length ≤ 1000000) :
    hJ pg vN #[v] w (fun r w' => ∃ a c, r = .agg #[.int .i64 T.1, .slice a T.2.length c] ∧ Yu w' T.2 a ∧ gS w w' jR) := by
  refine Kj ?_
  obtain ⟨va, rfl⟩ := h.form
  obtain ⟨log, L⟩ := T
  simp only at *
  unfold JP Am Aj
  refine nR fun w1 o1 x1 s1 => ?_
  simp only [Value.cells] at o1
  refine kK fun w2 o2 x2 s2 => ?_
  have o1 := o1.ext x2 (fun h => h)
  have k0 := o1.cell (off := 0)
  simp only [List.getElem?_cons_zero, List.getElem?_cons_succ] at k0
  simp (disch := omega) only [cO, gY, aF, dO, fB, fL, fX, fW, fY, gF, iP, gK, eD, fT, gC, fR, fQ, eY, gH, fJ, fZ, gI, gO, gD, eP, gP, gG, gB, lE, lC, lL, lJ, lK, lV, lU, lW, lT, cX, Result.ok.injEq, Next.value.injEq, true_and, and_true, eL, fU, gL, gN, gM, iK, Int.toNat_natCast, fK, fD, fM, eZ, dZ, dV, eU, eC, dA, cQ, if_true, if_false, Bool.false_eq_true, Nat.zero_add, Option.isNone_some, Option.isNone_none, Bool.not_true, Bool.not_false, List.getElem?_cons_succ, List.getElem?_cons_zero, cS, aZ, bU, bV, bT, bC, eA, dG, dH, dC, aW, eI, bR, aJ, dF, dI, dJ, dD, bL, bN, cB, bA, cF, cG, bF, cJ, cL, cZ, cK, cD, cH, cC, dR, bW, cU, dT, bS, cV, aY, cI, dQ, bH, aO, aI, aP, aK, aM, aT, aE, cM, bG, cY, bP, bY, cP, aQ, aV, aU, aX, aR, aD, aB, aC, dB, aH, aG, bM, bB, bK, dE, bE, bZ, bD, bQ, bO, aL, dS, aS, dM, dL, aN, bX, cA, dN, eS, k0]
  refine kK fun w3 o3 x3 s3 => ?_
  refine kE o3 rfl (by simp [one]) (by simp) fun w4 o4 x4 s4 => ?_
  simp only [fV, List.set_cons_zero, List.set_cons_succ] at o4
  have x24 : gS w2 w4 jR := x3.new x4 (Nat.le_refl _)
  have x02 := x1.seq x2
  have x04 := x02.seq x24
  have z1 := x1.size
  have z2 := x2.size
  have l2 := o2.lt
  have o1 := o1.ext x24 (fun h => h)
  have o2 := o2.ext x24 (fun h => h)
  have l1 := o1.lt
  have ht : L = [] ∨ ∃ b, va = some ⟨b, 0, none⟩ ∧ jL w4 b (fe .u8 L) := by
    rcases h with ⟨e, _⟩ | ⟨b, e, _, ob⟩
    · cases e; exact .inl rfl
    · cases e; exact .inr ⟨b, rfl, ob.ext x04 (fun h => h)⟩
  unfold tM Af Aq tZ Ay
  refine iY.rule (fun m (t : Value) w' => ∃ (i : Nat) (sv : Value), m = L.length - i ∧ t = .int .i64 i ∧ i ≤ L.length ∧ jL w' w2.heap.size [.int .i64 log, sv] ∧ uE w' (w2.heap.size + 1) 3 sv i (fe .i64 (L.take i)) ∧ gS w4 w' (fun y => w2.heap.size ≤ y)) L.length
    ⟨0, _, rfl, rfl, by omega, o4, uE.nil _ _ _, gS.refl _ _⟩ ?_
  rintro m t w5 ⟨i, sv, rfl, rfl, hi, o5, os5, x5⟩
  have z5 := x5.size
  have o15 := o1.ext x5 (by omega)
  have k1 := o15.cell (off := 1)
  have k5 := o5.cell (off := 1)
  simp only [List.getElem?_cons_zero, List.getElem?_cons_succ] at k1 k5
  have x05 : gS w w5 jR := x04.trans x5 fun b hb h => by omega
  unfold tL
  by_cases hlt : i < L.length
  · have d3 : decide ((i : Int) < (L.length : Int)) = true := by simp; omega
    rcases ht with ht | ⟨b, rfl, ob⟩
    · rw [ht] at hlt; simp at hlt
    have lb : b < w2.heap.size := by
      rcases h with ⟨e, _⟩ | ⟨b', e, _, ob'⟩
      · cases e; simp at hlt
      · cases e; have := ob'.lt; omega
    have q1 := SK (off := i * 3) (ob.ext x5 (by omega)) (by rw [lY]; omega)
    rw [VS hlt] at q1
    have hs1 := hsy _ (List.getElem_mem hlt)
    have hsn := Yp (k := .i64) hlt
    generalize L[i] = e at *
    obtain ⟨e1, e2, e3⟩ := e
    simp only at hs1 q1 hsn
    simp (disch := omega) only [cO, gY, aF, dO, fB, fL, fX, fW, fY, gF, iP, gK, eD, fT, gC, fR, fQ, eY, gH, fJ, fZ, gI, gO, gD, eP, gP, gG, gB, lE, lC, lL, lJ, lK, lV, lU, lW, lT, cX, Result.ok.injEq, Next.value.injEq, true_and, and_true, eL, fU, gL, gN, gM, iK, Int.toNat_natCast, fK, fD, fM, eZ, dZ, dV, eU, eC, dA, cQ, if_true, if_false, Bool.false_eq_true, Nat.zero_add, Option.isNone_some, Option.isNone_none, Bool.not_true, Bool.not_false, List.getElem?_cons_succ, List.getElem?_cons_zero, cS, aZ, bU, bV, bT, bC, eA, dG, dH, dC, aW, eI, bR, aJ, dF, dI, dJ, dD, bL, bN, cB, bA, cF, cG, bF, cJ, cL, cZ, cK, cD, cH, cC, dR, bW, cU, dT, bS, cV, aY, cI, dQ, bH, aO, aI, aP, aK, aM, aT, aE, cM, bG, cY, bP, bY, cP, aQ, aV, aU, aX, aR, aD, aB, aC, dB, aH, aG, bM, bB, bK, dE, bE, bZ, bD, bQ, bO, aL, dS, aS, dM, dL, aN, bX, cA, dN, eS, k1, d3, q1]
    refine TM fun w6 o6 x6 s6 => ?_
    refine SP o6 rfl (by simp [one]) (by simp) fun w7 o7 x7 s7 => ?_
    simp only [fV, List.set_cons_zero, List.set_cons_succ] at o7
    have x57 : gS w5 w7 jR := x6.new x7 (Nat.le_refl _)
    have z57 := x57.size
    have os7 := ((os5.ne (Nat.le_refl _)).ext x6 (fun b _ h => h)).ext x7 (fun b h1 h2 => h1.2 h2)
    have os7 := os7.osl
    have o57 := o5.ext x57 (fun h => h)
    have k5 := o57.cell (off := 1)
    have f0 := o7.cell (off := 0)
    have f1 := o7.cell (off := 1)
    have f2 := o7.cell (off := 2)
    simp only [List.getElem?_cons_zero, List.getElem?_cons_succ] at k5 f0 f1 f2
    have we : IntKind.i64.wrap e1 = e1 := eL (by omega) (by omega)
    simp (disch := omega) only [cO, gY, aF, dO, fB, fL, fX, fW, fY, gF, iP, gK, eD, fT, gC, fR, fQ, eY, gH, fJ, fZ, gI, gO, gD, eP, gP, gG, gB, lE, lC, lL, lJ, lK, lV, lU, lW, lT, cX, Result.ok.injEq, Next.value.injEq, true_and, and_true, eL, fU, gL, gN, gM, iK, Int.toNat_natCast, fK, fD, fM, eZ, dZ, dV, eU, eC, dA, cQ, if_true, if_false, Bool.false_eq_true, Nat.zero_add, Option.isNone_some, Option.isNone_none, Bool.not_true, Bool.not_false, List.getElem?_cons_succ, List.getElem?_cons_zero, cS, aZ, bU, bV, bT, bC, eA, dG, dH, dC, aW, eI, bR, aJ, dF, dI, dJ, dD, bL, bN, cB, bA, cF, cG, bF, cJ, cL, cZ, cK, cD, cH, cC, dR, bW, cU, dT, bS, cV, aY, cI, dQ, bH, aO, aI, aP, aK, aM, aT, aE, cM, bG, cY, bP, bY, cP, aQ, aV, aU, aX, aR, aD, aB, aC, dB, aH, aG, bM, bB, bK, dE, bE, bZ, bD, bQ, bO, aL, dS, aS, dM, dL, aN, bX, cA, dN, eS, k5, f0, f1, f2, we]
    refine pX (cells := #[.int .i64 e1, .int .i64 e2, .int .i64 e3]) (by decide) (by decide) (by kernel_rfl) fun w8 o8 x8 s8 => ?_
    have z8 := x8.size
    have l5 := o5.lt
    refine mN (m := 1) (news := [.int .i64 e1, .int .i64 e2, .int .i64 e3]) (os7.ext x8 (fun _ _ h => h)) (o8.cl (off := 0) (l := [.int .i64 e1, .int .i64 e2, .int .i64 e3]) (n := 1) rfl (fun i hi => by rw [Nat.zero_add])) (by simp [one]) (by omega) (by omega) fun v9 w9 o9 x9 => ?_
    rw [← hsn] at o9
    have z9 := x9.size
    have o59 := (o57.ext x8 (fun h => h)).ext x9 (by omega)
    refine wQ o59 (by obtain ⟨a, c, e⟩ := o9.len; rw [e] <;> rfl) (by simp) fun wa oa xa sa => ?_
    simp only [List.set_cons_zero, List.set_cons_succ] at oa
    refine ⟨L.length - (i + 1), by omega, i + 1, v9, rfl, rfl, by omega, oa, o9.ext xa (fun b hb h => by omega), ?_⟩
    have y59 : gS w5 w9 (fun y => w2.heap.size ≤ y) := ((x57.seq x8).mono fun _ _ h => h.elim).seq (x9.mono fun b _ h => by omega)
    exact (x5.seq y59).seq (xa.mono fun b _ h => by omega)
  · have d3 : decide ((i : Int) < (L.length : Int)) = false := by simp; omega
    obtain rfl : i = L.length := by omega
    rw [List.take_of_length_le (Nat.le_refl _)] at os5
    obtain ⟨sa, sc, rfl, hra⟩ := uE.rta os5
    have q5 := kM (off := 0) o5 (by simp)
    simp only [List.drop_zero, List.take_succ_cons, List.take_zero] at q5
    unfold uA
    simp (disch := omega) only [cO, gY, aF, dO, fB, fL, fX, fW, fY, gF, iP, gK, eD, fT, gC, fR, fQ, eY, gH, fJ, fZ, gI, gO, gD, eP, gP, gG, gB, lE, lC, lL, lJ, lK, lV, lU, lW, lT, cX, Result.ok.injEq, Next.value.injEq, true_and, and_true, eL, fU, gL, gN, gM, iK, Int.toNat_natCast, fK, fD, fM, eZ, dZ, dV, eU, eC, dA, cQ, if_true, if_false, Bool.false_eq_true, Nat.zero_add, Option.isNone_some, Option.isNone_none, Bool.not_true, Bool.not_false, List.getElem?_cons_succ, List.getElem?_cons_zero, cS, aZ, bU, bV, bT, bC, eA, dG, dH, dC, aW, eI, bR, aJ, dF, dI, dJ, dD, bL, bN, cB, bA, cF, cG, bF, cJ, cL, cZ, cK, cD, cH, cC, dR, bW, cU, dT, bS, cV, aY, cI, dQ, bH, aO, aI, aP, aK, aM, aT, aE, cM, bG, cY, bP, bY, cP, aQ, aV, aU, aX, aR, aD, aB, aC, dB, aH, aG, bM, bB, bK, dE, bE, bZ, bD, bQ, bO, aL, dS, aS, dM, dL, aN, bX, cA, dN, eS, k1, d3, q5]
    refine kE (o2.ext x5 (by omega)) rfl (by simp [one]) (by simp) fun w6 o6 x6 s6 => ?_
    refine mY o6 (by simp [fV]) ?_
    simp only [fV, List.set_cons_zero, List.set_cons_succ, List.drop_zero, List.take_succ_cons, List.take_zero]
    refine ⟨_, _, rfl, ?_, x05.new x6 (by omega)⟩
    rcases hra with h | ⟨b, rest, h1, h2⟩
    · exact .inl h
    · rcases os5.2 with ⟨e, _⟩ | ⟨b', c', rest', e, hb', q, _⟩
      · simp only [Value.slice.injEq] at e
        rw [e.1] at h1; cases h1
      · simp only [Value.slice.injEq] at e
        rw [e.1] at h1; cases h1
        rw [e.1]
        exact .inr ⟨_, rest, rfl, h2.ext x6 (by omega)⟩
end Go.Proofs.YtoepfjgekpdddaaDoor
namespace Go.Proofs.YtoepfjgekpdddaaDoor
open Go Go.En Go.Pu
set_option maxRecDepth 4000
set_option linter.unusedSimpArgs false
set_option linter.unusedVariables false
theorem GW.tbl {w : World} {base : Nat} {T : Nat × List T3} {v : Value} (h : GW w base T v) (hne : T.2 ≠ []) : ∃ b, Ym w base b T.1 T.2 v := by
  rcases h with ⟨rfl, _⟩ | h
  · exact absurd rfl hne
  · exact h
theorem Wj {w : World} (hg : Gh w) : hJ pg A1 #[] w (fun r w' => r = .bool true ∧ gS w w' jR) := by
  refine PY ?_
  unfold Qw DZ DY
  refine Bv (cells := #[.int .u8 7]) (by decide) (by decide) (by kernel_rfl) fun w1 o1 x1 s1 => ?_
  have hb : Bs w1 (.slice (some ⟨w.heap.size, 0, none⟩) 1 1) [7] := jL.whole (l := [7]) (c := 1) o1 (by simp)
  have hE : kU 0 1 [7] (0, []) = .ok ((0, [(7, 0, 0)]), 1) := by rfl
  simp (disch := omega) only [cO, gY, aF, dO, fB, fL, fX, fW, fY, gF, iP, gK, eD, fT, gC, fR, fQ, eY, gH, fJ, fZ, gI, gO, gD, eP, gP, gG, gB, lE, lC, lL, lJ, lK, lV, lU, lW, lT, cX, Result.ok.injEq, Next.value.injEq, true_and, and_true, eL, fU, gL, gN, gM, iK, Int.toNat_natCast, fK, fD, fM, eZ, dZ, dV, eU, eC, dA, cQ, if_true, if_false, Bool.false_eq_true, Nat.zero_add, Option.isNone_some, Option.isNone_none, Bool.not_true, Bool.not_false, List.getElem?_cons_succ, List.getElem?_cons_zero, cS, aZ, bU, bV, bT, bC, eA, dG, dH, dC, aW, eI, bR, aJ, dF, dI, dJ, dD, bL, bN, cB, bA, cF, cG, bF, cJ, cL, cZ, cK, cD, cH, cC, dR, bW, cU, dT, bS, cV, aY, cI, dQ, bH, aO, aI, aP, aK, aM, aT, aE, cM, bG, cY, bP, bY, cP, aQ, aV, aU, aX, aR, aD, aB, aC, dB, aH, aG, bM, bB, bK, dE, bE, bZ, bD, bQ, bO, aL, dS, aS, dM, dL, aN, bX, cA, dN, eS]
  refine (Yw (a := 0) (mode := 1) (l := [7]) (T := (0, [])) (base := w.heap.size) (hg.ext x1) hb (by omega) (GW.nil _ _) (by omega) (by simp) (by simp)).mono ?_
  rintro r w2 ⟨hr, x2⟩
  rw [hE] at hr
  obtain ⟨t, rfl, ht⟩ := hr
  obtain ⟨b, ht, hb1, ob⟩ := ht.tbl (by simp)
  subst ht
  have lb := ob.lt
  have z1 := x1.size
  have z2 := x2.size
  simp (disch := omega) only [cO, gY, aF, dO, fB, fL, fX, fW, fY, gF, iP, gK, eD, fT, gC, fR, fQ, eY, gH, fJ, fZ, gI, gO, gD, eP, gP, gG, gB, lE, lC, lL, lJ, lK, lV, lU, lW, lT, cX, Result.ok.injEq, Next.value.injEq, true_and, and_true, eL, fU, gL, gN, gM, iK, Int.toNat_natCast, fK, fD, fM, eZ, dZ, dV, eU, eC, dA, cQ, if_true, if_false, Bool.false_eq_true, Nat.zero_add, Option.isNone_some, Option.isNone_none, Bool.not_true, Bool.not_false, List.getElem?_cons_succ, List.getElem?_cons_zero, cS, aZ, bU, bV, bT, bC, eA, dG, dH, dC, aW, eI, bR, aJ, dF, dI, dJ, dD, bL, bN, cB, bA, cF, cG, bF, cJ, cL, cZ, cK, cD, cH, cC, dR, bW, cU, dT, bS, cV, aY, cI, dQ, bH, aO, aI, aP, aK, aM, aT, aE, cM, bG, cY, bP, bY, cP, aQ, aV, aU, aX, aR, aD, aB, aC, dB, aH, aG, bM, bB, bK, dE, bE, bZ, bD, bQ, bO, aL, dS, aS, dM, dL, aN, bX, cA, dN, eS]
  refine kR fun w3 o3 x3 s3 => ?_
  refine jM o3 rfl (by simp [one]) (by simp) fun w4 o4 x4 s4 => ?_
  simp only [fV, List.set_cons_zero, List.set_cons_succ] at o4
  have x24 : gS w2 w4 jR := x3.new x4 (Nat.le_refl _)
  have x04 := (x1.seq x2).seq x24
  have z4 := x24.size
  have ob4 := (ob.ext x3 (fun h => h)).ext x4 (by omega)
  refine (PM (a := 2) (hg.ext x04)).mono ?_
  rintro r w5 ⟨t, e, rfl, ht, x5⟩
  obtain ⟨⟨b5, ht, hb5, ob5⟩, rfl⟩ : (∃ b, Ym w5 w4.heap.size b (LX 2) (mD (LX 2) (RE 2)) t) ∧ e = 0 := ht
  subst ht
  have z5 := x5.size
  simp (disch := omega) only [cO, gY, aF, dO, fB, fL, fX, fW, fY, gF, iP, gK, eD, fT, gC, fR, fQ, eY, gH, fJ, fZ, gI, gO, gD, eP, gP, gG, gB, lE, lC, lL, lJ, lK, lV, lU, lW, lT, cX, Result.ok.injEq, Next.value.injEq, true_and, and_true, eL, fU, gL, gN, gM, iK, Int.toNat_natCast, fK, fD, fM, eZ, dZ, dV, eU, eC, dA, cQ, if_true, if_false, Bool.false_eq_true, Nat.zero_add, Option.isNone_some, Option.isNone_none, Bool.not_true, Bool.not_false, List.getElem?_cons_succ, List.getElem?_cons_zero, cS, aZ, bU, bV, bT, bC, eA, dG, dH, dC, aW, eI, bR, aJ, dF, dI, dJ, dD, bL, bN, cB, bA, cF, cG, bF, cJ, cL, cZ, cK, cD, cH, cC, dR, bW, cU, dT, bS, cV, aY, cI, dQ, bH, aO, aI, aP, aK, aM, aT, aE, cM, bG, cY, bP, bY, cP, aQ, aV, aU, aX, aR, aD, aB, aC, dB, aH, aG, bM, bB, bK, dE, bE, bZ, bD, bQ, bO, aL, dS, aS, dM, dL, aN, bX, cA, dN, eS]
  refine kR fun w6 o6 x6 s6 => ?_
  refine jM o6 rfl (by simp [one]) (by simp) fun w7 o7 x7 s7 => ?_
  simp only [fV, List.set_cons_zero, List.set_cons_succ] at o7
  have x57 : gS w5 w7 jR := x6.new x7 (Nat.le_refl _)
  have z7 := x57.size
  refine (PM (a := 3) (hg.ext ((x04.seq x5).seq x57))).mono ?_
  rintro r w8 ⟨t, e, rfl, ht, x8⟩
  obtain ⟨rfl, rfl⟩ : t = .agg #[.int .i64 0, .slice none 0 0] ∧ e = 1 := ht
  have z8 := x8.size
  simp (disch := omega) only [cO, gY, aF, dO, fB, fL, fX, fW, fY, gF, iP, gK, eD, fT, gC, fR, fQ, eY, gH, fJ, fZ, gI, gO, gD, eP, gP, gG, gB, lE, lC, lL, lJ, lK, lV, lU, lW, lT, cX, Result.ok.injEq, Next.value.injEq, true_and, and_true, eL, fU, gL, gN, gM, iK, Int.toNat_natCast, fK, fD, fM, eZ, dZ, dV, eU, eC, dA, cQ, if_true, if_false, Bool.false_eq_true, Nat.zero_add, Option.isNone_some, Option.isNone_none, Bool.not_true, Bool.not_false, List.getElem?_cons_succ, List.getElem?_cons_zero, cS, aZ, bU, bV, bT, bC, eA, dG, dH, dC, aW, eI, bR, aJ, dF, dI, dJ, dD, bL, bN, cB, bA, cF, cG, bF, cJ, cL, cZ, cK, cD, cH, cC, dR, bW, cU, dT, bS, cV, aY, cI, dQ, bH, aO, aI, aP, aK, aM, aT, aE, cM, bG, cY, bP, bY, cP, aQ, aV, aU, aX, aR, aD, aB, aC, dB, aH, aG, bM, bB, bK, dE, bE, bZ, bD, bQ, bO, aL, dS, aS, dM, dL, aN, bX, cA, dN, eS]
  refine kR fun w9 o9 x9 s9 => ?_
  refine jM o9 rfl (by simp [one]) (by simp) fun wa oa xa sa => ?_
  have x8a : gS w8 wa jR := x9.new xa (Nat.le_refl _)
  have x4a : gS w4 wa jR := ((x5.seq x57).seq x8).seq x8a
  have c1 := (o4.ext x4a (fun h => h)).cell (off := 1)
  have c2 := ((o7.ext x8 (fun h => h)).ext x8a (fun h => h)).cell (off := 1)
  have c3 := (ob4.ext x4a (fun h => h)).cell (off := 0)
  simp only [List.getElem?_cons_zero, List.getElem?_cons_succ, fe] at c1 c2 c3
  have hlen : (mD (LX 2) (RE 2)).length = 64 := by rw [mO] <;> rfl
  have n1 : (((([(7, 0, 0)] : List T3).length : Nat) : Int) == 1) = true := rfl
  have n1' : ((((1 : Nat)) : Int) == 1) = true := rfl
  have n2 : ((7 : Int) == 7) = true := rfl
  have n3 : ((1 : Int) == 1) = true := rfl
  have n4 : ((0 : Int) == 0) = true := rfl
  have n5 : ((((mD (LX 2) (RE 2)).length : Nat) : Int) == 64) = true := by rw [hlen] <;> rfl
  have n6 : (xE 1 == 8) = true := rfl
  have n7 : (xE 7 == 0) = true := rfl
  have t0 : (0 : Int).toNat = 0 := rfl
  have hl1 : (([(7, 0, 0)] : List T3).length) = 1 := rfl
  unfold xF Di zC
  simp (disch := omega) only [cO, gY, aF, dO, fB, fL, fX, fW, fY, gF, iP, gK, eD, fT, gC, fR, fQ, eY, gH, fJ, fZ, gI, gO, gD, eP, gP, gG, gB, lE, lC, lL, lJ, lK, lV, lU, lW, lT, cX, Result.ok.injEq, Next.value.injEq, true_and, and_true, eL, fU, gL, gN, gM, iK, Int.toNat_natCast, fK, fD, fM, eZ, dZ, dV, eU, eC, dA, cQ, if_true, if_false, Bool.false_eq_true, Nat.zero_add, Option.isNone_some, Option.isNone_none, Bool.not_true, Bool.not_false, List.getElem?_cons_succ, List.getElem?_cons_zero, cS, aZ, bU, bV, bT, bC, eA, dG, dH, dC, aW, eI, bR, aJ, dF, dI, dJ, dD, bL, bN, cB, bA, cF, cG, bF, cJ, cL, cZ, cK, cD, cH, cC, dR, bW, cU, dT, bS, cV, aY, cI, dQ, bH, aO, aI, aP, aK, aM, aT, aE, cM, bG, cY, bP, bY, cP, aQ, aV, aU, aX, aR, aD, aB, aC, dB, aH, aG, bM, bB, bK, dE, bE, bZ, bD, bQ, bO, aL, dS, aS, dM, dL, aN, bX, cA, dN, eS, c1, c2, c3, t0, hl1, Nat.zero_mul, n1, n1', n2, n3, n4, n5]
  refine (Pp 1 _).mono ?_
  rintro r wb ⟨rfl, hw⟩
  rw [hw]
  clear hw wb
  simp (disch := omega) only [cO, gY, aF, dO, fB, fL, fX, fW, fY, gF, iP, gK, eD, fT, gC, fR, fQ, eY, gH, fJ, fZ, gI, gO, gD, eP, gP, gG, gB, lE, lC, lL, lJ, lK, lV, lU, lW, lT, cX, Result.ok.injEq, Next.value.injEq, true_and, and_true, eL, fU, gL, gN, gM, iK, Int.toNat_natCast, fK, fD, fM, eZ, dZ, dV, eU, eC, dA, cQ, if_true, if_false, Bool.false_eq_true, Nat.zero_add, Option.isNone_some, Option.isNone_none, Bool.not_true, Bool.not_false, List.getElem?_cons_succ, List.getElem?_cons_zero, cS, aZ, bU, bV, bT, bC, eA, dG, dH, dC, aW, eI, bR, aJ, dF, dI, dJ, dD, bL, bN, cB, bA, cF, cG, bF, cJ, cL, cZ, cK, cD, cH, cC, dR, bW, cU, dT, bS, cV, aY, cI, dQ, bH, aO, aI, aP, aK, aM, aT, aE, cM, bG, cY, bP, bY, cP, aQ, aV, aU, aX, aR, aD, aB, aC, dB, aH, aG, bM, bB, bK, dE, bE, bZ, bD, bQ, bO, aL, dS, aS, dM, dL, aN, bX, cA, dN, eS, n6]
  refine (Pp 7 _).mono ?_
  rintro r wb ⟨rfl, hw⟩
  rw [hw]
  clear hw wb
  simp (disch := omega) only [cO, gY, aF, dO, fB, fL, fX, fW, fY, gF, iP, gK, eD, fT, gC, fR, fQ, eY, gH, fJ, fZ, gI, gO, gD, eP, gP, gG, gB, lE, lC, lL, lJ, lK, lV, lU, lW, lT, cX, Result.ok.injEq, Next.value.injEq, true_and, and_true, eL, fU, gL, gN, gM, iK, Int.toNat_natCast, fK, fD, fM, eZ, dZ, dV, eU, eC, dA, cQ, if_true, if_false, Bool.false_eq_true, Nat.zero_add, Option.isNone_some, Option.isNone_none, Bool.not_true, Bool.not_false, List.getElem?_cons_succ, List.getElem?_cons_zero, cS, aZ, bU, bV, bT, bC, eA, dG, dH, dC, aW, eI, bR, aJ, dF, dI, dJ, dD, bL, bN, cB, bA, cF, cG, bF, cJ, cL, cZ, cK, cD, cH, cC, dR, bW, cU, dT, bS, cV, aY, cI, dQ, bH, aO, aI, aP, aK, aM, aT, aE, cM, bG, cY, bP, bY, cP, aQ, aV, aU, aX, aR, aD, aB, aC, dB, aH, aG, bM, bB, bK, dE, bE, bZ, bD, bQ, bO, aL, dS, aS, dM, dL, aN, bX, cA, dN, eS, n7]
  exact x04.seq x4a
end Go.Proofs.YtoepfjgekpdddaaDoor
namespace Go.Proofs.YtoepfjgekpdddaaDoor
open Go Go.En Go.Pu
set_option maxRecDepth 4000
set_option linter.unusedSimpArgs false
set_option linter.unusedVariables false
theorem WU {log : Nat} {ps : List Int} (hm : Jo log ps) : ∀ e ∈ mD log ps, 0 ≤ e.1 ∧ e.1 < 256 := by
  intro e he
  obtain ⟨i, hi, rfl⟩ := List.getElem_of_mem he
  have h2 : i < 2 ^ log := by rw [mO] at hi; exact hi
  rw [RY log ps h2]
  obtain ⟨s, hs, e, _⟩ := VJ hm (GJ hm 0) h2
  have := hm.len256
  rw [e]; omega
end Go.Proofs.YtoepfjgekpdddaaDoor
namespace Go.Proofs.YtoepfjgekpdddaaDoor
open Go Go.En Go.Pu
set_option maxRecDepth 4000
set_option linter.unusedSimpArgs false
set_option linter.unusedVariables false
theorem Ug {α : Type} {P : α → Bool} {l : List α} {i : Nat} (h : i < l.length) : (l.take (i + 1)).all P = ((l.take i).all P && P l[i]) := by
  rw [List.take_add_one, List.getElem?_eq_getElem h, List.all_append]; simp
theorem W7 {L : List T3} {s : Int} {i : Nat} (h : i < L.length) : ((L.take (i + 1)).any fun e => e.1 == s) = (((L.take i).any fun e => e.1 == s) || (L[i].1 == s)) := by
  rw [List.take_add_one, List.getElem?_eq_getElem h, List.any_append]; simp
theorem VN {l : List Int} {l0 : Int} {n : Nat} {m0 : Bool} {lv kv tv mo bv ev : Value} {w : World} (hs : Sl w lv (l.map (Value.int .i64))) (h0 : l.head? = some l0 ∨ l = []) (hn : n ≤ 1000) (hlen : l.length ≤ 1000000) {kn : Value → Value → Value → Value → Value → Value → Value → Value → World → Prop}
    (hK : ∀ w', gS w w' jR → kn kv lv tv mo bv ev (.bool (m0 && l.all fun x => decide (0 ≤ x) && decide (x < ((n : Nat) : Int)))) (.bool (l.all fun x => x == l0)) w') :
    nO kn kv lv tv mo bv ev (.int .i64 n) (.bool m0) (.bool true) w := by
  obtain ⟨Mf, hMf⟩ : ∃ Mf : Nat → Bool, Mf = fun j => m0 && (l.take j).all fun x => decide (0 ≤ x) && decide (x < ((n : Nat) : Int)) := ⟨_, rfl⟩
  obtain ⟨Of, hOf⟩ : ∃ Of : Nat → Bool, Of = fun j => (l.take j).all fun x => x == l0 := ⟨_, rfl⟩
  have hM0 : Mf 0 = m0 := by rw [hMf]; simp
  have hO0 : Of 0 = true := by rw [hOf]; simp
  have hM1 : Mf l.length = (m0 && l.all fun x => decide (0 ≤ x) && decide (x < ((n : Nat) : Int))) := by rw [hMf]; simp
  have hO1 : Of l.length = (l.all fun x => x == l0) := by rw [hOf]; simp
  have sM : ∀ i (h : i < l.length), Mf (i + 1) = (Mf i && (decide (0 ≤ l[i]) && decide (l[i] < ((n : Nat) : Int)))) := fun i h => by
    rw [hMf]; show (m0 && _) = ((m0 && _) && _); rw [Ug h, Bool.and_assoc]
  have sO : ∀ i (h : i < l.length), Of (i + 1) = (Of i && (l[i] == l0)) := fun i h => by
    rw [hOf]; exact Ug h
  rw [← hM1, ← hO1] at hK
  clear hM1 hO1 hMf hOf
  unfold nO qM nU qI
  obtain ⟨la, lc, rfl, _⟩ := hs.lenI
  refine iY.rule (fun m (t : Value × Value × Value) w' => ∃ i : Nat, m = l.length - i ∧ t = (.bool (Mf i), .bool (Of i), .int .i64 i) ∧ i ≤ l.length ∧ gS w w' jR) l.length ⟨0, rfl, by rw [hM0, hO0] <;> rfl, by omega, gS.refl _ _⟩ ?_
  rintro m t w1 ⟨i, rfl, rfl, hi, x1⟩
  unfold nQ
  by_cases hlt : i < l.length
  · have d1 : decide ((i : Int) < (l.length : Int)) = true := by simp; omega
    obtain ⟨b, off, rfl, hcell⟩ := YH (hs.ext x1 (iQ _)) (by omega)
    have g1 := hcell i hlt
    have g0 := hcell 0 (by omega)
    have hl0 : l[0]? = some l0 := by
      rcases h0 with h | h
      · rw [← List.head?_eq_getElem?]; exact h
      · rw [h] at hlt; simp at hlt
    rw [List.getElem?_map, List.getElem?_eq_getElem hlt] at g1
    rw [List.getElem?_map, hl0] at g0
    simp only [Option.map_some, Nat.add_zero] at g0 g1
    have t0 : (0 : Int).toNat = 0 := rfl
    have hpos : (0 : Int) < (l.length : Nat) := by omega
    have sM := sM i hlt
    have sO := sO i hlt
    generalize l[i] = x at *
    have g1d : (dr w1).cell? ⟨b, off + i, none⟩ = some (.int .i64 x) := g1
    have g0d : (dr w1).cell? ⟨b, off, none⟩ = some (.int .i64 l0) := g0
    obtain ⟨A, hA⟩ : ∃ A, decide (0 ≤ x) = A := ⟨_, rfl⟩
    obtain ⟨B, hB⟩ : ∃ A, decide (x < ((n : Nat) : Int)) = A := ⟨_, rfl⟩
    obtain ⟨E, hE⟩ : ∃ A, (x == l0) = A := ⟨_, rfl⟩
    rw [hA, hB] at sM
    rw [hE] at sO
    generalize hM' : Mf i = M at *
    generalize hO' : Of i = O at *
    have x1d : gS w (dr w1) jR := x1.seq (gS.dr _ _)
    cases A <;> cases B <;> cases E <;> cases M <;> cases O <;>
      (simp (disch := omega) only [cO, gY, aF, dO, fB, fL, fX, fW, fY, gF, iP, gK, eD, fT, gC, fR, fQ, eY, gH, fJ, fZ, gI, gO, gD, eP, gP, gG, gB, lE, lC, lL, lJ, lK, lV, lU, lW, lT, cX, Result.ok.injEq, Next.value.injEq, true_and, and_true, eL, fU, gL, gN, gM, iK, Int.toNat_natCast, fK, fD, fM, eZ, dZ, dV, eU, eC, dA, cQ, if_true, if_false, Bool.false_eq_true, Nat.zero_add, Option.isNone_some, Option.isNone_none, Bool.not_true, Bool.not_false, List.getElem?_cons_succ, List.getElem?_cons_zero, cS, aZ, bU, bV, bT, bC, eA, dG, dH, dC, aW, eI, bR, aJ, dF, dI, dJ, dD, bL, bN, cB, bA, cF, cG, bF, cJ, cL, cZ, cK, cD, cH, cC, dR, bW, cU, dT, bS, cV, aY, cI, dQ, bH, aO, aI, aP, aK, aM, aT, aE, cM, bG, cY, bP, bY, cP, aQ, aV, aU, aX, aR, aD, aB, aC, dB, aH, aG, bM, bB, bK, dE, bE, bZ, bD, bQ, bO, aL, dS, aS, dM, dL, aN, bX, cA, dN, eS, d1, g0, g1, g0d, g1d, t0, Nat.add_zero, hpos, hA, hB, hE]
       exact ⟨l.length - (i + 1), by omega, i + 1, rfl, by rw [sM, sO] <;> rfl, by omega, by first | exact x1 | exact x1d⟩)
  · have d1 : decide ((i : Int) < (l.length : Int)) = false := by simp; omega
    obtain rfl : i = l.length := by omega
    simp (disch := omega) only [cO, gY, aF, dO, fB, fL, fX, fW, fY, gF, iP, gK, eD, fT, gC, fR, fQ, eY, gH, fJ, fZ, gI, gO, gD, eP, gP, gG, gB, lE, lC, lL, lJ, lK, lV, lU, lW, lT, cX, Result.ok.injEq, Next.value.injEq, true_and, and_true, eL, fU, gL, gN, gM, iK, Int.toNat_natCast, fK, fD, fM, eZ, dZ, dV, eU, eC, dA, cQ, if_true, if_false, Bool.false_eq_true, Nat.zero_add, Option.isNone_some, Option.isNone_none, Bool.not_true, Bool.not_false, List.getElem?_cons_succ, List.getElem?_cons_zero, cS, aZ, bU, bV, bT, bC, eA, dG, dH, dC, aW, eI, bR, aJ, dF, dI, dJ, dD, bL, bN, cB, bA, cF, cG, bF, cJ, cL, cZ, cK, cD, cH, cC, dR, bW, cU, dT, bS, cV, aY, cI, dQ, bH, aO, aI, aP, aK, aM, aT, aE, cM, bG, cY, bP, bY, cP, aQ, aV, aU, aX, aR, aD, aB, aC, dB, aH, aG, bM, bB, bK, dE, bE, bZ, bD, bQ, bO, aL, dS, aS, dM, dL, aN, bX, cA, dN, eS, d1]
    exact hK w1 x1
end Go.Proofs.YtoepfjgekpdddaaDoor
namespace Go.Proofs.YtoepfjgekpdddaaDoor
open Go Go.En Go.Pu
set_option maxRecDepth 4000
set_option linter.unusedSimpArgs false
set_option linter.unusedVariables false
theorem XK {p b log : Nat} {L : List T3} {lb off lc n i : Nat} {x : Int} {w w0 : World} (hl : L.length ≤ 1000000) (hsy : ∀ e ∈ L, 0 ≤ e.1 ∧ e.1 < 256) (o : jL w p [.int .i64 log, .slice (some ⟨b, 0, none⟩) L.length L.length]) (ob : jL w b (fe .u8 L))
    (hx : gS w0 w jR) (hi : i < n) (hcell : ∀ w', gS w0 w' jR → w'.cell? ⟨lb, off + i, none⟩ = some (.int .i64 x)) {kn : Value → Value → Value → Value → World → Prop}
    (hK : ∀ w', gS w0 w' jR → gS w w' jR → kn (.slice (some ⟨lb, off, none⟩) n lc) (.pointer (some ⟨p, 0, none⟩)) (.int .i64 i) (.bool (L.any fun e => e.1 == x)) w') :
    oS kn (.slice (some ⟨lb, off, none⟩) n lc) (.pointer (some ⟨p, 0, none⟩)) (.int .i64 i) (.bool false) w := by
  unfold oS rO oP rN
  refine iY.rule (fun m (t : Value × Value) w' => ∃ j : Nat, m = L.length - j ∧ t = (.bool ((L.take j).any fun e => e.1 == x), .int .i64 j) ∧ j ≤ L.length ∧ gS w w' jR) L.length ⟨0, rfl, rfl, by omega, gS.refl _ _⟩ ?_
  rintro m t w1 ⟨j, rfl, rfl, hj, x1⟩
  unfold oZ
  have c1 := (o.ext x1 (fun h => h)).cell (off := 1)
  simp only [List.getElem?_cons_zero, List.getElem?_cons_succ] at c1
  have x01 := hx.seq x1
  by_cases hlt : j < L.length
  · have d3 : decide ((j : Int) < (L.length : Int)) = true := by simp; omega
    have q1 := (ob.ext x1 (fun h => h)).cell (off := j * 3)
    rw [(O1 .u8 L j hlt).1] at q1
    have hst := W7 (s := x) hlt
    have hs1 := hsy _ (List.getElem_mem hlt)
    generalize L[j] = e at *
    have we : IntKind.i64.wrap e.1 = e.1 := eL (by omega) (by omega)
    have q1d : (dr w1).cell? ⟨b, j * 3, none⟩ = some (.int .u8 e.1) := q1
    have c1d : (dr w1).cell? ⟨p, 1, none⟩ = some (.slice (some ⟨b, 0, none⟩) L.length L.length) := c1
    have f1 := hcell w1 x01
    have f1d : (dr w1).cell? ⟨lb, off + i, none⟩ = some (.int .i64 x) := f1
    have x1d : gS w (dr w1) jR := x1.seq (gS.dr _ _)
    cases hh : (L.take j).any fun e => e.1 == x with
    | true =>
      rw [hh] at hst
      simp (disch := omega) only [cO, gY, aF, dO, fB, fL, fX, fW, fY, gF, iP, gK, eD, fT, gC, fR, fQ, eY, gH, fJ, fZ, gI, gO, gD, eP, gP, gG, gB, lE, lC, lL, lJ, lK, lV, lU, lW, lT, cX, Result.ok.injEq, Next.value.injEq, true_and, and_true, eL, fU, gL, gN, gM, iK, Int.toNat_natCast, fK, fD, fM, eZ, dZ, dV, eU, eC, dA, cQ, if_true, if_false, Bool.false_eq_true, Nat.zero_add, Option.isNone_some, Option.isNone_none, Bool.not_true, Bool.not_false, List.getElem?_cons_succ, List.getElem?_cons_zero, cS, aZ, bU, bV, bT, bC, eA, dG, dH, dC, aW, eI, bR, aJ, dF, dI, dJ, dD, bL, bN, cB, bA, cF, cG, bF, cJ, cL, cZ, cK, cD, cH, cC, dR, bW, cU, dT, bS, cV, aY, cI, dQ, bH, aO, aI, aP, aK, aM, aT, aE, cM, bG, cY, bP, bY, cP, aQ, aV, aU, aX, aR, aD, aB, aC, dB, aH, aG, bM, bB, bK, dE, bE, bZ, bD, bQ, bO, aL, dS, aS, dM, dL, aN, bX, cA, dN, eS, c1, d3, hh]
      exact ⟨L.length - (j + 1), by omega, j + 1, rfl, by rw [hst] <;> rfl, by omega, by first | exact x1 | exact x1d⟩
    | false =>
      rw [hh] at hst
      simp (disch := omega) only [cO, gY, aF, dO, fB, fL, fX, fW, fY, gF, iP, gK, eD, fT, gC, fR, fQ, eY, gH, fJ, fZ, gI, gO, gD, eP, gP, gG, gB, lE, lC, lL, lJ, lK, lV, lU, lW, lT, cX, Result.ok.injEq, Next.value.injEq, true_and, and_true, eL, fU, gL, gN, gM, iK, Int.toNat_natCast, fK, fD, fM, eZ, dZ, dV, eU, eC, dA, cQ, if_true, if_false, Bool.false_eq_true, Nat.zero_add, Option.isNone_some, Option.isNone_none, Bool.not_true, Bool.not_false, List.getElem?_cons_succ, List.getElem?_cons_zero, cS, aZ, bU, bV, bT, bC, eA, dG, dH, dC, aW, eI, bR, aJ, dF, dI, dJ, dD, bL, bN, cB, bA, cF, cG, bF, cJ, cL, cZ, cK, cD, cH, cC, dR, bW, cU, dT, bS, cV, aY, cI, dQ, bH, aO, aI, aP, aK, aM, aT, aE, cM, bG, cY, bP, bY, cP, aQ, aV, aU, aX, aR, aD, aB, aC, dB, aH, aG, bM, bB, bK, dE, bE, bZ, bD, bQ, bO, aL, dS, aS, dM, dL, aN, bX, cA, dN, eS, c1, d3, q1, q1d, c1d, f1, f1d, we, hh]
      exact ⟨L.length - (j + 1), by omega, j + 1, rfl, by rw [hst] <;> rfl, by omega, by first | exact x1 | exact x1d⟩
  · have d3 : decide ((j : Int) < (L.length : Int)) = false := by simp; omega
    obtain rfl : j = L.length := by omega
    rw [List.take_of_length_le (Nat.le_refl _)]
    simp (disch := omega) only [cO, gY, aF, dO, fB, fL, fX, fW, fY, gF, iP, gK, eD, fT, gC, fR, fQ, eY, gH, fJ, fZ, gI, gO, gD, eP, gP, gG, gB, lE, lC, lL, lJ, lK, lV, lU, lW, lT, cX, Result.ok.injEq, Next.value.injEq, true_and, and_true, eL, fU, gL, gN, gM, iK, Int.toNat_natCast, fK, fD, fM, eZ, dZ, dV, eU, eC, dA, cQ, if_true, if_false, Bool.false_eq_true, Nat.zero_add, Option.isNone_some, Option.isNone_none, Bool.not_true, Bool.not_false, List.getElem?_cons_succ, List.getElem?_cons_zero, cS, aZ, bU, bV, bT, bC, eA, dG, dH, dC, aW, eI, bR, aJ, dF, dI, dJ, dD, bL, bN, cB, bA, cF, cG, bF, cJ, cL, cZ, cK, cD, cH, cC, dR, bW, cU, dT, bS, cV, aY, cI, dQ, bH, aO, aI, aP, aK, aM, aT, aE, cM, bG, cY, bP, bY, cP, aQ, aV, aU, aX, aR, aD, aB, aC, dB, aH, aG, bM, bB, bK, dE, bE, bZ, bD, bQ, bO, aL, dS, aS, dM, dL, aN, bX, cA, dN, eS, c1, d3]
    exact hK w1 x01 x1
theorem SH.sy {a : Int} {l : List Int} {mode : Int} {lg : Nat} {L : List T3} {bytes : List UInt8} (h : SH a l mode lg L bytes) : (∀ e ∈ L, 0 ≤ e.1 ∧ e.1 < 256) ∧ L ≠ [] := by
  rcases h.tab with ⟨ps, hm, rfl⟩ | ⟨c, h1, h2, rfl, rfl⟩
  · refine ⟨WU hm, fun e => ?_⟩
    have h2 := congrArg List.length e
    rw [mO, List.length_nil] at h2
    have := Nat.two_pow_pos lg
    omega
  · refine ⟨fun e he => ?_, by simp⟩
    rw [List.mem_singleton.1 he]
    exact ⟨h1, by show c < 256; omega⟩
theorem RO {a : Int} {lv : Value} {l : List Int} {w : World} (hg : Gh w) (hs : Sl w lv (l.map (Value.int .i64))) (hl : l.length ≤ 9223372036854775807) :
    hJ pg sH #[.int .i64 a, lv] w (fun r w' => r = .bool true ∧ gS w w' jR) := by
  refine Gp ?_
  obtain ⟨RR, hRR⟩ : ∃ RR : Value → World → Prop, RR = fun r w' => r = .bool true ∧ gS w w' jR := ⟨_, rfl⟩
  rw [← hRR]
  have hR : ∀ w', gS w w' jR → RR (.bool true) w' := fun w' x => by rw [hRR]; exact ⟨rfl, x⟩
  unfold DF qH qL
  have hs0 := hs
  obtain ⟨la, lc, rfl, _⟩ := hs.lenI
  refine (Wj hg).mono ?_
  rintro r w1 ⟨rfl, x1⟩
  by_cases h300 : 300 < l.length
  · have d1 : decide ((300 : Int) < (l.length : Int)) = true := by simp; omega
    simp (disch := omega) only [cO, gY, aF, dO, fB, fL, fX, fW, fY, gF, iP, gK, eD, fT, gC, fR, fQ, eY, gH, fJ, fZ, gI, gO, gD, eP, gP, gG, gB, lE, lC, lL, lJ, lK, lV, lU, lW, lT, cX, Result.ok.injEq, Next.value.injEq, true_and, and_true, eL, fU, gL, gN, gM, iK, Int.toNat_natCast, fK, fD, fM, eZ, dZ, dV, eU, eC, dA, cQ, if_true, if_false, Bool.false_eq_true, Nat.zero_add, Option.isNone_some, Option.isNone_none, Bool.not_true, Bool.not_false, List.getElem?_cons_succ, List.getElem?_cons_zero, cS, aZ, bU, bV, bT, bC, eA, dG, dH, dC, aW, eI, bR, aJ, dF, dI, dJ, dD, bL, bN, cB, bA, cF, cG, bF, cJ, cL, cZ, cK, cD, cH, cC, dR, bW, cU, dT, bS, cV, aY, cI, dQ, bH, aO, aI, aP, aK, aM, aT, aE, cM, bG, cY, bP, bY, cP, aQ, aV, aU, aX, aR, aD, aB, aC, dB, aH, aG, bM, bB, bK, dE, bE, bZ, bD, bQ, bO, aL, dS, aS, dM, dL, aN, bX, cA, dN, eS, d1]
    exact hR _ x1
  have d1 : decide ((300 : Int) < (l.length : Int)) = false := by simp; omega
  simp (disch := omega) only [cO, gY, aF, dO, fB, fL, fX, fW, fY, gF, iP, gK, eD, fT, gC, fR, fQ, eY, gH, fJ, fZ, gI, gO, gD, eP, gP, gG, gB, lE, lC, lL, lJ, lK, lV, lU, lW, lT, cX, Result.ok.injEq, Next.value.injEq, true_and, and_true, eL, fU, gL, gN, gM, iK, Int.toNat_natCast, fK, fD, fM, eZ, dZ, dV, eU, eC, dA, cQ, if_true, if_false, Bool.false_eq_true, Nat.zero_add, Option.isNone_some, Option.isNone_none, Bool.not_true, Bool.not_false, List.getElem?_cons_succ, List.getElem?_cons_zero, cS, aZ, bU, bV, bT, bC, eA, dG, dH, dC, aW, eI, bR, aJ, dF, dI, dJ, dD, bL, bN, cB, bA, cF, cG, bF, cJ, cL, cZ, cK, cD, cH, cC, dR, bW, cU, dT, bS, cV, aY, cI, dQ, bH, aO, aI, aP, aK, aM, aT, aE, cM, bG, cY, bP, bY, cP, aQ, aV, aU, aX, aR, aD, aB, aC, dB, aH, aG, bM, bB, bK, dE, bE, bZ, bD, bQ, bO, aL, dS, aS, dM, dL, aN, bX, cA, dN, eS, d1]
  refine (Yd (a := a) (hg.ext x1) (hs0.ext x1 (iQ _)) (by omega)).mono ?_
  rintro r w2 ⟨hwr, x2⟩
  have x02 := x1.seq x2
  have z1 := x1.size
  have z2 := x2.size
  obtain ⟨n, hn⟩ : ∃ n, (WJ a).length = n := ⟨_, rfl⟩
  have hbl := UJ a
  rw [hn] at hbl
  have hn53 : n ≤ 61 := by
    by_cases ha : 0 ≤ a ∧ a ≤ 2
    · have := xQ ha; omega
    · have := Ir ha; omega
  have hmay : (decide ((0 : Int) < ((n : Nat) : Int)) && decide ((0 : Int) < ((l.length : Nat) : Int)) && l.all fun x => decide (0 ≤ x) && decide (x < ((n : Nat) : Int))) = true ↔ Hc a l := by
    unfold Hc
    simp only [Bool.and_eq_true, decide_eq_true_eq, List.all_eq_true]
    constructor
    · rintro ⟨⟨h1, h2⟩, h3⟩
      have ha : 0 ≤ a ∧ a ≤ 2 := by
        by_cases ha : 0 ≤ a ∧ a ≤ 2
        · exact ha
        · have := Ir ha; omega
      exact ⟨ha, List.length_pos_iff.1 (by omega), fun x hx => by have := h3 x hx; omega⟩
    · rintro ⟨ha, h2, h3⟩
      have := xQ ha
      have := List.length_pos_iff.2 h2
      exact ⟨⟨by omega, by omega⟩, fun x hx => by have := h3 x hx; omega⟩
  have hhead : l.head? = some (l.headD 0) ∨ l = [] := by cases l with
    | nil => exact .inr rfl
    | cons x l => exact .inl rfl
  rcases hwr with ⟨hno, rfl⟩ | ⟨hok, mode, lg, L, bytes, t, v, rfl, ht, ho, hW⟩
  ·
    simp (disch := omega) only [cO, gY, aF, dO, fB, fL, fX, fW, fY, gF, iP, gK, eD, fT, gC, fR, fQ, eY, gH, fJ, fZ, gI, gO, gD, eP, gP, gG, gB, lE, lC, lL, lJ, lK, lV, lU, lW, lT, cX, Result.ok.injEq, Next.value.injEq, true_and, and_true, eL, fU, gL, gN, gM, iK, Int.toNat_natCast, fK, fD, fM, eZ, dZ, dV, eU, eC, dA, cQ, if_true, if_false, Bool.false_eq_true, Nat.zero_add, Option.isNone_some, Option.isNone_none, Bool.not_true, Bool.not_false, List.getElem?_cons_succ, List.getElem?_cons_zero, cS, aZ, bU, bV, bT, bC, eA, dG, dH, dC, aW, eI, bR, aJ, dF, dI, dJ, dD, bL, bN, cB, bA, cF, cG, bF, cJ, cL, cZ, cK, cD, cH, cC, dR, bW, cU, dT, bS, cV, aY, cI, dQ, bH, aO, aI, aP, aK, aM, aT, aE, cM, bG, cY, bP, bY, cP, aQ, aV, aU, aX, aR, aD, aB, aC, dB, aH, aG, bM, bB, bK, dE, bE, bZ, bD, bQ, bO, aL, dS, aS, dM, dL, aN, bX, cA, dN, eS]
    refine kR fun w3 o3 x3 s3 => ?_
    refine jM o3 rfl (by simp [one]) (by simp) fun w4 o4 x4 s4 => ?_
    simp only [fV, List.set_cons_zero, List.set_cons_succ] at o4
    have x24 : gS w2 w4 jR := x3.new x4 (Nat.le_refl _)
    refine (SA a _).mono ?_
    rintro r w5 ⟨hbs, x5⟩
    obtain ⟨ba, bc, rfl, _⟩ := hbs.lenI
    rw [hn]
    have x05 := (x02.seq x24).seq x5
    have o5 := o4.ext x5 (fun h => h)
    have hmf : (decide ((0 : Int) < ((n : Nat) : Int)) && decide ((0 : Int) < ((l.length : Nat) : Int)) && l.all fun x => decide (0 ≤ x) && decide (x < ((n : Nat) : Int))) = false := by
      cases hb : (decide ((0 : Int) < ((n : Nat) : Int)) && decide ((0 : Int) < ((l.length : Nat) : Int)) && l.all fun x => decide (0 ≤ x) && decide (x < ((n : Nat) : Int))) with
      | false => rfl
      | true => exact absurd (hmay.1 hb) hno
    have tail : mA RR (.int .i64 a) (.slice la l.length lc) (.pointer (some ⟨w2.heap.size, 0, none⟩)) (.int .i64 0) (.slice none 0 0) (.int .i64 1) (.int .i64 n) (.bool (decide ((0 : Int) < ((n : Nat) : Int)) && decide ((0 : Int) < ((l.length : Nat) : Int)))) (.bool true) w5 := by
      unfold mA
      refine VN (hs0.ext x05 (iQ _)) hhead (by omega) (by omega) fun w6 x6 => ?_
      rw [hmf]
      unfold mT nX
      have c1 := (o5.ext x6 (fun h => h)).cell (off := 1)
      simp only [List.getElem?_cons_zero, List.getElem?_cons_succ] at c1
      have n1 : ((1 : Int) == 1) = true := rfl
      have n2 : (((0 : Nat) : Int) == 0) = true := rfl
      simp (disch := omega) only [cO, gY, aF, dO, fB, fL, fX, fW, fY, gF, iP, gK, eD, fT, gC, fR, fQ, eY, gH, fJ, fZ, gI, gO, gD, eP, gP, gG, gB, lE, lC, lL, lJ, lK, lV, lU, lW, lT, cX, Result.ok.injEq, Next.value.injEq, true_and, and_true, eL, fU, gL, gN, gM, iK, Int.toNat_natCast, fK, fD, fM, eZ, dZ, dV, eU, eC, dA, cQ, if_true, if_false, Bool.false_eq_true, Nat.zero_add, Option.isNone_some, Option.isNone_none, Bool.not_true, Bool.not_false, List.getElem?_cons_succ, List.getElem?_cons_zero, cS, aZ, bU, bV, bT, bC, eA, dG, dH, dC, aW, eI, bR, aJ, dF, dI, dJ, dD, bL, bN, cB, bA, cF, cG, bF, cJ, cL, cZ, cK, cD, cH, cC, dR, bW, cU, dT, bS, cV, aY, cI, dQ, bH, aO, aI, aP, aK, aM, aT, aE, cM, bG, cY, bP, bY, cP, aQ, aV, aU, aX, aR, aD, aB, aC, dB, aH, aG, bM, bB, bK, dE, bE, bZ, bD, bQ, bO, aL, dS, aS, dM, dL, aN, bX, cA, dN, eS, c1, n1, n2]
      exact hR _ (x05.seq x6)
    by_cases q1 : (0 : Int) < ((n : Nat) : Int)
    · have e1 : decide ((0 : Int) < ((n : Nat) : Int)) = true := decide_eq_true q1
      rw [e1] at tail
      simp (disch := omega) only [cO, gY, aF, dO, fB, fL, fX, fW, fY, gF, iP, gK, eD, fT, gC, fR, fQ, eY, gH, fJ, fZ, gI, gO, gD, eP, gP, gG, gB, lE, lC, lL, lJ, lK, lV, lU, lW, lT, cX, Result.ok.injEq, Next.value.injEq, true_and, and_true, eL, fU, gL, gN, gM, iK, Int.toNat_natCast, fK, fD, fM, eZ, dZ, dV, eU, eC, dA, cQ, if_true, if_false, Bool.false_eq_true, Nat.zero_add, Option.isNone_some, Option.isNone_none, Bool.not_true, Bool.not_false, List.getElem?_cons_succ, List.getElem?_cons_zero, cS, aZ, bU, bV, bT, bC, eA, dG, dH, dC, aW, eI, bR, aJ, dF, dI, dJ, dD, bL, bN, cB, bA, cF, cG, bF, cJ, cL, cZ, cK, cD, cH, cC, dR, bW, cU, dT, bS, cV, aY, cI, dQ, bH, aO, aI, aP, aK, aM, aT, aE, cM, bG, cY, bP, bY, cP, aQ, aV, aU, aX, aR, aD, aB, aC, dB, aH, aG, bM, bB, bK, dE, bE, bZ, bD, bQ, bO, aL, dS, aS, dM, dL, aN, bX, cA, dN, eS, e1]
      exact tail
    · have e1 : decide ((0 : Int) < ((n : Nat) : Int)) = false := decide_eq_false q1
      rw [e1] at tail
      simp (disch := omega) only [cO, gY, aF, dO, fB, fL, fX, fW, fY, gF, iP, gK, eD, fT, gC, fR, fQ, eY, gH, fJ, fZ, gI, gO, gD, eP, gP, gG, gB, lE, lC, lL, lJ, lK, lV, lU, lW, lT, cX, Result.ok.injEq, Next.value.injEq, true_and, and_true, eL, fU, gL, gN, gM, iK, Int.toNat_natCast, fK, fD, fM, eZ, dZ, dV, eU, eC, dA, cQ, if_true, if_false, Bool.false_eq_true, Nat.zero_add, Option.isNone_some, Option.isNone_none, Bool.not_true, Bool.not_false, List.getElem?_cons_succ, List.getElem?_cons_zero, cS, aZ, bU, bV, bT, bC, eA, dG, dH, dC, aW, eI, bR, aJ, dF, dI, dJ, dD, bL, bN, cB, bA, cF, cG, bF, cJ, cL, cZ, cK, cD, cH, cC, dR, bW, cU, dT, bS, cV, aY, cI, dQ, bH, aO, aI, aP, aK, aM, aT, aE, cM, bG, cY, bP, bY, cP, aQ, aV, aU, aX, aR, aD, aB, aC, dB, aH, aG, bM, bB, bK, dE, bE, bZ, bD, bQ, bO, aL, dS, aS, dM, dL, aN, bX, cA, dN, eS, e1]
      exact tail
  ·
    obtain ⟨hsy, hLne⟩ := hW.sy
    have hLl := hW.len
    obtain ⟨tb, htb⟩ := ht.tbl hLne
    obtain ⟨rfl, hb1, ob⟩ := htb
    simp only at ob
    have lb := ob.lt
    obtain ⟨va, vc, rfl⟩ := ho.len
    have hlp : 0 < l.length := List.length_pos_iff.2 hok.2.1
    simp (disch := omega) only [cO, gY, aF, dO, fB, fL, fX, fW, fY, gF, iP, gK, eD, fT, gC, fR, fQ, eY, gH, fJ, fZ, gI, gO, gD, eP, gP, gG, gB, lE, lC, lL, lJ, lK, lV, lU, lW, lT, cX, Result.ok.injEq, Next.value.injEq, true_and, and_true, eL, fU, gL, gN, gM, iK, Int.toNat_natCast, fK, fD, fM, eZ, dZ, dV, eU, eC, dA, cQ, if_true, if_false, Bool.false_eq_true, Nat.zero_add, Option.isNone_some, Option.isNone_none, Bool.not_true, Bool.not_false, List.getElem?_cons_succ, List.getElem?_cons_zero, cS, aZ, bU, bV, bT, bC, eA, dG, dH, dC, aW, eI, bR, aJ, dF, dI, dJ, dD, bL, bN, cB, bA, cF, cG, bF, cJ, cL, cZ, cK, cD, cH, cC, dR, bW, cU, dT, bS, cV, aY, cI, dQ, bH, aO, aI, aP, aK, aM, aT, aE, cM, bG, cY, bP, bY, cP, aQ, aV, aU, aX, aR, aD, aB, aC, dB, aH, aG, bM, bB, bK, dE, bE, bZ, bD, bQ, bO, aL, dS, aS, dM, dL, aN, bX, cA, dN, eS]
    refine kR fun w3 o3 x3 s3 => ?_
    refine jM o3 rfl (by simp [one]) (by simp) fun w4 o4 x4 s4 => ?_
    simp only [fV, List.set_cons_zero, List.set_cons_succ] at o4
    have x24 : gS w2 w4 jR := x3.new x4 (Nat.le_refl _)
    refine (SA a _).mono ?_
    rintro r w5 ⟨hbs, x5⟩
    obtain ⟨ba, bc, rfl, _⟩ := hbs.lenI
    rw [hn]
    have x25 := x24.seq x5
    have x05 := x02.seq x25
    have o5 := o4.ext x5 (fun h => h)
    have ob5 := ob.ext x25 (fun h => h)
    have hmt := hmay.2 hok
    have hq : decide ((0 : Int) < ((n : Nat) : Int)) = true ∧ decide ((0 : Int) < ((l.length : Nat) : Int)) = true := by
      simp only [Bool.and_eq_true] at hmt; exact hmt.1
    obtain ⟨e1, e2⟩ := hq
    rw [e1, e2] at hmt
    simp (disch := omega) only [cO, gY, aF, dO, fB, fL, fX, fW, fY, gF, iP, gK, eD, fT, gC, fR, fQ, eY, gH, fJ, fZ, gI, gO, gD, eP, gP, gG, gB, lE, lC, lL, lJ, lK, lV, lU, lW, lT, cX, Result.ok.injEq, Next.value.injEq, true_and, and_true, eL, fU, gL, gN, gM, iK, Int.toNat_natCast, fK, fD, fM, eZ, dZ, dV, eU, eC, dA, cQ, if_true, if_false, Bool.false_eq_true, Nat.zero_add, Option.isNone_some, Option.isNone_none, Bool.not_true, Bool.not_false, List.getElem?_cons_succ, List.getElem?_cons_zero, cS, aZ, bU, bV, bT, bC, eA, dG, dH, dC, aW, eI, bR, aJ, dF, dI, dJ, dD, bL, bN, cB, bA, cF, cG, bF, cJ, cL, cZ, cK, cD, cH, cC, dR, bW, cU, dT, bS, cV, aY, cI, dQ, bH, aO, aI, aP, aK, aM, aT, aE, cM, bG, cY, bP, bY, cP, aQ, aV, aU, aX, aR, aD, aB, aC, dB, aH, aG, bM, bB, bK, dE, bE, bZ, bD, bQ, bO, aL, dS, aS, dM, dL, aN, bX, cA, dN, eS, e1, e2]
    unfold mA
    refine VN (m0 := true) (hs0.ext x05 (iQ _)) hhead (by omega) (by omega) fun w6 x6 => ?_
    have hmt' : (true && l.all fun x => decide (0 ≤ x) && decide (x < ((n : Nat) : Int))) = true := hmt
    rw [hmt']
    have x26 := x25.seq x6
    have x06 := x02.seq x26
    have hb6 : Bs w6 (.slice va bytes.length vc) bytes := (ho.sl).ext x26 (iQ _)
    have hcv := KV hb6
    unfold mT nX
    simp (disch := omega) only [cO, gY, aF, dO, fB, fL, fX, fW, fY, gF, iP, gK, eD, fT, gC, fR, fQ, eY, gH, fJ, fZ, gI, gO, gD, eP, gP, gG, gB, lE, lC, lL, lJ, lK, lV, lU, lW, lT, cX, Result.ok.injEq, Next.value.injEq, true_and, and_true, eL, fU, gL, gN, gM, iK, Int.toNat_natCast, fK, fD, fM, eZ, dZ, dV, eU, eC, dA, cQ, if_true, if_false, Bool.false_eq_true, Nat.zero_add, Option.isNone_some, Option.isNone_none, Bool.not_true, Bool.not_false, List.getElem?_cons_succ, List.getElem?_cons_zero, cS, aZ, bU, bV, bT, bC, eA, dG, dH, dC, aW, eI, bR, aJ, dF, dI, dJ, dD, bL, bN, cB, bA, cF, cG, bF, cJ, cL, cZ, cK, cD, cH, cC, dR, bW, cU, dT, bS, cV, aY, cI, dQ, bH, aO, aI, aP, aK, aM, aT, aE, cM, bG, cY, bP, bY, cP, aQ, aV, aU, aX, aR, aD, aB, aC, dB, aH, aG, bM, bB, bK, dE, bE, bZ, bD, bQ, bO, aL, dS, aS, dM, dL, aN, bX, cA, dN, eS, hcv]
    refine (Vl (T := (0, [])) (base := w6.heap.size) (fun _ => by show bytes.length ≤ _; have := hW.blen; omega) (Vb.nil _ _) (Nat.le_refl _) (by simp)).mono ?_
    rintro r w7 ⟨hr, x7⟩
    rw [Zn] at hr
    have hrd := hW.read (0, []) []
    rw [List.append_nil] at hrd
    rw [hrd] at hr
    obtain ⟨rt, rfl, hrt⟩ := hr
    obtain ⟨ra, rc, rfl, hra⟩ := hrt.rta
    simp only at hra
    simp (disch := omega) only [cO, gY, aF, dO, fB, fL, fX, fW, fY, gF, iP, gK, eD, fT, gC, fR, fQ, eY, gH, fJ, fZ, gI, gO, gD, eP, gP, gG, gB, lE, lC, lL, lJ, lK, lV, lU, lW, lT, cX, Result.ok.injEq, Next.value.injEq, true_and, and_true, eL, fU, gL, gN, gM, iK, Int.toNat_natCast, fK, fD, fM, eZ, dZ, dV, eU, eC, dA, cQ, if_true, if_false, Bool.false_eq_true, Nat.zero_add, Option.isNone_some, Option.isNone_none, Bool.not_true, Bool.not_false, List.getElem?_cons_succ, List.getElem?_cons_zero, cS, aZ, bU, bV, bT, bC, eA, dG, dH, dC, aW, eI, bR, aJ, dF, dI, dJ, dD, bL, bN, cB, bA, cF, cG, bF, cJ, cL, cZ, cK, cD, cH, cC, dR, bW, cU, dT, bS, cV, aY, cI, dQ, bH, aO, aI, aP, aK, aM, aT, aE, cM, bG, cY, bP, bY, cP, aQ, aV, aU, aX, aR, aD, aB, aC, dB, aH, aG, bM, bB, bK, dE, bE, bZ, bD, bQ, bO, aL, dS, aS, dM, dL, aN, bX, cA, dN, eS]
    refine kK fun w8 o8 x8 s8 => ?_
    refine kE o8 rfl (by simp [one]) (by simp) fun w9 o9 x9 s9 => ?_
    simp only [fV, List.set_cons_zero, List.set_cons_succ] at o9
    have x79 : gS w7 w9 jR := x8.new x9 (Nat.le_refl _)
    have x69 := x7.seq x79
    have x09 := x06.seq x69
    have o59 := (o5.ext x6 (fun h => h)).ext x69 (fun h => h)
    have ob9 := (ob5.ext x6 (fun h => h)).ext x69 (fun h => h)
    have hra9 := hra.ext x79
    have n1 : ((0 : Int) != 0) = false := rfl
    have n2 : (((bytes.length : Nat) : Int) != ((bytes.length : Nat) : Int)) = false := by simp
    have n3 : (mode == 3) = false := beq_eq_false_iff_ne.2 (by have := hW.mode2; omega)
    have l1 := nZ (off := 0) o59 (by simp)
    have l1d := nZ (off := 0) (lA o59) (by simp)
    have l2 := kM (off := 0) o9 (by simp)
    have l2d := kM (off := 0) (lA o9) (by simp)
    simp only [List.drop_zero, List.take_succ_cons, List.take_zero] at l1 l1d l2 l2d
    unfold nT qT
    simp (disch := omega) only [cO, gY, aF, dO, fB, fL, fX, fW, fY, gF, iP, gK, eD, fT, gC, fR, fQ, eY, gH, fJ, fZ, gI, gO, gD, eP, gP, gG, gB, lE, lC, lL, lJ, lK, lV, lU, lW, lT, cX, Result.ok.injEq, Next.value.injEq, true_and, and_true, eL, fU, gL, gN, gM, iK, Int.toNat_natCast, fK, fD, fM, eZ, dZ, dV, eU, eC, dA, cQ, if_true, if_false, Bool.false_eq_true, Nat.zero_add, Option.isNone_some, Option.isNone_none, Bool.not_true, Bool.not_false, List.getElem?_cons_succ, List.getElem?_cons_zero, cS, aZ, bU, bV, bT, bC, eA, dG, dH, dC, aW, eI, bR, aJ, dF, dI, dJ, dD, bL, bN, cB, bA, cF, cG, bF, cJ, cL, cZ, cK, cD, cH, cC, dR, bW, cU, dT, bS, cV, aY, cI, dQ, bH, aO, aI, aP, aK, aM, aT, aE, cM, bG, cY, bP, bY, cP, aQ, aV, aU, aX, aR, aD, aB, aC, dB, aH, aG, bM, bB, bK, dE, bE, bZ, bD, bQ, bO, aL, dS, aS, dM, dL, aN, bX, cA, dN, eS, n1, n2, n3, l1, l1d, l2, l2d]
    have htv : GW (dr w9) w1.heap.size (lg, L) (.agg #[.int .i64 lg, .slice (some ⟨tb, 0, none⟩) L.length L.length]) := .inr ⟨tb, rfl, hb1, lA ob9⟩
    refine (WW htv hsy (by show L.length ≤ _; omega)).mono ?_
    rintro r wa ⟨ta, tc, rfl, hta, xa⟩
    have xa : gS w9 wa jR := (gS.dr _ _).seq xa
    have o9a := o9.ext xa (fun h => h)
    have l3 := kM (off := 0) o9a (by simp)
    have l3d := kM (off := 0) (lA o9a) (by simp)
    simp only [List.drop_zero, List.take_succ_cons, List.take_zero] at l3 l3d
    simp (disch := omega) only [cO, gY, aF, dO, fB, fL, fX, fW, fY, gF, iP, gK, eD, fT, gC, fR, fQ, eY, gH, fJ, fZ, gI, gO, gD, eP, gP, gG, gB, lE, lC, lL, lJ, lK, lV, lU, lW, lT, cX, Result.ok.injEq, Next.value.injEq, true_and, and_true, eL, fU, gL, gN, gM, iK, Int.toNat_natCast, fK, fD, fM, eZ, dZ, dV, eU, eC, dA, cQ, if_true, if_false, Bool.false_eq_true, Nat.zero_add, Option.isNone_some, Option.isNone_none, Bool.not_true, Bool.not_false, List.getElem?_cons_succ, List.getElem?_cons_zero, cS, aZ, bU, bV, bT, bC, eA, dG, dH, dC, aW, eI, bR, aJ, dF, dI, dJ, dD, bL, bN, cB, bA, cF, cG, bF, cJ, cL, cZ, cK, cD, cH, cC, dR, bW, cU, dT, bS, cV, aY, cI, dQ, bH, aO, aI, aP, aK, aM, aT, aE, cM, bG, cY, bP, bY, cP, aQ, aV, aU, aX, aR, aD, aB, aC, dB, aH, aG, bM, bB, bK, dE, bE, bZ, bD, bQ, bO, aL, dS, aS, dM, dL, aN, bX, cA, dN, eS, n1, n2, n3, l3, l3d, l2, l2d]
    have hta : Yu wa L ta := hta
    refine (XZ (L := L) hta (hra9.ext xa) (by omega)).mono ?_
    rintro r wb ⟨rfl, xb⟩
    have xb : gS w9 wb jR := xa.seq xb
    have x0b := x09.seq xb
    have tail : mR RR (.slice la l.length lc) (.pointer (some ⟨w2.heap.size, 0, none⟩)) wb := by
      have o5b := o59.ext xb (fun h => h)
      have obb := ob9.ext xb (fun h => h)
      have hsb := hs0.ext x0b (iQ _)
      obtain ⟨lb, off, rfl, hcell⟩ := YH hs0 hlp
      unfold mR qQ qO nP qR
      refine iY.rule (fun m (t : Value) w' => ∃ i : Nat, m = l.length - i ∧ t = .int .i64 i ∧ i ≤ l.length ∧ gS wb w' jR) l.length ⟨0, rfl, rfl, by omega, gS.refl _ _⟩ ?_
      rintro m t wc ⟨i, rfl, rfl, hi, xc⟩
      unfold nS qC
      by_cases hlt : i < l.length
      · have d3 : decide ((i : Int) < (l.length : Int)) = true := by simp; omega
        simp (disch := omega) only [cO, gY, aF, dO, fB, fL, fX, fW, fY, gF, iP, gK, eD, fT, gC, fR, fQ, eY, gH, fJ, fZ, gI, gO, gD, eP, gP, gG, gB, lE, lC, lL, lJ, lK, lV, lU, lW, lT, cX, Result.ok.injEq, Next.value.injEq, true_and, and_true, eL, fU, gL, gN, gM, iK, Int.toNat_natCast, fK, fD, fM, eZ, dZ, dV, eU, eC, dA, cQ, if_true, if_false, Bool.false_eq_true, Nat.zero_add, Option.isNone_some, Option.isNone_none, Bool.not_true, Bool.not_false, List.getElem?_cons_succ, List.getElem?_cons_zero, cS, aZ, bU, bV, bT, bC, eA, dG, dH, dC, aW, eI, bR, aJ, dF, dI, dJ, dD, bL, bN, cB, bA, cF, cG, bF, cJ, cL, cZ, cK, cD, cH, cC, dR, bW, cU, dT, bS, cV, aY, cI, dQ, bH, aO, aI, aP, aK, aM, aT, aE, cM, bG, cY, bP, bY, cP, aQ, aV, aU, aX, aR, aD, aB, aC, dB, aH, aG, bM, bB, bK, dE, bE, bZ, bD, bQ, bO, aL, dS, aS, dM, dL, aN, bX, cA, dN, eS, d3]
        unfold nW qG qJ qD oR
        have hc : ∀ w', gS w w' jR → w'.cell? ⟨lb, off + i, none⟩ = some (.int .i64 l[i]) := fun w' x => by
          obtain ⟨b', o', e, h'⟩ := YH (hs0.ext x (iQ _)) hlp
          cases e
          rw [h' i hlt, List.getElem?_map, List.getElem?_eq_getElem hlt] <;> rfl
        refine XK (by omega) hsy (o5b.ext xc (fun h => h)) (obb.ext xc (fun h => h)) (x0b.seq xc) hlt hc fun wd xd xcd => ?_
        have hh : (L.any fun e => e.1 == l[i]) = true := by
          obtain ⟨e, he, h⟩ := hW.has _ (List.getElem_mem hlt)
          rw [List.any_eq_true]
          exact ⟨e, he, by rw [h]; simp⟩
        rw [hh]
        unfold pA oQ
        simp (disch := omega) only [cO, gY, aF, dO, fB, fL, fX, fW, fY, gF, iP, gK, eD, fT, gC, fR, fQ, eY, gH, fJ, fZ, gI, gO, gD, eP, gP, gG, gB, lE, lC, lL, lJ, lK, lV, lU, lW, lT, cX, Result.ok.injEq, Next.value.injEq, true_and, and_true, eL, fU, gL, gN, gM, iK, Int.toNat_natCast, fK, fD, fM, eZ, dZ, dV, eU, eC, dA, cQ, if_true, if_false, Bool.false_eq_true, Nat.zero_add, Option.isNone_some, Option.isNone_none, Bool.not_true, Bool.not_false, List.getElem?_cons_succ, List.getElem?_cons_zero, cS, aZ, bU, bV, bT, bC, eA, dG, dH, dC, aW, eI, bR, aJ, dF, dI, dJ, dD, bL, bN, cB, bA, cF, cG, bF, cJ, cL, cZ, cK, cD, cH, cC, dR, bW, cU, dT, bS, cV, aY, cI, dQ, bH, aO, aI, aP, aK, aM, aT, aE, cM, bG, cY, bP, bY, cP, aQ, aV, aU, aX, aR, aD, aB, aC, dB, aH, aG, bM, bB, bK, dE, bE, bZ, bD, bQ, bO, aL, dS, aS, dM, dL, aN, bX, cA, dN, eS]
        exact ⟨l.length - (i + 1), by omega, i + 1, rfl, rfl, by omega, xc.seq xcd⟩
      · have d3 : decide ((i : Int) < (l.length : Int)) = false := by simp; omega
        unfold oU
        simp (disch := omega) only [cO, gY, aF, dO, fB, fL, fX, fW, fY, gF, iP, gK, eD, fT, gC, fR, fQ, eY, gH, fJ, fZ, gI, gO, gD, eP, gP, gG, gB, lE, lC, lL, lJ, lK, lV, lU, lW, lT, cX, Result.ok.injEq, Next.value.injEq, true_and, and_true, eL, fU, gL, gN, gM, iK, Int.toNat_natCast, fK, fD, fM, eZ, dZ, dV, eU, eC, dA, cQ, if_true, if_false, Bool.false_eq_true, Nat.zero_add, Option.isNone_some, Option.isNone_none, Bool.not_true, Bool.not_false, List.getElem?_cons_succ, List.getElem?_cons_zero, cS, aZ, bU, bV, bT, bC, eA, dG, dH, dC, aW, eI, bR, aJ, dF, dI, dJ, dD, bL, bN, cB, bA, cF, cG, bF, cJ, cL, cZ, cK, cD, cH, cC, dR, bW, cU, dT, bS, cV, aY, cI, dQ, bH, aO, aI, aP, aK, aM, aT, aE, cM, bG, cY, bP, bY, cP, aQ, aV, aU, aX, aR, aD, aB, aC, dB, aH, aG, bM, bB, bK, dE, bE, bZ, bD, bQ, bO, aL, dS, aS, dM, dL, aN, bX, cA, dN, eS, d3]
        exact hR _ (x0b.seq xc)
    cases hone : l.all fun x => x == l.headD 0 with
    | false =>
      simp (disch := omega) only [cO, gY, aF, dO, fB, fL, fX, fW, fY, gF, iP, gK, eD, fT, gC, fR, fQ, eY, gH, fJ, fZ, gI, gO, gD, eP, gP, gG, gB, lE, lC, lL, lJ, lK, lV, lU, lW, lT, cX, Result.ok.injEq, Next.value.injEq, true_and, and_true, eL, fU, gL, gN, gM, iK, Int.toNat_natCast, fK, fD, fM, eZ, dZ, dV, eU, eC, dA, cQ, if_true, if_false, Bool.false_eq_true, Nat.zero_add, Option.isNone_some, Option.isNone_none, Bool.not_true, Bool.not_false, List.getElem?_cons_succ, List.getElem?_cons_zero, cS, aZ, bU, bV, bT, bC, eA, dG, dH, dC, aW, eI, bR, aJ, dF, dI, dJ, dD, bL, bN, cB, bA, cF, cG, bF, cJ, cL, cZ, cK, cD, cH, cC, dR, bW, cU, dT, bS, cV, aY, cI, dQ, bH, aO, aI, aP, aK, aM, aT, aE, cM, bG, cY, bP, bY, cP, aQ, aV, aU, aX, aR, aD, aB, aC, dB, aH, aG, bM, bB, bK, dE, bE, bZ, bD, bQ, bO, aL, dS, aS, dM, dL, aN, bX, cA, dN, eS, hone]
      exact tail
    | true =>
      have h1 := hW.one (fun x hx y hy => by
        rw [List.all_eq_true] at hone
        have h1 := hone x hx
        have h2 := hone y hy
        simp only [beq_iff_eq] at h1 h2
        rw [h1, h2])
      have hbl1 := hW.len1 h1.1
      have d4 : decide ((1 : Int) < ((bytes.length : Nat) : Int)) = false := by rw [hbl1] <;> rfl
      simp (disch := omega) only [cO, gY, aF, dO, fB, fL, fX, fW, fY, gF, iP, gK, eD, fT, gC, fR, fQ, eY, gH, fJ, fZ, gI, gO, gD, eP, gP, gG, gB, lE, lC, lL, lJ, lK, lV, lU, lW, lT, cX, Result.ok.injEq, Next.value.injEq, true_and, and_true, eL, fU, gL, gN, gM, iK, Int.toNat_natCast, fK, fD, fM, eZ, dZ, dV, eU, eC, dA, cQ, if_true, if_false, Bool.false_eq_true, Nat.zero_add, Option.isNone_some, Option.isNone_none, Bool.not_true, Bool.not_false, List.getElem?_cons_succ, List.getElem?_cons_zero, cS, aZ, bU, bV, bT, bC, eA, dG, dH, dC, aW, eI, bR, aJ, dF, dI, dJ, dD, bL, bN, cB, bA, cF, cG, bF, cJ, cL, cZ, cK, cD, cH, cC, dR, bW, cU, dT, bS, cV, aY, cI, dQ, bH, aO, aI, aP, aK, aM, aT, aE, cM, bG, cY, bP, bY, cP, aQ, aV, aU, aX, aR, aD, aB, aC, dB, aH, aG, bM, bB, bK, dE, bE, bZ, bD, bQ, bO, aL, dS, aS, dM, dL, aN, bX, cA, dN, eS, hone, d4]
      exact tail
end Go.Proofs.YtoepfjgekpdddaaDoor
namespace Go.En
open Go Go.ChangeShapes Go.WideShapes Go.ChangeAt Go.RowKit
theorem SQ {H : Type} {enc : TypeId × Value → H} {P : Program} (hl : laidOutB P = true) {W W' : World} (hb : Below W.heap.size W W') : ∀ (ts : List TypeId) (vs : List Value) (ds : List (DataW H)) (ps : List MemPlace),
    (ts.all fun t => P.readableRec t && decide (t < P.types.size)) = true → DataW.TrodAll enc P W 0 (fun _ => true) true ts vs ds ps → (∀ x ∈ ps, x.block < W.heap.size) →
    DataW.TrodAll enc P W' 0 (fun b => decide (b < W.heap.size)) true ts vs ds ps := by
  intro ts
  induction ts with
  | nil =>
    intro vs ds ps _ h _
    cases vs <;> cases ds <;> simp [DataW.TrodAll] at h ⊢
    exact h
  | cons t ts ih =>
    intro vs ds ps hr h hlt
    cases vs with
    | nil => simp [DataW.TrodAll] at h
    | cons v vs =>
      cases ds with
      | nil => simp [DataW.TrodAll] at h
      | cons d ds =>
        obtain ⟨p, q, h1, h2, rfl⟩ := h
        rw [List.all_cons, Bool.and_eq_true, Bool.and_eq_true, decide_eq_true_eq] at hr
        exact ⟨p, q, Below.trod hl hr.1.1 hr.1.2 h1 hb (fun x hx => hlt x (List.mem_append_left _ hx)), ih _ _ _ hr.2 h2 (fun x hx => hlt x (List.mem_append_right _ hx)), rfl⟩
theorem Xn {H : Type} {enc : TypeId × Value → H} {P : Program} {f : Func} {s : ChangeSpec} {apart fresh handsOn : Bool} {tb : TypeId} {W W' : World} {args : Array Value} {ds gs : List (DataW H)} {before : List MemPlace}
    (hl : laidOutB P = true) (hr : (f.params.toList.all fun t => P.readableRec t && decide (t < P.types.size)) = true) (hres : f.resultTypes = #[tb]) (hbool : P.underlying tb = some .bool)
    (hW : DataW.Whole enc P f.params.toList s.vars apart W args.toList ds gs before) (hvars : s.vars = []) (h1 : (s.fn H (ds ++ gs)).results = [.lit (.bool true)]) (h2 : (s.fn H (ds ++ gs)).args = ds) (h3 : (s.fn H (ds ++ gs)).vars = [])
    (hx : gS W W' jR) : s.post enc P f apart fresh handsOn false W args (.bool true) W' := by
  have hb := hx.below
  have hlt : ∀ x ∈ before, x.block < W.heap.size := fun x hx => hW.lt x hx
  have hW' := hW
  obtain ⟨p, q, hA, hV, rfl, _, _⟩ := hW
  rw [hvars] at hV
  obtain ⟨_, rfl⟩ := trodVars_none hV
  rw [List.append_nil] at hW' hlt
  refine ⟨ds, gs, p, [], p, [], hW', ?_, ?_, ?_, hb.frame _, fun h => by cases h⟩
  · rw [h1, hres]
    exact trodAll_cons_mk (shut_bool hbool _) trodAll_mk0
  · rw [h2]; exact SQ hl hb _ _ _ _ hr hA hlt
  · rw [h3, hvars] <;> rfl
theorem Y0 {H : Type} {enc : TypeId × Value → H} {P : Program} {W : World} {base b0 : Nat} {r : Reach} {sp : Nat → Bool} {hd : Bool} {t e : TypeId} {k : IntKind} {v : Value} {d : DataW H} {ps : List MemPlace} (ht : P.underlying t = some (.slice e)) (he : P.underlying e = some (.int k)) (hc : P.cellsOf e = 1)
    (hval : Value.okWide P W r b0 t v) (h : DataW.Trod enc P W base sp hd t v d ps) :
    ∃ zs : List Int, Sl W v (zs.map (Value.int k)) ∧ zs.length ≤ 9223372036854775807 ∧ ∀ z ∈ zs, (Lit.int k z).wf = true := by
  obtain ⟨a0, len, cap, rfl⟩ := okWide_slice ht hval
  obtain ⟨fuel, hf⟩ := h
  rcases open_ints ht he hc hf with ⟨hcs, -⟩ | ⟨a, len', cap', zs, hcs, _, hl, hm, hz, -, hcell, hwz⟩
  · have : Value.slice a0 len cap = .slice none 0 0 := by simpa [Value.cells] using hcs
    cases this
    exact ⟨[], ⟨none, 0, 0, rfl, rfl, Nat.le_refl _, fun h => absurd h (by simp)⟩, by simp, by simp⟩
  · have : Value.slice a0 len cap = .slice (some a) len' cap' := by simpa [Value.cells] using hcs
    cases this
    unfold maxLen at hm
    have hle : len ≤ zs.length := by rw [hz]; split <;> omega
    refine ⟨zs.take len, ⟨some a, len, cap, rfl, by rw [List.length_map, List.length_take]; omega, hl, fun h0 => ?_⟩, by rw [List.length_take]; omega, fun z hz => hwz z (List.mem_of_mem_take hz)⟩
    obtain ⟨b, off, spot⟩ := a
    have hs : spot = none := by
      have h0 := hcell 0 (by omega)
      unfold World.cell? at h0
      split at h0
      · cases spot
        · rfl
        · simp [Addr.add] at h0
      · cases h0
    subst hs
    refine ⟨b, off, rfl, fun i hi => ?_⟩
    rw [← B7, hcell i (by omega), List.getElem?_map, List.getElem?_take_of_lt hi, List.getD_eq_getElem?_getD, List.getElem?_eq_getElem (by omega)]
    rfl
end Go.En
